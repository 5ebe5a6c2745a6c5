/-
  Part 1 of the proof: AbsGlob, AbsCore, AbsOps, AbsHeap, AbsStore, AbsApp, AbsOp, AbsOp2, AbsOp3, AbsMap, AbsVec, AbsVec2, AbsOp4.
-/
import Derived.WalkKit
import Derived.Laws.Strings
import Derived.Lib.Hide
import Derived.OrdersIn
import Derived.RangeFuncIn
import Derived.RangeFuncCalls
import Derived.RangeFuncLeaves
import Derived.RangeFuncFrom
import Derived.Deep.MidRow
import Derived.Laws.AppendOwn
import Derived.Maps.OwnOps
import Derived.KernelRfl
import Derived.Deep.AppendSrc
import Derived.Deep.Upon
import Derived.Laws.BytesString
import Derived.Laws.StructEq
import Derived.Laws.MakeOwn
import Derived.Laws.Cover3
set_option linter.defProp false
namespace Go.Proofs.YtnnapanbbbcalaaGreatDoor
open Go.RowKit
set_option linter.defProp false
abbrev UQ:=@cond_false
abbrev V1:=@cond_true
abbrev Vb:=@beq_eq_false_iff_ne
abbrev Vd:=@of_decide_eq_true
abbrev Ve:=@beq_iff_eq
abbrev Vr:=@bne_iff_ne
abbrev VC:=@Bool.not_eq_true
abbrev VJ:=@Bool.not_eq_true'
abbrev VT:=@decide_eq_false_iff_not
abbrev VX:=@decide_eq_true_eq
abbrev W1:=@List.mem_map
abbrev W2:=@Option.some.injEq
abbrev W7:=@List.eq_nil_of_length_eq_zero
abbrev Wh:=@Bool.not_true
abbrev Wo:=@List.nil_append
abbrev WJ:=@Nat.zero_le
abbrev WK:=@beq_false_of_ne
abbrev WS:=@Nat.ble_eq_true_of_le
abbrev Xw:=@Nat.mul_le_mul_right
abbrev Ym:=@Int.mul_le_mul_of_nonneg_left
abbrev YF:=@Nat.add_mul
abbrev YJ:=@Bool.true_and
abbrev YR:=@List.length_set
abbrev YV:=@Option.map_some
abbrev Z2:=@List.mem_of_mem_drop
abbrev Zw:=@List.mem_append_right
abbrev ZD:=@List.map_append
abbrev ZL:=@if_pos
abbrev ZN:=@if_neg
abbrev ZZ:=@List.mem_singleton
abbrev a6:=@List.map_nil
abbrev a7:=@Int.tdiv_eq_ediv_of_nonneg
abbrev a8:=@List.mem_iff_getElem
abbrev aa:=@List.mem_append_left
abbrev ab:=@Int.mul_assoc
abbrev ae:=@List.length_take
abbrev af:=@Bool.or_eq_true
abbrev ah:=@Int.mul_le_mul
abbrev ai:=@Bool.false_or
abbrev aj:=@Option.isSome_iff_exists
abbrev ak:=@List.length_drop
abbrev an:=@Nat.le_succ
abbrev ao:=@Int.one_mul
abbrev aq:=@IntKind.wrap_u64
abbrev b6:=@IntKind.wrap_i64
abbrev re:=@Option.bind_some
abbrev Zk:=@List.getElem?_eq_some_iff
abbrev Zj:=@List.length_append
abbrev Zo:=@Bool.and_eq_true
abbrev Zi:=@List.length_cons
abbrev Zd:=@List.getElem?_eq_getElem
abbrev Zq:=@List.length_map
abbrev Zl:=@List.mem_cons_self
abbrev Zm:=@List.getElem?_map
abbrev Zh:=@Nat.le_of_ble_eq_true
abbrev Zg:=@List.mem_cons_of_mem
abbrev ZW:=@List.getElem?_append_left
abbrev Zr:=@Nat.le_refl
abbrev Zc:=@List.length_nil
abbrev ZX:=@List.mem_of_getElem?
abbrev Yi:=@Nat.eq_of_beq_eq_true
abbrev ZT:=@Array.getElem?_eq_some_iff
abbrev ZC:=@List.getElem?_append_right
abbrev ZP:=@List.append_assoc
abbrev Za:=@Nat.le_trans
abbrev Zs:=@Option.some.inj
abbrev ZJ:=@Nat.zero_add
abbrev ZV:=@List.append_nil
abbrev ZH:=@Array.getElem?_eq_getElem
abbrev ZF:=@Array.getElem?_toList
abbrev ZU:=@Nat.lt_of_lt_of_le
abbrev ZS:=@List.map_cons
abbrev Zb:=@List.all_eq_true
abbrev ZB:=@Int.toNat_natCast
abbrev Z5:=@Nat.not_lt_zero
abbrev Z1:=@List.getElem?_set_self
abbrev ZY:=@List.mem_cons
abbrev Yy:=@List.map_congr_left
abbrev Yz:=@List.getElem?_eq_none
abbrev Z0:=@Array.length_toList
abbrev Z3:=@List.getElem?_set_ne
abbrev Yq:=@List.drop_zero
abbrev Yd:=@List.length_replicate
abbrev Yt:=@List.getElem?_cons_succ
abbrev ZE:=@List.mem_append
abbrev Yc:=@List.take_append_drop
abbrev Yv:=@Nat.lt_irrefl
abbrev Yh:=@Nat.le_add_right
abbrev Yp:=@List.not_mem_nil
abbrev dO:=@decide_eq_true
abbrev Zx:=@decide_eq_false
abbrev Ys:=@beq_self_eq_true
abbrev Z4:=@List.all_cons
abbrev Ye:=@List.any_cons
abbrev Yu:=@Nat.lt_succ_self
abbrev Yf:=@Bool.or_eq_false_iff
abbrev I:Type->Type:=List
abbrev so:=ByteArray
abbrev U:Type->Type:=Option
abbrev dg:=Program
abbrev kd:=Value
abbrev Zz:=World
def bL(a:so):I UInt8:=a.data.toList
def Tn(a:so):a.toList=bL a:=ByteArray.toList_eq a
def UE{a b:so}(h:bL a=bL b):a=b:=by cases a;cases b;simp only[bL,Array.toList_inj]at h;rw[h]
def AH(l:I Nat):I kd:=l.map λn=>Value.int .u8 (Int.ofNat n)
def Ge:I Nat:=(List.range 256).map λn=>bif (Nat.ble 9 n&&Nat.ble n 13)||n==32 then 1 else 0
def Ds:I (Nat×I kd):=(0,AH Ge):: []
def DX:I (Nat×I kd)->Nat->U (I kd)
 |[],_=>none
 |(k,l)::r,g=>bif k==g then some l else DX r g
def Ya:∀{t:I (Nat×I kd)}{g:Nat}{l:I kd},DX t g=some l->(g,l)∈t
 |[],g,l,h=>by cases h
 |(k,b)::r,g,l,h=>by
  unfold DX at h;cases e:k==g with
  |true=>rw[e]at h;cases h;rw[Ve]at e;subst e;simp
  |false=>rw[e]at h;exact Zg _ (Ya h)
inductive D where
 |v (u:Value)
 |sl (xs:List (List D))
 |ag (ds:List D)
inductive ga where
 |d (x:D)
 |bK (c:List D) (off:Nat)
 |fn (f:FuncId) (cs:List ga)
 |o9 (f:FuncId) (cs:List ga)
inductive AV where
 |d (x:D)
 |agg (cs:List AV)
 |bn (cs:List AV)
 |ptr (n off:Nat)
 |bK (xs:List (List D)) (i off:Nat)
 |own (n:Nat) (xs:List (List D))
 |full (xs:List (List D))
 |row (n off len cap k:Nat)
 |fn (f:FuncId) (dC:List AV)
 |mp (n:Nat)
 |cF (n:Nat)
 |vec (n o len L k:Nat)
 |eC (n i j L k:Nat)
 |hid (c:ga)
 |dead
abbrev Ad:AV:=.ptr 0 0
abbrev AM:AV:=.ptr 1 0
abbrev AU:AV:=.ptr 3 0
abbrev B4:AV:=.ptr 4 0
abbrev D5:AV:=.ptr 2 0
abbrev Dv:AV:=.ptr 5 0
abbrev E0:AV:=.ptr 6 0
abbrev Eb:AV:=.ptr 7 0
abbrev Ej:AV:=.ptr 8 0
abbrev EH:AV:=.ptr 9 0
abbrev EZ:AV:=.ptr 10 0
abbrev F1:AV:=.ptr 11 0
abbrev F2:AV:=.ptr 12 0
abbrev Fs:AV:=.ptr 14 0
abbrev FD:AV:=.ptr 13 0
abbrev O(x:List (List D)):AV:=.d (.sl x)
abbrev X(x:Int):AV:=.d (.v (.int .u64 x))
inductive LS where
 |ready
 |busy
 |done (c:Code)
def LS.st:LS->LoopState
 | .ready=>.ready
 | .busy=>.busy
 | .done _=>.done
def LS.pd:LS->U Code
 | .done c=>some c
 |_=>none
inductive ar where
 |cells (cs:List AV)
 |front (e:TypeId) (k len:Nat)
 |vec (e:TypeId) (k:Nat) (cs:List (List AV))
 |map (kv:List (ByteArray×D))
 |jx (kv:List (ByteArray×D))
 |lp (ls:LS) (p:Nat) (as bd:Code) (cs:List AV)
 |it (sn:Nat×List Nat) (cs:List AV)
 |fG (T:TypeId) (cs:List AV)
 |jq (e:TypeId) (b:ByteArray)
 |gone
structure Gh where
 N:Nat
 Z:Nat->Prop
 S:Nat->Nat->Prop
 aZ:Nat->Nat
 sg:Nat->Value
 ow:Nat->Option Nat
 fl:Nat->Nat
 M:Nat
inductive dY(S:Nat->Nat->Prop)(w:World):Value->D->Prop
 |v (u:Value):dY S w u (.v u)
 |sl (A:Option Addr) (b o c k:Nat) (xs:List (List D)) (u:Nat->Nat->Value)
    (hA:xs≠ []->A=some ⟨b,o,none⟩) (hc:xs.length<=c) (hm:c<=maxLen)
    (hk:∀x∈xs,x.length=k)
    (hS:∀i j,i<xs.length->j<k->S b (o+i*k+j)/\w.cell? ⟨b,o+i*k+j,none⟩=some (u i j)/\(u i j).oneCell'=true)
    (hu:∀(i j:Nat)(x:List D)(d:D),xs[i]?=some x->x[j]?=some d->dY S w (u i j) d):dY S w (.slice A xs.length c) (.sl xs)
 |ag (vs:Array Value) (ds:List D) (hl:vs.size=ds.length) (h:∀(i:Nat)(u:Value)(d:D),vs[i]?=some u->ds[i]?=some d->dY S w u d):dY S w (.agg vs) (.ag ds)
inductive pn(S:Nat->Nat->Prop)(w:World):Value->ga->Prop
 |d {u:Value} {x:D} (h:dY S w u x):pn S w u (.d x)
 |bK (c:List D) (off b o:Nat) (u:Nat->Value) (hS:∀j,j<c.length->S b (o+j)/\w.cell? ⟨b,o+j,none⟩=some (u j)) (hu:∀(j:Nat)(d:D),c[j]?=some d->dY S w (u j) d):pn S w (.pointer (some ⟨b,o+off,none⟩)) (.bK c off)
 |fn (f:FuncId) (vs:Array Value) (cs:List ga) (hl:vs.size=cs.length) (h:∀(i:Nat)(u:Value)(c:ga),vs[i]?=some u->cs[i]?=some c->pn S w u c):pn S w (.func (.func f) #[] vs) (.fn f cs)
 |o9 (f:FuncId) (vs:Array Value) (cs:List ga) (hl:vs.size=cs.length) (h:∀(i:Nat)(u:Value)(c:ga),vs[i]?=some u->cs[i]?=some c->pn S w u c):pn S w (.func (.func f) vs #[]) (.o9 f cs)
structure YZ(s u:Value)(o len L k:Nat):Prop where
 ol:o+len<=L
 sl:∃A c,u= .slice A len c/\len<=c/\c<=maxLen/\L<=c+o/\(o<L->∃g cap,s= .slice (some ⟨g,0,none⟩) L cap/\A=some ⟨g,o*k,none⟩/\o+c=cap)
 all:o=0->len=L->u=s
structure YX(s u:Value)(i j L k:Nat):Prop where
 il:i<L
 pt:∃g cap,s= .slice (some ⟨g,0,none⟩) L cap/\u= .pointer (some ⟨g,i*k+j,none⟩)
inductive aO(G:Gh)(w:World):Value->AV->Prop
 |d {u:Value} {x:D} (h:dY G.S w u x):aO G w u (.d x)
 |agg (vs:Array Value) (cs:List AV) (hl:vs.size=cs.length) (h:∀(i:Nat)(u:Value)(c:AV),vs[i]?=some u->cs[i]?=some c->aO G w u c):aO G w (.agg vs) (.agg cs)
 |bn (vs:Array Value) (cs:List AV) (hl:vs.size=cs.length) (h:∀(i:Nat)(u:Value)(c:AV),vs[i]?=some u->cs[i]?=some c->aO G w u c):aO G w (.tuple vs) (.bn cs)
 |ptr (n off:Nat) (h:n<G.N):aO G w (.pointer (some ⟨G.aZ n,off,none⟩)) (.ptr n off)
 |bK (xs:List (List D)) (i off b o:Nat) (u:Nat->Value) (x:List D) (hx:xs[i]?=some x)
  (hS:∀j,j<x.length->G.S b (o+j)/\w.cell? ⟨b,o+j,none⟩=some (u j)) (hu:∀(j:Nat)(d:D),x[j]?=some d->dY G.S w (u j) d):aO G w (.pointer (some ⟨b,o+off,none⟩)) (.bK xs i off)
 |own {u:Value} (n:Nat) (xs:List (List D)) (h:n<G.N) (hp:dY G.S w u (.sl xs)) (hle:xs.length<=G.fl n) (hf:xs.length=G.fl n->u=G.sg n):aO G w u (.own n xs)
 |full {u:Value} (xs:List (List D)) (hp:dY G.S w u (.sl xs)) (hf:∃A,u= .slice A xs.length xs.length):aO G w u (.full xs)
 |row (n off len cap k:Nat) (h:n<G.N) (hl:len<=cap) (hm:cap<=maxLen):aO G w (.slice (some ⟨G.aZ n,off,none⟩) len cap) (.row n off len cap k)
 |fn (f:FuncId) (vs:Array Value) (cs:List AV) (hl:vs.size=cs.length) (h:∀(i:Nat)(u:Value)(c:AV),vs[i]?=some u->cs[i]?=some c->aO G w u c):aO G w (.func (.func f) #[] vs) (.fn f cs)
 |mp (n:Nat) (h:n<G.N):aO G w (.map (some (G.aZ n))) (.mp n)
 |cF (n:Nat) (h:n<G.N):aO G w (.func (.yield (G.aZ n)) #[] #[]) (.cF n)
 |vec {u:Value} (n o len L k:Nat) (h:n<G.N) (hs:∃A l c,u= .slice A l c) (hL:L<=G.fl n) (hf:L=G.fl n->YZ (G.sg n) u o len L k):aO G w u (.vec n o len L k)
 |eC {u:Value} (n i j L k:Nat) (h:n<G.N) (hs:∃b q,u= .pointer (some ⟨b,q,none⟩)) (hL:L<=G.fl n) (hf:L=G.fl n->YX (G.sg n) u i j L k):aO G w u (.eC n i j L k)
 |hid {u:Value} {c:ga} (h:pn G.S w u c) (h1:u.oneCell'=true):aO G w u (.hid c)
 |dead (u:Value):aO G w u .dead
def ml:I (so×D)->so->U D
 |[],_=>none
 |(k,d)::l,s=>bif bL k==bL s then some d else ml l s
structure wW(S:Nat->Nat->Prop)(w:World)(es:Array MapEntry)(clock:Nat)(kv:List (ByteArray×D)):Prop where
 size:es.size<=maxLen
 stamped:MapKept.Stamped es clock
 Dh:∀e∈es.toList,∃s d,e.key= .string s/\ml kv s=some d/\dY S w e.val d
 all:∀s d,ml kv s=some d->∃e∈es.toList,e.key= .string s
 len:es.size<=kv.length
 born:∀(i:Nat)(e:MapEntry),es[i]?=some e->e.born=i
 H8:clock=es.size
structure zt(S:Nat->Nat->Prop)(w:World)(es:Array MapEntry)(clock:Nat)(kv:List (ByteArray×D)):Prop where
 ok:wW S w es clock kv
 ord:∀(i:Nat)(e:MapEntry),es[i]?=some e->∃p,kv[i]?=some p/\e.key= .string p.1/\dY S w e.val p.2
 all:kv.length=es.size
def ar.eZ(G:Gh)(n:Nat):ar->U Nat
 | .cells _=>some (G.aZ n)
 | .front _ _ _=>G.ow n
 | .vec _ _ _=>G.ow n
 | .map _=>some (G.aZ n)
 | .jx _=>some (G.aZ n)
 | .lp _ _ _ _ _=>some (G.aZ n)
 | .it _ _=>some (G.aZ n)
 | .fG _ _=>some (G.aZ n)
 | .jq _ _=>G.ow n
 | .gone=>none
def ct(h:I ar)(G:Gh)(n:Nat):U Nat:=(h[n]?).bind (ar.eZ G n)
def eJ{h:I ar}{G:Gh}{n:Nat}{B:ar}(e:h[n]?=some B):ct h G n=B.eZ G n:=by unfold ct;rw[e];rfl
def xr{h:I ar}{G:Gh}{n:Nat}(e:h[n]?=none):ct h G n=none:=by unfold ct;rw[e];rfl
def n9{h:I ar}{G:Gh}{n b:Nat}(e:ct h G n=some b):∃B,h[n]?=some B/\B.eZ G n=some b:=by
 unfold ct at e;cases c:h[n]? with
 |none=>rw[c]at e;cases e
 |some B=>rw[c]at e;exact⟨B,rfl,e⟩
def as7(v:kd):Prop:=v= .slice none 0 0\/∃g n b,v= .slice (some ⟨g,0,none⟩) n b/\b≠0
def e8(G:Gh)(w:Zz)(n:Nat):ar->Prop
 | .cells l=>¬G.Z (G.aZ n)/\(∀o,¬G.S (G.aZ n) o)/\∃(q:Array kd)(T:TypeId),w.heap[G.aZ n]?=some (.cells q T (0,0))/\q.size=l.length/\∀(i:Nat)(u:kd)(c:AV),q[i]?=some u->l[i]?=some c->aO G w u c
 | .front e k m=>G.fl n=m/\m<=maxLen/\((G.ow n=none/\∃A,G.sg n= .slice A m m)\/ ∃(g d:Nat)(f:Array kd),G.ow n=some g/\G.sg n= .slice (some ⟨g,0,none⟩) m d/\¬G.Z g/\w.heap[g]?=some (.cells f e (0,0))/\m<=d/\d<=maxLen/\f.size=d*k/\∀o,m*k<=o->¬G.S g o)
 | .vec e k l=>G.fl n=l.length/\l.length<=maxLen/\(∀c∈l,c.length=k)/\((G.ow n=none/\l=[]/\∃A,G.sg n= .slice A 0 0)\/ ∃(g d:Nat)(f:Array kd),G.ow n=some g/\G.sg n= .slice (some ⟨g,0,none⟩) l.length d/\¬G.Z g/\w.heap[g]?=some (.cells f e (0,0))/\l.length<=d/\d<=maxLen/\f.size=d*k/\(∀o,¬G.S g o)/\ ∀(i j:Nat)(c:I AV)(x:AV)(u:kd),l[i]?=some c->c[j]?=some x->f[i*k+j]?=some u->aO G w u x)
 | .map y=>¬G.Z (G.aZ n)/\(∀o,¬G.S (G.aZ n) o)/\∃(t:Array MapEntry)(clock:Nat),w.heap[G.aZ n]?=some (.map t clock)/\wW G.S w t clock y
 | .jx y=>¬G.Z (G.aZ n)/\(∀o,¬G.S (G.aZ n) o)/\∃(t:Array MapEntry)(clock:Nat),w.heap[G.aZ n]?=some (.map t clock)/\zt G.S w t clock y
 | .lp C p as E l=>¬G.Z (G.aZ n)/\(∀o,¬G.S (G.aZ n) o)/\∃(fn:FuncId)(z:Array kd)(D:Nat),w.heap[G.aZ n]?=some (.loop {state:=C.st,pending:=C.pd,fn:=fn,tmps:=z,params:= #[p],assign:=as,body:=E,defers:=D})/\z.size=l.length/\∀(i:Nat)(u:kd)(c:AV),z[i]?=some u->l[i]?=some c->aO G w u c
 | .it B l=>¬G.Z (G.aZ n)/\(∀o,¬G.S (G.aZ n) o)/\∃(fn:Nat)(q:Array kd)(_:Unit),w.heap[G.aZ n]?=some (.mapIter (some fn) B.1 B.2.toArray B.1)/\(q.size=l.length/\q= #[.map (some fn)])/\∀(i:Nat)(u:kd)(c:AV),q[i]?=some u->l[i]?=some c->aO G w u c
 | .fG T l=>¬G.Z (G.aZ n)/\(∀o,¬G.S (G.aZ n) o)/\∃(_:Unit)(q:Array kd)(p:kd),w.heap[G.aZ n]?=some (.cells (#[p]++q) T (0,0))/\(q.size=l.length/\(p= .pointer none\/p= .pointer (some ⟨G.aZ n,0,none⟩))/\∀v∈q.toList,as7 v)/\∀(i:Nat)(u:kd)(c:AV),q[i]?=some u->l[i]?=some c->aO G w u c
 | .jq e b=>G.fl n=b.size/\b.size<=maxLen/\((G.ow n=none/\b.size=0/\∃A,G.sg n= .slice A 0 0)\/ ∃(g d:Nat)(f:Array kd),G.ow n=some g/\G.sg n= .slice (some ⟨g,0,none⟩) b.size d/\¬G.Z g/\w.heap[g]?=some (.cells f e (0,0))/\b.size<=d/\d<=maxLen/\f.size=d/\(∀o,¬G.S g o)/\∀(i:Nat)(u:UInt8),(bL b)[i]?=some u->f[i]?=some (.int .u8 u.toNat))
 | .gone=>True
def MS(G:Gh)(w:Zz):Prop:=(∀(g:Nat)(l:I kd),(g,l)∈Ds->∀(j:Nat)(v:kd),l[j]?=some v->G.S g j/\w.cell? ⟨g,j,none⟩=some v)/\G.M<=w.heap.size
structure cu(G:Gh)(w:World)(h:List ar):Prop where
 len:h.length=G.N
 z:∀b,G.Z b->b<w.heap.size
 S:∀b o,G.S b o->b<w.heap.size
 dJ:∀(n:Nat)(B:ar),h[n]?=some B->e8 G w n B
 inj:∀(m n b:Nat),ct h G m=some b->ct h G n=some b->m=n
 gl:MS G w
structure cn(N:Nat)(G:Gh)(w:World)(G':Gh)(w':World):Prop where
 size:w.heap.size<=w'.heap.size
 S:∀b o,G.S b o->G'.S b o
 cell:∀b o,G.S b o->w'.cell? ⟨b,o,none⟩=w.cell? ⟨b,o,none⟩
 aZ:∀n,n<N->G'.aZ n=G.aZ n
 fr:∀n,n<N->(G'.fl n=G.fl n/\G'.sg n=G.sg n)\/G.fl n<G'.fl n
 Z:((∀b,G.Z b->G'.Z b)/\∀b,G'.Z b->G.Z b\/w.heap.size<=b)/\G'.M=G.M
 old:∀b,G.Z b->w'.heap[b]?=w.heap[b]?
 os:w'.os=w.os
 tape:w'.tape=w.tape
 output:w'.output=w.output
 new:∀b o,G'.S b o->G.S b o\/¬G.Z b
def iO{Z c:Nat->Prop}{m M d:Nat}(h:c=Z)(e:d=M:=by rfl):((∀b,Z b->c b)/\∀b,c b->Z b\/m<=b)/\d=M:=⟨⟨λ_ k=>h▸k,λ_ k=>.inl (h▸k)⟩,e⟩
def cn.refl(N:Nat)(G:Gh)(w:Zz):cn N G w G w:=
 ⟨Zr _,λ_ _ h=>h,λ_ _ _=>rfl,λ_ _=>rfl,λ_ _=>.inl ⟨rfl,rfl⟩,iO rfl,λ_ _=>rfl,rfl,rfl,rfl,λ_ _ h=>.inl h⟩
def cn.trans{N:Nat}{G G1 i:Gh}{w j w2:Zz}(h:cn N G w G1 j)(k:cn N G1 j i w2):cn N G w i w2:=
 ⟨Za h.size k.size,λb o c=>k.S b o (h.S b o c),λb o c=>(k.cell b o (h.S b o c)).trans (h.cell b o c),λn d=>(k.aZ n d).trans (h.aZ n d),
  λn d=>by
   rcases h.fr n d with⟨f,l⟩|f<;>rcases k.fr n d with⟨g,m⟩|g
   ·exact .inl ⟨g.trans f,m.trans l⟩
   ·exact .inr (f▸g)
   ·exact .inr (g▸f)
   ·exact .inr (Nat.lt_trans f g),
  ⟨⟨λb e=>k.Z.1.1 b (h.Z.1.1 b e),λb e=>(k.Z.1.2 b e).elim (h.Z.1.2 b) λc=>.inr (Za h.size c)⟩,k.Z.2.trans h.Z.2⟩,λb e=>(k.old b (h.Z.1.1 b e)).trans (h.old b e),k.os.trans h.os,k.tape.trans h.tape,k.output.trans h.output,λb o c=>(k.new b o c).elim (h.new b o) (λd=>.inr λp=>d (h.Z.1.1 b p))⟩
def cn.less{N M:Nat}{G G':Gh}{w w':Zz}(h:cn N G w G' w')(c:M<=N):cn M G w G' w':=
 ⟨h.size,h.S,h.cell,λn b=>h.aZ n (ZU b c),λn b=>h.fr n (ZU b c),h.Z,h.old,h.os,h.tape,h.output,h.new⟩
def cn.my{N:Nat}{G G':Gh}{w w':Zz}(h:cn N G w G' w'){b:Nat}(c:b<w.heap.size)(d:¬G.Z b):¬G'.Z b:=λk=>(h.Z.1.2 b k).elim d λe=>Yv _ (ZU c e)
def tC(G:Gh)(w:Zz)(b:I Deferred):Prop:=∃l:I Nat,l.Nodup/\b=l.map (λD=>{target:= .collected D,args:= #[]})/\∀D∈l,G.M<=D/\G.Z D/\w.heap[D]?=some (.deferred (some []))
def tC.nil(G:Gh)(w:Zz):tC G w []:=⟨[],List.nodup_nil,rfl,λ_ h=>absurd h Yp⟩
def tC.keep{N:Nat}{G G':Gh}{w w':Zz}{ds:I Deferred}(h:tC G w ds)(d:cn N G w G' w'):tC G' w' ds:=
 let ⟨l,e,f,b⟩:=h
 ⟨l,e,f,λD c=>⟨d.Z.2▸(b D c).1,d.Z.1.1 D (b D c).2.1,(d.old D (b D c).2.1).trans (b D c).2.2⟩⟩
def MS.keep{N:Nat}{G G':Gh}{w w':Zz}(h:MS G w)(b:cn N G w G' w'):MS G' w':=⟨λg l c j v d=>
 ⟨b.S _ _ (h.1 g l c j v d).1,(b.cell _ _ (h.1 g l c j v d).1).trans (h.1 g l c j v d).2⟩,by rw[b.Z.2];exact Za h.2 b.size⟩
def dY.keep{S S':Nat->Nat->Prop}{w w':Zz}(l:∀b o,S b o->S' b o)(m:∀b o,S b o->w'.cell? ⟨b,o,none⟩=w.cell? ⟨b,o,none⟩){u:kd}{x:D}(h:dY S w u x):dY S' w' u x:=by
 induction h with
 |v u=>exact .v u
 |sl A b o c k p u q t y z d _ g=>
  exact .sl A b o c k p u q t y z (λi j e f=>⟨l _ _ (d i j e f).1,(m _ _ (d i j e f).1).trans (d i j e f).2.1,(d i j e f).2.2⟩) g
 |ag B C E _ g=>exact .ag B C E g
def pn.keep{S S':Nat->Nat->Prop}{w w':Zz}(e:∀b o,S b o->S' b o)(g:∀b o,S b o->w'.cell? ⟨b,o,none⟩=w.cell? ⟨b,o,none⟩){u:kd}{x:ga}(h:pn S w u x):pn S' w' u x:=by
 induction h with
 |d h=>exact .d (h.keep e g)
 |bK c i b o u k v=>exact .bK c i b o u (λj l=>⟨e _ _ (k j l).1,(g _ _ (k j l).1).trans (k j l).2⟩) (λj d y=>(v j d y).keep e g)
 |fn f m p q _ t=>exact .fn f m p q t
 |o9 f m p q _ t=>exact .o9 f m p q t
def aO.keep{G G':Gh}{w w':Zz}(c:cn G.N G w G' w')(m:G.N<=G'.N){u:kd}{x:AV}(h:aO G w u x):aO G' w' u x:=by
 induction h with
 |d h=>exact .d (h.keep c.S c.cell)
 |agg t v p _ y=>exact .agg t v p y
 |bn t v p _ y=>exact .bn t v p y
 |ptr n l h=>rw[<-c.aZ n h];exact .ptr n l (ZU h m)
 |bK z i l b o u x H B J=>exact .bK z i l b o u x H (λj C=>⟨c.S _ _ (B j C).1,(c.cell _ _ (B j C).1).trans (B j C).2⟩) (λj d M=>(J j d M).keep c.S c.cell)
 |own n z h E R q=>
  refine .own n z (ZU h m) (E.keep c.S c.cell) ?_ ?_
  ·rcases c.fr n h with⟨g,_⟩|g
   ·omega
   ·omega
  ·intro e;rcases c.fr n h with⟨g,A⟩|g
   ·rw[A];exact q (e.trans g)
   ·omega
 |full z E q=>exact .full z (E.keep c.S c.cell) q
 |row n l len cap k h p T=>rw[<-c.aZ n h];exact .row n l len cap k (ZU h m) p T
 |fn f t v p _ y=>exact .fn f t v p y
 |mp n h=>rw[<-c.aZ n h];exact .mp n (ZU h m)
 |cF n h=>rw[<-c.aZ n h];exact .cF n (ZU h m)
 |vec n o len L k h F W q=>
  refine .vec n o len L k (ZU h m) F ?_ ?_;{rcases c.fr n h with⟨g,_⟩|g<;>omega}
  ·intro e;rcases c.fr n h with⟨g,A⟩|g
   ·rw[A];exact q (e.trans g)
   ·omega
 |eC n i j L k h F W q=>
  refine .eC n i j L k (ZU h m) F ?_ ?_;{rcases c.fr n h with⟨g,_⟩|g<;>omega}
  ·intro e;rcases c.fr n h with⟨g,A⟩|g
   ·rw[A];exact q (e.trans g)
   ·omega
 |hid h g=>exact .hid (h.keep c.S c.cell) g
 |dead u=>exact .dead u
structure St where
 n:Nat
 t:List (Nat×AV)
 h:List ar
def bM:I (Nat×AV)->Nat->AV
 |[],_=>.dead
 |(k,x)::l,i=>bif i==k then x else bM l i
def mi(k:Nat)(x:AV)(l:I (Nat×AV))(i:Nat):bM ((k,x)::l) i=if i=k then x else bM l i:=by
 simp only[bM,cond_eq_ite,Ve]
def gO(b:Bool)(p:Prop):Prop:=cond b p False
def cv{b:Bool}{p:Prop}:gO b p↔b=true/\p:=by cases b<;>simp [gO]
def cG(a b:Nat):Bool:=a-b==0
def dS{a b:Nat}:cG a b=true↔a<=b:=by simp [cG];omega
def YT:IntKind->Nat
 | .i8=>0| .i16=>1| .i32=>2| .i64=>3| .u8=>4| .u16=>5| .u32=>6| .u64=>7
def yF(a b:IntKind):Bool:=YT a==YT b
def Tc{a b:IntKind}:yF a b=true↔a=b:=by cases a<;>cases b<;>decide
def St.put(s:St)(b:U Nat)(x:AV):St:=
 match b with
 |none=>s
 |some d=>bif s.n-d==0 then s else{s with t:=(d,x)::s.t}
def tc{s:St}{d:Nat}(h:d<s.n)(x:AV):s.put (some d) x={s with t:=(d,x)::s.t}:=by
 have:(s.n-d==0)=false:=by simp;omega
 simp only[St.put,this,UQ]
def Gs{s:St}{d:Nat}(h:¬d<s.n)(x:AV):s.put (some d) x=s:=by
 have:(s.n-d==0)=true:=by simp;omega
 simp only[St.put,this,V1]
def St.wh(s:St)(h:I ar):St:={s with h:=h}
def Ta:kd->AV
 | .agg b=>.agg (b.toList.map λu=>.d (.v u))
 | .tuple b=>.bn (b.toList.map λu=>.d (.v u))
 |u=>.d (.v u)
def ev(s:St):Operand->AV
 | .tmp t=>bM s.t t
 | .const v=>Ta v
 | .func f=>.fn f []
 | .global g=>match DX Ds g with
   |some l=>.bK [l.map .v] 0 0
   |none=>.dead
def AV.lG:AV->Bool
 | .d (.v u)=>u.oneCell'
 | .d (.sl _)| .ptr .. | .bK .. | .own .. | .full _| .row .. | .fn .. | .mp _| .cF _| .hid _| .vec .. | .eC .. =>true
 | .agg _| .bn _| .dead| .d (.ag _)=>false
def AV.cells:AV->I AV
 | .agg b=>b
 |x=>[x]
def AV.kW:AV->Bool
 | .agg b=>b.all AV.lG
 |x=>x.lG
def D.wo:D->D
 | .v (.slice none 0 0)=>.sl []
 |x=>x
def AV.AI:AV->U D
 | .d x=>some x.wo
 | .own _ b=>some (.sl b)
 | .full b=>some (.sl b)
 |_=>none
def AV.gN:AV->U (I (I D))
 | .d (.sl b)=>some b
 | .own _ b=>some b
 | .full b=>some b
 | .d (.v (.slice none 0 0))=>some []
 |_=>none
def AV.int?:AV->U Int
 | .d (.v (.int _ n))=>some n
 |_=>none
def ga.av:ga->AV
 | .d x=>.d x
 | .bK c b=>.bK [c] 0 b
 | .fn f e=>.hid (.fn f e)
 | .o9 f e=>.hid (.o9 f e)
def ga.app(as:I AV):ga->U (FuncId×I AV)
 | .fn g b=>some (g,as++b.map ga.av)
 | .o9 g b=>some (g,b.map ga.av++as)
 |_=>none
mutual
def AV.cap:AV->U ga
 | .d x=>some (.d x)
 | .own _ xs=>some (.d (.sl xs))
 | .full xs=>some (.d (.sl xs))
 | .bK xs i off=>match xs[i]? with
   |some c=>some (.bK c off)
   |none=>none
 | .fn f cs=>match AV.yX cs with
   |some l=>some (.fn f l)
   |none=>none
 | .hid c=>some c
 |_=>none
def AV.yX:I AV->U (I ga)
 |[]=>some []
 |x::l=>match x.cap,AV.yX l with
  |some c,some l=>some (c::l)
  |_,_=>none
end
def Vi(f:FuncId)(first dC:I AV):U AV:=
 match first with
 |[]=>some (.fn f dC)
 |l=>match AV.yX l,dC with
  |some b,[]=>some (.hid (.o9 f b))
  |_,_=>none
def ZA(P:dg)(t:TypeId):U Nat:=(P.info? t).map (·.size)
def nL(P:dg)(t:TypeId):U Bool:=(P.underlying t).map fun| .struct _=>true| .array .. =>true|_=>false
def uV(P:dg)(t:TypeId)(i:Nat):U (Nat×Nat×Bool):=
 match P.underlying t with
 |some (.struct b)=>match b[i]? with
  |some f=>match ZA P f.type,nL P f.type with
   |some (k+1),some g=>some (f.offset,k+1,g)
   |_,_=>none
  |none=>none
 |_=>none
def fO(P:dg)(t:TypeId):U (TypeId×Nat):=
 match P.underlying t with
 |some (.slice e)=>(ZA P e).map λk=>(e,k)
 |_=>none
def vM(P:dg)(t:TypeId):U (Nat×TypeId×Nat):=
 match P.underlying t with
 |some (.array n e)=>(ZA P e).map λk=>(n,e,k)
 |_=>none
def ja(P:dg)(t:TypeId):Bool:=match P.underlying t with|some .string=>true|_=>false
def DN(P:dg)(t:TypeId):Bool:=match P.underlying t with|some .bool=>true|_=>false
def tn(P:dg)(t:TypeId):U IntKind:=match P.underlying t with|some (.int k)=>some k|_=>none
def Hz(P:dg)(t:TypeId):Bool:=match P.underlying t with|some (.int .u8)=>true|_=>false
def jz(P:dg)(t:TypeId):U kd:=(P.info? t).bind (·.zero)
def tu(P:dg)(t:TypeId):U Nat:=(P.info? t).map (·.bytes)
def UI(c:BinOp)(k:IntKind)(a b:Int):U kd:=
 match c with
 | .add=>some (.int k (k.wrap (a+b)))
 | .sub=>some (.int k (k.wrap (a-b)))
 | .mul=>some (.int k (k.wrap (a*b)))
 | .eql=>some (.bool (a==b))
 | .neq=>some (.bool (a !=b))
 | .lss=>some (.bool (a<b))
 | .leq=>some (.bool (a<=b))
 | .gtr=>some (.bool (a>b))
 | .geq=>some (.bool (a>=b))
 | .and=>some (.int k (k.wrap (BitVec.ofInt k.bits a&&&BitVec.ofInt k.bits b).toNat))
 | .or=>some (.int k (k.wrap (BitVec.ofInt k.bits a|||BitVec.ofInt k.bits b).toNat))
 | .xor=>some (.int k (k.wrap (BitVec.ofInt k.bits a^^^BitVec.ofInt k.bits b).toNat))
 | .andNot=>some (.int k (k.wrap (BitVec.ofInt k.bits a&&& ~~~BitVec.ofInt k.bits b).toNat))
 |_=>none
def R0(c:BinOp)(a b:so):U kd:=
 match c with
 | .eql=>some (.bool (bL a==bL b))
 | .neq=>some (.bool (!(bL a==bL b)))
 | .lss=>some (.bool (Op.bytesLess (bL a) (bL b)))
 | .leq=>some (.bool (Op.bytesLess (bL a) (bL b)||bL a==bL b))
 | .gtr=>some (.bool (!(Op.bytesLess (bL a) (bL b)||bL a==bL b)))
 | .geq=>some (.bool (!Op.bytesLess (bL a) (bL b)))
 |_=>none
def UU(c:BinOp)(a b:Bool):U kd:=
 match c with
 | .eql=>some (.bool (a==b))
 | .neq=>some (.bool (!(a==b)))
 |_=>none
def P8(c:BinOp)(k:IntKind)(a b:Int):U kd:=
 match c with
 | .quo=>some (.int k (k.wrap (a.tdiv b)))
 | .rem=>some (.int k (a.tmod b))
 |_=>none
def QG(c:BinOp)(k:IntKind)(a b:Int):U kd:=
 match c with
 | .shl=>some (.int k (k.wrap (a*2^(min b.toNat k.bits))))
 | .shr=>some (.int k (a.fdiv (2^(min b.toNat k.bits))))
 |_=>none
def NB(c:UnOp)(x:kd):U kd:=
 match c,x with
 | .not,.bool b=>some (.bool (!b))
 | .neg,.int k n=>some (.int k (k.wrap (0-n)))
 | .xor,.int k n=>some (.int k (k.wrap (BitVec.ofInt k.bits (if k.signed then-1 else k.max)^^^BitVec.ofInt k.bits n).toNat))
 |_,_=>none
def jM(cs:I AV)(off:Nat)(ys:I AV):I AV:=cs.take off++ys++cs.drop (off+ys.length)
def pK(k:Nat):Nat->I D->I (I D)
 |0,_=>[]
 |n+1,l=>l.take k::pK k n (l.drop k)
def rN(places:I (Nat×Nat)):I AV->I (Nat×AV)->U (I AV)
 |c,[]=>some c
 |c,(i,x)::r=>
  match places[i]? with
  |some (b,k)=>bif x.cells.length==k&&cG (b+k) c.length then rN places (jM c b x.cells) r else none
  |none=>none
def ox:I AV->U (I D)
 |[]=>some []
 |x::r=>match x.AI,ox r with
  |some d,some l=>some (d::l)
  |_,_=>none
def Fw(P:dg)(b:I Field):U (I (Nat×Nat)):=b.mapM λf=>(ZA P f.type).map λk=>(f.offset,k)
def O2(P:dg)(f:FuncId):Bool:=
 match P.funcs[f]? with
 |some b=>b.body.isSome&& !(b.name== "runtime.NumGoroutine")
 |none=>false
def dq(P:dg)(f:FuncId)(args:I AV)(h:I ar)(K:AV->I ar->Prop):Prop:=O2 P f=true/\∀(G:Gh)(w:Zz)(b:Array kd),cu G w h->b.size=args.length->(∀(i:Nat)(u:kd)(c:AV),b[i]?=some u->args[i]?=some c->aO G w u c)-> Calls P f b w λe d=>∃v G' r g,e= .returned v/\cn G.N G w G' d/\G.N<=G'.N/\cu G' d g/\aO G' d v r/\K r g
def dq.mono{P:dg}{f:FuncId}{args:I AV}{h:I ar}{K K':AV->I ar->Prop}(b:dq P f args h K)(c:∀r h',K r h'->K' r h'):dq P f args h K':=
 ⟨b.1,λG w d g i j=>(b.2 G w d g i j).mono λ_ _ ⟨v,k,r,h',e,l,m,p,q,t⟩=>⟨v,k,r,h',e,l,m,p,q,c _ _ t⟩⟩
def tL(h:I ar)(p:AV)(K:I AV->Nat->Prop):Prop:=
 match p with
 | .ptr n b=>match h[n]? with
   |some (.cells c)=>K c b
   |_=>False
 | .bK e i b=>match e[i]? with
   |some c=>K (c.map .d) b
   |none=>False
 |_=>False
def qq(P:dg)(t:TypeId)(h:I ar)(p:AV)(K:AV->Prop):Prop:=
 tL h p λd b=>match nL P t,ZA P t with
  |some true,some k=>gO (cG (b+k) d.length) (K (.agg ((d.drop b).take k)))
  |some false,some _=>match d[b]? with
   |some c=>K c
   |none=>False
  |_,_=>False
def xU(P:dg)(t:TypeId)(h:I ar)(p x:AV)(K:I ar->Prop):Prop:=
 match p with
 | .ptr n b=>match h[n]? with
   |some (.cells c)=>match ZA P t with
    |some k=>gO (k==x.cells.length&&x.kW&&cG (b+x.cells.length) c.length) (K (h.set n (.cells (jM c b x.cells))))
    |none=>False
   |_=>False
 |_=>False
def uW(P:dg)(T:TypeId)(x i:AV)(K:AV->Prop):Prop:=
 match fO P T with
 |some (_,k)=>
  match x with
  | .row n e f _ j=>match i.int? with
    |some z=>gO (j==k) (0<=z/\z<f/\K (.ptr n (e+z.toNat*k)))
    |none=>False
  |_=>match x.gN,i.int? with
   |some g,some z=>0<=z/\(match g[z.toNat]? with|some c=>c.length=k/\K (.bK [c] 0 0)|none=>False)
   |_,_=>False
 |none=>match vM P T,x,i.int? with
  |some (n,_,k),.ptr b e,some z=>0<=z/\z<n/\K (.ptr b (e+z.toNat*k))
  |some (n,_,k),.bK g i e,some z=>gO (k==1) (0<=z/\z<n/\(match g[i]? with|some c=>(match c[e+z.toNat]? with|some d=>K (.bK [[d]] 0 0)|none=>False)|none=>False))
  |_,_,_=>False
def ua(P:dg)(T:TypeId)(x:AV)(K:Nat->Prop):Prop:=
 match x with
 | .d (.v (.string s))=>gO (ja P T) (K s.size)
 | .row _ _ b _ _=>gO (fO P T).isSome (K b)
 |x=>match x.gN with
  |some c=>gO (fO P T).isSome (K c.length)
  |none=>False
def ln(ρ:Operand->AV)(x:U Operand)(b:Nat)(K:Nat->Prop):Prop:=
 match x with
 |none=>K b
 |some y=>match (ρ y).int? with
  |some z=>0<=z/\K z.toNat
  |none=>False
def wP(P:dg)(T:TypeId)(ρ:Operand->AV)(x:AV)(lo hi g:U Operand)(K:AV->Prop):Prop:=
 match g with
 |none=>
  match x with
  | .d (.v (.string b))=>gO (ja P T) (ln ρ hi b.size λh=>h<=b.size/\ln ρ lo 0 λl=>l<=h/\K (.d (.v (.string (b.extract l h)))))
  | .ptr n f=>match vM P T with
    |some (m,_,k)=>gO (cG m 4096) (ln ρ hi m λh=>gO (cG h m) (ln ρ lo 0 λl=>gO (cG l h&& !cG m l) (K (.row n (f+l*k) (h-l) (m-l) k))))
    |none=>False
  |x=>match x.gN,fO P T with
   |some e,some (_,k)=>(∀c∈e,c.length=k)/\ln ρ hi e.length λh=>h<=e.length/\ln ρ lo 0 λl=>l<=h/\K (.d (.sl ((e.take h).drop l)))
   |_,_=>False
 |some m=>match lo,hi with
  |none,some y=>match x.gN,fO P T with
   |some e,some (_,k)=>(∀c∈e,c.length=k)/\ln ρ (some m) 0 λc=>c<=e.length/\ln ρ (some y) 0 λh=>h=c/\K (.full (e.take h))
   |_,_=>False
  |_,_=>False
def xx(h:I ar)(k:Nat)(x:AV)(K:I (I D)->Prop):Prop:=
 match x with
 | .row n d b _ g=>match h[n]? with
   |some (.cells e)=>match ox ((e.drop d).take (b*k))with
    |some i=>gO (g==k&&cG (d+b*k) e.length&&((e.drop d).take (b*k)).all AV.lG) (K (pK k b i))
    |none=>False
   |_=>False
 |x=>match x.gN with
  |some f=>(∀c∈f,c.length=k)/\K f
  |none=>False
def wM(P:dg)(T:TypeId)(h:I ar)(x y:AV)(K:AV->I ar->Prop):Prop:=
 match fO P T with
 |some (e,k)=>match jz P e,tu P e with
  |some z,some g=>gO (cG 1 k&&z.cells.toList.length==k)<|xx h k y λb=>
   match x with
   | .own n f=>match h[n]? with
     |some (.front i j len)=>gO (i==e&&j==k)<|len=f.length/\(∀c∈f,c.length=k)/\f.length+b.length<=maxLen/\(f.length+b.length)*g<=140737488355328/\K (.own n (f++b)) (h.set n (.front e k (f.length+b.length)))
     |_=>False
   | .d (.v (.slice none 0 0))=>b.length<=maxLen/\b.length*g<=140737488355328/\K (.own h.length b) (h++[.front e k b.length])
   | .full f=>(∀c∈f,c.length=k)/\f.length+b.length<=maxLen/\(f.length+b.length)*g<=140737488355328/\K (.own h.length (f++b)) (h++[.front e k (f.length+b.length)])
   |_=>False
  |_,_=>False
 |none=>False
def RP(P:dg)(T:TypeId):U (I (Nat×Nat)):=
 match P.underlying T with
 |some (.struct b)=>Fw P b.toList
 |_=>none
def yB(P:dg)(T:TypeId)(b:I (Nat×AV))(K:AV->Prop):Prop:=
 match RP P T,jz P T with
 |some places,some z=>match rN places (z.cells.toList.map λu=>.d (.v u)) b with
  |some c=>gO ((b.all λp=>p.2.kW)&&z.cells.toList.all Value.oneCell') (K (.agg c))
  |none=>False
 |_,_=>False
def wB(k:Nat):Nat->Nat->I (Nat×Nat)
 |_,0=>[]
 |o,n+1=>(o,k)::wB k (o+k) n
def uQ:Nat->I AV->I AV
 |0,_=>[]
 |n+1,l=>l++uQ n l
def Al(P:dg)(T:TypeId)(len:Nat)(b:I (Nat×AV))(K:AV->Prop):Prop:=
 match fO P T with
 |some (e,k)=>match jz P e with
  |some z=>match rN (wB k 0 len) (uQ len (z.cells.toList.map λu=>.d (.v u))) b with
   |some c=>match ox c with
    |some f=>gO (cG 1 k&&cG (len*k) 16777216&&z.cells.toList.length==k&&z.cells.toList.all Value.oneCell'&&(b.all λp=>p.2.kW)) (K (.full (pK k len f)))
    |none=>False
   |none=>False
  |none=>False
 |none=>False
def Ix(P:dg)(t:TypeId)(x y:AV):U Bool:=
 match x,y with
 | .d (.v (.int k a)),.d (.v (.int c b))=>bif yF k c&&(tn P t).isSome then some (a==b)else none
 | .d (.v (.string a)),.d (.v (.string b))=>bif ja P t then some (bL a==bL b)else none
 | .d (.v (.bool a)),.d (.v (.bool b))=>bif DN P t then some (a==b)else none
 |_,_=>none
def Dx(P:dg)(c:TypeId->I AV->I AV->U Bool):I Field->I AV->I AV->U Bool
 |[],_,_=>some true
 |f::g,d,e=>bif f.name== "_" then none else
  match nL P f.type with
  |some false=>match d[f.offset]?,e[f.offset]? with
   |some x,some y=>match Ix P f.type x y,Dx P c g d e with
    |some a,some b=>some (a&&b)
    |_,_=>none
   |_,_=>none
  |some true=>match ZA P f.type with
   |some k=>bif cG (f.offset+k) d.length&&cG (f.offset+k) e.length then match c f.type ((d.drop f.offset).take k) ((e.drop f.offset).take k),Dx P c g d e with
    |some a,some b=>some (a&&b)
    |_,_=>none
    else none
   |none=>none
  |none=>none
def NN(P:dg):Nat->TypeId->I AV->I AV->U Bool
 |0=>λ_ _ _=>none
 |d+1=>λT b c=>match P.underlying T with
  |some (.struct e)=>bif P.stoodInHeld T then none else Dx P (NN P d) e.toList b c
  |_=>none
def KT(P:dg)(T:TypeId)(xs ys:I AV):U Bool:=
 match P.underlying T with
 |some (.struct b)=>bif P.stoodInHeld T||P.eqGuardType P.depth T then none else Dx P (NN P 4) b.toList xs ys
 |_=>none
def zG(c:BinOp)(b:Bool):U kd:=
 match c with
 | .eql=>some (.bool b)
 | .neq=>some (.bool (!b))
 |_=>none
def yW(P:dg)(T:TypeId)(c:BinOp)(x y:AV)(K:AV->Prop):Prop:=
 match x,y with
 | .d (.v (.int k a)),.d (.v (.int e b))=>
   match P8 c k a b with
   |some v=>gO (yF k e) (b≠0/\K (.d (.v v)))
   |none=>match QG c k a b with
    |some v=>0<=b/\K (.d (.v v))
    |none=>match UI c k a b with
     |some v=>gO (yF k e) (K (.d (.v v)))
     |none=>False
 | .d (.v (.string a)),.d (.v (.string b))=>match R0 c a b with
   |some v=>K (.d (.v v))
   |none=>match c with
    | .add=>a.size+b.size<=maxLen/\K (.d (.v (.string (a++b))))
    |_=>False
 | .d (.v (.bool a)),.d (.v (.bool b))=>match UU c a b with
   |some v=>gO (DN P T) (K (.d (.v v)))
   |none=>False
 | .agg f,.agg g=>match KT P T f g with
   |some b=>match zG c b with
    |some v=>K (.d (.v v))
    |none=>False
   |none=>False
 |_,_=>False
def Ah(b:UnOp)(x:AV)(K:AV->Prop):Prop:=
 match x with
 | .d (.v u)=>match NB b u with
   |some v=>K (.d (.v v))
   |none=>False
 |_=>False
def yL(P:dg)(c f:TypeId)(x:AV)(K:AV->Prop):Prop:=
 match x with
 | .d (.v (.int _ n))=>match tn P c,tn P f with
   |some _,some k=>K (.d (.v (.int k (k.wrap n))))
   |_,_=>False
 | .d (.v (.string b))=>gO (ja P c&&ja P f) (K (.d (.v (.string b))))
 |x=>match x.gN,fO P c with
  |some i,some (e,_)=>gO (Hz P e&&ja P f) (∃g:I Int,i=g.map (λn=>[.v (.int .u8 n)])/\K (.d (.v (.string ⟨(g.map λn=>UInt8.ofNat n.toNat).toArray⟩))))
  |_,_=>False
def Aw(P:dg)(T:TypeId)(x:AV)(f:Nat)(K:AV->Prop):Prop:=
 match uV P T f,x with
 |some (b,k,true),.agg d=>gO (cG (b+k) d.length) (K (.agg ((d.drop b).take k)))
 |some (b,_,false),.agg d=>match d[b]? with
  |some c=>K c
  |none=>False
 |_,_=>False
def wT(P:dg)(T:TypeId):U (TypeId×TypeId):=
 match P.underlying T with
 |some (.map k e)=>some (k,e)
 |_=>none
inductive Sd
 |no
 |lt (n:Nat)
def Sd.ok:Sd->Prop
 | .no=>True
 | .lt n=>n<maxLen
def Lk:D->AV
 | .ag b=>.agg (b.map .d)
 |d=>.d d
def CE:kd->AV
 | .agg b=>.agg (b.toList.map λv=>.d (D.wo (.v v)))
 |v=>.d (.v v)
def sH(b:Bool)(z:kd):U D->AV
 |some d=>bif b then .bn [Lk d,.d (.v (.bool true))]else Lk d
 |none=>bif b then .bn [CE z,.d (.v (.bool false))]else CE z
def AV.SE:AV->U D
 | .agg b=>(ox b).map .ag
 |x=>x.AI
def rO(P:dg)(c:Op)(ρ:Operand->AV)(h:I ar):U (AV×I ar×Sd):=
 match c with
 | .makeMap T none=>match wT P T with
   |some _=>some (.mp h.length,h++[.map []],.no)
   |none=>none
 | .lookup T m i f=>match wT P T with
   |some (k,e)=>match jz P e with
    |some z=>match ρ m,ρ i with
     | .mp n,.d (.v (.string s))=>match h[n]? with
       |some (.map b)=>bif ja P k then some (sH f z (ml b s),h,.no)else none
       |_=>none
     |_,_=>none
    |none=>none
   |none=>none
 | .mapUpdate T m i x=>match wT P T with
   |some (k,_)=>match ρ m,ρ i,(ρ x).SE with
    | .mp n,.d (.v (.string s)),some d=>match h[n]? with
      |some (.map b)=>bif ja P k then some (.d (.v undef),h.set n (.map ((s,d)::b)),.lt b.length)else none
      |_=>none
    |_,_,_=>none
   |none=>none
 |_=>none
inductive VA
 |no
 |el (c:List AV)
 |st (c:List AV) (cs:List (List AV))
 |mk (cs:List (List AV)) (len m:Nat)
 |ap (cs ys:List (List AV)) (L len:Nat)
 |ix (i:Nat)
 |ol (o len:Nat)
def UY(P:dg)(t:TypeId)(c:I AV)(j:Nat):U AV:=
 match nL P t,ZA P t with
 |some true,some k=>bif cG (j+k) c.length then some (.agg ((c.drop j).take k))else none
 |some false,some _=>c[j]?
 |_,_=>none
def cg(xs:I (I D)):I (I AV):=xs.map λc=>c.map AV.d
def BJ(h:I ar)(k:Nat)(y:AV)(ys:I (I AV)):Prop:=(∃d,y.gN=some d/\(∀c∈d,c.length=k)/\ys=cg d)\/(∃n o b L e f,y= .vec n o b L k/\h[n]?=some (.vec e k f)/\f.length=L/\ys=(f.drop o).take b/\∀c∈ys,c.all AV.lG=true)
def vW(ρ:Operand->AV)(d:Int):U Operand->U Int
 |none=>some d
 |some y=>(ρ y).int?
def js(P:dg)(W:Op)(ρ:Operand->AV)(h:I ar)(a:VA):U (AV×I ar×Prop):=
 match W with
 | .indexAddr T x i=>match ρ x,(ρ i).int?,fO P T,a with
   | .vec n o g L k,some z,some (_,H),.ix N=>match h[n]? with
     |some (.vec _ J A)=>bif H==k&&J==k then some (.eC n N 0 L k,h,A.length=L/\0<=z/\z<g/\N=o+z.toNat)else none
     |_=>none
   |_,_,_,_=>none
 | .fieldAddr S x f=>match ρ x,uV P S f with
   | .eC n i j L k,some (fo,_,_)=>some (.eC n i (j+fo) L k,h,True)
   |_,_=>none
 | .nilCheck x=>match ρ x with
   | .eC n i j L k=>some (.eC n i j L k,h,True)
   |_=>none
 | .load t p=>match ρ p,a with
   | .eC n i j L k,.el c=>match h[n]?,UY P t c j with
     |some (.vec _ H A),some x=>bif H==k then some (x,h,A.length=L/\A[i]?=some c)else none
     |_,_=>none
   |_,_=>none
 | .store t p x=>match ρ p,a with
   | .eC n i j L k,.st c E=>match h[n]?,ZA P t with
     |some (.vec e H A),some q=>bif H==k&&q==(ρ x).cells.length&&(ρ x).kW&&cG (j+(ρ x).cells.length) k&&cG 1 k then some (.d (.v undef),h.set n (.vec e k E),A.length=L/\A[i]?=some c/\E=A.set i (jM c j (ρ x).cells))else none
     |_,_=>none
   |_,_=>none
 | .slice T x lo hi none=>match ρ x,fO P T,a with
   | .vec n o g L k,some (_,H),.ol R F=>match vW ρ 0 lo,vW ρ g hi with
     |some l,some u=>match h[n]? with
      |some (.vec _ J A)=>bif H==k&&J==k then some (.vec n R F L k,h,A.length=L/\0<=l/\l<=u/\u<=(L:Int)-o/\R=o+l.toNat/\F=u.toNat-l.toNat)else none
      |_=>none
     |_,_=>none
   |_,_,_=>none
 | .makeSlice T l c=>match fO P T,(ρ l).int?,(ρ c).int?,a with
   |some (e,k),some l,some c,.mk A g m=>match jz P e,tu P e with
    |some z,some M=>bif cG 1 k&&z.cells.toList.length==k&&z.cells.toList.all Value.oneCell' then some (.vec h.length 0 g m k,h++[.vec e k A],0<=l/\l<=c/\l.toNat=g/\c.toNat=m/\A=List.replicate m (z.cells.toList.map λu=>.d (.v u))/\m<=maxLen/\M*m<=281474976710656)else none
    |_,_=>none
   |_,_,_,_=>none
 | .call c=>match c.callee with
   | .builtin .len=>match c.args.toList,c.argTypes.toList with
     |[x],[T]=>match ρ x with
      | .vec n _ g L k=>match h[n]? with
        |some (.vec _ J A)=>bif (fO P T).isSome&&J==k then some (.d (.v (.int .i64 g)),h,A.length=L)else none
        |_=>none
      |_=>none
     |_,_=>none
   | .builtin .append=>match c.args.toList,c.argTypes.toList with
     |[x,y],[T,b]=>match fO P T,fO P b,a with
      |some (e,k),some _,.ap E B C F=>match jz P e,tu P e with
       |some z,some M=>bif cG 1 k&&z.cells.toList.length==k then
        match ρ x with
        | .vec n o g L k1=>match h[n]? with
          |some (.vec e1 J A)=>bif k1==k&&J==k&&e1==e then some (.vec n o F C k,h.set n (.vec e k E),A.length=L/\BJ h k (ρ y) B/\F=g+B.length/\
           ((o+g+B.length<=L/\C=L/\E=A.take (o+g)++B++A.drop (o+g+B.length))\/(o=0/\g=L/\C=L+B.length/\E=A++B/\C<=maxLen/\C*M<=140737488355328)))else none
          |_=>none
        | .d (.v (.slice none 0 0))=>some (.vec h.length 0 F C k,h++[.vec e k E],BJ h k (ρ y) B/\E=B/\F=B.length/\C=B.length/\C<=maxLen/\C*M<=140737488355328)
        | .full xs=>some (.vec h.length 0 F C k,h++[.vec e k E],xs=[]/\BJ h k (ρ y) B/\E=B/\F=B.length/\C=B.length/\C<=maxLen/\C*M<=140737488355328)
        |_=>none
       else none
       |_,_=>none
      |_,_,_=>none
     |_,_=>none
   |_=>none
 |_=>none
def MU(c:Bool)(k:IntKind):Int->I AV->U (IntKind×Int)
 |a,[]=>some (k,a)
 |a,.d (.v (.int _ b))::l=>MU c k (bif c then(if b>a then b else a)else(if b<a then b else a)) l
 |_,_=>none
def D0(b:Bool):I AV->U (IntKind×Int)
 | .d (.v (.int k a))::l=>MU b k a l
 |_=>none
def dm(P:dg)(o:Oper)(ρ:Operand->AV)(h:I ar)(C:AV->I ar->Prop):Prop:=
 match o.op with
 | .move x| .assign x=>C (ρ x) h
 | .pick c a b=>match ρ c with
   | .d (.v (.bool t))=>(t=true->C (ρ a) h)/\(t=false->C (ρ b) h)
   |_=>False
 | .alloc e=>match jz P e with
   |some z=>C (.ptr h.length 0) (h++[ar.cells (z.cells.toList.map λu=>.d (.v u))])
   |none=>False
 | .box _ x=>gO (ρ x).kW<|C (.ptr h.length 0) (h++[ar.cells (ρ x).cells])
 | .load t a=>qq P t h (ρ a) λx=>C x h
 | .store t a x=>xU P t h (ρ a) (ρ x) λm=>C (.d (.v undef)) m
 | .nilCheck x=>match ρ x with
   | .ptr n l=>C (.ptr n l) h
   | .bK A i l=>C (.bK A i l) h
   | .fn f B=>C (.fn f B) h
   |_=>False
 | .fieldAddr S x f=>match uV P S f with
   |some (J,_,_)=>match ρ x with
    | .ptr n l=>C (.ptr n (l+J)) h
    | .bK A i l=>C (.bK A i (l+J)) h
    |_=>False
   |none=>False
 | .field T x f=>Aw P T (ρ x) f λy=>C y h
 | .indexAddr T x i=>uW P T (ρ x) (ρ i) λy=>C y h
 | .index T x i=>match ρ x,(ρ i).int? with
   | .d (.v (.string b)),some z=>gO (ja P T) (0<=z/\(match b[z.toNat]? with|some c=>C (.d (.v (.int .u8 c.toNat))) h|none=>False))
   |_,_=>False
 | .build T E=>yB P T (E.toList.map λp=>(p.1,ρ p.2)) λy=>C y h
 | .buildSlice T F E=>Al P T F (E.toList.map λp=>(p.1,ρ p.2)) λy=>C y h
 | .slice T x L M N=>wP P T ρ (ρ x) L M N λy=>C y h
 | .extract x i=>match ρ x with
   | .bn B=>match B[i]? with
     |some c=>C c h
     |none=>False
   |_=>False
 | .makeFunc (.func f) first H=>match Vi f (first.toList.map ρ) (H.toList.map ρ)with
   |some x=>C x h
   |none=>False
 | .binOp op T x y _=>yW P T op (ρ x) (ρ y) λv=>C v h
 | .unOp op _ x=>Ah op (ρ x) λv=>C v h
 | .convert a b x=>yL P a b (ρ x) λv=>C v h
 | .call c=>match c.callee with
   | .builtin .len=>match c.args.toList,c.argTypes.toList with
     |[x],[T]=>ua P T (ρ x) λn=>C (.d (.v (.int .i64 n))) h
     |_,_=>False
   | .builtin .append=>match c.args.toList,c.argTypes.toList with
     |[x,y],[T,j]=>gO (fO P j).isSome<|wM P T h (ρ x) (ρ y) λv m=>C v m
     |_,_=>False
   | .builtin .max=>match D0 true (c.args.toList.map ρ)with
     |some (k,a)=>C (.d (.v (.int k a))) h
     |none=>False
   | .builtin .min=>match D0 false (c.args.toList.map ρ)with
     |some (k,a)=>C (.d (.v (.int k a))) h
     |none=>False
   | .value f=>match ρ f with
     | .fn g H=>dq P g (c.args.toList.map ρ++H) h λr m=>C r m
     | .hid q=>∃g as,q.app (c.args.toList.map ρ)=some (g,as)/\dq P g as h λr m=>C r m
     |_=>False
   |_=>False
 |op=>match rO P op ρ h with
  |some (x,m,p)=>p.ok/\C x m
  |none=>False
def HI(P:dg)(o:Oper)(K:St->Prop)(s:St):Prop:=
 match o.op with
 | .binOp b T x y _=>match (ev s x).gN,ev s y,fO P T,zG b true,zG b false with
   |some c,.d (.v (.slice none 0 0)),some _,some e,some f=>(c=[]->K (s.put o.dst (.d (.v e))))/\K (s.put o.dst (.d (.v f)))
   |_,_,_,_,_=>False
 |_=>False
def J1(P:dg)(o:Oper)(K:St->Prop)(s:St):Prop:=∃a x b p,js P o.op (ev s) s.h a=some (x,b,p)/\p/\K ((s.wh b).put o.dst x)
def sw(P:dg)(o:Oper)(K:St->Prop)(s:St):Prop:=dm P o (ev s) s.h λx h=>K ((s.wh h).put o.dst x)
def amW(P:dg)(o:Oper)(K:St->Prop)(s:St):Prop:=J1 P o K s\/HI P o K s\/sw P o K s
def nm(b o n:Nat):(⟨b,o,none⟩:Addr).add n=⟨b,o+n,none⟩:=by unfold Addr.add;split<;>simp_all
structure dx(G:Gh)(w:World)(a:Act)(s:St):Prop where
 size:a.tmps.size=s.n
 tmp:∀i,aO G w (a.tmps.getD i undef) (bM s.t i)
 inv:cu G w s.h
 df:tC G w a.defers
def pn.av{G:Gh}{w:Zz}{u:kd}{c:ga}(h:pn G.S w u c):aO G w u c.av:=by
 cases h with
 |d h=>exact .d h
 |bK c e b o u k l=>exact .bK [c] 0 e b o u c rfl k l
 |fn f g i j h=>exact .hid (.fn f g i j h) rfl
 |o9 f g i j h=>exact .hid (.o9 f g i j h) rfl
def aO.lG{G:Gh}{w:Zz}{u:kd}{x:AV}(h:aO G w u x)(e:x.lG=true):u.oneCell'=true:=by
 cases h with
 |d f=>cases f with
  |v u=>exact e
  |sl=>rfl
  |ag=>simp [AV.lG]at e
 |agg=>simp [AV.lG]at e
 |bn=>simp [AV.lG]at e
 |own n m _ f=>cases f;rfl
 |vec n o len L k _ g=>obtain⟨A,l,c,rfl⟩:=g;rfl
 |eC n i j L k _ g=>obtain⟨b,q,rfl⟩:=g;rfl
 |full m f=>cases f;rfl
 |hid h p=>exact p
 |dead=>simp [AV.lG]at e
 |_=>rfl
def aO.cells{G:Gh}{w:Zz}{u:kd}{x:AV}(h:aO G w u x)(d:x.kW=true):
 u.cells.size=x.cells.length/\∀(i:Nat)(v:kd)(c:AV),u.cells[i]?=some v->x.cells[i]?=some c->aO G w v c/\v.oneCell'=true:=by
 have one:x.lG=true->x.cells=[x]->u.cells.size=x.cells.length/\∀(i:Nat)(v:kd)(c:AV),u.cells[i]?=some v->x.cells[i]?=some c->aO G w v c/\v.oneCell'=true:=by
  intro j k;have l:=h.lG j;have m:u.cells= #[u]:=by cases u<;>simp_all [Value.cells,Value.oneCell']
  rw[m,k];refine⟨rfl,λi v c e b=> ?_⟩
  match i with
  |0=>simp at e b;subst e;subst b;exact⟨h,l⟩
  |i+1=>simp at b
 cases x with
 |agg f=>
  cases h with
  |agg t f p q=>
   refine⟨p,λi v c e b=> ?_⟩;have g:=q i v c e b;refine⟨g,g.lG ?_⟩;simp only[AV.kW,Zb]at d;exact d c (ZX b)
 |bn f=>simp [AV.kW,AV.lG]at d
 |dead=>simp [AV.kW,AV.lG]at d
 |_=>exact one d rfl
def cu.lt{G:Gh}{w:Zz}{h:I ar}(hi:cu G w h){n:Nat}{B:ar}(b:h[n]?=some B):n<G.N:=by
 rw[<-hi.len];exact(Zk.1 b).1
def cu.iS{G:Gh}{w:Zz}{h:I ar}(hi:cu G w h){n b:Nat}(d:ct h G n=some b):b<w.heap.size:=by
 obtain⟨B,u,d⟩:=n9 d;have j:=hi.dJ n B u;cases B with
 |gone=>cases d
 |cells m=>
  obtain⟨_,_,q,T,f,_⟩:=j;cases d
  exact(ZT.1 f).1
 |lp y p as bd m=>
  obtain⟨_,_,t,q,T,f,_⟩:=j;cases d
  exact(ZT.1 f).1
 |it z m=>
  obtain⟨_,_,t,q,T,f,_⟩:=j;cases d
  exact(ZT.1 f).1
 |fG A m=>
  obtain⟨_,_,t,q,T,f,_⟩:=j;cases d
  exact(ZT.1 f).1
 |map v=>
  obtain⟨_,_,x,c,f,_⟩:=j;cases d
  exact(ZT.1 f).1
 |jx v=>
  obtain⟨_,_,x,c,f,_⟩:=j;cases d
  exact(ZT.1 f).1
 |front e k len=>
  have d:G.ow n=some b:=d;obtain⟨_,_,i|⟨g,cap,l,i,_,_,f,_⟩⟩:=j;{rw[i.1]at d;cases d};{rw[i]at d;cases d;exact(ZT.1 f).1}
 |jq e C=>
  have d:G.ow n=some b:=d;obtain⟨_,_,i|⟨g,cap,l,i,_,_,f,_⟩⟩:=j;{rw[i.1]at d;cases d};{rw[i]at d;cases d;exact(ZT.1 f).1}
 |vec e k m=>
  have d:G.ow n=some b:=d;obtain⟨_,_,_,i|⟨g,cap,l,i,_,_,f,_⟩⟩:=j;{rw[i.1]at d;cases d};{rw[i]at d;cases d;exact(ZT.1 f).1}
def e8.my{G:Gh}{w:Zz}{n b:Nat}{B:ar}(f:e8 G w n B)(c:B.eZ G n=some b):¬G.Z b:=by
 cases B with
 |gone=>cases c
 |cells l=>cases c;exact f.1
 |lp q p as bd l=>cases c;exact f.1
 |it t l=>cases c;exact f.1
 |fG u l=>cases c;exact f.1
 |map m=>cases c;exact f.1
 |jx m=>cases c;exact f.1
 |front e k len=>
  have c:G.ow n=some b:=c;obtain⟨_,_,d|⟨g,cap,i,d,_,j,_⟩⟩:=f;{rw[d.1]at c;cases c};{rw[d]at c;cases c;exact j}
 |jq e v=>
  have c:G.ow n=some b:=c;obtain⟨_,_,d|⟨g,cap,i,d,_,j,_⟩⟩:=f;{rw[d.1]at c;cases c};{rw[d]at c;cases c;exact j}
 |vec e k l=>
  have c:G.ow n=some b:=c;obtain⟨_,_,_,d|⟨g,cap,i,d,_,j,_⟩⟩:=f;{rw[d.1]at c;cases c};{rw[d]at c;cases c;exact j}
def wW.keep{S S':Nat->Nat->Prop}{w w':Zz}{f:Array MapEntry}{c:Nat}{kv:I (so×D)}(h:wW S w f c kv)(g:∀b o,S b o->S' b o)(i:∀b o,S b o->w'.cell? ⟨b,o,none⟩=w.cell? ⟨b,o,none⟩):wW S' w' f c kv:=
 ⟨h.size,h.stamped,λe j=>let ⟨s,d,k,l,m⟩:=h.Dh e j;⟨s,d,k,l,m.keep g i⟩,h.all,h.len,h.born,h.H8⟩
def zt.keep{S S':Nat->Nat->Prop}{w w':Zz}{d:Array MapEntry}{c:Nat}{kv:I (so×D)}(h:zt S w d c kv)(f:∀b o,S b o->S' b o)(g:∀b o,S b o->w'.cell? ⟨b,o,none⟩=w.cell? ⟨b,o,none⟩):zt S' w' d c kv:=
 ⟨h.ok.keep f g,λi e j=>let ⟨p,k,l,m⟩:=h.ord i e j;⟨p,k,l,m.keep f g⟩,h.all⟩
def e8.keep{G G':Gh}{w w':Zz}{n:Nat}(m:n<G.N)(d:cn G.N G w G' w')(R:G.N<=G'.N){B:ar}
 (hg:G'.fl n=G.fl n/\G'.sg n=G.sg n/\G'.ow n=G.ow n)
 (y:∀b,B.eZ G n=some b->w'.heap[b]?=w.heap[b]?/\∀o,¬G.S b o->¬G'.S b o)
 (h:e8 G w n B):e8 G' w' n B:=by
 obtain⟨f1,L,M⟩:=hg;cases B with
 |gone=>trivial
 |cells cs=>
  obtain⟨q,f,J,T,l,t,v⟩:=h;obtain⟨z,C⟩:=y _ rfl;refine⟨by rw[d.aZ n m];exact d.my (ZT.1 l).1 q,by rw[d.aZ n m];exact λo=>C o (f o),J,T,by rw[d.aZ n m,z];exact l,t,λi u c F H=>(v i u c F H).keep d R⟩
 |lp ls p as bd cs=>
  obtain⟨q,f,W,J,T,l,t,v⟩:=h;obtain⟨z,C⟩:=y _ rfl;refine⟨by rw[d.aZ n m];exact d.my (ZT.1 l).1 q,by rw[d.aZ n m];exact λo=>C o (f o),W,J,T,by rw[d.aZ n m,z];exact l,t,λi u c F H=>(v i u c F H).keep d R⟩
 |it sn cs=>
  obtain⟨q,f,W,J,T,l,t,v⟩:=h;obtain⟨z,C⟩:=y _ rfl;refine⟨by rw[d.aZ n m];exact d.my (ZT.1 l).1 q,by rw[d.aZ n m];exact λo=>C o (f o),W,J,T,by rw[d.aZ n m,z];exact l,t,λi u c F H=>(v i u c F H).keep d R⟩
 |fG T0 cs=>
  obtain⟨q,f,W,J,T,l,t,v⟩:=h;obtain⟨z,C⟩:=y _ rfl;refine⟨by rw[d.aZ n m];exact d.my (ZT.1 l).1 q,by rw[d.aZ n m];exact λo=>C o (f o),W,J,T,by rw[d.aZ n m,z];exact l,by rw[d.aZ n m];exact t,λi u c F H=>(v i u c F H).keep d R⟩
 |map kv=>
  obtain⟨q,f,es,c,l,t⟩:=h;obtain⟨z,C⟩:=y _ rfl;exact⟨by rw[d.aZ n m];exact d.my (ZT.1 l).1 q,by rw[d.aZ n m];exact λo=>C o (f o),es,c,by rw[d.aZ n m,z];exact l,t.keep d.S d.cell⟩
 |jx kv=>
  obtain⟨q,f,es,c,l,t⟩:=h;obtain⟨z,C⟩:=y _ rfl;exact⟨by rw[d.aZ n m];exact d.my (ZT.1 l).1 q,by rw[d.aZ n m];exact λo=>C o (f o),es,c,by rw[d.aZ n m,z];exact l,t.keep d.S d.cell⟩
 |jq e b=>
  obtain⟨q,hm,f⟩:=h;refine⟨f1.trans q,hm,?_⟩;rcases f with⟨f,h0,A,l⟩|⟨g,cap,E,f,l,t,v,h6,h7,h8,h9,aX⟩
  ·exact .inl ⟨M.trans f,h0,A,L.trans l⟩
  ·obtain⟨f5,f6⟩:=y g f;exact .inr ⟨g,cap,E,M.trans f,L.trans l,d.my (ZT.1 v).1 t,f5.trans v,h6,h7,h8,λo=>f6 o (h9 o),aX⟩
 |front e k len=>
  obtain⟨q,hm,f⟩:=h;refine⟨f1.trans q,hm,?_⟩;rcases f with⟨f,A,l⟩|⟨g,cap,E,f,l,t,v,h6,h7,h8,h9⟩
  ·exact .inl ⟨M.trans f,A,L.trans l⟩
  ·obtain⟨f5,f6⟩:=y g f;exact .inr ⟨g,cap,E,M.trans f,L.trans l,d.my (ZT.1 v).1 t,f5.trans v,h6,h7,h8,λo y=>f6 o (h9 o y)⟩
 |vec e k cs=>
  obtain⟨q,hm,hk,f⟩:=h;refine⟨f1.trans q,hm,hk,?_⟩;rcases f with⟨f,e2,A,l⟩|⟨g,cap,E,f,l,t,v,h6,h7,h8,h9,aX⟩
  ·exact .inl ⟨M.trans f,e2,A,L.trans l⟩
  ·obtain⟨f5,f6⟩:=y g f;exact .inr ⟨g,cap,E,M.trans f,L.trans l,d.my (ZT.1 v).1 t,f5.trans v,h6,h7,h8,λo=>f6 o (h9 o),λi j c x u H hx F=>(aX i j c x u H hx F).keep d R⟩
def dx.put{G:Gh}{w:Zz}{a:Act}{s:St}(h:dx G w a s){v:kd}{x:AV}(g:aO G w v x)(b:U Nat):dx G w (a.put b v) (s.put b x):=by
 cases b with
 |none=>exact h
 |some d=>
  by_cases c:d<s.n
  ·have e:s.put (some d) x={s with t:=(d,x)::s.t}:=tc c x;rw[e];refine⟨by simp [Act.put,h.size],λi=> ?_,h.inv,h.df⟩;by_cases f:i=d
   ·subst f;have:(a.tmps.setIfInBounds i v).getD i undef=v:=by simp [Array.getD,h.size,c]
    simp only[Act.put,this,mi,if_true];exact g
   ·have:(a.tmps.setIfInBounds d v).getD i undef=a.tmps.getD i undef:=by simp [Array.getElem?_setIfInBounds_ne (Ne.symm f)]
    simp only[Act.put,this,mi,ZN f];exact h.tmp i
  ·have e:s.put (some d) x=s:=Gs c x;have j:a.put (some d) v=a:=by
    have:a.tmps.setIfInBounds d v=a.tmps:=Array.setIfInBounds_eq_of_size_le (by rw[h.size];omega);simp [Act.put,this]
   rw[e,j];exact h
def dx.move{G G':Gh}{w w':Zz}{a:Act}{s:St}(h:dx G w a s)(b:cn G.N G w G' w')(c:G.N<=G'.N){h':I ar}(hi:cu G' w' h'):dx G' w' a {s with h:=h'}:=
 ⟨h.size,λi=>(h.tmp i).keep b c,hi,h.df.keep b⟩
def dx.ev{G:Gh}{w:Zz}{a:Act}{s:St}(h:dx G w a s)(x:Operand):aO G w (a.eval x) (ev s x):=by
 cases x with
 |tmp t=>exact h.tmp t
 |const v=>
  show aO G w v (Ta v);unfold Ta;split
  ·rename_i p
   exact .agg p _ (by simp) λi u c b k=>by
    simp only[Zm,ZF,b,YV,W2]at k;subst k;exact .d (.v u)
  ·rename_i p
   exact .bn p _ (by simp) λi u c b k=>by
    simp only[Zm,ZF,b,YV,W2]at k;subst k;exact .d (.v u)
  ·exact .d (.v v)
 |global g=>
  show aO G w (.pointer (some ⟨g,0,none⟩)) (match DX Ds g with|some l=>.bK [l.map .v] 0 0|none=>.dead);split
  ·next l z=>
   have y:=h.inv.gl.1 g l (Ya z);have:=aO.bK (G:=G) (w:=w) [l.map .v] 0 0 g 0 (λj=>l.getD j undef) (l.map .v) rfl (λj q=> ?_) (λj d m=> ?_);{exact this};{rw[Zq]at q;have e:l[j]?=some l[j]:=Zd q;rw[ZJ];refine⟨(y j _ e).1,?_⟩;rw[(y j _ e).2];simp [q]}
   ·rw[Zm]at m;cases e:l[j]? with
    |none=>rw[e]at m;cases m
    |some v=>
     rw[e]at m;cases m
     have:l.getD j undef=v:=by simp [List.getD,e]
     rw[this];exact .v v
  ·exact .dead _
 |func f=>exact .fn f #[] [] rfl λi u c b=>by simp at b
def Gh.dz(G:Gh)(b:Nat):Gh:={G with N:=G.N+1,aZ:=λn=>if n=G.N then b else G.aZ n}
def uf(G:Gh)(w:Zz)(c:∀b,G.Z b->b<w.heap.size)(d:∀b o,G.S b o->b<w.heap.size)(o:Obj):cn G.N G w (G.dz w.heap.size) (w.alloc o):=
 ⟨by simp,λ_ _ h=>h,λb _ h=>World.cell?_alloc_lt _ _ _ (d _ _ h),λn e=>by simp [Gh.dz,Nat.ne_of_lt e],λ_ _=>.inl ⟨rfl,rfl⟩,iO rfl,
  λb f=>Below.heap_alloc w o b (c b f),rfl,rfl,rfl,λ_ _ h=>.inl h⟩
def YA{G:Gh}{w:Zz}{h:I ar}(hi:cu G w h)(f:Array kd)(T:TypeId)(cs:I AV)(A:f.size=cs.length)
 (C:∀(i:Nat)(u:kd)(c:AV),f[i]?=some u->cs[i]?=some c->aO G w u c):
 cu (G.dz w.heap.size) (w.alloc (.cells f T)) (h++[.cells cs])/\aO (G.dz w.heap.size) (w.alloc (.cells f T)) (.pointer (some ⟨w.heap.size,0,none⟩)) (.ptr h.length 0):=by
 have j:=uf G w hi.z hi.S (.cells f T);have x:G.N<=(G.dz w.heap.size).N:=an _;have k:(G.dz w.heap.size).aZ h.length=w.heap.size:=by simp [Gh.dz,hi.len]
 have E:∀n(B:ar),n<G.N->B.eZ (G.dz w.heap.size) n=B.eZ G n:=λn B d=>by
  cases B<;>simp [ar.eZ,Gh.dz,Nat.ne_of_lt d]
 have F:∀n,n<G.N->ct (h++[.cells cs]) (G.dz w.heap.size) n=ct h G n:=λn d=>by
  have l:n<h.length:=by rw[hi.len];exact d
  unfold ct;rw[ZW l,Zd l];exact E n _ d
 have H:ct (h++[.cells cs]) (G.dz w.heap.size) h.length=some w.heap.size:=by
  rw[eJ (B:= .cells cs) (by simp)];exact congrArg some k
 refine⟨⟨by simp [Gh.dz,hi.len],λb q=>ZU (hi.z b q) j.size,λb o t=>ZU (hi.S b o t) j.size,λn B g=> ?_,λm n b J d=> ?_,hi.gl.keep j⟩,?_⟩
 ·by_cases d:n<h.length
  ·rw[ZW d]at g;have v:n<G.N:=hi.len▸d;exact e8.keep v j x ⟨rfl,rfl,rfl⟩ (λb q=>⟨Below.heap_alloc w _ _ (hi.iS (n:=n) ((eJ g).trans q)),λo h=>h⟩) (hi.dJ n B g)
  ·have L:n=h.length:=by
    have:=(Zk.1 g).1;simp at this;omega
   subst L;simp at g;subst g;exact⟨by rw[k];exact λM=>Yv _ (hi.z _ M),λo t=>by rw[k]at t;exact Yv _ (hi.S _ _ t),f,T,by rw[k];exact World.alloc_heap_new w _,A,λi u c R W=>(C i u c R W).keep j x⟩
 ·have p:∀n b,ct (h++[.cells cs]) (G.dz w.heap.size) n=some b->(n<G.N/\ct h G n=some b)\/(n=h.length/\b=w.heap.size):=λn b d=>by
   by_cases l:n<G.N;{exact .inl ⟨l,by rw[<-F n l];exact d⟩}
   ·by_cases e:n=h.length
    ·subst e;rw[H]at d;cases d;exact .inr ⟨rfl,rfl⟩
    ·rw[xr (Yz (by simp;have:=hi.len;omega))]at d;cases d
  rcases p m b J with⟨_,y⟩|⟨rfl,rfl⟩<;>rcases p n _ d with⟨_,v⟩|⟨rfl,q⟩
  ·exact hi.inj m n b y v
  ·have:=hi.iS y;omega
  ·have:=hi.iS v;omega
  ·rfl
 ·have:=aO.ptr (G:=G.dz w.heap.size) (w:=w.alloc (.cells f T)) h.length 0 (by simp [Gh.dz,hi.len])
  rwa [k]at this
def P4(w:Zz)(g:Nat)(cs:Array kd):(w.setRow g cs).heap.size=w.heap.size:=by simp [World.setRow]
def anX(w:Zz)(g:Nat)(cs:Array kd)(b o:Nat)(h:b≠g):(w.setRow g cs).cell? ⟨b,o,none⟩=w.cell? ⟨b,o,none⟩:=World.cell?_of_block (setRow_other w g b cs h)
def anE{G:Gh}{w:Zz}{g:Nat}(cs:Array kd)(c:¬G.Z g)(d:∀b o,G.S b o->(w.setRow g cs).cell? ⟨b,o,none⟩=w.cell? ⟨b,o,none⟩):cn G.N G w G (w.setRow g cs):=
 ⟨by rw[P4];exact Zr _,λ_ _ h=>h,d,λ_ _=>rfl,λ_ _=>.inl ⟨rfl,rfl⟩,iO rfl,λb f=>setRow_other w g b cs (λe=>c (e▸f)),rfl,rfl,rfl,λ_ _ h=>.inl h⟩
def Ic(cs ys:I AV)(off:Nat)(h:off+ys.length<=cs.length):(jM cs off ys).length=cs.length:=by
 simp [jM];omega
def anM{R:kd->AV->Prop}(e us:Array kd)(cs ys:I AV)(off:Nat)(k:e.size=cs.length)(l:us.size=ys.length)(q:off+ys.length<=cs.length)
 (g:∀(i:Nat)(u:kd)(c:AV),e[i]?=some u->cs[i]?=some c->R u c) (m:∀(i:Nat)(u:kd)(c:AV),us[i]?=some u->ys[i]?=some c->R u c):
 ∀(i:Nat)(u:kd)(c:AV),(e.toList.take off++us.toList++e.toList.drop (off+us.toList.length)).toArray[i]?=some u->(jM cs off ys)[i]?=some c->R u c:=by
 intro i u c b d;have f:us.toList.length=ys.length:=by rw[Z0,l]
 rw[f,List.getElem?_toArray]at b;unfold jM at d;simp only[ZP]at b d;have p:e.toList.length=cs.length:=by rw[Z0,k]
 by_cases h:i<off;{rw[ZW (by simp;omega),List.getElem?_take_of_lt h]at b;rw[ZW (by simp;omega),List.getElem?_take_of_lt h]at d;exact g i u c (by rw[<-ZF];exact b) d}
 ·rw[ZC (by simp;omega)]at b d;simp only[ae,p]at b d;rw[Nat.min_eq_left (by omega)]at b d;by_cases j:i-off<ys.length
  ·rw[ZW (by rw[f];exact j)]at b;rw[ZW j]at d;exact m (i-off) u c (by rw[<-ZF];exact b) d
  ·rw[ZC (by rw[f];omega),List.getElem?_drop]at b;rw[ZC (by omega),List.getElem?_drop]at d;rw[f]at b;rw[show off+ys.length+(i-off-ys.length)=i by omega]at b d;exact g i u c (by rw[<-ZF];exact b) d
def aq5{P:dg}{G:Gh}{w:Zz}{h:I ar}(hi:cu G w h){n off:Nat}{cs:I AV}(q:h[n]?=some (.cells cs)){t:TypeId}{v:kd}{x:AV}
 (hv:aO G w v x) (d:x.kW=true) (l:ZA P t=some x.cells.length) (A:off+x.cells.length<=cs.length):
 ∃w',(storeVar t ⟨G.aZ n,off,none⟩ v).run P w= .ok () w'/\cn G.N G w G w'/\cu G w' (h.set n (.cells (jM cs off x.cells))):=by
 obtain⟨M,W,p,T,hh,C,hr⟩:=hi.dJ n _ q;obtain⟨f,Ms⟩:=hv.cells d;obtain⟨i,lv,ma⟩:∃i,P.info? t=some i/\i.size=x.cells.length:=by
  unfold ZA at l;cases hq:P.info? t with
  |none=>rw[hq]at l;cases l
  |some i=>rw[hq]at l;exact⟨i,rfl,by simpa using l⟩
 have E:=run_storeCells_at P (G.aZ n) off T v.cells.toList 0 p w hh (by rw[Z0,f,C];simpa using A) (λu F=>by
  obtain⟨j,hj⟩:=List.mem_iff_getElem?.1 F;have iw:v.cells[j]?=some u:=by rw[<-ZF];exact hj
  have A2:j<x.cells.length:=by rw[<-f];exact(ZT.1 iw).1
  exact(Ms j u _ iw (Zd A2)).2)
 simp only[Nat.add_zero]at E;obtain⟨w',y⟩:∃w',w'=w.setRow (G.aZ n) (p.toList.take off++v.cells.toList++p.toList.drop (off+v.cells.toList.length)).toArray:=⟨_,rfl⟩;rw[<-y]at E;have g:cn G.N G w G w':=by
  rw[y];exact anE _ M λb o H=>anX w _ _ b o (λe=>W o (e▸H))
 have fD:∀m,m≠n->(h.set n (.cells (jM cs off x.cells)))[m]?=h[m]?:=λm hm=>by rw[Z3 (Ne.symm hm)]
 have nS:(h.set n (.cells (jM cs off x.cells)))[n]?=some (.cells (jM cs off x.cells)):=by
  rw[Z1 (Zk.1 q).1]
 have fp:∀m,ct (h.set n (.cells (jM cs off x.cells))) G m=ct h G m:=λm=>by
  by_cases e:m=n;{subst e;rw[eJ nS,eJ q];rfl};{unfold ct;rw[fD m e]}
 have np:ct h G n=some (G.aZ n):=eJ q;refine⟨w',?_,g,⟨by rw[YR];exact hi.len,λb d=>ZU (hi.z b d) g.size,λb o H=>ZU (hi.S b o H) g.size,λm B k=> ?_,λm m' b J L=>hi.inj m m' b (by rw[<-fp];exact J) (by rw[<-fp];exact L),hi.gl.keep g⟩⟩;{unfold storeVar;simp only[sizeOf,typeInfo,Sem.run_bind,f];simp [lv,ma,E]}
 ·by_cases e:m=n
  ·subst e;rw[nS]at k;cases k
   refine⟨M,W,_,T,by rw[y];exact setRow_heap w _ p _ T _ hh,?_,λi u c F hc=> ?_⟩
   ·rw[Ic _ _ _ A];have:v.cells.toList.length=x.cells.length:=by rw[Z0];exact f
    simp only[List.size_toArray,Zj,ae,ak,Z0,C,f];omega
   ·exact(anM (R:=aO G w) p v.cells cs x.cells off C f A hr (λi u c J L=>(Ms i u c J L).1) i u c F hc).keep g (Zr _)
  ·rw[fD m e]at k;have cX:∀b,ct h G m=some b->b≠G.aZ n:=λb d eb=>e (hi.inj m n b d (by rw[eb];exact np));refine e8.keep (hi.lt k) g (Zr _) ⟨rfl,rfl,rfl⟩ (λb d=>⟨?_,λo h=>h⟩) (hi.dJ m B k);rw[y];exact setRow_other w _ _ _ (cX _ ((eJ k).trans d))
def dY.rb{S:Nat->Nat->Prop}{w:Zz}{v:kd}{xs:I (I D)}(h:dY S w v (.sl xs)):
 ∃(A:U Addr)(b o c k:Nat)(u:Nat->Nat->kd),v= .slice A xs.length c/\(xs≠ []->A=some ⟨b,o,none⟩)/\xs.length<=c/\c<=maxLen/\(∀x∈xs,x.length=k)/\
  (∀i j,i<xs.length->j<k->S b (o+i*k+j)/\w.cell? ⟨b,o+i*k+j,none⟩=some (u i j)/\(u i j).oneCell'=true)/\
  (∀(i j:Nat)(x:I D)(d:D),xs[i]?=some x->x[j]?=some d->dY S w (u i j) d):=by
 cases h with
 |sl A b o c k xs u e f g l m p=>exact⟨A,b,o,c,k,u,rfl,e,f,g,l,m,p⟩
structure Rd(S:Nat->Nat->Prop)(w:World)(k:Nat)(xs:List (List D))(us:List Value):Prop where
 len:us.length=xs.length*k
 wid:∀x∈xs,x.length=k
 one:∀u∈us,u.oneCell'=true
 rel:∀(i j:Nat)(x:List D)(d:D),xs[i]?=some x->x[j]?=some d->∃u,us[i*k+j]?=some u/\dY S w u d
def Rd.keep{S S':Nat->Nat->Prop}{w w':Zz}{k:Nat}{xs:I (I D)}{us:I kd}(h:Rd S w k xs us)(c:∀b o,S b o->S' b o)(e:∀b o,S b o->w'.cell? ⟨b,o,none⟩=w.cell? ⟨b,o,none⟩):Rd S' w' k xs us:=
 ⟨h.len,h.wid,h.one,λi j x d f g=>let ⟨u,l,m⟩:=h.rel i j x d f g;⟨u,l,m.keep c e⟩⟩
def Rd.append{S:Nat->Nat->Prop}{w:Zz}{k:Nat}{xs ys:I (I D)}{us l:I kd}(h:Rd S w k xs us)(h':Rd S w k ys l):Rd S w k (xs++ys) (us++l):=by
 refine⟨by rw[Zj,Zj,h.len,h'.len,YF],λx b=> ?_,λu c=> ?_,λi j x d b m=> ?_⟩
 ·rcases ZE.1 b with b|b
  ·exact h.wid x b
  ·exact h'.wid x b
 ·rcases ZE.1 c with c|c
  ·exact h.one u c
  ·exact h'.one u c
 ·by_cases p:i<xs.length
  ·rw[ZW p]at b;obtain⟨u,f,g⟩:=h.rel i j x d b m;exact⟨u,by rw[ZW (Zk.1 f).1];exact f,g⟩
  ·rw[ZC (by omega)]at b;obtain⟨u,f,g⟩:=h'.rel (i-xs.length) j x d b m;refine⟨u,?_,g⟩;have e:i*k+j=xs.length*k+((i-xs.length)*k+j):=by rw[Nat.sub_mul];have:=Xw k (Nat.le_of_not_lt p);omega
   rw[e,ZC (by rw[h.len];omega),h.len,Nat.add_sub_cancel_left];exact f
def Rd.HG{S:Nat->Nat->Prop}{w:Zz}{k:Nat}{xs:I (I D)}{us:I kd}(h:Rd S w k xs us)(b c:Nat)(g:xs.length<=c)(l:c<=maxLen)
 (m:∀o,o<xs.length*k->S b o) (p:∀(o:Nat)(u:kd),us[o]?=some u->w.cell? ⟨b,o,none⟩=some u):dY S w (.slice (some ⟨b,0,none⟩) xs.length c) (.sl xs):=by
 refine .sl _ b 0 c k xs (λi j=>us.getD (i*k+j) undef) (λ_=>rfl) g l h.wid (λi j q A=> ?_) (λi j x d t v=> ?_)
 ·have e:i*k+j<xs.length*k:=by
   have:(i+1)*k<=xs.length*k:=Xw k q;rw[YF]at this;omega
  have f:us[i*k+j]?=some (us[i*k+j]'(by rw[h.len];exact e)):=Zd (by rw[h.len];exact e);rw[ZJ];refine⟨m _ e,?_,?_⟩;{rw[p _ _ f];simp [f]};{simp only[List.getD_eq_getElem?_getD,f,Option.getD_some];exact h.one _ (List.getElem_mem _)}
 ·obtain⟨u,y,z⟩:=h.rel i j x d t v;simp only[List.getD_eq_getElem?_getD,y,Option.getD_some];exact z
def dY.rd{S:Nat->Nat->Prop}{w:Zz}{v:kd}{xs:I (I D)}{k:Nat}(h:dY S w v (.sl xs))(m:0<k)(p:∀x∈xs,x.length=k):
 ∃us,Rd S w k xs us/\∃A c,v= .slice A xs.length c/\xs.length<=c/\c<=maxLen/\(xs≠ []->∃b o,A=some ⟨b,o,none⟩/\∀(j:Nat)(u:kd),us[j]?=some u->S b (o+j)/\w.cell? ⟨b,o+j,none⟩=some u):=by
 obtain⟨A,b,o,c,k',u,rfl,E,q,y,F,z,H⟩:=h.rb;by_cases f:xs=[];{subst f;exact⟨[],⟨by simp,(λ_ h=>by cases h),(λ_ h=>by cases h),λi j x d f=>by simp at f⟩,A,c,rfl,q,y,λh=>absurd rfl h⟩}
 ·have J:k'=k:=by
   obtain⟨x,B⟩:=List.exists_mem_of_ne_nil xs f;rw[<-F x B,p x B]
  subst J;refine⟨(List.range (xs.length*k')).map λt=>u (t / k') (t%k'),⟨by simp,p,λv g=> ?_,λi j x d f C=> ?_⟩,A,c,rfl,q,y,λL=>⟨b,o,E L,λj v g=> ?_⟩⟩;{obtain⟨t,M,rfl⟩:=W1.1 g;have N:=List.mem_range.1 M;exact(z (t / k') (t%k') (Nat.div_lt_of_lt_mul (by rw[Nat.mul_comm];exact N)) (Nat.mod_lt _ m)).2.2}
  ·have l:j<k':=by rw[<-p x (ZX f)];exact(Zk.1 C).1
   have R:i<xs.length:=(Zk.1 f).1;refine⟨u i j,?_,H i j x d f C⟩;have T:i*k'+j<xs.length*k':=by
    have:(i+1)*k'<=xs.length*k':=Xw k' R;rw[YF]at this;omega
   rw[Zm,List.getElem?_range T];simp only[YV,W2];rw[show(i*k'+j)/ k'=i by rw[Nat.add_comm,Nat.add_mul_div_right _ _ m,Nat.div_eq_of_lt l,ZJ],show(i*k'+j)%k'=j by rw[Nat.add_comm,Nat.add_mul_mod_self_right,Nat.mod_eq_of_lt l]]
  ·rw[Zm]at g;by_cases l:j<xs.length*k'
   ·rw[List.getElem?_range l]at g;simp only[YV,W2]at g;subst g;have:=z (j / k') (j%k') (Nat.div_lt_of_lt_mul (by rw[Nat.mul_comm];exact l)) (Nat.mod_lt _ m);have e:o+j / k'*k'+j%k'=o+j:=by have:=Nat.div_add_mod j k';rw[Nat.mul_comm]at this;omega
    rw[e]at this;exact⟨this.1,this.2.1⟩
   ·rw[Yz (by simp;omega)]at g;cases g
def dY.src{P:dg}{S:Nat->Nat->Prop}{w:Zz}{v:kd}{xs:I (I D)}{k:Nat}(h:dY S w v (.sl xs))(i:0<k)(l:∀x∈xs,x.length=k){tx e':TypeId}(f:P.underlying tx=some (.slice e')):
 ∃us,Rd S w k xs us/\Src P k tx v xs.length us w:=by
 obtain⟨us,e,A,c,rfl,_,_,m⟩:=h.rd i l;refine⟨us,e,?_⟩;by_cases g:xs=[]
 ·subst g;have p:us=[]:=W7 (by rw[e.len];simp);subst p;cases A with
  |none=>exact Src.ofNil w f c
  |some a=>exact Src.ofSlice w f a 0 c [] (by simp) (λj u d=>by simp at d) (λu d=>by cases d)
 ·obtain⟨b,o,rfl,q⟩:=m g;exact Src.ofSlice w f _ _ c us e.len (λj u d=>by rw[nm];exact(q j u d).2) e.one
def Gh.jf(G:Gh)(v:kd)(len:Nat):Gh:={G with N:=G.N+1,sg:=λn=>if n=G.N then v else G.sg n,fl:=λn=>if n=G.N then len else G.fl n,ow:=λn=>if n=G.N then none else G.ow n}
def Q7{G:Gh}{w:Zz}{h:I ar}(hi:cu G w h){v:kd}{xs:I (I D)}(t:dY G.S w v (.sl xs))(y:∃A,v= .slice A xs.length xs.length)(e:TypeId)(k:Nat):
 cn G.N G w (G.jf v xs.length) w/\G.N<=(G.jf v xs.length).N/\cu (G.jf v xs.length) w (h++[.front e k xs.length])/\aO (G.jf v xs.length) w v (.own h.length xs):=by
 have i:∀n,n<G.N->n≠G.N:=λn d=>Nat.ne_of_lt d;have p:cn G.N G w (G.jf v xs.length) w:=⟨Zr _,λ_ _ h=>h,λ_ _ _=>rfl,λ_ _=>rfl,λn d=>.inl ⟨by simp [Gh.jf,i n d],by simp [Gh.jf,i n d]⟩,iO rfl,λ_ _=>rfl,rfl,rfl,rfl,λ_ _ h=>.inl h⟩;have x:G.N<=(G.jf v xs.length).N:=an _;have q:xs.length<=maxLen:=by
  obtain⟨A,b,o,c,R,u,_,_,C,E,_⟩:=t.rb;exact Za C E
 have F:∀n(B:ar),n<G.N->B.eZ (G.jf v xs.length) n=B.eZ G n:=λn B d=>by
  cases B<;>simp [ar.eZ,Gh.jf,Nat.ne_of_lt d]
 have f:∀n b,ct (h++[.front e k xs.length]) (G.jf v xs.length) n=some b->ct h G n=some b:=λn b g=>by
  by_cases d:n<h.length;{unfold ct at g ⊢;rw[ZW d,Zd d]at g;rw[Zd d,<-g];exact(F n _ (hi.len▸d)).symm}
  ·by_cases H:n=h.length
   ·subst H;rw[eJ (B:= .front e k xs.length) (by simp)]at g;simp [ar.eZ,Gh.jf,hi.len]at g
   ·rw[xr (Yz (by simp;omega))]at g;cases g
 refine⟨p,x,⟨by simp [Gh.jf,hi.len],hi.z,hi.S,λn B j=> ?_,λm n b J d=>hi.inj m n b (f m b J) (f n b d),hi.gl.keep p⟩,?_⟩
 ·by_cases d:n<h.length
  ·rw[ZW d]at j;have l:n<G.N:=hi.len▸d;exact e8.keep l p x ⟨by simp [Gh.jf,i n l],by simp [Gh.jf,i n l],by simp [Gh.jf,i n l]⟩ (λb g=>⟨rfl,λo h=>h⟩) (hi.dJ n B j)
  ·have L:n=h.length:=by
    have:=(Zk.1 j).1;simp at this;omega
   subst L;simp at j;subst j;obtain⟨A,M⟩:=y;exact⟨by simp [Gh.jf,hi.len],q,.inl ⟨by simp [Gh.jf,hi.len],A,by simp [Gh.jf,hi.len,M]⟩⟩
 ·exact .own h.length xs (by simp [Gh.jf,hi.len]) t (by simp [Gh.jf,hi.len]) (λ_=>by simp [Gh.jf,hi.len])
def S8{P:dg}{e k b:Nat}(c:ZA P e=some k)(d:tu P e=some b):∃i,P.info? e=some i/\i.size=k/\i.bytes=b:=by
 unfold ZA at c;unfold tu at d;cases f:P.info? e with
 |none=>rw[f]at c;cases c
 |some i=>rw[f]at c d;exact⟨i,rfl,by simpa using c,by simpa using d⟩
def Gh.grow(G:Gh)(n:Nat)(S:Nat->Nat->Prop)(v:kd)(len:Nat)(ow:U Nat):Gh:={G with S:=S,sg:=λm=>if m=n then v else G.sg m,fl:=λm=>if m=n then len else G.fl m,ow:=λm=>if m=n then ow else G.ow m}
def YP{G:Gh}{w w':Zz}{h:I ar}(hi:cu G w h){n e k len c:Nat}(H:h[n]?=some (.front e k len))(S:Nat->Nat->Prop)(v:kd)(g:Nat)
 (x:cn G.N G w (G.grow n S v c (some g)) w') (y:g=w.heap.size\/G.ow n=some g) (C:g<w'.heap.size)
 (J:∀b o,S b o->G.S b o\/b=g) (T:∀b,b<w.heap.size->b≠g->w'.heap[b]?=w.heap[b]?)
 (W:e8 (G.grow n S v c (some g)) w' n (.front e k c)):cu (G.grow n S v c (some g)) w' (h.set n (.front e k c)):=by
 have L:∀m,m≠n->(h.set n (.front e k c))[m]?=h[m]?:=λm d=>by rw[Z3 (Ne.symm d)]
 have E:(h.set n (.front e k c))[n]?=some (.front e k c):=by rw[Z1 (Zk.1 H).1]
 have mh:∀m(B:ar),m≠n->B.eZ (G.grow n S v c (some g)) m=B.eZ G m:=λm B d=>by
  cases B<;>simp [ar.eZ,Gh.grow,d]
 have A:∀m,m≠n->ct (h.set n (.front e k c)) (G.grow n S v c (some g)) m=ct h G m:=λm d=>by
  unfold ct;rw[L m d];cases h[m]? with
  |none=>rfl
  |some B=>exact mh m B d
 have F:∀m,m≠n->ct h G m≠some g:=λm d j=>by
  rcases y with y|y
  ·have:=hi.iS j;omega
  ·exact d (hi.inj m n g j ((eJ H).trans y))
 refine⟨by rw[YR];exact hi.len,λb j=>ZU (hi.z b j) x.size,λb o f=> ?_,λm B d=> ?_,λm i b l p=> ?_,hi.gl.keep x⟩
 ·rcases J b o f with f|f
  ·exact ZU (hi.S b o f) x.size
  ·rw[f];exact C
 ·by_cases q:m=n
  ·subst q;rw[E]at d;cases d;exact W
  ·rw[L m q]at d;refine e8.keep (hi.lt d) x (Zr _) ⟨by simp [Gh.grow,q],by simp [Gh.grow,q],by simp [Gh.grow,q]⟩ (λb j=> ?_) (hi.dJ m B d);have M:ct h G m=some b:=(eJ d).trans j;have R:b≠g:=λe'=>F m q (by rw[M,e']);refine⟨T _ (hi.iS M) R,λo kL f=> ?_⟩;rcases J _ o f with f|f
   ·exact kL f
   ·exact R f
 ·by_cases t:m=n<;>by_cases u:i=n
  ·rw[t,u]
  ·subst t;rw[A i u]at p;have:ct (h.set m (.front e k c)) (G.grow m S v c (some g)) m=some g:=by rw[eJ E];simp [ar.eZ,Gh.grow]
   rw[this]at l;cases l;exact absurd p (F i u)
  ·subst u;rw[A m t]at l;have:ct (h.set i (.front e k c)) (G.grow i S v c (some g)) i=some g:=by rw[eJ E];simp [ar.eZ,Gh.grow]
   rw[this]at p;cases p;exact absurd l (F m t)
  ·rw[A m t]at l;rw[A i u]at p;exact hi.inj m i b l p
set_option maxHeartbeats 1000000 in
def YW{P:dg}{G:Gh}{w:Zz}{h:I ar}(hi:cu G w h){T tx ty e k dy:Nat}{i:TypeInfo}{z:kd}(hT:P.underlying T=some (.slice e))(mD:P.info? e=some i)(hz:i.zero=some z)(oK:i.size=k)(Ap:i.bytes=dy)(lK:z.cells.size=k)
 (gF:0<k) {n:Nat} {xs ys:I (I D)} (M:h[n]?=some (.front e k xs.length)) {u v:kd} (R:aO G w u (.own n xs)) (pE:∀x∈xs,x.length=k)
 {us:I kd} (hr:Rd G.S w k ys us) (d:Src P k tx v ys.length us w) (zj:xs.length+ys.length<=maxLen) (rK:(xs.length+ys.length)*dy<=140737488355328):
 ∃r w' G',(Builtin.append_ #[T,tx] ty #[u,v]).run P w= .ok r w'/\cn G.N G w G' w'/\G.N<=G'.N/\cu G' w' (h.set n (.front e k (xs.length+ys.length)))/\aO G' w' r (.own n (xs++ys)):=by
 subst oK;subst Ap;have qJ:=hi.lt M;obtain⟨nG,hml,hbr⟩:=hi.dJ n _ M;obtain⟨hp,huf⟩:dY G.S w u (.sl xs)/\u=G.sg n:=by
  cases R with
  |own _ _ _ hp t hf=>exact⟨hp,hf nG.symm⟩
 obtain⟨f,Dk,A,c,W,mr,Ao,hA⟩:=hp.rd gF pE;have TA:h.set n (.front e i.size (xs.length+0))=h:=by
  rw[Nat.add_zero];refine List.ext_getElem? λm=> ?_;by_cases C:m=n
  ·subst C;rw[Z1 (Zk.1 M).1,M]
  ·rw[Z3 (Ne.symm C)]
 by_cases hy:ys.length=0;{have kY:ys=[]:=W7 hy;subst kY;have nv:us=[]:=W7 (by rw[hr.len];simp);subst nv;have:=run_append_nothing (P:=P) w T tx ty e i hT mD A xs.length c mr v d;refine⟨u,w,G,by rw[W];exact this,cn.refl _ _ _,Zr _,?_,by rw[ZV];exact R⟩;simp only[Zc];rw[TA];exact hi}
 ·have XT:0<ys.length:=Nat.pos_of_ne_zero hy;have QZ:xs.length+ys.length<=9223372036854775807:=by simp only[maxLen]at zj;omega
  have Uc:Rd G.S w i.size (xs++ys) (f++us):=Dk.append hr;have F:c<xs.length+ys.length->∃r w' G',(Builtin.append_ #[T,tx] ty #[u,v]).run P w= .ok r w'/\cn G.N G w G' w'/\G.N<=G'.N/\cu G' w' (h.set n (.front e i.size (xs.length+ys.length)))/\aO G' w' r (.own n (xs++ys)):=by
   intro hg;have hold:(Builtin.firstCells i.size xs.length (.slice A xs.length c)).run P w.drew= .ok f.toArray w.drew:=by
    by_cases hx:xs=[]
    ·subst hx;have:f=[]:=W7 (by rw[Dk.len];simp);subst this;cases A with
     |none=>exact run_firstCells_none _ _ _ _ _
     |some a=>exact run_firstCells_some _ _ _ _ _ _ [] (by simp) (λj u R=>by simp at R)
    ·obtain⟨b,o,rfl,hc⟩:=hA hx;exact run_firstCells_some _ _ _ _ _ _ f Dk.len (λj u R=>by rw[nm];exact(hc j u R).2)
   have H:=run_append_grow_src (P:=P) w T tx ty e i z hT mD hz A xs.length c f hold v ys.length us d hg (by omega) (growslice_fits hg rK);obtain⟨cap,la⟩:∃cap,cap=grownCap w (xs.length+ys.length) c e:=⟨_,rfl⟩;have lu:xs.length+ys.length<=cap:=by rw[la];exact grownCap_ge _ _ _ _
   have t:cap<=maxLen:=by rw[la];exact grownCap_le_maxLen _ _ _ _ zj
   rw[<-la]at H;obtain⟨cur,lA⟩:∃cur,cur=(f++us).toArray++Builtin.zeroCells z.cells (cap-(xs.length+ys.length)):=⟨_,rfl⟩;rw[<-lA]at H;obtain⟨w',E⟩:∃w',w'=w.drew.alloc (.cells cur e):=⟨_,rfl⟩;rw[<-E]at H;have iF:cur.size=cap*i.size:=by
     have:=size_zeroCells z.cells (cap-(xs.length+ys.length));rw[lA,Array.size_append,this,List.size_toArray,Uc.len,lK,Zj,<-YF]
     congr 1
     omega
   have gn:w'.heap[w.heap.size]?=some (.cells cur e (0,0)):=by rw[E];exact World.alloc_heap_new w.drew _
   have Rg:∀b,b<w.heap.size->w'.heap[b]?=w.heap[b]?:=λb y=>by rw[E];exact Below.heap_alloc w.drew _ b y
   have iR:w'.heap.size=w.heap.size+1:=by rw[E];simp
   obtain⟨S,q⟩:∃S:Nat->Nat->Prop,S=λb o=>G.S b o\/(b=w.heap.size/\o<(xs.length+ys.length)*i.size):=⟨_,rfl⟩;have je:∀b o,G.S b o->w'.cell? ⟨b,o,none⟩=w.cell? ⟨b,o,none⟩:=λb o d=>World.cell?_of_block (Rg b (hi.S b o d));have hE:cn G.N G w (G.grow n S (.slice (some ⟨w.heap.size,0,none⟩) (xs.length+ys.length) cap) (xs.length+ys.length) (some w.heap.size)) w':=
    ⟨by rw[iR];exact an _,λb o h=>by show S b o;rw[q];exact .inl h,je,λ_ _=>rfl,
     λm _=>by
      by_cases C:m=n;{right;subst C;simp only[Gh.grow,if_true,nG];omega}
      ·left;exact⟨by simp [Gh.grow,C],by simp [Gh.grow,C]⟩,
     iO rfl,λb y=>Rg b (hi.z b y),by rw[E];rfl,by rw[E];rfl,by rw[E];rfl,λb o d=>by
      have p:S b o:=d;rw[q]at p;rcases p with h|⟨rfl,_⟩
      ·exact .inl h
      ·exact .inr λhz=>Yv _ (hi.z _ hz)⟩
   have hP:dY S w' (.slice (some ⟨w.heap.size,0,none⟩) (xs++ys).length cap) (.sl (xs++ys)):=by
    refine(Uc.keep (S':=S) (w':=w') (λb o h=>by rw[q];exact .inl h) je).HG w.heap.size cap (by rw[Zj];exact lu) t (λo l=>by rw[q];exact .inr ⟨rfl,by rw[Zj]at l;exact l⟩) (λo x l=> ?_);rw[cell_of_row w' w.heap.size o cur e (0,0) gn,lA,Array.getElem?_append_left (by simp only[List.size_toArray];exact(Zk.1 l).1),List.getElem?_toArray];exact l
   rw[Zj]at hP;refine⟨_,w',_,by rw[W];exact H,hE,Zr _,YP hi M S _ w.heap.size hE (.inl rfl) (by rw[iR];exact Yu _) (λb o d=> ?_) (λb y _=>Rg b y) ?_,?_⟩;{rw[q]at d;exact d.imp id And.left}
   ·refine⟨by simp [Gh.grow],zj,.inr ⟨w.heap.size,cap,cur,by simp [Gh.grow],by simp [Gh.grow],λhz=>Yv _ (hi.z _ hz),gn,lu,t,iF,λo l d=> ?_⟩⟩;have p:S w.heap.size o:=d;rw[q]at p;rcases p with p|⟨_,p⟩
    ·have:=hi.S _ _ p;omega
    ·omega
   ·exact .own n (xs++ys) qJ hP (by simp [Gh.grow]) (λ_=>by simp [Gh.grow])
  rcases hbr with⟨iP,A',lh⟩|⟨g,cap,cur,iP,lh,Oc,sC,TY,Se,hb7,hb8⟩
  ·refine F ?_;rw[huf,lh]at W;cases W
   omega
  ·have aeX:=W;rw[huf,lh]at aeX;injection aeX with eA0 _ e1;have e2:=e1.symm;subst e2;subst eA0;by_cases ta:xs.length+ys.length<=c
   ·
    have nw:xs.length*i.size+us.length<=cur.size:=by rw[hr.len,hb7,<-YF];exact Xw _ ta
    have Gt:∀o,w.cell? ⟨g,o,none⟩=cur[o]?:=λo=>cell_of_row w g o cur e (0,0) sC;have C5:∀j,j<us.length->(w.cell? ⟨g,0+xs.length*i.size+j,none⟩).isSome=true:=λj hj=>by
     rw[Gt,ZJ,ZH (by omega)];rfl
    have H:=run_append_room_src (P:=P) w T tx ty e i hT mD g 0 xs.length c v ys.length us d ta C5
     (λj hj=>by unfold World.frozen?;rw[sC];simp)
    rw[ZJ]at H C5;obtain⟨w',E⟩:∃w',w'=w.setCells g (xs.length*i.size) us:=⟨_,rfl⟩;rw[<-E]at H;have alu:g<w.heap.size:=(ZT.1 sC).1;have mL:=run_storeCells_at P g (xs.length*i.size) e us 0 cur w sC (by simpa using nw) d.one;have yf:=run_storeCells_cells (P:=P) g (xs.length*i.size) us 0 w (by simpa using C5) (λj hj=>by unfold World.frozen?;rw[sC];simp) d.one;simp only[Nat.add_zero]at mL yf;rw[mL]at yf;have J:w'=w.setRow g (cur.toList.take (xs.length*i.size)++us++cur.toList.drop (xs.length*i.size+us.length)).toArray:=by
      rw[E];injection yf with _ e2;exact e2.symm
    obtain⟨B,Sf⟩:∃B:Array kd,B=(cur.toList.take (xs.length*i.size)++us++cur.toList.drop (xs.length*i.size+us.length)).toArray:=⟨_,rfl⟩;rw[<-Sf]at J;have qC:w'.heap[g]?=some (.cells B e (0,0)):=by rw[J];exact setRow_heap w g cur B e _ sC
    have jO:∀b,b≠g->w'.heap[b]?=w.heap[b]?:=λb y=>by rw[J];exact setRow_other w g b B y
    have iR:w'.heap.size=w.heap.size:=by rw[J];exact P4 w g B
    have gP:∀o,B[o]?=if o<xs.length*i.size then cur[o]? else if o<xs.length*i.size+us.length then us[o-xs.length*i.size]? else cur[o]?:=λo=>by
     rw[Sf,List.getElem?_toArray,ZP];have hl:cur.toList.length=cur.size:=Z0;by_cases L:o<xs.length*i.size;{rw[ZL L,ZW (by simp;omega),List.getElem?_take_of_lt L,ZF]}
     ·rw[ZN L,ZC (by simp;omega)];simp only[ae,hl];rw[Nat.min_eq_left (by omega)];by_cases h2:o<xs.length*i.size+us.length
      ·rw[ZL h2,ZW (by omega)]
      ·rw[ZN h2,ZC (by omega),List.getElem?_drop,show xs.length*i.size+us.length+(o-xs.length*i.size-us.length)=o by omega,ZF]
    have anl:B.size=cur.size:=by
     rw[Sf];simp only[List.size_toArray,Zj,ae,ak,Z0];omega
    have je:∀b o,G.S b o->w'.cell? ⟨b,o,none⟩=w.cell? ⟨b,o,none⟩:=λb o d=>by
     by_cases eb:b=g;{subst eb;have l:o<xs.length*i.size:=Nat.lt_of_not_le λt=>hb8 o t d;rw[Gt,cell_of_row w' b o B e (0,0) qC,gP,ZL l]};{exact World.cell?_of_block (jO b eb)}
    obtain⟨S,q⟩:∃S:Nat->Nat->Prop,S=λb o=>G.S b o\/(b=g/\o<(xs.length+ys.length)*i.size):=⟨_,rfl⟩;have hE:cn G.N G w (G.grow n S (.slice (some ⟨g,0,none⟩) (xs.length+ys.length) c) (xs.length+ys.length) (some g)) w':=
     ⟨by rw[iR];exact Zr _,λb o h=>by show S b o;rw[q];exact .inl h,je,λ_ _=>rfl,
      λm _=>by
       by_cases C:m=n;{right;subst C;simp only[Gh.grow,if_true,nG];omega}
       ·left;exact⟨by simp [Gh.grow,C],by simp [Gh.grow,C]⟩,
      iO rfl,λb y=>jO b (λe=>Oc (e▸y)),by rw[J];rfl,by rw[J];rfl,by rw[J];rfl,λb o d=>by
       have p:S b o:=d;rw[q]at p;rcases p with h|⟨rfl,_⟩
       ·exact .inl h
       ·exact .inr Oc⟩
    have hP:dY S w' (.slice (some ⟨g,0,none⟩) (xs++ys).length c) (.sl (xs++ys)):=by
     refine(Uc.keep (S':=S) (w':=w') (λb o h=>by rw[q];exact .inl h) je).HG g c (by rw[Zj];exact ta) Se (λo l=>by rw[q];exact .inr ⟨rfl,by rw[Zj]at l;exact l⟩) (λo x l=> ?_);rw[cell_of_row w' g o B e (0,0) qC,gP];have lN:f.length=xs.length*i.size:=Dk.len;by_cases L:o<xs.length*i.size
     ·rw[ZL L];rw[ZW (by omega)]at l;have hx:xs≠ []:=λe=>by subst e;simp at L
      obtain⟨b,o',eA,hc⟩:=hA hx;cases eA
      have:=(hc o x l).2;rw[ZJ,Gt]at this;exact this
     ·rw[ZN L];rw[ZC (by omega),lN]at l;have:=(Zk.1 l).1;rw[ZL (by omega)];exact l
    rw[Zj]at hP;refine⟨_,w',_,by rw[W];exact H,hE,Zr _,YP hi M S _ g hE (.inr iP) (by rw[iR];exact alu) (λb o d=> ?_) (λb _ y=>jO b y) ?_,?_⟩;{rw[q]at d;exact d.imp id And.left}
    ·refine⟨by simp [Gh.grow],zj,.inr ⟨g,c,B,by simp [Gh.grow],by simp [Gh.grow],Oc,qC,ta,Se,by rw[anl,hb7],λo l d=> ?_⟩⟩;have p:S g o:=d;rw[q]at p;rcases p with p|⟨_,p⟩
     ·exact hb8 o (Za (Xw _ (Yh _ _)) l) p
     ·omega
    ·exact .own n (xs++ys) qJ hP (by simp [Gh.grow]) (λ_=>by simp [Gh.grow])
   ·exact F (by omega)
def WF(r:U Nat):Fence:={Fence.wide with round:=r}
def jw(N0:Nat)(G:Gh)(w:Zz)(K:St->Prop)(a':Act)(w':Zz):Prop:=∃G' b,cn N0 G w G' w'/\N0<=G'.N/\dx G' w' a' b/\K b
section
variable {P:dg} {r:U Nat} {n N0:Nat} {G:Gh} {w:Zz} {a:Act} {s:St} {o:Oper} {K:St->Prop} {Q:Exit->Act->Zz->Prop}
def nC(f:∀c,o.op≠ .defer c)(g:dx G w a s)(b:N0<=G.N){v:kd}{x:AV}{w':Zz}{G':Gh}{h':I ar}(i:(execOp a.eval o).run P w= .ok (.value v) w')
 (d:cn G.N G w G' w') (e:G.N<=G'.N) (hi:cu G' w' h') (j:aO G' w' v x) (k:K ((s.wh h').put o.dst x)):o.wpIn (WF r) n P a w (jw N0 G w K) Q:=by
 refine⟨λ_ _=>trivial,?_⟩;rw[Oper.semAt_eq _ _ _ f,i];exact⟨G',_,d.less b,Za b e,(g.move d e hi).put j o.dst,k⟩
def gx(d:∀c,o.op≠ .defer c)(b:dx G w a s)(e:N0<=G.N){v:kd}{x:AV}(f:(execOp a.eval o).run P w= .ok (.value v) w)(g:aO G w v x)(i:K (s.put o.dst x)):
 o.wpIn (WF r) n P a w (jw N0 G w K) Q:=
 nC d b e f (cn.refl _ _ _) (Zr _) b.inv g i
def V8(g:∀c,o.op≠ .defer c)(i:dx G w a s)(b:N0<=G.N){w':Zz}{G':Gh}{h':I ar}(j:(execOp a.eval o).run P w= .ok .skip w')
 (e:cn G.N G w G' w') (f:G.N<=G'.N) (hi:cu G' w' h') (k:K ((s.wh h').put o.dst (.d (.v undef)))):o.wpIn (WF r) n P a w (jw N0 G w K) Q:=by
 refine⟨λ_ _=>trivial,?_⟩;rw[Oper.semAt_eq _ _ _ g,j];exact⟨G',_,e.less b,Za b f,(i.move e f hi).put (.d (.v undef)) o.dst,k⟩
def YO{t k:Nat}(h:ZA P t=some k):∃i,P.info? t=some i/\i.size=k:=by
 unfold ZA at h;cases b:P.info? t with
 |none=>rw[b]at h;cases h
 |some i=>rw[b]at h;exact⟨i,rfl,by simpa using h⟩
def N3{t:Nat}{z:kd}(h:jz P t=some z):∃i,P.info? t=some i/\i.zero=some z:=by
 unfold jz at h;cases b:P.info? t with
 |none=>rw[b]at h;cases h
 |some i=>rw[b]at h;exact⟨i,rfl,by simpa using h⟩
def GD{t:Nat}{z:kd}(h:jz P t=some z)(w:Zz):(zeroValue t).run P w= .ok z w:=by
 obtain⟨i,b,c⟩:=N3 h;simp [zeroValue,typeInfo,b,c]
def nK{t k:Nat}(h:ZA P t=some k)(w:Zz):(sizeOf t).run P w= .ok k w:=by
 obtain⟨i,b,c⟩:=YO h;simp [sizeOf,typeInfo,b,c]
def E7{t:Nat}{g:Bool}(h:nL P t=some g)(w:Zz):(isAgg t).run P w= .ok g w:=by
 unfold nL at h;cases b:P.underlying t with
 |none=>rw[b]at h;cases h
 |some d=>
  rw[b]at h;unfold isAgg;rw[Sem.run_bind,run_underlying b w];simp only[YV,W2]at h;subst h;cases d<;>rfl
def asa{t:Nat}(h:nL P t=some true):∃d,P.underlying t=some d/\d.isRow=true:=by
 unfold nL at h;cases b:P.underlying t with
 |none=>rw[b]at h;cases h
 |some d=>rw[b]at h;refine⟨d,rfl,?_⟩;cases d<;>simp_all [TypeDesc.isRow]
def YM{t:Nat}{C:AV->Prop}:∀(b o:Nat)(cs:I AV)(off:Nat)(us:Nat->kd),(∀j,j<cs.length->w.cell? ⟨b,o+j,none⟩=some (us j))->(∀(j:Nat)(c:AV),cs[j]?=some c->aO G w (us j) c)->
 (match nL P t,ZA P t with
  |some true,some k=>gO (cG (off+k) cs.length) (C (.agg ((cs.drop off).take k)))
  |some false,some _=>match cs[off]? with
   |some c=>C c
   |none=>False
  |_,_=>False)->∃u x,(loadVar t ⟨b,o+off,none⟩).run P w= .ok u w/\aO G w u x/\C x:=by
 intro b o cs off us p q g;split at g
 ·rename_i k m v
  obtain⟨l,y⟩:=cv.1 g;rw[dS]at l;obtain⟨d,z,A⟩:=asa m;have B:((List.range k).map λj=>us (off+j)).length=k:=by simp
  have E:=run_loadVar_mid (P:=P) w b (o+off) t ((List.range k).map λj=>us (off+j)) d (λj u e=>by
   rw[Zm]at e;by_cases F:j<k
   ·rw[List.getElem?_range F]at e;simp only[YV,W2]at e;subst e;have:=p (off+j) (by omega)
    rwa [<-Nat.add_assoc]at this
   ·rw[Yz (by simp;omega)]at e;cases e) z A (by rw[B];exact v)
  refine⟨_,_,E,.agg _ _ (by simp;omega) λi u c e f=> ?_,y⟩;rw[List.getElem?_toArray,Zm]at e;rw[List.getElem?_take]at f;split at f
  ·rename_i H
   rw[List.getElem?_range H]at e;simp only[YV,W2]at e;subst e;rw[List.getElem?_drop]at f;exact q (off+i) c f
  ·cases f
 ·rename_i k m v
  split at g
  ·rename_i c f
   refine⟨us off,c,?_,q off c f,g⟩;unfold loadVar;rw[Sem.run_bind,E7 m w];simp only[Result.andThen_ok,Bool.false_eq_true,if_false];unfold load;simp only[Sem.run,p off (Zk.1 f).1]
  ·exact g.elim
 ·exact g.elim
def YL{t:Nat}{p:AV}{v:kd}{C:AV->Prop}(hi:cu G w s.h)(F:aO G w v p)(h:qq P t s.h p C):∃u x,(Instr.loadAt t v).run P w= .ok u w/\aO G w u x/\C x:=by
 have g:=YM (P:=P) (G:=G) (w:=w) (t:=t) (C:=C);unfold qq tL at h;cases p with
 |ptr m f=>
  simp only at h;split at h
  ·rename_i k L
   obtain⟨_,_,vs,T,M,H,N⟩:=hi.dJ m _ L;cases F with
   |ptr _ _ zp=>
    obtain⟨u,x,l,q,z⟩:=g (G.aZ m) 0 k f (λj=>vs.getD j undef) (λj A=>by
     have B:j<vs.size:=by rw[H];exact A
     rw[ZJ,cell_of_row w (G.aZ m) j vs T (0,0) M];simp [Array.getD,B]) (λj c e=>by
     have B:j<vs.size:=by rw[H];exact(Zk.1 e).1
     exact N j _ c (by simp [Array.getD,B]) e) h
    rw[ZJ]at l;exact⟨u,x,by simp [Instr.loadAt,Instr.sureAddr,l],q,z⟩
  ·exact h.elim
 |bK xs i f=>
  simp only at h;split at h
  ·rename_i k J
   cases F with
   |bK _ _ _ b o R x S W hu=>
    rw[S]at J;cases J
    obtain⟨u,y,l,q,z⟩:=g b o (k.map .d) f R (λj A=>(W j (by simpa using A)).2) (λj c e=>by
     rw[Zm]at e;cases E:k[j]? with
     |none=>rw[E]at e;cases e
     |some d=>rw[E]at e;cases e;exact .d (hu j d E)) h
    exact⟨u,y,by simp [Instr.loadAt,Instr.sureAddr,l],q,z⟩
  ·exact h.elim
 |_=>exact h.elim
def aO.list{u:kd}{x:AV}{xs:I (I D)}(h:aO G w u x)(b:x.gN=some xs):dY G.S w u (.sl xs):=by
 unfold AV.gN at b;split at b;{cases b;cases h with|d h=>exact h};{cases b;cases h with|own _ _ _ h=>exact h};{cases b;cases h with|full _ h=>exact h}
 ·cases b
  cases h with
  |d h=>
   cases h with
   |v=>exact .sl none 0 0 0 0 [] (λ_ _=>undef) (λh=>absurd rfl h) (Zr _) (by simp) (λ_ h=>by cases h) (λi j c=>by simp at c) (λi j x d b=>by simp at b)
 ·cases b
def aO.int{u:kd}{x:AV}{z:Int}(h:aO G w u x)(b:x.int?=some z):∃k,u= .int k z:=by
 unfold AV.int? at b;split at b
 ·rename_i k m
  cases b
  cases h with
  |d h=>cases h with|v=>exact⟨k,rfl⟩
 ·cases b
def aO.bool{u:kd}{t:Bool}(h:aO G w u (.d (.v (.bool t)))):u= .bool t:=by
 cases h with|d h=>cases h with|v=>rfl
def aO.val{u v:kd}(h:aO G w u (.d (.v v))):u=v:=by
 cases h with|d h=>cases h with|v=>rfl
def ld{T e k:Nat}(h:fO P T=some (e,k)):P.underlying T=some (.slice e)/\ZA P e=some k:=by
 unfold fO at h;split at h
 ·rename_i c d
  cases b:ZA P c with
  |none=>rw[b]at h;cases h
  |some f=>rw[b]at h;simp at h;obtain⟨rfl,rfl⟩:=h;exact⟨d,b⟩
 ·cases h
def QY{T m e k:Nat}(h:vM P T=some (m,e,k)):P.underlying T=some (.array m e)/\ZA P e=some k:=by
 unfold vM at h;split at h
 ·rename_i f c d
  cases b:ZA P c with
  |none=>rw[b]at h;cases h
  |some g=>rw[b]at h;simp at h;obtain⟨rfl,rfl,rfl⟩:=h;exact⟨d,b⟩
 ·cases h
def asr{T:Nat}{x i:AV}{u v:kd}{C:AV->Prop}(M:aO G w u x)(N:aO G w v i)(h:uW P T x i C):∃p y,(Instr.indexAt T u v).run P w= .ok p w/\aO G w p y/\C y:=by
 unfold uW at h;split at h
 ·rename_i e k E
  obtain⟨t,B⟩:=ld E;split at h
  ·rename_i m f len cap R
   split at h
   ·rename_i z q
    obtain⟨vH,g,l,F⟩:=cv.1 h;rw[Ve]at vH;subst vH;obtain⟨W,rfl⟩:=N.int q;cases M with
    |row _ _ _ _ _ hm hl rB=>
     have hN:(z.toNat:Int)=z:=Int.toNat_of_nonneg g;refine⟨_,_,?_,.ptr m (f+z.toNat*R) hm,F⟩;simp [Instr.indexAt,asIntOf,run_underlying t,g,l,nK B,nm]
   ·exact h.elim
  ·split at h
   ·rename_i xs z nh q
    obtain⟨g,h⟩:=h;obtain⟨W,rfl⟩:=N.int q;split at h
    ·rename_i c H
     obtain⟨hk,F⟩:=h;obtain⟨A,b,o,cc,R,us,rfl,hA,mr,Ao,iz,hS,nv⟩:=(M.list nh).rb;have l:z.toNat<xs.length:=(Zk.1 H).1;have cX:xs≠ []:=λe=>by subst e;simp at l
     have ek:R=k:=by rw[<-iz c (ZX H),hk]
     subst ek;rw[hA cX];have RY:z<(xs.length:Int):=by omega
     refine⟨_,.bK [c] 0 0,?_,.bK [c] 0 0 b (o+z.toNat*R) (us z.toNat) c rfl (λj J=> ?_) (λj d S=>nv _ _ _ _ H S),F⟩;{simp [Instr.indexAt,asIntOf,run_underlying t,g,RY,nK B,nm]};{have:=hS z.toNat j l (by rw[hk]at J;exact J);exact⟨this.1,this.2.1⟩}
    ·exact h.elim
   ·exact h.elim
 ·split at h
  ·rename_i m e k b f z E q
   obtain⟨g,l,F⟩:=h;obtain⟨t,B⟩:=QY E;obtain⟨W,rfl⟩:=N.int q;cases M with
   |ptr _ _ hb=>
    refine⟨_,_,?_,.ptr b (f+z.toNat*k) hb,F⟩;simp [Instr.indexAt,Instr.sureAddr,asIntOf,run_underlying t,g,l,nK B,nm]
  ·rename_i m e k xs i' f z E q
   obtain⟨kE,g,l,L⟩:=cv.1 h;rw[Ve]at kE;subst kE;obtain⟨t,B⟩:=QY E;obtain⟨W,rfl⟩:=N.int q;split at L
   ·rename_i c H
    split at L
    ·rename_i d S
     cases M with
     |bK _ _ _ b o us c' gP hS nv=>
      rw[H]at gP;cases gP
      have apq:=(Zk.1 S).1;refine⟨_,.bK [[d]] 0 0,?_,.bK [[d]] 0 0 b (o+(f+z.toNat)) (λ_=>us (f+z.toNat)) [d] rfl (λj J=> ?_) (λj d' jL=> ?_),L⟩;{simp [Instr.indexAt,Instr.sureAddr,asIntOf,run_underlying t,g,l,nK B,nm,Nat.add_assoc]};{simp at J;subst J;exact hS _ apq}
      ·match j with
       |0=>simp at jL;subst jL;exact nv _ _ S
       |j+1=>simp at jL
    ·exact L.elim
   ·exact L.elim
  ·exact h.elim
def tG{T:Nat}(h:ja P T=true):P.underlying T=some .string:=by
 unfold ja at h;split at h;{assumption};{cases h}
def apF{T:Nat}{x:AV}{u:kd}{ty:Nat}{C:Nat->Prop}(f:aO G w u x)(h:ua P T x C):∃m:Nat,(Builtin.len_ #[T] ty #[u]).run P w= .ok (.int .i64 m) w/\C m:=by
 have g:∀(A:U Addr)(l c:Nat),(fO P T).isSome=true->(Builtin.len_ #[T] ty #[.slice A l c]).run P w= .ok (.int .i64 l) w:=by
  intro A l c d;obtain⟨⟨e,k⟩,d⟩:=aj.1 d;simp [Builtin.len_,run_underlying (ld d).1,goInt]
 unfold ua at h;split at h
 ·rename_i b
  have:=f.val;subst this;obtain⟨d,i⟩:=cv.1 h;exact⟨b.size,by simp [Builtin.len_,run_underlying (tG d),goInt],i⟩
 ·cases f with
  |row=>exact⟨_,g _ _ _ (cv.1 h).1,(cv.1 h).2⟩
 ·split at h
  ·rename_i p j
   obtain⟨A,b,o,c,k,q,rfl,_⟩:=(f.list j).rb;exact⟨_,g _ _ _ (cv.1 h).1,(cv.1 h).2⟩
  ·exact h.elim
def DZ(a:Act)(x:U Operand)(d m:Nat):Prop:=match x with|none=>m=d|some y=>∃k z,a.eval y= .int k z/\0<=z/\m=z.toNat
def vt{x:U Operand}{d:Nat}{C:Nat->Prop}(b:dx G w a s)(h:ln (ev s) x d C):∃m,C m/\DZ a x d m:=by
 cases x with
 |none=>exact⟨_,h,rfl⟩
 |some y=>
  unfold ln at h;simp only at h;split at h
  ·rename_i z c
   obtain⟨k,e⟩:=(b.ev y).int c;exact⟨_,h.2,k,z,e,h.1,rfl⟩
  ·exact h.elim
def Cj{k:IntKind}{z:Int}{y:Nat}{b:BoundsCode}(c:0<=z)(h:z.toNat<=y)(w:Zz):(Instr.sliceBound (.int k z) y b).run P w= .ok z.toNat w:=by
 have:z<=(y:Int):=by omega
 simp [Instr.sliceBound,asIntOf,c,this]
def Jt{lo hi:U Operand}{len cap l h:Nat}{Cz:Bool}(c:DZ a lo 0 l)(b:DZ a hi len h)(f:l<=h)(g:h<=cap)(w:Zz):
 (Instr.sliceBounds Cz len cap (lo.map a.eval) (hi.map a.eval) none).run P w= .ok (l,h,cap) w:=by
 unfold DZ at c b;cases lo with
 |none=>
  subst c;cases hi with
  |none=>subst b;simp [Instr.sliceBounds]
  |some y=>
   obtain⟨k,z,e,d,rfl⟩:=b;simp [Instr.sliceBounds,e,Cj d g]
 |some x=>
  obtain⟨m,p,i,j,rfl⟩:=c;cases hi with
  |none=>subst b;simp [Instr.sliceBounds,i,Cj j f]
  |some y=>
   obtain⟨k,z,e,d,rfl⟩:=b;simp [Instr.sliceBounds,e,i,Cj d g,Cj j f]
def dY.part{S:Nat->Nat->Prop}{v:kd}{xs:I (I D)}{k:Nat}(u:dY S w v (.sl xs))(q:∀c∈xs,c.length=k){l h:Nat}(T:l<=h)(W:h<=xs.length):
 ∃A c,v= .slice A xs.length c/\xs.length<=c/\dY S w (.slice (if c=l then A else A.map (·.add (l*k))) (h-l) (c-l)) (.sl ((xs.take h).drop l)):=by
 obtain⟨A,b,o,c,p,y,rfl,z,B,Ao,C,E,F⟩:=u.rb;refine⟨A,c,rfl,B,?_⟩;have f:((xs.take h).drop l).length=h-l:=by simp;omega
 rw[<-f];by_cases g:xs=[]
 ·subst g;have e:((([]:I (I D)).take h).drop l)=[]:=by simp
  rw[e];exact .sl _ 0 0 (c-l) 0 [] (λ_ _=>undef) (λh=>absurd rfl h) (WJ _) (by omega) (λ_ h=>by cases h) (λi j m=>by simp at m) (λi j x d g=>by simp at g)
 ·have H:p=k:=by
   obtain⟨x,t⟩:=List.exists_mem_of_ne_nil xs g;rw[<-C x t,q x t]
  subst H;have J:∀i,i<h-l->((xs.take h).drop l)[i]?=xs[l+i]?:=λi m=>by
   rw[List.getElem?_drop,List.getElem?_take_of_lt (by omega)]
  refine .sl _ b (o+l*p) (c-l) p _ (λi j=>y (l+i) j) (λL=> ?_) (by rw[f];omega) (by omega) (λx g=>q x (List.mem_of_mem_take (Z2 g))) (λi j m M=> ?_) (λi j x d g N=> ?_);{have R:0<((xs.take h).drop l).length:=List.length_pos_iff.2 L;rw[f]at R;rw[ZN (by omega),z g];simp [nm]};{rw[f]at m;have:=E (l+i) j (by omega) M;rw[YF,<-Nat.add_assoc]at this;exact this};{have m:=(Zk.1 g).1;rw[f]at m;rw[J i m]at g;exact F _ _ _ _ g N}
def aqt{T:Nat}{x:AV}{u:kd}{lo hi mx:U Operand}{C:AV->Prop}(i:dx G w a s)(H:aO G w u x)(h:wP P T (ev s) x lo hi mx C):
 ∃p y,(Instr.sliceAt T u (lo.map a.eval) (hi.map a.eval) (mx.map a.eval)).run P w= .ok p w/\aO G w p y/\C y:=by
 unfold wP at h;split at h
 ·split at h
  ·rename_i b
   obtain⟨f,h⟩:=cv.1 h;have f:=tG f;have:=H.val;subst this;obtain⟨m,h,j⟩:=vt i h;obtain⟨q,h⟩:=h;obtain⟨l,h,t⟩:=vt i h;obtain⟨g,h⟩:=h;refine⟨_,_,?_,.d (.v _),h⟩;have z:=Jt (P:=P) (Cz:=false) t j g q w;simp [Instr.sliceAt,Instr.slice,run_underlying f,z]
  ·rename_i m N
   split at h
   ·rename_i c e k f
    rw[cv,dS]at h;obtain⟨Ao,h⟩:=h;have Ao:c<=maxLen:=by unfold maxLen;omega
    obtain⟨B,E⟩:=QY f;obtain⟨hh,h,j⟩:=vt i h;obtain⟨q,h⟩:=cv.1 h;rw[dS]at q;obtain⟨l,h,t⟩:=vt i h;obtain⟨g,h⟩:=cv.1 h;simp only[Zo,dS,VJ,<-VC,Nat.not_le]at g;obtain⟨g,J⟩:=g;have z:=Jt (P:=P) (Cz:=false) t j g q w;cases H with
    |ptr _ _ zp=>
     refine⟨_,_,?_,.row m (N+l*k) (hh-l) (c-l) k zp (by omega) (by omega),h⟩;simp [Instr.sliceAt,Instr.sureAddr,run_underlying B,z,nK E,nm,Nat.ne_of_gt J]
   ·exact h.elim
  ·split at h
   ·rename_i F e k R f
    obtain⟨W,h⟩:=h;obtain⟨B,E⟩:=ld f;obtain⟨hh,h,j⟩:=vt i h;obtain⟨q,h⟩:=h;obtain⟨l,h,t⟩:=vt i h;obtain⟨g,h⟩:=h;obtain⟨A,c,rfl,J,L⟩:=(H.list R).part W g q;have z:=Jt (P:=P) (Cz:=true) t j g (Za q J) w;refine⟨_,_,?_,.d L,h⟩;simp [Instr.sliceAt,Instr.slice,run_underlying B,z,nK E]
   ·exact h.elim
 ·rename_i y
  split at h
  case h_2=>exact h.elim
  rename_i yh
  split at h
  ·rename_i F e k R f
   obtain⟨W,h⟩:=h;obtain⟨B,E⟩:=ld f;obtain⟨c',M,hc⟩:=vt i h;obtain⟨hcl,M⟩:=M;obtain⟨hh,h4,j⟩:=vt i M;obtain⟨rfl,h5⟩:=h4;clear h M;obtain⟨k1,z1,e1,p1,q1⟩:=hc;obtain⟨k2,z2,e2,p2,q2⟩:=j;obtain⟨A,c,rfl,J,L⟩:=(H.list R).part W (WJ hh) hcl;have hp':dY G.S w (.slice A hh hh) (.sl (F.take hh)):=by
    have h1:(if c=0 then A else A.map (·.add (0*k)))=A:=by
     split;{rfl};{cases A<;>simp [Addr.add]}
    rw[h1,Yq]at L;obtain⟨A',b,o,c2,k',us,e,r1,r2,r3,r4,r5,r6⟩:=L.rb;have t:(F.take hh).length=hh:=by simp;omega
    injection e with eA e3 e4;subst eA;have:=dY.sl (S:=G.S) (w:=w) A b o hh k' (F.take hh) us r1 (by omega) (by omega) r4 r5 r6
    rwa [t]at this
   refine⟨.slice A hh hh,.full (F.take hh),?_,.full _ hp' ⟨A,by simp;omega⟩,h5⟩;have b1:(Instr.sliceBound (.int k1 z1) c .slice3Acap).run P w= .ok hh w:=by rw[Cj p1 (by omega),q1]
   have b2:(Instr.sliceBound (.int k2 z2) hh .slice3B).run P w= .ok hh w:=by rw[Cj p2 (by omega),<-q2]
   simp only[YV,Option.map_none,e1,e2];have hA:A.map (·.add 0)=A:=by cases A<;>simp [Addr.add]
   simp [Instr.sliceAt,Instr.slice,Instr.sliceBounds,run_underlying B,b1,b2,nK E,hA]
  ·exact h.elim
def OD:∀{cs:I AV}{b:I D},ox cs=some b->b.length=cs.length/\∀(i:Nat)(c:AV)(d:D),cs[i]?=some c->b[i]?=some d->c.AI=some d
 |[],b,h=>by simp [ox]at h;subst h;simp
 |c::cs,b,h=>by
  unfold ox at h;split at h
  ·rename_i d l g j
   cases h
   obtain⟨k,m⟩:=OD j;refine⟨by simp [k],λi p q e f=> ?_⟩
   match i with
   |0=>simp at e f;subst e;subst f;exact g
   |i+1=>exact m i p q (by simpa using e) (by simpa using f)
  ·cases h
def dY.wo{S:Nat->Nat->Prop}{w:Zz}{u:kd}{x:D}(h:dY S w u x):dY S w u x.wo:=by
 unfold D.wo;split
 ·cases h with
  |v=>exact .sl none 0 0 0 0 [] (λ_ _=>undef) (λh=>absurd rfl h) (Zr _) (WJ _) (λ_ h=>absurd h Yp) (λi j b=>absurd b (Z5 _)) (λi j x d c=>by simp at c)
 ·exact h
def aO.LR{u:kd}{x:AV}{d:D}(h:aO G w u x)(b:x.AI=some d):dY G.S w u d:=by
 unfold AV.AI at b;split at b;{cases b;cases h with|d h=>exact h.wo};{cases b;cases h with|own _ _ _ h=>exact h};{cases b;cases h with|full _ h=>exact h};{cases b}
def vb(k:Nat):∀(m:Nat)(l:I D),(pK k m l).length=m
 |0,_=>rfl
 |m+1,l=>by simp [pK,vb k m]
def Su(k:Nat):∀(m:Nat)(l:I D)(i:Nat),i<m->(pK k m l)[i]?=some ((l.drop (i*k)).take k)
 |0,_,_,h=>by omega
 |m+1,l,0,_=>by simp [pK]
 |m+1,l,i+1,h=>by
  have:=Su k m (l.drop k) i (by omega);rw[pK,Yt,this,List.drop_drop,YF,Nat.one_mul,Nat.add_comm k]
def Zt{k m:Nat}{us:I kd}{c:I D}(v:c.length=m*k)(p:us.length=m*k)(h1:∀u∈us,u.oneCell'=true)
 (q:∀(i:Nat)(u:kd)(d:D),us[i]?=some u->c[i]?=some d->dY G.S w u d):Rd G.S w k (pK k m c) us:=by
 have t:∀i,i<m->(i+1)*k<=m*k:=λi e=>Xw k e;refine⟨by rw[vb,p],λx f=> ?_,h1,λi j x d f b=> ?_⟩
 ·obtain⟨i,e⟩:=List.mem_iff_getElem?.1 f;have g:i<m:=by have:=(Zk.1 e).1;rwa [vb]at this
  rw[Su k m c i g]at e;cases e
  have:=t i g;rw[YF]at this;simp;omega
 ·have g:i<m:=by have:=(Zk.1 f).1;rwa [vb]at this
  rw[Su k m c i g]at f;cases f
  rw[List.getElem?_take]at b;split at b
  ·rw[List.getElem?_drop]at b;have:=(Zk.1 b).1;have l:i*k+j<us.length:=by omega
   exact⟨us[i*k+j],Zd l,q _ _ _ (Zd l) b⟩
  ·cases b
def agY{k b e':Nat}{y:AV}{v:kd}{C:I (I D)->Prop}(hi:cu G w s.h)(L:aO G w v y)(hk:0<k)(M:P.underlying b=some (.slice e'))(h:xx s.h k y C):
 ∃ys us,Rd G.S w k ys us/\Src P k b v ys.length us w/\C ys:=by
 unfold xx at h;split at h
 ·rename_i m g e E k'
  split at h
  ·rename_i x hm
   split at h
   ·rename_i ds pR
    obtain⟨N,hC⟩:=cv.1 h;simp only[Zo,Ve,dS]at N;obtain⟨⟨rfl,R⟩,jb⟩:=N;obtain⟨F,H⟩:=OD pR;obtain⟨_,_,z,T,hh,hl,hr⟩:=hi.dJ m _ hm;cases L with
    |row _ _ _ _ _ zp mr rB=>
     have tg:ds.length=e*k':=by rw[F];simp;omega
     have A:((z.toList.drop g).take (e*k')).length=e*k':=by simp;omega
     have W:∀(i:Nat)(u:kd)(c:AV),((z.toList.drop g).take (e*k'))[i]?=some u->((x.drop g).take (e*k'))[i]?=some c->aO G w u c:=λi u c f B=>by
      rw[List.getElem?_take]at f B;split at f
      ·rename_i oK
       rw[ZL oK]at B;rw[List.getElem?_drop]at f B;exact hr _ u c (by rw[<-ZF];exact f) B
      ·cases f
     have p:((x.drop g).take (e*k')).length=e*k':=by simp;omega
     have q:∀u∈(z.toList.drop g).take (e*k'),u.oneCell'=true:=λu f=>by
      obtain⟨i,hi⟩:=List.mem_iff_getElem?.1 f;have J:i<e*k':=by rw[<-A];exact(Zk.1 hi).1
      have t:=Zd (l:=(x.drop g).take (e*k')) (i:=i) (by rw[p];exact J);exact(W i u _ hi t).lG (Zb.1 jb _ (ZX t))
     have yK:=Zt (G:=G) (w:=w) (k:=k') (m:=e) tg A q (λi u d f hd=>by
      have J:i<e*k':=by rw[<-A];exact(Zk.1 f).1
      have t:=Zd (l:=(x.drop g).take (e*k')) (i:=i) (by rw[p];exact J);exact(W i u _ f t).LR (H i _ d t hd))
     refine⟨_,_,yK,?_,hC⟩;rw[vb];refine Src.ofSlice w M _ e E _ A (λj u f=> ?_) q;rw[List.getElem?_take]at f;split at f;{rw[List.getElem?_drop,ZF]at f;rw[nm,cell_of_row w _ _ z T (0,0) hh];exact f};{cases f}
   ·exact h.elim
  ·exact h.elim
 ·split at h
  ·rename_i ys kY
   obtain⟨us,F,H⟩:=(L.list kY).src (P:=P) hk h.1 M;exact⟨ys,us,F,H,h.2⟩
  ·exact h.elim
def El:dY G.S w (.slice none 0 0) (.sl []):=
 .sl none 0 0 0 0 [] (λ_ _=>undef) (λh=>absurd rfl h) (Zr _) (by simp) (λ_ h=>by cases h) (λi j b=>by simp at b) (λi j x d c=>by simp at c)
def aov(h:I ar)(x y:ar):(h++[x]).set h.length y=h++[y]:=by simp
def asx{T b ty e':Nat}{x y:AV}{u v:kd}{C:AV->I ar->Prop}(hi:cu G w s.h)(F:aO G w u x)(hv:aO G w v y)(hU:P.underlying b=some (.slice e'))(h:wM P T s.h x y C):
 ∃p w' G' q h',(Builtin.append_ #[T,b] ty #[u,v]).run P w= .ok p w'/\cn G.N G w G' w'/\G.N<=G'.N/\cu G' w' h'/\aO G' w' p q/\C q h':=by
 unfold wM at h;split at h
 ·rename_i e k hT
  obtain⟨gJ,gX⟩:=ld hT;split at h
  ·rename_i z dy hz rK
   obtain⟨j,h⟩:=cv.1 h;simp only[Zo,Ve,dS,Z0]at j;obtain⟨H,lK⟩:=j;obtain⟨i,J,ma,Lq⟩:=S8 gX rK;have l:i.zero=some z:=by
    obtain⟨i',h1,d⟩:=N3 hz;rw[J]at h1;cases h1;exact d
   obtain⟨ys,us,hr,hs,d⟩:=agY hi hv H hU h;clear h;have fresh:∀(xs:I (I D)),dY G.S w u (.sl xs)->(∃A,u= .slice A xs.length xs.length)->(∀c∈xs,c.length=k)->xs.length+ys.length<=maxLen->(xs.length+ys.length)*dy<=140737488355328->
    C (.own s.h.length (xs++ys)) (s.h++[.front e k (xs.length+ys.length)])->
    ∃p w' G' q h',(Builtin.append_ #[T,b] ty #[u,v]).run P w= .ok p w'/\cn G.N G w G' w'/\G.N<=G'.N/\cu G' w' h'/\aO G' w' p q/\C q h':=by
    intro xs L M t R f g;obtain⟨W,a2,a3,a4⟩:=Q7 hi L M e k;obtain⟨p,w',G',r1,r2,r3,E,r5⟩:=YW (P:=P) (ty:=ty) a3 gJ J l ma Lq lK H (n:=s.h.length) (xs:=xs) (ys:=ys) (by simp) a4 t (hr.keep W.S W.cell) hs R f;rw[aov]at E;exact⟨p,w',G',_,_,r1,W.trans (r2.less a2),Za a2 r3,E,r5,g⟩
   split at d
   ·rename_i m xs
    split at d
    ·rename_i e2 k2 len R
     obtain⟨j,rfl,t,B,f,g⟩:=cv.1 d;simp only[Zo,Ve]at j;obtain⟨rfl,rfl⟩:=j;obtain⟨p,w',G',r1,r2,r3,E,r5⟩:=YW (P:=P) (ty:=ty) hi gJ J l ma Lq lK H R F t hr hs B f;exact⟨p,w',G',_,_,r1,r2,r3,E,r5,g⟩
    ·exact d.elim
   ·have:=F.val;subst this;obtain⟨B,f,g⟩:=d;exact fresh [] El ⟨none,rfl⟩ (λ_ h=>by cases h) (by simpa using B) (by simpa using f) (by simpa using g)
   ·rename_i xs
    obtain⟨t,B,f,g⟩:=d;cases F with
    |full _ L M=>exact fresh xs L M t B f g
   ·exact d.elim
  ·exact h.elim
 ·exact h.elim
end
def YK(off:Nat):∀(l:I kd)(k:Nat)(cs:Array kd),((l.zipIdx k).foldl (λcs(p:kd×Nat)=>cs.setIfInBounds (off+p.2) p.1) cs).size=cs.size/\
 ∀i,off+k+l.length<=cs.size->((l.zipIdx k).foldl (λcs(p:kd×Nat)=>cs.setIfInBounds (off+p.2) p.1) cs)[i]?=if off+k<=i/\i<off+k+l.length then l[i-(off+k)]? else cs[i]?
 |[],k,cs=>⟨rfl,λi _=>by
    have h:¬(off+k<=i/\i<off+k+([]:I kd).length):=by simp
    rw[ZN h];rfl⟩
 |u::l,k,cs=>by
  obtain⟨d,e⟩:=YK off l (k+1) (cs.setIfInBounds (off+k) u);simp only[List.zipIdx_cons,List.foldl_cons];refine⟨by rw[d];simp,λi f=> ?_⟩;simp only[Zi]at f ⊢;rw[e i (by simp;omega)];by_cases b:off+(k+1)<=i/\i<off+(k+1)+l.length;{rw[ZL b,ZL ⟨by omega,by omega⟩,show i-(off+k)=i-(off+(k+1))+1 by omega,Yt]}
  ·rw[ZN b];by_cases c:i=off+k
   ·subst c;rw[ZL ⟨Zr _,by omega⟩,Nat.sub_self,List.getElem?_cons_zero,Array.getElem?_setIfInBounds_self_of_lt (by omega)]
   ·rw[ZN (by omega),Array.getElem?_setIfInBounds_ne (Ne.symm c)]
section
variable {P:dg} {G:Gh} {w:Zz}
structure Row(G:Gh)(w:World)(vs:Array Value)(cs:List AV):Prop where
 len:vs.size=cs.length
 rel:∀(i:Nat)(u:Value)(c:AV),vs[i]?=some u->cs[i]?=some c->aO G w u c
 one:∀(i:Nat)(u:Value),vs[i]?=some u->u.oneCell'=true
def ap8{vs us:Array kd}{cs ys:I AV}(h:Row G w vs cs)(h':Row G w us ys){off:Nat}(g:off+ys.length<=cs.length):
 Row G w (us.zipIdx.foldl (λcs(p:kd×Nat)=>cs.setIfInBounds (off+p.2) p.1) vs) (jM cs off ys):=by
 have e:us.zipIdx.foldl (λcs(p:kd×Nat)=>cs.setIfInBounds (off+p.2) p.1) vs=(us.toList.zipIdx 0).foldl (λcs(p:kd×Nat)=>cs.setIfInBounds (off+p.2) p.1) vs:=by
  rw[<-Array.foldl_toList,Array.toList_zipIdx]
 obtain⟨l,j⟩:=YK off us.toList 0 vs;rw[<-e]at l j;have m:us.toList.length=ys.length:=by rw[Z0,h'.len]
 have d:off+0+us.toList.length<=vs.size:=by rw[m,h.len];omega
 have q:∀i,(jM cs off ys)[i]?=if off+0<=i/\i<off+0+us.toList.length then ys[i-off]? else cs[i]?:=λi=>by
  unfold jM;rw[ZP];by_cases t:i<off;{rw[ZW (by simp;omega),List.getElem?_take_of_lt t,ZN (by omega)]}
  ·rw[ZC (by simp;omega)];simp only[ae];rw[Nat.min_eq_left (by omega)];by_cases g:i-off<ys.length
   ·rw[ZW g,ZL (by omega)]
   ·rw[ZC (by omega),List.getElem?_drop,ZN (by omega),show off+ys.length+(i-off-ys.length)=i by omega]
 refine⟨by rw[l,Ic _ _ _ g,h.len],λi u c b f=> ?_,λi u b=> ?_⟩
 ·rw[j i d]at b;rw[q]at f;split at b
  ·rename_i k
   rw[ZL k]at f;exact h'.rel _ _ _ (by rw[<-ZF];exact b) f
  ·rename_i k
   rw[ZN k]at f;exact h.rel _ _ _ b f
 ·rw[j i d]at b;split at b
  ·exact h'.one _ _ (by rw[<-ZF];exact b)
  ·exact h.one _ _ b
def aO.XO{u:kd}{x:AV}(h:aO G w u x)(f:x.kW=true):Row G w u.cells x.cells:=by
 obtain⟨d,e⟩:=h.cells f;refine⟨d,λi v c b g=>(e i v c b g).1,λi v b=> ?_⟩;have j:i<x.cells.length:=by rw[<-d];exact(ZT.1 b).1
 exact(e i v _ b (Zd j)).2
def QV(place:Nat->U (Nat×Nat))(places:I (Nat×Nat))(l:∀i y,places[i]?=some y->place i=some y):∀(c:I (Nat×AV))(e:I (Nat×kd))(cs cM:I AV)(d:Array kd),Row G w d cs->
 e.length=c.length->(∀(i:Nat)(p:Nat×AV)(q:Nat×kd),c[i]?=some p->e[i]?=some q->q.1=p.1/\aO G w q.2 p.2)->(c.all λp=>p.2.kW)=true->rN places cs c=some cM->
 ∃m,Instr.fill place d e=some m/\Row G w m cM
 |[],[],cs,cM,d,h,_,_,_,b=>by
  simp only[rN,W2]at b;subst b;exact⟨d,rfl,h⟩
 |[],_::_,_,_,_,_,f,_,_,_=>by simp at f
 |_::_,[],_,_,_,_,f,_,_,_=>by simp at f
 |(j,x)::c,(E,u)::e,cs,cM,d,h,f,z,t,b=>by
  obtain⟨A,B⟩:=z 0 (j,x) (E,u) rfl rfl;simp only at A B;subst A;simp only[Z4,Zo]at t;unfold rN at b;split at b
  ·rename_i v k F
   rw[cond_eq_ite]at b;split at b
   ·rename_i g
    simp only[Zo,Ve,dS]at g;have C:=B.XO t.1;obtain⟨m,H,J⟩:=QV place places l c e _ cM _ (ap8 h C (by rw[g.1];exact g.2)) (by simpa using f) (λi p q l L=>z (i+1) p q (by simpa using l) (by simpa using L)) t.2 b;refine⟨m,?_,J⟩;unfold Instr.fill;rw[l _ _ F];have M:¬(u.cells.size≠k||decide (v+u.cells.size>d.size))=true:=by
     rw[C.len,g.1,h.len];simp;exact g.2
    simp only[M];exact H
   ·cases b
  ·cases b
def YI{z:Array kd}(h:z.toList.all Value.oneCell'=true):z.all (·.oneCell')=true:=by
 rw[Zb]at h;exact Array.all_eq_true_iff_forall_mem.2 λu b=>h u (Array.mem_toList_iff.2 b)
def aiB(z:kd)(h:z.cells.all (·.oneCell')=true):Row G w z.cells (z.cells.toList.map λu=>.d (.v u)):=by
 refine⟨by simp,λi u c b e=> ?_,λi u b=>Array.all_eq_true_iff_forall_mem.1 h u (Array.mem_of_getElem? b)⟩;rw[Zm,ZF,b]at e;cases e
 exact .d (.v u)
def Y3:∀(b:I Field)(c:I (Nat×Nat))(w:Zz),Fw P b=some c->(b.mapM (m:=Sem) λf=>do pure (f.offset,<-sizeOf f.type)).run P w= .ok c w
 |[],c,w,h=>by simp [Fw]at h;subst h;simp
 |f::b,c,w,h=>by
  unfold Fw at h;simp only[List.mapM_cons,Option.bind_eq_bind,Option.bind_eq_some_iff,Option.map_eq_some_iff,Option.pure_def,W2]at h;obtain⟨p,⟨k,d,rfl⟩,e,g,rfl⟩:=h;have i:=Y3 b e w g;simp only[List.mapM_cons,Sem.run_bind,nK d,Sem.run_pure,Result.andThen_ok,i]
def arM{T:Nat}{c:I (Nat×AV)}{d:Array (Nat×kd)}{C:AV->Prop}(A:d.toList.length=c.length)
 (B:∀(i:Nat)(p:Nat×AV)(q:Nat×kd),c[i]?=some p->d.toList[i]?=some q->q.1=p.1/\aO G w q.2 p.2) (h:yB P T c C):∃u y,(Instr.build T d).run P w= .ok u w/\aO G w u y/\C y:=by
 unfold yB at h;split at h
 ·rename_i places z g E
  obtain⟨b,F,H⟩:∃b,P.underlying T=some (.struct b)/\Fw P b.toList=some places:=by
   unfold RP at g;split at g;{exact⟨_,by assumption,g⟩};{cases g}
  ·split at h
   ·rename_i j J
    obtain⟨t,L⟩:=cv.1 h;simp only[Zo]at t;obtain⟨M,k⟩:=t;have k:=YI k;have N:(b.mapM (m:=Sem) λf=>do pure (f.offset,<-sizeOf f.type)).run P w= .ok places.toArray w:=by
     rw[Array.mapM_eq_mapM_toList];have:=Y3 b.toList places w H;have e:(Functor.map List.toArray (b.toList.mapM (m:=Sem) λf=>do pure (f.offset,<-sizeOf f.type)):Sem _)=(b.toList.mapM (m:=Sem) λf=>do pure (f.offset,<-sizeOf f.type))>>=λl=>pure l.toArray:=rfl;rw[e,Sem.run_bind,this];rfl
    obtain⟨v,R,x⟩:=QV (λi=>places.toArray[i]?) places (λi S h=>by simpa using h) c d.toList _ j z.cells (aiB (G:=G) (w:=w) z k) A B M J;refine⟨.agg v,.agg j,?_,.agg v j x.len x.rel,L⟩;unfold Instr.build;simp only[Sem.run_bind,GD E,Result.andThen_ok,run_underlying F,N,R,Sem.run_pure]
   ·exact h.elim
 ·exact h.elim
def YQ{T:Nat}(h:DN P T=true):P.underlying T=some .bool:=by
 unfold DN at h;split at h;{assumption};{cases h}
def JX{T:Nat}{k:IntKind}(h:tn P T=some k):P.underlying T=some (.int k):=by
 unfold tn at h;split at h;{cases h;assumption};{cases h}
def Zv{t off:Nat}{b:Array kd}{u:kd}(c:nL P t=some false)(d:b[off]?=some u):(part t b off).run P w= .ok u w:=by
 unfold part;rw[Sem.run_bind,E7 c w];simp [d]
def akx{t:Nat}{u v:kd}{x y:AV}{b:Bool}(d:Nat)(g:aO G w u x)(i:aO G w v y)(h:Ix P t x y=some b):(Op.equalIn (d+1) t u v).run P w= .ok b w:=by
 unfold Ix at h;split at h
 ·have e:=g.val;have f:=i.val;subst e;subst f
  rename_i k a j l
  cases c:yF k j&&(tn P t).isSome with
  |false=>rw[c]at h;cases h
  |true=>
   rw[c]at h;cases h;rw[Zo,Tc]at c;obtain⟨rfl,c⟩:=c;obtain⟨m,p⟩:=aj.1 c;exact run_equalIn_int w d t k m a l (JX p)
 ·have e:=g.val;have f:=i.val;subst e;subst f;cases c:ja P t with
  |false=>rw[c]at h;cases h
  |true=>rw[c]at h;cases h;rw[<-Tn,<-Tn];exact run_equalIn_string w d t _ _ (tG c)
 ·have e:=g.val;have f:=i.val;subst e;subst f;cases c:DN P t with
  |false=>rw[c]at h;cases h
  |true=>rw[c]at h;cases h;exact run_equalIn_bool w d t _ _ (YQ c)
 ·cases h
def an3{t off k:Nat}{b:Array kd}(c:nL P t=some true)(d:ZA P t=some k):(part t b off).run P w= .ok (.agg (b.extract off (off+k))) w:=by
 unfold part;rw[Sem.run_bind,E7 c w];simp [nK d]
def YG{us:Array kd}{xs:I AV}{off k:Nat}(f:us.size=xs.length)(g:off+k<=xs.length)(e:∀(i:Nat)(u:kd)(c:AV),us[i]?=some u->xs[i]?=some c->aO G w u c):
 (us.extract off (off+k)).size=((xs.drop off).take k).length/\∀(i:Nat)(u:kd)(c:AV),(us.extract off (off+k))[i]?=some u->((xs.drop off).take k)[i]?=some c->aO G w u c:=by
 refine⟨by simp;omega,λi u c d b=> ?_⟩;rw[List.getElem?_take]at b;split at b
 ·next j=>
  rw[List.getElem?_drop]at b;rw[Array.getElem?_extract]at d;split at d;{exact e _ _ _ d b};{cases d}
 ·cases b
def Kq{e:TypeId->I AV->I AV->U Bool}(d:Nat)
 (z:∀(T:Nat)(us vs:Array kd)(xs ys:I AV)(b:Bool),us.size=xs.length->vs.size=ys.length->(∀(i:Nat)(u:kd)(c:AV),us[i]?=some u->xs[i]?=some c->aO G w u c)->(∀(i:Nat)(u:kd)(c:AV),vs[i]?=some u->ys[i]?=some c->aO G w u c)->e T xs ys=some b->(Op.equalIn (d+1) T (.agg us) (.agg vs)).run P w= .ok b w)
 {us vs:Array kd} {xs ys:I AV} (l:us.size=xs.length) (m:vs.size=ys.length)
 (p:∀(i:Nat)(u:kd)(c:AV),us[i]?=some u->xs[i]?=some c->aO G w u c) (q:∀(i:Nat)(u:kd)(c:AV),vs[i]?=some u->ys[i]?=some c->aO G w u c):
 ∀(g:I Field)(b:Bool),Dx P e g xs ys=some b->(Op.eqFields (d+1) us vs g).run P w= .ok b w
 |[],b,h=>by cases h;simp [Op.eqFields]
 |f::g,b,h=>by
  unfold Dx at h;cases A:f.name== "_" with
  |true=>rw[A]at h;cases h
  |false=>
   rw[A]at h;simp only[UQ]at h;have E:f.name≠ "_" :=by simpa using A
   split at h
   ·next t=>
    split at h
    ·next x y v F=>
     split at h
     ·next a c B C=>
      cases h
      have L:f.offset<us.size:=by rw[l];exact(Zk.1 v).1
      have M:f.offset<vs.size:=by rw[m];exact(Zk.1 F).1
      have H:=ZH L;have J:=ZH M;simp only[Op.eqFields,ZL E,Sem.run_bind,Zv (w:=w) t H,Zv (w:=w) t J,Result.andThen_ok,akx d (p _ _ _ H v) (q _ _ _ J F) B];cases a with
      |true=>simp only[Wh,Bool.false_eq_true,if_false,YJ];exact Kq d z l m p q g c C
      |false=>simp
     ·cases h
    ·cases h
   ·next t=>
    split at h
    ·next k v=>
     cases j:cG (f.offset+k) xs.length&&cG (f.offset+k) ys.length with
     |false=>rw[j]at h;cases h
     |true=>
      rw[j]at h;rw[Zo,dS,dS]at j;simp only[V1]at h;split at h
      ·next a c B C=>
       cases h
       obtain⟨N,R⟩:=YG l j.1 p;obtain⟨q1,S⟩:=YG m j.2 q;simp only[Op.eqFields,ZL E,Sem.run_bind,an3 (w:=w) t v,Result.andThen_ok,z _ _ _ _ _ a N q1 R S B];cases a with
       |true=>simp only[Wh,Bool.false_eq_true,if_false,YJ];exact Kq d z l m p q g c C
       |false=>simp
      ·cases h
    ·cases h
   ·cases h
def Xs:∀(n d:Nat)(T:Nat)(us e:Array kd)(xs ys:I AV)(b:Bool),us.size=xs.length->e.size=ys.length->(∀(i:Nat)(u:kd)(c:AV),us[i]?=some u->xs[i]?=some c->aO G w u c)->(∀(i:Nat)(u:kd)(c:AV),e[i]?=some u->ys[i]?=some c->aO G w u c)->NN P n T xs ys=some b->(Op.equalIn (d+n+1) T (.agg us) (.agg e)).run P w= .ok b w
 |0,_,_,_,_,_,_,_,_,_,_,_,h=>by cases h
 |n+1,d,T,us,e,xs,ys,b,k,l,m,p,h=>by
  unfold NN at h;split at h
  ·next fs g=>
   cases f:P.stoodInHeld T with
   |true=>rw[f]at h;cases h
   |false=>
    rw[f]at h;have j:P.fieldsOf T=fs:=by unfold Program.fieldsOf;rw[g]
    rw[show d+(n+1)+1=(d+n+1)+1 by omega,run_equalIn_struct w (d+n+1) T us e (by rw[j];exact g) f,j];exact Kq (d+n) (λq t v x y z=>Xs n d q t v x y z) k l m p _ b h
  ·cases h
def alC{T:Nat}{us e:Array kd}{xs ys:I AV}{b:Bool}(j:us.size=xs.length)(k:e.size=ys.length)
 (l:∀(i:Nat)(u:kd)(c:AV),us[i]?=some u->xs[i]?=some c->aO G w u c) (m:∀(i:Nat)(u:kd)(c:AV),e[i]?=some u->ys[i]?=some c->aO G w u c) (h:KT P T xs ys=some b):
 P.eqGuardType P.depth T=false/\(Op.equalIn 10000 T (.agg us) (.agg e)).run P w= .ok b w:=by
 unfold KT at h;split at h
 ·next fs f=>
  cases d:P.stoodInHeld T||P.eqGuardType P.depth T with
  |true=>rw[d]at h;cases h
  |false=>
   rw[d]at h;rw[Yf]at d;refine⟨d.2,?_⟩;have g:P.fieldsOf T=fs:=by unfold Program.fieldsOf;rw[f]
   rw[run_equalIn_struct w 9999 T us e (by rw[g];exact f) d.1,g];exact Kq 9998 (λp q t v x y=>Xs 4 9994 p q t v x y) j k l m _ b h
 ·cases h
def apV{c:BinOp}{x y:AV}{u v:kd}{T:Nat}{X Y:Operand}{C:AV->Prop}(q:aO G w u x)(t:aO G w v y)(h:yW P T c x y C):
 ∃r z,(do eqGuard c T X Y u v;binOp c T u v:Sem kd).run P w= .ok r w/\aO G w r z/\C z:=by
 unfold yW at h;split at h
 ·rename_i k a F b
  have i:=q.val;have j:=t.val;subst i;subst j;have g:(eqGuard c T X Y (.int k a) (.int F b)).run P w= .ok () w:=by unfold eqGuard;cases c<;>simp
  rw[Sem.run_bind,g];simp only[Result.andThen_ok];split at h
  ·rename_i z f
   obtain⟨l,H,m⟩:=cv.1 h;rw[Tc]at l;subst l;refine⟨z,_,?_,.d (.v z),m⟩;cases c<;>simp [P8]at f<;>subst f<;>simp [binOp,Op.intDiv,H]
  ·split at h
   ·rename_i z f
    refine⟨z,_,?_,.d (.v z),h.2⟩;have p:¬b<0:=by omega
    cases c<;>simp [QG]at f<;>subst f<;>simp [binOp,Op.shift,p]
   ·split at h
    ·rename_i z f
     obtain⟨l,m⟩:=cv.1 h;rw[Tc]at l;subst l;refine⟨z,_,?_,.d (.v z),m⟩;cases c<;>simp [UI]at f<;>subst f<;>simp [binOp,Op.intArith,Op.intCmp,Op.intBits]
    ·exact h.elim
 ·rename_i a b
  have i:=q.val;have j:=t.val;subst i;subst j;have g:(eqGuard c T X Y (.string a) (.string b)).run P w= .ok () w:=by unfold eqGuard;cases c<;>simp
  rw[Sem.run_bind,g];simp only[Result.andThen_ok];split at h
  ·rename_i z f
   refine⟨z,_,?_,.d (.v z),h⟩;cases c<;>simp [R0]at f<;>subst f<;>simp [binOp,Op.stringOp,Tn]
  ·split at h
   ·refine⟨_,_,?_,.d (.v _),h.2⟩;have J:¬(((a.size+b.size:Nat):Int)>IntKind.i64.max):=by
     have:=h.1;unfold maxLen at this;have e:IntKind.i64.max=9223372036854775807:=by decide
     rw[e];omega
    simp only[binOp,Op.stringOp];rw[ZN J];rfl
   ·exact h.elim
 ·rename_i a b
  have i:=q.val;have j:=t.val;subst i;subst j;have g:(eqGuard c T X Y (.bool a) (.bool b)).run P w= .ok () w:=by unfold eqGuard;cases c<;>simp
  rw[Sem.run_bind,g];simp only[Result.andThen_ok];split at h
  ·rename_i z f
   obtain⟨A,m⟩:=cv.1 h;have A:=YQ A;refine⟨z,_,?_,.d (.v z),m⟩;have p:=run_equalIn_bool (P:=P) w 9999 T a b A;cases c<;>simp [UU]at f<;>subst f<;>simp [binOp,Op.equal,Op.maxDepth,p]
  ·exact h.elim
 ·rename_i xs ys
  cases q with
  |agg L _ M N=>
   cases t with
   |agg R _ S W=>
    split at h
    ·next b p=>
     obtain⟨g,B⟩:=alC M S N W p;rw[Sem.run_bind,run_eqGuard_agg w c T X Y L R g];simp only[Result.andThen_ok];split at h
     ·next z E=>
      refine⟨z,_,?_,.d (.v z),h⟩;cases c<;>simp [zG]at E<;>subst E;{rw[run_eql_struct,B];rfl};{rw[run_neq_struct,B];rfl}
     ·exact h.elim
    ·exact h.elim
 ·exact h.elim
def ajL{c:UnOp}{x:AV}{u:kd}{C:AV->Prop}(f:aO G w u x)(h:Ah c x C):∃r z,(Op.unary c u).run P w= .ok r w/\aO G w r z/\C z:=by
 unfold Ah at h;split at h
 ·rename_i v
  have e:=f.val;subst e;split at h
  ·rename_i z b
   refine⟨z,_,?_,.d (.v z),h⟩;unfold NB at b;split at b;{cases b;simp [Op.unary]};{cases b;simp [Op.unary,Op.intArith]};{cases b;simp [Op.unary,Op.intBits]};{cases b}
  ·exact h.elim
 ·exact h.elim
def aoA{T:Nat}(h:Hz P T=true):P.underlying T=some (.int .u8):=by
 unfold Hz at h;split at h;{assumption};{cases h}
def ahn{a b:Nat}{x:AV}{u:kd}{C:AV->Prop}(E:aO G w u x)(h:yL P a b x C):∃r z,(convert a b u).run P w= .ok r w/\aO G w r z/\C z:=by
 unfold yL at h;split at h
 ·rename_i k2 m
  have e:=E.val;subst e;split at h
  ·rename_i k1 k t y
   refine⟨_,_,?_,.d (.v _),h⟩;simp [convert,run_underlying (JX t),run_underlying (JX y),Conv.intToInt]
  ·exact h.elim
 ·rename_i s
  have e:=E.val;subst e;obtain⟨c,F⟩:=cv.1 h;rw[Zo]at c;refine⟨_,_,?_,.d (.v _),F⟩;simp [convert,run_underlying (tG c.1),run_underlying (tG c.2)]
 ·split at h
  ·rename_i xs e k S T
   obtain⟨c,f,rfl,F⟩:=cv.1 h;rw[Zo]at c;refine⟨_,_,?_,.d (.v _),F⟩;obtain⟨A,W,o,H,k',L,rfl,M,mr,Ao,iz,N,nv⟩:=(E.list S).rb;rw[run_convert_bytes_string w a b e A _ H (ld T).1 (aoA c.1) (tG c.2)];simp only[Zq]at M mr N ⊢;cases f with
   |nil=>
    cases A with
    |none=>rfl
    |some R=>
     have g:=run_loadCells_list (P:=P) w R (([]:I Int).map (Value.int .u8)) (λj v i=>by simp at i);simp only[a6,Zc]at g;have:=run_bytesToString (P:=P) w R 0 H [] (by simpa using g);exact this
   |cons p f=>
    have qa:=M (by simp);subst qa;have kE:k'=1:=(iz [.v (.int .u8 p)] (by simp)).symm;subst kE;have g:=run_loadCells_list (P:=P) w ⟨W,o,none⟩ ((p::f).map (Value.int .u8)) (λj v i=>by
     have B:=(Zk.1 i).1;rw[Zq]at B;have t:=(N j 0 B (by omega)).2.1;rw[Zm,Zd B]at i;cases i
     have y:=nv j 0 [.v (.int .u8 ((p::f)[j]))] (.v (.int .u8 ((p::f)[j]))) (by rw[Zm,Zd B];rfl) rfl;have h3:L j 0= .int .u8 ((p::f)[j]):=by
      generalize L j 0=q at y;cases y;rfl
     rw[nm];rw[h3]at t
     simpa using t)
    rw[Zq]at g;rw[run_bytesToString w _ _ H _ g];have J:∀(l:I Int)(r:so),l.foldl (λr n=>r.push (UInt8.ofNat n.toNat)) r=⟨r.data++(l.map λn=>UInt8.ofNat n.toNat).toArray⟩:=by
      intro l
      induction l with
      |nil=>intro r;simp
      |cons x l ih=>intro r;rw[List.foldl_cons,ih];simp [ByteArray.push]
    rw[J];have Gm:ByteArray.empty.data= #[]:=rfl;rw[Gm];simp
  ·exact h.elim
def R6{T f off k:Nat}{g:Bool}(h:uV P T f=some (off,k,g)):∃c b,P.underlying T=some (.struct c)/\c[f]?=some b/\ZA P b.type=some k/\0<k/\nL P b.type=some g/\b.offset=off:=by
 unfold uV at h;split at h
 ·rename_i c d
  split at h
  ·rename_i b e
   split at h
   ·rename_i l m i j
    cases h
    exact⟨c,b,d,e,i,Nat.succ_pos _,j,rfl⟩
   ·cases h
  ·cases h
 ·cases h
def Wp{T f off k o b:Nat}{g:Bool}(h:uV P T f=some (off,k,g)):(Instr.fieldAt T (.pointer (some ⟨b,o,none⟩)) f).run P w= .ok (.pointer (some ⟨b,o+off,none⟩)) w:=by
 obtain⟨j,l,c,d,e,i,m,rfl⟩:=R6 h;simp [Instr.fieldAt,run_underlying c,d,Instr.sureAddr,fieldPlace,nK e,Nat.ne_of_gt i,nm]
def ao4{T f:Nat}{x:AV}{u:kd}{C:AV->Prop}(e:aO G w u x)(h:Aw P T x f C):∃r z,(Instr.field T u f).run P w= .ok r w/\aO G w r z/\C z:=by
 unfold Aw at h;split at h
 ·rename_i j k A l
  obtain⟨B,E⟩:=cv.1 h;rw[dS]at B;obtain⟨F,g,m,p,v,H,q,rfl⟩:=R6 l;cases e with
  |agg vs _ b t=>
   refine⟨.agg (vs.extract g.offset (g.offset+k)),_,?_,.agg _ _ ?_ λi u c e d=> ?_,E⟩;{simp [Instr.field,run_underlying m,p,asAgg,part,E7 q,nK v]};{simp;omega}
   ·rw[Array.getElem?_extract]at e;rw[List.getElem?_take]at d;split at d
    ·rw[List.getElem?_drop]at d;split at e
     ·exact t _ u c e d
     ·cases e
    ·cases d
 ·rename_i j k A l
  obtain⟨F,g,m,p,v,H,q,rfl⟩:=R6 l;split at h
  ·rename_i c d
   cases e with
   |agg vs _ b t=>
    have y:g.offset<vs.size:=by rw[b];exact(Zk.1 d).1
    refine⟨vs[g.offset],c,?_,t _ _ c (ZH y) d,h⟩;simp [Instr.field,run_underlying m,p,asAgg,part,E7 q,ZH y]
  ·exact h.elim
 ·exact h.elim
end
def Gh.sb(G:Gh)(b m:Nat):Gh:={G with S:=λc o=>G.S c o\/(c=b/\o<m)}
def YE{G:Gh}{w:Zz}{h:I ar}(hi:cu G w h)(g:Obj)(m:Nat):cn G.N G w (G.sb w.heap.size m) (w.alloc g)/\cu (G.sb w.heap.size m) (w.alloc g) h:=by
 have d:cn G.N G w (G.sb w.heap.size m) (w.alloc g):=
  ⟨by simp,λ_ _ h=>.inl h,λb _ h=>World.cell?_alloc_lt _ _ _ (hi.S _ _ h),λ_ _=>rfl,λ_ _=>.inl ⟨rfl,rfl⟩,iO rfl,λb f=>Below.heap_alloc w g b (hi.z b f),rfl,rfl,rfl,λb o c=>c.imp id fun⟨e,_⟩ j=>Yv _ (hi.z _ (e▸j))⟩
 refine⟨d,hi.len,λb f=>ZU (hi.z b f) d.size,λb o c=> ?_,λn B i=> ?_,λm n b k l=>hi.inj m n b k l,hi.gl.keep d⟩
 ·rcases c with c|⟨rfl,_⟩
  ·exact ZU (hi.S b o c) d.size
  ·simp
 ·refine e8.keep (hi.lt i) d (Zr _) ⟨rfl,rfl,rfl⟩ (λb f=> ?_) (hi.dJ n B i);have p:=hi.iS (n:=n) (b:=b) ((eJ i).trans f);refine⟨Below.heap_alloc w _ _ p,λo q c=> ?_⟩;rcases c with c|⟨e,_⟩
  ·exact q c
  ·omega
def YC(k:Nat):∀(n o i:Nat)(b:Nat×Nat),(wB k o n)[i]?=some b->b=(o+i*k,k)
 |0,_,_,_,h=>by simp [wB]at h
 |n+1,o,0,b,h=>by simp [wB]at h;rw[<-h];simp
 |n+1,o,i+1,b,h=>by
  have:=YC k n (o+k) i b (by simpa [wB]using h);rw[this,YF];simp;omega
def YB(l:I AV):∀n,(uQ n l).length=n*l.length
 |0=>by simp [uQ]
 |n+1=>by rw[uQ,Zj,YB l n,YF];omega
def YY(l:I AV):∀(n i:Nat),i<n*l.length->(uQ n l)[i]?=l[i%l.length]?
 |0,i,h=>by omega
 |n+1,i,h=>by
  rw[uQ];by_cases b:i<l.length;{rw[ZW b,Nat.mod_eq_of_lt b]};{rw[ZC (by omega),YY l n _ (by rw[YF]at h;omega),<-Nat.mod_eq_sub_mod (by omega)]}
def amH(z:kd){k:Nat}(b:z.cells.size=k)(n:Nat):uQ n (z.cells.toList.map λu=>.d (.v u))=(List.range (n*k)).map λi=>.d (.v (z.cells[i%z.cells.size]!)):=by
 have c:(z.cells.toList.map λu=>AV.d (.v u)).length=k:=by simp [b]
 refine List.ext_getElem? λi=> ?_;by_cases f:i<n*k
 ·rw[YY _ _ _ (by rw[c];exact f),Zm,Zm,List.getElem?_range f,c,b,ZF];have j:0<k:=Nat.pos_of_ne_zero λe=>by subst e;simp at f
  have g:i%k<z.cells.size:=by rw[b];exact Nat.mod_lt _ j
  rw[ZH g];simp only[YV];rw[getElem!_pos z.cells (i%k) g]
 ·rw[Yz (by rw[YB,c];omega),Yz (by simp;omega)]
def Zn:∀{c:I (Nat×AV)}{places:I (Nat×Nat)}{cs cM:I AV},rN places cs c=some cM->cM.length=cs.length
 |[],_,_,_,h=>by simp only[rN,W2]at h;rw[h]
 |(i,x)::c,places,cs,cM,h=>by
  unfold rN at h;split at h
  ·rw[cond_eq_ite]at h;split at h
   ·rename_i b
    simp only[Zo,Ve,dS]at b;rw[Zn h,Ic _ _ _ (by rw[b.1];exact b.2)]
   ·cases h
  ·cases h
section
variable {P:dg} {r:U Nat} {n N0:Nat} {G:Gh} {w:Zz} {a:Act} {s:St} {o:Oper} {K:St->Prop} {Q:Exit->Act->Zz->Prop}
def ahO{T len:Nat}{h:I ar}{B:I (Nat×AV)}{E:Array (Nat×kd)}{C:AV->Prop}(hi:cu G w h)(hl:E.toList.length=B.length)
 (hr:∀(i:Nat)(p:Nat×AV)(q:Nat×kd),B[i]?=some p->E.toList[i]?=some q->q.1=p.1/\aO G w q.2 p.2) (f:Al P T len B C):
 ∃u w' G' y,(Instr.buildSlice T len E).run P w= .ok u w'/\cn G.N G w G' w'/\G.N<=G'.N/\cu G' w' h/\aO G' w' u y/\C y:=by
 unfold Al at f;split at f
 ·rename_i e k hT
  obtain⟨gJ,gX⟩:=ld hT;split at f
  ·rename_i z hz
   split at f
   ·rename_i cs J
    split at f
    ·rename_i ds pR
     obtain⟨gM,f⟩:=cv.1 f;simp only[Zo,Ve,dS,Z0]at gM;obtain⟨⟨⟨⟨hk,hsm⟩,lK⟩,L⟩,hb⟩:=gM;have L:=YI L;rw[amH z lK]at J;have E6:=YC k;obtain⟨g,m⟩:∃g:Array kd,g=if len*k=0 then #[]else z.cells:=⟨_,rfl⟩
     obtain⟨F,t⟩:∃F:Array kd,F=(Array.range (len*k)).map (g[·%g.size]!):=⟨_,rfl⟩;have qC:Row G w F ((List.range (len*k)).map λi=>.d (.v (z.cells[i%z.cells.size]!))):=by
      have HT:∀i,i<len*k->g[i%g.size]! =z.cells[i%z.cells.size]! :=λi hi=>by rw[m,ZN (by omega)]
      refine⟨by rw[t];simp,λi u c b l=> ?_,λi u b=> ?_⟩
      ·rw[t,Array.getElem?_map]at b;rw[Zm]at l;by_cases hi:i<len*k
       ·rw[List.getElem?_range hi]at l;rw[Array.getElem?_range,ZL hi]at b;simp only[YV,W2]at b l;subst b;subst l;rw[HT i hi];exact .d (.v _)
       ·rw[Yz (by simp;omega)]at l;cases l
      ·rw[t,Array.getElem?_map]at b;by_cases hi:i<len*k
       ·rw[Array.getElem?_range,ZL hi]at b;simp only[YV,W2]at b;subst b;rw[HT i hi];have H:i%z.cells.size<z.cells.size:=Nat.mod_lt _ (by omega);rw[getElem!_pos z.cells _ H];exact Array.all_eq_true_iff_forall_mem.1 L _ (Array.getElem_mem _)
       ·rw[Array.getElem?_eq_none (by simp;omega)]at b;cases b
     obtain⟨gQ,M,R⟩:=QV (λi=>some (i*k,k)) (wB k 0 len) (λi pl h=>by
      have:=E6 len 0 i pl h;rw[this];simp) B E.toList _ cs F qC hl hr hb J
     obtain⟨d1,d2⟩:=OD pR;have x:cs.length=len*k:=by
      have:=Zn J;rw[this];simp
     have yH:gQ.size=len*k:=by rw[R.len,x]
     obtain⟨W,i2⟩:=YE hi (.cells gQ e) (len*k);have yK:Rd G.S w k (pK k len ds) gQ.toList:=Zt (by rw[d1,x]) (by rw[Z0,yH]) (λu b=>by
      obtain⟨j,hj⟩:=List.mem_iff_getElem?.1 b;exact R.one j u (by rw[<-ZF];exact hj)) (λi u d b hd=>by
      have H:i<cs.length:=by rw[<-d1];exact(Zk.1 hd).1
      exact(R.rel i u _ (by rw[<-ZF];exact b) (Zd H)).LR (d2 i _ d (Zd H) hd))
     have hp:dY (G.sb w.heap.size (len*k)).S (w.alloc (.cells gQ e)) (.slice (some ⟨w.heap.size,0,none⟩) len len) (.sl (pK k len ds)):=by
      have:=(yK.keep W.S W.cell).HG w.heap.size len (by rw[vb];exact Zr _) (by have:=Nat.le_mul_of_pos_right len hk;simp only[maxLen];omega) (λo ho=>.inr ⟨rfl,by rw[vb]at ho;exact ho⟩) (λo u b=>by
       rw[World.cell?_alloc_new,<-ZF];exact b)
      rwa [vb]at this
     refine⟨_,_,_,_,?_,W,Zr _,i2,.full _ hp ⟨some ⟨w.heap.size,0,none⟩,by rw[vb]⟩,f⟩;have kL:¬(len*k>2^24):=by omega
     unfold Instr.buildSlice;simp only[Sem.run_bind,run_underlying gJ,Result.andThen_ok,nK gX,kL,if_false];by_cases A:len*k=0;{rw[ZL A]at m;subst m;subst t;simp [A]at M;simp [A,M,newRow]};{rw[ZN A]at m;subst m;subst t;simp [A,GD hz,M,newRow]}
    ·exact f.elim
   ·exact f.elim
  ·exact f.elim
 ·exact f.elim
end
section
variable {P:dg} {G:Gh} {w:Zz} {h:I ar}
def BZ(k s:so)(d:D)(l:I (so×D)):ml ((k,d)::l) s=if k=s then some d else ml l s:=by
 have b:ml ((k,d)::l) s=bif bL k==bL s then some d else ml l s:=rfl;rw[b];by_cases e:k=s
 ·subst e;rw[ZL rfl];simp
 ·rw[ZN e];have:(bL k==bL s)=false:=by rw[Vb];exact λc=>e (UE c)
  rw[this];rfl
def Ff{T k e:TypeId}(h:wT P T=some (k,e)):P.underlying T=some (.map k e):=by
 unfold wT at h;split at h;{next c d b=>cases h;exact b};{cases h}
def alN(hi:cu G w h):cn G.N G w (G.dz w.heap.size) (w.alloc (.map #[] 0))/\cu (G.dz w.heap.size) (w.alloc (.map #[] 0)) (h++[.map []])/\aO (G.dz w.heap.size) (w.alloc (.map #[] 0)) (.map (some w.heap.size)) (.mp h.length):=by
 have j:=uf G w hi.z hi.S (.map #[] 0);have x:G.N<=(G.dz w.heap.size).N:=an _;have k:(G.dz w.heap.size).aZ h.length=w.heap.size:=by simp [Gh.dz,hi.len]
 have y:∀n(B:ar),n<G.N->B.eZ (G.dz w.heap.size) n=B.eZ G n:=λn B c=>by
  cases B<;>simp [ar.eZ,Gh.dz,Nat.ne_of_lt c]
 have A:∀n,n<G.N->ct (h++[.map []]) (G.dz w.heap.size) n=ct h G n:=λn c=>by
  have l:n<h.length:=by rw[hi.len];exact c
  unfold ct;rw[ZW l,Zd l];exact y n _ c
 have C:ct (h++[.map []]) (G.dz w.heap.size) h.length=some w.heap.size:=by
  rw[eJ (B:= .map []) (by simp)];exact congrArg some k
 refine⟨j,⟨by simp [Gh.dz,hi.len],λb q=>ZU (hi.z b q) j.size,λb o f=>ZU (hi.S b o f) j.size,λn B g=> ?_,λm n b E c=> ?_,hi.gl.keep j⟩,?_⟩
 ·by_cases c:n<h.length
  ·rw[ZW c]at g;have t:n<G.N:=hi.len▸c;exact e8.keep t j x ⟨rfl,rfl,rfl⟩ (λb q=>⟨Below.heap_alloc w _ _ (hi.iS (n:=n) ((eJ g).trans q)),λo h=>h⟩) (hi.dJ n B g)
  ·have F:n=h.length:=by
    have:=(Zk.1 g).1;simp at this;omega
   subst F;simp at g;subst g;exact⟨by rw[k];exact λH=>Yv _ (hi.z _ H),λo f=>by rw[k]at f;exact Yv _ (hi.S _ _ f), #[],0,by rw[k];exact World.alloc_heap_new w _,
    ⟨by simp,MapKept.stamped_empty 0,λe u=>(by simp at u),λs d f=>(by cases f),by simp,λi e u=>(by simp at u),rfl⟩⟩
 ·have p:∀n b,ct (h++[.map []]) (G.dz w.heap.size) n=some b->(n<G.N/\ct h G n=some b)\/(n=h.length/\b=w.heap.size):=λn b c=>by
   by_cases l:n<G.N;{exact .inl ⟨l,by rw[<-A n l];exact c⟩}
   ·by_cases e:n=h.length
    ·subst e;rw[C]at c;cases c;exact .inr ⟨rfl,rfl⟩
    ·rw[xr (Yz (by simp;have:=hi.len;omega))]at c;cases c
  rcases p m b E with⟨_,v⟩|⟨rfl,rfl⟩<;>rcases p n _ c with⟨_,t⟩|⟨rfl,q⟩
  ·exact hi.inj m n b v t
  ·have:=hi.iS v;omega
  ·have:=hi.iS t;omega
  ·rfl
 ·have:=aO.mp (G:=G.dz w.heap.size) (w:=w.alloc (.map #[] 0)) h.length (by simp [Gh.dz,hi.len])
  rwa [k]at this
def akD{v:kd}{d:D}(h:dY G.S w v d):aO G w v (Lk d):=by
 cases d with
 |v x=>exact .d h
 |sl k=>exact .d h
 |ag l=>
  cases h with
  |ag e _ f h=>
   refine .agg e _ (by rw[Zq];exact f) λi u c g b=> ?_;rw[Zm]at b;obtain⟨d,j,rfl⟩:=Option.map_eq_some_iff.1 b;exact .d (h i u d g j)
def amA(z:kd):aO G w z (CE z):=by
 unfold CE;split
 ·next e=>
  refine .agg e _ (by rw[Zq];exact Z0.symm) λi u c f b=> ?_;rw[Zm,ZF,f]at b;cases b
  exact .d (dY.v u).wo
 ·exact .d (.v _)
def aO.toM{u:kd}{x:AV}{d:D}(h:aO G w u x)(b:x.SE=some d):dY G.S w u d:=by
 unfold AV.SE at b;split at b
 ·next cs=>
  obtain⟨j,k,rfl⟩:=Option.map_eq_some_iff.1 b;obtain⟨c,l⟩:=OD k;cases h with
  |agg m _ p q=>
   refine .ag m j (p.trans c.symm) λi v e t f=> ?_;have g:i<cs.length:=by rw[<-c];exact(Zk.1 f).1
   exact(q i v _ t (Zd g)).LR (l i _ e (Zd g) f)
 ·exact h.LR b
def uM{s:so}:MapKept.IsKey .string (.string s):=trivial
def am5{T k e:TypeId}{z:kd}{n:Nat}{p:I (so×D)}{s:so}{ok:Bool}(hi:cu G w h)(E:wT P T=some (k,e))(L:jz P e=some z)(M:ja P k=true)(N:h[n]?=some (.map p)):
 ∃v,(Instr.lookup T (.map (some (G.aZ n))) (.string s) ok).run P w= .ok v w/\aO G w v (sH ok z (ml p s)):=by
 obtain⟨_,_,es,clock,F,y⟩:=hi.dJ n _ N;have R:∀x∈es.toList,MapKept.IsKey .string x.key:=λx A=>by
  obtain⟨S,d,f,_⟩:=y.Dh x A;rw[f];exact uM
 have q:=tG M;have g:∀(v:kd)(d:AV)(b:Bool),aO G w v d->aO G w (if ok then .tuple #[v,.bool b]else v) (bif ok then .bn [d,.d (.v (.bool b))]else d):=λv d b H=>by
  cases ok with
  |false=>exact H
  |true=>
   refine .bn #[v,.bool b] _ rfl λi u c l t=> ?_
   match i with
   |0=>simp at l t;subst l;subst t;exact H
   |1=>simp at l t;subst l;subst t;exact .d (.v _)
   |i+2=>simp at l
 rcases MapKept.findNow_spec (uM (s:=s)) es.toList 0 R with⟨f,B⟩|⟨j,m,f,B,W⟩
 ·have C:ml p s=none:=by
   cases hq:ml p s with
   |none=>rfl
   |some d=>
    obtain⟨x,A,pE⟩:=y.all s d hq;exact absurd pE (B x A)
  refine⟨if ok then .tuple #[z,.bool false]else z,?_,?_⟩;{simp [Instr.lookup,run_underlying (Ff E),MapKept.run_getObj_map F,MapKept.run_checkKey q uM,MapKept.run_findKey q f,GD L,Result.andThen]};{rw[C];have:=g z _ false (amA z);unfold sH;exact this}
 ·have kK:m∈es.toList:=ZX B;obtain⟨S,d,J,k2,k3⟩:=y.Dh m kK;rw[W]at J;cases J
  refine⟨if ok then .tuple #[m.val,.bool true]else m.val,?_,?_⟩;{simp [Instr.lookup,run_underlying (Ff E),MapKept.run_getObj_map F,MapKept.run_checkKey q uM,MapKept.run_findKey q f,Result.andThen]};{rw[k2];have:=g m.val _ true (akD k3);unfold sH;exact this}
def alR{T k e:TypeId}{n:Nat}{g:I (so×D)}{s:so}{v:kd}{d:D}(hi:cu G w h)(hT:wT P T=some (k,e))(q:ja P k=true)(hn:h[n]?=some (.map g))(hv:dY G.S w v d)(hlen:g.length<maxLen):
 ∃w',(Instr.mapUpdate T (.map (some (G.aZ n))) (.string s) v).run P w= .ok () w'/\cn G.N G w G w'/\cu G w' (h.set n (.map ((s,d)::g))):=by
 obtain⟨hZ,hS,es,clock,H,c⟩:=hi.dJ n _ hn;have qG:∀x∈es.toList,MapKept.IsKey .string x.key:=λx f=>by
  obtain⟨u,d,A,_⟩:=c.Dh x f;rw[A];exact uM
 have pF:=tG q;have M:∀(C:Array MapEntry)(R:Nat)(w':Zz),w'=ChangeMaps.setBlock w (G.aZ n) (.map C R)->wW G.S w C R ((s,d)::g)->cn G.N G w G w'/\cu G w' (h.set n (.map ((s,d)::g))):=by
  intro C R w' J W;have jO:∀b,b≠G.aZ n->w'.heap[b]?=w.heap[b]?:=λb t=>by rw[J];exact ChangeMaps.heap_setBlock_other H _ t
  have TA:w'.heap[G.aZ n]?=some (.map C R):=by rw[J];exact ChangeMaps.heap_setBlock_same H _
  have iR:w'.heap.size=w.heap.size:=by rw[J];simp [ChangeMaps.setBlock]
  have je:∀b o,G.S b o->w'.cell? ⟨b,o,none⟩=w.cell? ⟨b,o,none⟩:=λb o hs=>World.cell?_of_block (jO b (λe=>hS o (e▸hs)));have hE:cn G.N G w G w':=⟨by rw[iR];exact Zr _,λ_ _ h=>h,je,λ_ _=>rfl,λ_ _=>.inl ⟨rfl,rfl⟩,iO rfl,λb t=>jO b (λe=>hZ (e▸t)),by rw[J];rfl,by rw[J];rfl,by rw[J];rfl,λ_ _ h=>.inl h⟩;refine⟨hE,?_⟩;have np:ct h G n=some (G.aZ n):=eJ hn;have nS:(h.set n (.map ((s,d)::g)))[n]?=some (.map ((s,d)::g)):=by rw[Z1 (Zk.1 hn).1]
  have fD:∀m,m≠n->(h.set n (.map ((s,d)::g)))[m]?=h[m]?:=λm c=>by rw[Z3 (Ne.symm c)]
  have fp:∀m,ct (h.set n (.map ((s,d)::g))) G m=ct h G m:=λm=>by
   by_cases e:m=n;{subst e;rw[eJ nS,eJ hn];rfl};{unfold ct;rw[fD m e]}
  refine⟨by rw[YR];exact hi.len,λb t=>ZU (hi.z b t) hE.size,λb o hs=>ZU (hi.S b o hs) hE.size,λm B L=> ?_,λm m' b A l=>hi.inj m m' b (by rw[<-fp];exact A) (by rw[<-fp];exact l),hi.gl.keep hE⟩;by_cases e:m=n
  ·subst e;rw[nS]at L;cases L
   exact⟨hZ,hS,C,R,TA,W.keep (λ_ _ h=>h) je⟩
  ·rw[fD m e]at L;have cX:∀b,ct h G m=some b->b≠G.aZ n:=λb t eb=>e (hi.inj m n b t (by rw[eb];exact np));exact e8.keep (hi.lt L) hE (Zr _) ⟨rfl,rfl,rfl⟩ (λb t=>⟨jO b (cX _ ((eJ L).trans t)),λo h=>h⟩) (hi.dJ m B L)
 rcases MapKept.findNow_spec (uM (s:=s)) es.toList 0 qG with⟨A,l⟩|⟨j,e0,A,l,h3⟩
 ·have W:wW G.S w (es.push ⟨.string s,v,clock⟩) (clock+1) ((s,d)::g):=by
   refine⟨by have:=c.len;simp;omega,MapKept.stamped_push c.stamped l,λx f=> ?_,λu E F=> ?_,by have:=c.len;simp;omega,λi e p=> ?_,by rw[c.H8];simp⟩
   ·simp only[Array.toList_push,ZE,ZZ]at f;rcases f with f|rfl
    ·obtain⟨u,E,k1,k2,k3⟩:=c.Dh x f;refine⟨u,E,k1,?_,k3⟩;rw[BZ,ZN (λe=>l x f (by rw[k1,e]))];exact k2
    ·exact⟨s,d,rfl,by rw[BZ,ZL rfl],hv⟩
   ·rw[BZ]at F;simp only[Array.toList_push,ZE,ZZ];split at F
    ·next e=>subst e;exact⟨_,.inr rfl,rfl⟩
    ·obtain⟨x,f,q⟩:=c.all u E F;exact⟨x,.inl f,q⟩
   ·rw[Array.getElem?_push]at p;split at p
    ·next ei=>cases p;rw[ei];exact c.H8
    ·exact c.born i e p
  obtain⟨f1,f2⟩:=M _ _ _ rfl W;refine⟨_,?_,f1,f2⟩;simp [Instr.mapUpdate,run_underlying (Ff hT),MapKept.run_getObj_map H,MapKept.run_checkKey pF uM,MapKept.run_findKey pF A,MapKept.run_setObj_map _ H,Result.andThen,ChangeMaps.setBlock]
 ·have hj:es[j]?=some e0:=by simpa using l
  have A2:j<es.toList.length:=(Zk.1 l).1;have amw:∀e',es[j]?=some e'->({e' with key:= .string s,val:=v}:MapEntry).key=e'.key:=λe' nI=>by rw[hj]at nI;cases nI;exact h3.symm
  have M6:(es.modify j (λe'=>{e' with key:= .string s,val:=v})).toList=es.toList.set j {e0 with key:= .string s,val:=v}:=by
   rw[Array.toList_modify];exact ChangeMaps.modify_eq_set _ _ _ _ l
  have lq:(es.toList.map (·.key)).Nodup:=c.stamped.2.2;have W:wW G.S w (es.modify j (λe'=>{e' with key:= .string s,val:=v})) clock ((s,d)::g):=by
   refine⟨by simpa using c.size,MapKept.stamped_modify c.stamped _ _ (λ_ _=>rfl) (λe' _ nI=>amw e' nI),λx f=> ?_,λu E F=> ?_,by have:=c.len;simp;omega,λi e p=> ?_,by rw[c.H8];simp⟩
   ·rw[M6]at f;obtain⟨i,eY,y⟩:=List.getElem_of_mem f;rw[List.getElem_set]at y;split at y
    ·rw[<-y];exact⟨s,d,rfl,by rw[BZ,ZL rfl],hv⟩
    ·next cX=>
     have ma:i<es.toList.length:=by simpa using eY
     have oh:x∈es.toList:=by rw[<-y];exact List.getElem_mem ma
     obtain⟨u,E,k1,k2,k3⟩:=c.Dh x oh;refine⟨u,E,k1,?_,k3⟩;rw[BZ,ZN ?_];{exact k2}
     ·intro C;have a1:(es.toList.map (·.key))[i]?=some (.string s):=by rw[Zm,Zd ma,y];simp [k1,C]
      have a2:(es.toList.map (·.key))[j]?=some (.string s):=by rw[Zm,l];simp [h3]
      have hii:i<(es.toList.map (·.key)).length:=by simpa using ma
      exact cX ((List.getElem?_inj hii lq).1 (a1.trans a2.symm)).symm
   ·rw[M6];rw[BZ]at F;split at F
    ·next e=>subst e;exact⟨_,List.mem_iff_getElem?.2 ⟨j,Z1 A2⟩,rfl⟩
    ·next cX=>
     obtain⟨x,f,q⟩:=c.all u E F;obtain⟨i,eY,y⟩:=List.getElem_of_mem f;refine⟨x,a8.2 ⟨i,by simpa using eY,?_⟩,q⟩;rw[List.getElem_set];split
     ·next e=>
      subst e;exfalso;have:es.toList[j]?=some x:=by rw[Zd eY,y]
      rw[this]at l;cases l
      rw[h3]at q;injection q with q;exact cX q
     ·exact y
   ·rw[Array.getElem?_modify]at p;split at p
    ·next ei=>
     subst ei;rw[hj]at p;cases p
     exact c.born _ e0 hj
    ·exact c.born i e p
  obtain⟨f1,f2⟩:=M _ _ _ rfl W;refine⟨_,?_,f1,f2⟩;simp [Instr.mapUpdate,run_underlying (Ff hT),MapKept.run_getObj_map H,MapKept.run_checkKey pF uM,MapKept.run_findKey pF A,hj,h3,MapKept.run_keyThatStays uM,MapKept.run_setObj_map _ H,Result.andThen,ChangeMaps.setBlock]
end
set_option linter.unusedVariables false
set_option linter.unusedSimpArgs false
section
variable {P:dg} {G:Gh} {w:Zz} {h:I ar}
def NS{w':Zz}(hi:cu G w h){n:Nat}{B B':ar}(y:h[n]?=some B)(M:∀G':Gh,B.eZ G' n=G'.ow n)(R:∀G':Gh,B'.eZ G' n=G'.ow n)(S:Nat->Nat->Prop)(v:kd)(len:Nat)(ow:U Nat)
 (t:cn G.N G w (G.grow n S v len ow) w') (k:∀g,ow=some g->(g=w.heap.size\/G.ow n=some g)/\g<w'.heap.size)
 (A:∀b o,S b o->G.S b o\/ow=some b) (T:∀b,b<w.heap.size->ow≠some b->w'.heap[b]?=w.heap[b]?)
 (W:e8 (G.grow n S v len ow) w' n B'):cu (G.grow n S v len ow) w' (h.set n B'):=by
 have E:∀m,m≠n->(h.set n B')[m]?=h[m]?:=λm c=>by rw[Z3 (Ne.symm c)]
 have F:(h.set n B')[n]?=some B':=by rw[Z1 (Zk.1 y).1]
 have mh:∀m(C:ar),m≠n->C.eZ (G.grow n S v len ow) m=C.eZ G m:=λm C c=>by
  cases C<;>simp [ar.eZ,Gh.grow,c]
 have u:∀m,m≠n->ct (h.set n B') (G.grow n S v len ow) m=ct h G m:=λm c=>by
  unfold ct;rw[E m c];cases h[m]? with
  |none=>rfl
  |some C=>exact mh m C c
 have H:ct (h.set n B') (G.grow n S v len ow) n=ow:=by rw[eJ F,R];simp [Gh.grow]
 have x:∀m b,m≠n->ow=some b->ct h G m≠some b:=λm b c ho e=>by
  rcases (k b ho).1 with k|k
  ·have:=hi.iS e;omega
  ·exact c (hi.inj m n b e ((eJ y).trans ((M G).trans k)))
 refine⟨by rw[YR];exact hi.len,λb e=>ZU (hi.z b e) t.size,λb o d=> ?_,λm C c=> ?_,λm l b f i=> ?_,hi.gl.keep t⟩
 ·rcases A b o d with d|d
  ·exact ZU (hi.S b o d) t.size
  ·exact(k b d).2
 ·by_cases j:m=n
  ·subst j;rw[F]at c;cases c;exact W
  ·rw[E m j]at c;refine e8.keep (hi.lt c) t (Zr _) ⟨by simp [Gh.grow,j],by simp [Gh.grow,j],by simp [Gh.grow,j]⟩ (λb e=> ?_) (hi.dJ m C c);have J:ct h G m=some b:=(eJ c).trans e;have L:ow≠some b:=λe'=>x m b j e' J;refine⟨T _ (hi.iS J) L,λo kL d=> ?_⟩;rcases A _ o d with d|d
   ·exact kL d
   ·exact L d
 ·by_cases p:m=n<;>by_cases q:l=n
  ·rw[p,q]
  ·subst p;rw[u l q]at i;rw[H]at f;exact absurd i (x l b q f)
  ·subst q;rw[u m p]at f;rw[H]at i;exact absurd f (x m b p i)
  ·rw[u m p]at f;rw[u l q]at i;exact hi.inj m l b f i
def Gh.fV(G:Gh)(v:kd)(len:Nat)(ow:U Nat):Gh:={G with N:=G.N+1,sg:=λn=>if n=G.N then v else G.sg n,fl:=λn=>if n=G.N then len else G.fl n,ow:=λn=>if n=G.N then ow else G.ow n}
def Wl{w':Zz}(hi:cu G w h)(B:ar)(x:∀(G':Gh) n,B.eZ G' n=G'.ow n)(v:kd)(len:Nat)(e:U Nat)(f:(∀b,b<w.heap.size->w'.heap[b]?=w.heap[b]?)/\w.heap.size<=w'.heap.size/\w'.os=w.os/\w'.tape=w.tape/\w'.output=w.output)
 (how:∀g,e=some g->w.heap.size<=g)
 (y:e8 (G.fV v len e) w' G.N B):cn G.N G w (G.fV v len e) w'/\cu (G.fV v len e) w' (h++[B]):=by
 have j:∀n,n<G.N->n≠G.N:=λn c=>Nat.ne_of_lt c;have t:cn G.N G w (G.fV v len e) w':=⟨f.2.1,λ_ _ h=>h,λb o u=>World.cell?_of_block (f.1 b (hi.S b o u)),λ_ _=>rfl,λn c=>.inl ⟨by simp [Gh.fV,j n c],by simp [Gh.fV,j n c]⟩,iO rfl,λb d=>f.1 b (hi.z b d),f.2.2.1,f.2.2.2.1,f.2.2.2.2,λ_ _ h=>.inl h⟩;have A:G.N<=(G.fV v len e).N:=an _;have E:∀n(C:ar),n<G.N->C.eZ (G.fV v len e) n=C.eZ G n:=λn C c=>by
  cases C<;>simp [ar.eZ,Gh.fV,Nat.ne_of_lt c]
 have k:∀n b,ct (h++[B]) (G.fV v len e) n=some b->(n<G.N/\ct h G n=some b)\/(n=G.N/\e=some b):=λn b d=>by
  by_cases c:n<h.length;{unfold ct at d;rw[ZW c,Zd c]at d;exact .inl ⟨hi.len▸c,by unfold ct;rw[Zd c,<-d];exact(E n _ (hi.len▸c)).symm⟩}
  ·by_cases F:n=h.length
   ·subst F;rw[eJ (B:=B) (by simp),x]at d;exact .inr ⟨hi.len,by simpa [Gh.fV,hi.len]using d⟩
   ·rw[xr (Yz (by simp;omega))]at d;cases d
 refine⟨t,by simp [Gh.fV,hi.len],λb d=>ZU (hi.z b d) f.2.1,λb o u=>ZU (hi.S b o u) f.2.1,λn C i=> ?_,λm n b H J=> ?_,hi.gl.keep t⟩
 ·by_cases c:n<h.length
  ·rw[ZW c]at i;have l:n<G.N:=hi.len▸c;exact e8.keep l t A ⟨by simp [Gh.fV,j n l],by simp [Gh.fV,j n l],by simp [Gh.fV,j n l]⟩ (λb d=>⟨f.1 b (hi.iS ((eJ i).trans d)),λo h=>h⟩) (hi.dJ n C i)
  ·have L:n=h.length:=by
    have:=(Zk.1 i).1;simp at this;omega
   subst L;simp at i;subst i;rw[hi.len];exact y
 ·rcases k m b H with⟨_,p⟩|⟨rfl,p⟩<;>rcases k n b J with⟨_,q⟩|⟨rfl,q⟩
  ·exact hi.inj m n b p q
  ·have:=hi.iS p;have:=how b q;omega
  ·have:=hi.iS q;have:=how b p;omega
  ·rfl
def aO.vy{n o len L k:Nat}{e:TypeId}{cs:I (I AV)}{u:kd}(hi:cu G w h)(b:h[n]?=some (.vec e k cs))(c:cs.length=L)(d:aO G w u (.vec n o len L k)):YZ (G.sg n) u o len L k:=by
 have f:=(hi.dJ n _ b).1;cases d with|vec _ _ _ _ _ i j l g=>exact g (by rw[<-c,f])
def aO.afc{n i j L k:Nat}{e:TypeId}{b:Nat}{cs:I (I AV)}{u:kd}(hi:cu G w h)(c:h[n]?=some (.vec e b cs))(d:cs.length=L)(f:aO G w u (.eC n i j L k)):YX (G.sg n) u i j L k:=by
 have g:=(hi.dJ n _ c).1;cases f with|eC _ _ _ _ _ m p q l=>exact l (by rw[<-d,g])
def IZ{n:Nat}{e k:Nat}{cs:I (I AV)}(hi:cu G w h)(d:h[n]?=some (.vec e k cs))(f:cs≠ []):∃(g cap:Nat)(cur:Array kd),G.ow n=some g/\G.sg n= .slice (some ⟨g,0,none⟩) cs.length cap/\¬G.Z g/\w.heap[g]?=some (.cells cur e (0,0))/\cs.length<=cap/\cap<=maxLen/\cur.size=cap*k/\(∀o,¬G.S g o)/\
        ∀(i j:Nat)(c:I AV)(x:AV)(u:kd),cs[i]?=some c->c[j]?=some x->cur[i*k+j]?=some u->aO G w u x:=by
 obtain⟨_,_,_,b|b⟩:=hi.dJ n _ d;{exact absurd b.2.1 f};{exact b}
def IC{n:Nat}{e k:Nat}{cs:I (I AV)}(hi:cu G w h)(b:h[n]?=some (.vec e k cs)):∀c∈cs,c.length=k:=(hi.dJ n _ b).2.2.1
def oG{i k L j:Nat}(hi:i<L)(b:j<k):i*k+j<L*k:=by
 have:(i+1)*k<=L*k:=Xw k hi;rw[YF]at this;omega
def JH{i k j:Nat}(b:j<k):(i*k+j)/ k=i/\(i*k+j)%k=j:=by
 have c:0<k:=by omega
 exact⟨by rw[Nat.add_comm,Nat.add_mul_div_right _ _ c,Nat.div_eq_of_lt b,ZJ],by rw[Nat.add_comm,Nat.add_mul_mod_self_right,Nat.mod_eq_of_lt b]⟩
def asc{i i' j j' k:Nat}(d:j<k)(f:j'<k)(e:i*k+j=i'*k+j'):i=i'/\j=j':=by
 have b:=JH (i:=i) d;have c:=JH (i:=i') f;exact⟨by rw[<-b.1,<-c.1,e],by rw[<-b.2,<-c.2,e]⟩
def amG{t n i j L k:Nat}{e:TypeId}{cs:I (I AV)}{c:I AV}{x:AV}{v:kd}(hi:cu G w h)(d:h[n]?=some (.vec e k cs))(H:cs.length=L)(f:cs[i]?=some c)(b:UY P t c j=some x)(J:aO G w v (.eC n i j L k)):
 ∃u,(Instr.loadAt t v).run P w= .ok u w/\aO G w u x:=by
 have l:i<cs.length:=(Zk.1 f).1;have M:c.length=k:=IC hi d c (ZX f);obtain⟨g,N,cur,r1,R,r3,S,z,r6,A,r8,T⟩:=IZ hi d (λe=>by subst e;simp at l);obtain⟨_,g',Hw,B,W⟩:=J.afc hi d H;rw[R]at B;cases B
 have h1:∀q,q<c.length->w.cell? ⟨g,i*k+q,none⟩=some (cur.getD (i*k+q) undef):=λq m=>by
  rw[cell_of_row w g _ cur e (0,0) S];have:i*k+q<cur.size:=by
    rw[A];exact ZU (oG l (by omega)) (Xw k z)
  simp [Array.getD,this]
 have h2:∀(q:Nat)(y:AV),c[q]?=some y->aO G w (cur.getD (i*k+q) undef) y:=λq y m=>by
  have Rx:=(Zk.1 m).1;have aS:i*k+q<cur.size:=by
   rw[A];exact ZU (oG l (by omega)) (Xw k z)
  have e1:cur[i*k+q]?=some (cur.getD (i*k+q) undef):=by simp [Array.getD,aS]
  exact T i q c y _ f m e1
 have p:=YM (P:=P) (G:=G) (w:=w) (t:=t) (C:=(·=x)) g (i*k) c j (λq=>cur.getD (i*k+q) undef) h1 h2 (by
  unfold UY at b;revert b;cases nL P t with
  |none=>intro b;cases b
  |some E=>
   cases ZA P t with
   |none=>cases E<;>(intro b;cases b)
   |some kk=>
    cases E with
    |true=>
     simp only;intro b;cases F:cG (j+kk) c.length with
     |false=>rw[F]at b;cases b
     |true=>rw[F]at b;cases b;exact rfl
    |false=>
     simp only;intro b;rw[b])
 obtain⟨u,y,k1,k2,rfl⟩:=p;refine⟨u,?_,k2⟩;rw[W];simp [Instr.loadAt,Instr.sureAddr,k1]
def aok{t b off k:Nat}{T:TypeId}{v:kd}{c:Array kd}(f:w.heap[b]?=some (.cells c T (0,0)))(g:ZA P t=some k)(d:v.cells.size=k)(j:∀u∈v.cells.toList,u.oneCell'=true)(l:off+k<=c.size):
 (storeVar t ⟨b,off,none⟩ v).run P w= .ok () (w.setRow b (c.toList.take off++v.cells.toList++c.toList.drop (off+v.cells.toList.length)).toArray):=by
 obtain⟨i,m,p⟩:=YO g;have e:=run_storeCells_at P b off T v.cells.toList 0 c w f (by rw[Z0,d];simpa using l) j;simp only[Nat.add_zero]at e;unfold storeVar;simp only[sizeOf,typeInfo,Sem.run_bind,d];simp [m,p,e]
def Zp(vs:Array kd)(us:I kd)(off q:Nat)(d:off+us.length<=vs.size):(vs.toList.take off++us++vs.toList.drop (off+us.length)).toArray[q]?=if off<=q/\q<off+us.length then us[q-off]? else vs[q]?:=by
 rw[List.getElem?_toArray,ZP];have b:vs.toList.length=vs.size:=Z0;by_cases c:q<off;{rw[ZW (by simp;omega),List.getElem?_take_of_lt c,ZN (by omega),ZF]}
 ·rw[ZC (by simp;omega)];simp only[ae,b];rw[Nat.min_eq_left (by omega)];by_cases e:q<off+us.length
  ·rw[ZW (by omega),ZL (by omega)]
  ·rw[ZC (by omega),List.getElem?_drop,ZN (by omega),show off+us.length+(q-off-us.length)=q by omega,ZF]
def Y9(vs:Array kd)(us:I kd)(off:Nat)(b:off+us.length<=vs.size):(vs.toList.take off++us++vs.toList.drop (off+us.length)).toArray.size=vs.size:=by
 simp only[List.size_toArray,Zj,ae,ak,Z0];omega
def ank(cs ys:I AV)(off q:Nat)(c:off+ys.length<=cs.length):(jM cs off ys)[q]?=if off<=q/\q<off+ys.length then ys[q-off]? else cs[q]?:=by
 unfold jM;rw[ZP];by_cases b:q<off;{rw[ZW (by simp;omega),List.getElem?_take_of_lt b,ZN (by omega)]}
 ·rw[ZC (by simp;omega)];simp only[ae];rw[Nat.min_eq_left (by omega)];by_cases d:q<off+ys.length
  ·rw[ZW (by omega),ZL (by omega)]
  ·rw[ZC (by omega),List.getElem?_drop,ZN (by omega),show off+ys.length+(q-off-ys.length)=q by omega]
def XV{n e k g cap:Nat}{cs cM:I (I AV)}{cur:Array kd}{us:I kd}{off:Nat}(hi:cu G w h)(A:h[n]?=some (.vec e k cs))(gF:0<k)(L:G.ow n=some g)(M:G.sg n= .slice (some ⟨g,0,none⟩) cs.length cap)(B:¬G.Z g)(C:w.heap[g]?=some (.cells cur e (0,0)))(R:cs.length<=cap)(T:cap<=maxLen)(W:cur.size=cap*k)(E:∀o,¬G.S g o)
 (l:off+us.length<=cur.size) (q:cM.length=cs.length) (j9:∀c∈cM,c.length=k)
 (DA:∀(i j:Nat)(c:I AV)(x:AV)(u:kd),cM[i]?=some c->c[j]?=some x->(if off<=i*k+j/\i*k+j<off+us.length then us[i*k+j-off]? else cur[i*k+j]?)=some u->aO G w u x):
 ∃G',cn G.N G w G' (w.setRow g (cur.toList.take off++us++cur.toList.drop (off+us.length)).toArray)/\G'.N=G.N/\cu G' (w.setRow g (cur.toList.take off++us++cur.toList.drop (off+us.length)).toArray) (h.set n (.vec e k cM))/\(∀m,G'.sg m=G.sg m)/\(∀m,G'.fl m=G.fl m):=by
 obtain⟨w',f⟩:∃w',w'=w.setRow g (cur.toList.take off++us++cur.toList.drop (off+us.length)).toArray:=⟨_,rfl⟩;rw[<-f];have t:∀b,b≠g->w'.heap[b]?=w.heap[b]?:=λb l=>by rw[f];exact setRow_other w g b _ l
 have qC:w'.heap[g]?=some (.cells (cur.toList.take off++us++cur.toList.drop (off+us.length)).toArray e (0,0)):=by rw[f];exact setRow_heap w g cur _ e _ C
 have F:w'.heap.size=w.heap.size:=by rw[f];exact P4 w g _
 obtain⟨G',d⟩:∃G',G'=G.grow n G.S (G.sg n) (G.fl n) (some g):=⟨_,rfl⟩;have v:∀m,G'.sg m=G.sg m:=λm=>by rw[d];simp only[Gh.grow];split<;>simp_all
 have y:∀m,G'.fl m=G.fl m:=λm=>by rw[d];simp only[Gh.grow];split<;>simp_all
 have z:cn G.N G w G' w':=⟨by rw[F];exact Zr _,λb o h=>by rw[d];exact h,λb o p=>World.cell?_of_block (t b (λe=>E o (e▸p))),λ_ _=>by rw[d];rfl,λm _=>.inl ⟨y m,v m⟩,iO (by rw[d];rfl) (by rw[d];rfl),λb l=>t b (λe=>B (e▸l)),by rw[f];rfl,by rw[f];rfl,by rw[f];rfl,λb o p=>.inl (by rw[d]at p;exact p)⟩;have H:=hi.dJ n _ A;refine⟨G',z,by rw[d];rfl,?_,v,y⟩;subst d;refine NS hi A (λ_=>rfl) (λ_=>rfl) _ _ _ _ z (λg' uu=> ?_) (λb o p=>.inl p) (λb _ ie=>t b (λe=>ie (by rw[e]))) ?_;{cases uu;exact⟨.inr L,by rw[F];exact(ZT.1 C).1⟩};{refine⟨by rw[y,q];exact H.1,by rw[q];exact H.2.1,j9,.inr ⟨g,cap,_,by simp [Gh.grow],by rw[v,q];exact M,B,qC,by rw[q];exact R,T,by rw[Y9 _ _ _ l];exact W,E,λi j c x u hc hx J=> ?_⟩⟩;rw[Zp _ _ _ _ l]at J;exact(DA i j c x u hc hx J).keep z (Zr _)}
def aii{t n i j L k:Nat}{e:TypeId}{cs:I (I AV)}{c:I AV}{x:AV}{v u:kd}(hi:cu G w h)(B:h[n]?=some (.vec e k cs))(hL:cs.length=L)(C:cs[i]?=some c)(hv:aO G w v (.eC n i j L k))(hx:aO G w u x)(TH:x.kW=true)(ht:ZA P t=some x.cells.length)(hj:j+x.cells.length<=k)(gF:0<k):
 ∃w' G',(Instr.storeAt t v u).run P w= .ok () w'/\cn G.N G w G' w'/\G.N<=G'.N/\cu G' w' (h.set n (.vec e k (cs.set i (jM c j x.cells)))):=by
 have A:i<cs.length:=(Zk.1 C).1;have E:=IC hi B;have F:c.length=k:=E c (ZX C);obtain⟨g,H,cur,r1,R,r3,S,T,r6,W,r8,r9⟩:=IZ hi B (λe=>by subst e;simp at A);obtain⟨_,g',Hw,p1,p2⟩:=hv.afc hi B hL;rw[R]at p1;cases p1
 obtain⟨J,c2⟩:=hx.cells TH;have qI:u.cells.toList.length=x.cells.length:=by rw[Z0,J]
 have jb:∀y∈u.cells.toList,y.oneCell'=true:=λy f=>by
  obtain⟨q,p⟩:=List.mem_iff_getElem?.1 f;have Rx:u.cells[q]?=some y:=by rw[<-ZF];exact p
  have M:q<x.cells.length:=by rw[<-J];exact(ZT.1 Rx).1
  exact(c2 q y _ Rx (Zd M)).2
 have nw:i*k+j+x.cells.length<=cur.size:=by
  have h1:(i+1)*k<=H*k:=Xw k (ZU A T);rw[YF]at h1;rw[W];omega
 have eN:=aok (P:=P) (off:=i*k+j) S ht J jb nw;obtain⟨G',e1,e2,e3,_⟩:=XV (us:=u.cells.toList) (off:=i*k+j) (cM:=cs.set i (jM c j x.cells)) hi B gF r1 R r3 S T r6 W r8 (by rw[qI];exact nw) (by rw[YR]) (λd l=>by
     obtain⟨q,p⟩:=List.mem_iff_getElem?.1 l;by_cases e:i=q
     ·subst e;rw[Z1 A]at p;cases p
      rw[Ic _ _ _ (by omega)];exact F
     ·rw[Z3 e]at p;exact E d (ZX p)) (λa b d y z l f m=>by
     have kC:b<k:=by
      by_cases e:i=a
      ·subst e;rw[Z1 A]at l;cases l
       have:=(Zk.1 f).1;rw[Ic _ _ _ (by omega)]at this;omega
      ·rw[Z3 e]at l;rw[<-E d (ZX l)];exact(Zk.1 f).1
     rw[qI]at m;by_cases e:i=a
     ·subst e;rw[Z1 A]at l;cases l
      rw[ank _ _ _ _ (by omega)]at f;by_cases hb:j<=b/\b<j+x.cells.length;{rw[ZL hb]at f;rw[ZL (by omega),show i*k+b-(i*k+j)=b-j by omega,ZF]at m;exact(c2 _ _ _ m f).1};{rw[ZN hb]at f;rw[ZN (by omega)]at m;exact r9 i b c y z C f m}
     ·rw[Z3 e]at l;rw[ZN ?_]at m
      ·exact r9 a b d y z l f m
      ·intro hh;have:a*k+b=i*k+(a*k+b-i*k):=by omega
       exact e ((asc (i:=a) (i':=i) (j:=b) (j':=a*k+b-i*k) kC (by omega) this).1.symm))
 refine⟨_,G',?_,e1,by rw[e2];exact Zr _,e3⟩;rw[p2];simp [Instr.storeAt,Instr.sureAddr,eN]
end
section
variable {P:dg} {G:Gh} {w:Zz} {h:I ar}
structure Cd(G:Gh)(w:World)(k:Nat)(ys:List (List AV))(us:List Value):Prop where
 len:us.length=ys.length*k
 wid:∀c∈ys,c.length=k
 one:∀u∈us,u.oneCell'=true
 rel:∀(i j:Nat)(c:List AV)(x:AV)(u:Value),ys[i]?=some c->c[j]?=some x->us[i*k+j]?=some u->aO G w u x
def VI{k tx e':Nat}{y:AV}{v:kd}{ys:I (I AV)}(hi:cu G w h)(hv:aO G w v y)(hs:BJ h k y ys)(gF:0<k)(B:P.underlying tx=some (.slice e')):
 ∃us,Cd G w k ys us/\Src P k tx v ys.length us w:=by
 rcases hs with⟨xs,E,p,rfl⟩|⟨n,o,len,L,e,F,rfl,p,H,J,h5⟩
 ·obtain⟨us,M,AK⟩:=(hv.list E).src gF p B;have hl:(cg xs).length=xs.length:=by unfold cg;rw[Zq]
  refine⟨us,⟨by rw[hl];exact M.len,λc f=> ?_,M.one,λi j c x u f l b=> ?_⟩,by rw[hl];exact AK⟩;{unfold cg at f;obtain⟨d,hd,rfl⟩:=W1.1 f;rw[Zq];exact p d hd}
  ·unfold cg at f;rw[Zm]at f;cases N:xs[i]? with
   |none=>rw[N]at f;cases f
   |some d=>
    rw[N]at f;cases f
    rw[Zm]at l;cases R:d[j]? with
    |none=>rw[R]at l;cases l
    |some z=>
     rw[R]at l;cases l
     obtain⟨u',a1,a2⟩:=M.rel i j d z N R;rw[a1]at b;cases b
     exact .d a2
 ·have t:=hv.vy hi p H;obtain⟨A,c,rfl,c1,c2,c3,c4⟩:=t.sl;have C:ys.length=len:=by rw[J,ae,ak,H];have:=t.ol;omega
  by_cases h0:len=0
  ·subst h0;have:ys=[]:=W7 C;subst this;refine⟨[],⟨by simp,(λ_ h=>by cases h),(λ_ h=>by cases h),λi j c x u f=>by simp at f⟩,?_⟩;cases A with
   |none=>exact Src.ofNil w B c
   |some a=>exact Src.ofSlice w B a 0 c [] (by simp) (λj u b=>by simp at b) (λu b=>by cases b)
  ·have ho:o<L:=by have:=t.ol;omega
   obtain⟨g,S,p1,rfl,p3⟩:=c4 ho;have cX:F≠ []:=λe=>by subst e;simp at H;omega
   obtain⟨g',Hw,cur,r1,r2,r3,r4,r5,r6,r7,r8,r9⟩:=IZ hi p cX;rw[r2]at p1;cases p1
   have T:=IC hi p;have W:∀q,q<len*k->o*k+q<cur.size:=λq m=>by
    have E:(o+len)*k<=S*k:=Xw k (by have:=t.ol;omega);rw[YF]at E;rw[r7];omega
   have kY:∀i,i<len->ys[i]?=F[o+i]?:=λi eY=>by rw[J,List.getElem?_take_of_lt eY,List.getElem?_drop]
   have jb:∀q,q<len*k->(cur.getD (o*k+q) undef).oneCell'=true:=λq m=>by
    have QK:q / k<len:=Nat.div_lt_of_lt_mul (by rw[Nat.mul_comm];exact m);have hkj:q%k<k:=Nat.mod_lt _ gF;obtain⟨d,iF⟩:∃d,F[o+q / k]?=some d:=⟨_,Zd (by have:=t.ol;omega)⟩;have Gt:=T _ (ZX iF);obtain⟨x,l⟩:∃x,d[q%k]?=some x:=⟨_,Zd (by rw[Gt];exact hkj)⟩;have e1:(o+q / k)*k+q%k=o*k+q:=by
     rw[YF];have:=Nat.div_add_mod q k;rw[Nat.mul_comm]at this;omega
    have hu':cur[(o+q / k)*k+q%k]?=some (cur.getD (o*k+q) undef):=by
     rw[e1];simp [Array.getD,W q m]
    refine(r9 _ _ _ _ _ iF l hu').lG ?_;have kK:d∈ys:=ZX ((kY _ QK).trans iF);have:=h5 _ kK;rw[Zb]at this;exact this _ (ZX l)
   refine⟨(List.range (len*k)).map λq=>cur.getD (o*k+q) undef,⟨by rw[C];simp,λc f=>T c ?_,λu b=> ?_,λi j c x u f l b=> ?_⟩,?_⟩;{rw[J]at f;exact Z2 (List.mem_of_mem_take f)};{obtain⟨q,m,rfl⟩:=W1.1 b;exact jb q (List.mem_range.1 m)}
   ·have kX:i<len:=by rw[<-C];exact(Zk.1 f).1
    rw[kY i kX]at f;have PH:j<k:=by rw[<-T c (ZX f)];exact(Zk.1 l).1
    have aS:i*k+j<len*k:=oG kX PH;rw[Zm,List.getElem?_range aS]at b;simp only[YV,W2]at b;refine r9 (o+i) j c x u f l ?_;rw[<-b,show(o+i)*k+j=o*k+(i*k+j) by rw[YF];omega];simp [Array.getD,W _ aS]
   ·rw[C];refine Src.ofSlice w B _ len c _ (by simp) (λj u b=> ?_) (λu b=> ?_)
    ·rw[nm,cell_of_row w g _ cur e (0,0) r4];rw[Zm]at b;by_cases hj:j<len*k
     ·rw[List.getElem?_range hj]at b;simp only[YV,W2]at b;rw[<-b];simp [Array.getD,W _ hj]
     ·rw[Yz (by simp;omega)]at b;cases b
    ·obtain⟨q,m,rfl⟩:=W1.1 b;exact jb q (List.mem_range.1 m)
def Cd.keep{G':Gh}{w':Zz}{k:Nat}{ys:I (I AV)}{us:I kd}(h:Cd G w k ys us)(b:cn G.N G w G' w')(d:G.N<=G'.N):Cd G' w' k ys us:=
 ⟨h.len,h.wid,h.one,λi j c x u e f g=>(h.rel i j c x u e f g).keep b d⟩
def agU{α:Type}{k:Nat}(l:I α)(us:I α)(m i j:Nat)(b:l.length=m*k)(c:j<k):(l++us)[i*k+j]?=if i<m then l[i*k+j]? else us[(i-m)*k+j]?:=by
 by_cases h:i<m;{rw[ZL h,ZW (by rw[b];exact oG h c)]};{have d:m*k<=i*k:=Xw k (by omega);rw[ZN h,ZC (by rw[b];omega),b,Nat.sub_mul,show i*k+j-m*k=i*k-m*k+j by omega]}
def RL{e k cap:Nat}{cs:I (I AV)}{cur:Array kd}(hi:cu G w h)(h1:cs.length<=cap)(q:cap<=maxLen)(C:cur.size=cap*k)(E:∀c∈cs,c.length=k)(w0:Zz)(f:w0.heap=w.heap/\w0.os=w.os/\w0.tape=w.tape/\w0.output=w.output)
 (F:∀(i j:Nat)(c:I AV)(x:AV)(u:kd),cs[i]?=some c->c[j]?=some x->cur[i*k+j]?=some u->aO G w u x):
 ∃G',cn G.N G w G' (w0.alloc (.cells cur e))/\G.N<=G'.N/\cu G' (w0.alloc (.cells cur e)) (h++[.vec e k cs])/\∀len,len<=cs.length->aO G' (w0.alloc (.cells cur e)) (.slice (some ⟨w.heap.size,0,none⟩) len cap) (.vec h.length 0 len cs.length k):=by
 have t:w0.heap.size=w.heap.size:=by rw[f.1]
 have H:(w0.alloc (.cells cur e)).heap[w.heap.size]?=some (.cells cur e (0,0)):=by rw[<-t];exact World.alloc_heap_new w0 _
 have l:∀b,b<w.heap.size->(w0.alloc (.cells cur e)).heap[b]?=w.heap[b]?:=λb v=>by rw[Below.heap_alloc w0 _ b (by rw[t];exact v),f.1]
 have d:(∀b,b<w.heap.size->(w0.alloc (.cells cur e)).heap[b]?=w.heap[b]?)/\w.heap.size<=(w0.alloc (.cells cur e)).heap.size/\(w0.alloc (.cells cur e)).os=w.os/\(w0.alloc (.cells cur e)).tape=w.tape/\(w0.alloc (.cells cur e)).output=w.output:=
  ⟨l,by simp [t],f.2.1,f.2.2.1,f.2.2.2⟩
 obtain⟨p,y⟩:∃p,p=Value.slice (some ⟨w.heap.size,0,none⟩) cs.length cap:=⟨_,rfl⟩;obtain⟨J,_⟩:cn G.N G w (G.fV p cs.length (some w.heap.size)) (w0.alloc (.cells cur e))/\True:=by
  refine⟨⟨d.2.1,λ_ _ h=>h,λb o A=>World.cell?_of_block (d.1 b (hi.S b o A)),λ_ _=>rfl,λn B=>.inl ⟨by simp [Gh.fV,Nat.ne_of_lt B],by simp [Gh.fV,Nat.ne_of_lt B]⟩,iO rfl,λb v=>d.1 b (hi.z b v),d.2.2.1,d.2.2.2.1,d.2.2.2.2,λ_ _ h=>.inl h⟩,trivial⟩
 obtain⟨L,M⟩:=Wl (w':=w0.alloc (.cells cur e)) hi (.vec e k cs) (λ_ _=>rfl) p cs.length (some w.heap.size) d (λg R=>by cases R;exact Zr _) (by
  refine⟨by simp [Gh.fV],Za h1 q,E,.inr ⟨w.heap.size,cap,cur,by simp [Gh.fV],by simp [Gh.fV,y],λT=>Yv _ (hi.z _ T),H,h1,q,C,λo A=>Yv _ (hi.S _ _ A),λi j c x u W hx hu=>(F i j c x u W hx hu).keep J (an _)⟩⟩)
 refine⟨_,L,an _,M,λlen m=> ?_⟩;rw[hi.len];refine .vec G.N 0 len cs.length k (by simp [Gh.fV]) ⟨_,_,_,rfl⟩ (by simp [Gh.fV]) λ_=>⟨by omega,⟨_,_,rfl,Za m h1,q,h1,λ_=>⟨w.heap.size,cap,by simp [Gh.fV,y],by simp,by simp⟩⟩,λ_ e=>by subst e;simp [Gh.fV,y]⟩
def ak5{T e k len m dy:Nat}{i:TypeInfo}{z:kd}{kl kc:IntKind}{l c:Int}(hi:cu G w h)(L:P.underlying T=some (.slice e))(M:P.info? e=some i)(R:i.zero=some z)(S:i.size=k)(W:i.bytes=dy)(A:z.cells.toList.length=k)(gF:0<k)
 (h0:0<=l) (mr:l<=c) (E:l.toNat=len) (f:c.toNat=m) (F:m<=maxLen) (hb:dy*m<=281474976710656):
 ∃u w' G',(Instr.makeSlice T (.int kl l) (.int kc c)).run P w= .ok u w'/\cn G.N G w G' w'/\G.N<=G'.N/\cu G' w' (h++[.vec e k (List.replicate m (z.cells.toList.map λu=>.d (.v u)))])/\aO G' w' u (.vec h.length 0 len m k):=by
 subst S;subst W;have ie:(i.bytes:Int)*c<=281474976710656:=by
  have:((i.bytes*m:Nat):Int)<=281474976710656:=by omega
  rw[Int.natCast_mul,<-f,Int.toNat_of_nonneg (by omega)]at this;exact this
 have B:c<=9223372036854775807:=by have h:=F;simp [maxLen]at h;omega
 have H:=run_make (P:=P) w T e i z L M R kl kc l c h0 mr ie B;rw[E,f]at H;have g:(List.replicate m (z.cells.toList.map λu=>AV.d (.v u))).length=m:=Yd;obtain⟨G',g1,g2,g3,J⟩:=RL (e:=e) (k:=i.size) (cap:=m) (cs:=List.replicate m (z.cells.toList.map λu=>AV.d (.v u))) (cur:=madeCells z.cells (m*i.size)) hi (by rw[g];exact Zr _) F (size_madeCells _ _) (λc f=>by
  rw[List.eq_of_mem_replicate f,Zq];exact A) w ⟨rfl,rfl,rfl,rfl⟩ (λa b c x u f p j=>by
  have:=List.eq_of_mem_replicate (ZX f);subst this;rw[Zm]at p;cases q:z.cells.toList[b]? with
  |none=>rw[q]at p;cases p
  |some y=>
   rw[q]at p;cases p
   have t:b<i.size:=by rw[<-A];exact(Zk.1 q).1
   have Wm:a<m:=by have:=(Zk.1 f).1;rwa [g]at this
   unfold madeCells at j;have aS:a*i.size+b<m*i.size:=oG Wm t;rw[Array.getElem?_map,Array.getElem?_range,ZL aS]at j;simp only[YV,W2]at j;have C:z.cells.size=i.size:=by rw[<-Z0];exact A
   rw[C,(JH (i:=a) t).2]at j;have qp:z.cells[b]?=some y:=by rw[<-ZF];exact q
   rw[getElem!_pos z.cells b (by rw[C];exact t)]at j;rw[ZH (by rw[C];exact t)]at qp;cases qp
   subst j;exact .d (.v _))
 rw[g]at J;refine⟨_,_,G',H,g1,g2,g3,J len ?_⟩;rw[<-E,<-f];omega
def arW{T tx ty e k dy n o len L:Nat}{i:TypeInfo}{z:kd}{u v:kd}{cs ys:I (I AV)}{us:I kd}(hi:cu G w h)(hT:P.underlying T=some (.slice e))(mD:P.info? e=some i)(hz:i.zero=some z)(oK:i.size=k)(Ap:i.bytes=dy)(lK:z.cells.size=k)(gF:0<k)
 (hn:h[n]?=some (.vec e k cs)) (hL:cs.length=L) (hu:aO G w u (.vec n o len L k)) (B:Cd G w k ys us) (p:Src P k tx v ys.length us w)
 {L':Nat} {cM:I (I AV)} (sD:(o+len+ys.length<=L/\L'=L/\cM=cs.take (o+len)++ys++cs.drop (o+len+ys.length))\/(o=0/\len=L/\L'=L+ys.length/\cM=cs++ys/\L'<=maxLen/\L'*dy<=140737488355328)):
 ∃r w' G',(Builtin.append_ #[T,tx] ty #[u,v]).run P w= .ok r w'/\cn G.N G w G' w'/\G.N<=G'.N/\cu G' w' (h.set n (.vec e k cM))/\aO G' w' r (.vec n o (len+ys.length) L' k):=by
 subst oK;subst Ap;have qJ:=hi.lt hn;have j9:=IC hi hn;have m4:=hu.vy hi hn hL;have lg:=hi.dJ n _ hn;have ato:=m4;obtain⟨CP,⟨A,c,rfl,c1,c2,c3,c4⟩,call⟩:=m4;by_cases hy:ys.length=0
 ·have kY:ys=[]:=W7 hy;subst kY;have nv:us=[]:=W7 (by rw[B.len];simp);subst nv;have F:=run_append_nothing (P:=P) w T tx ty e i hT mD A len c c1 v p;have e1:cM=cs:=by
   rcases sD with⟨_,_,e⟩|⟨_,_,_,e,_⟩
   ·rw[e];simp
   ·rw[e];simp
  have e2:L'=L:=by
   rcases sD with⟨_,e,_⟩|⟨_,_,e,_⟩
   ·exact e
   ·rw[e];simp
  subst e1;subst e2;refine⟨_,w,G,F,cn.refl _ _ _,Zr _,?_,by simpa using hu⟩;have:h.set n (.vec e i.size cM)=h:=by
   refine List.ext_getElem? λm=> ?_;by_cases M:m=n
   ·subst M;rw[Z1 (Zk.1 hn).1,hn]
   ·rw[Z3 (Ne.symm M)]
  rw[this];exact hi
 ·have XT:0<ys.length:=Nat.pos_of_ne_zero hy;have room:len+ys.length<=c->∀g cap cur,G.ow n=some g->G.sg n= .slice (some ⟨g,0,none⟩) cs.length cap->¬G.Z g->w.heap[g]?=some (.cells cur e (0,0))->cs.length<=cap->cap<=maxLen->cur.size=cap*i.size->(∀o,¬G.S g o)->
      (∀(a b:Nat)(d:I AV)(x:AV)(q:kd),cs[a]?=some d->d[b]?=some x->cur[a*i.size+b]?=some q->aO G w q x)->A=some ⟨g,o*i.size,none⟩->o+c=cap->
      ∃r w' G',(Builtin.append_ #[T,tx] ty #[.slice A len c,v]).run P w= .ok r w'/\cn G.N G w G' w'/\G.N<=G'.N/\cu G' w' (h.set n (.vec e i.size cM))/\aO G' w' r (.vec n o (len+ys.length) L' i.size):=by
   intro ta g cap cur r1 r2 r3 r4 r5 r6 r7 r8 r9 rA rc;have nw:(o+len)*i.size+us.length<=cur.size:=by
    rw[B.len,r7,<-YF];exact Xw _ (by omega)
   have C5:∀j,j<us.length->(w.cell? ⟨g,o*i.size+len*i.size+j,none⟩).isSome=true:=λj hj=>by
    rw[cell_of_row w g _ cur e (0,0) r4,ZH (by rw[YF]at nw;omega)];rfl
   have F:=run_append_room_src (P:=P) w T tx ty e i hT mD g (o*i.size) len c v ys.length us p ta C5 (λj hj=>by unfold World.frozen?;rw[r4];simp);have mL:=run_storeCells_at P g (o*i.size+len*i.size) e us 0 cur w r4 (by rw[YF]at nw;simpa using nw) B.one;have yf:=run_storeCells_cells (P:=P) g (o*i.size+len*i.size) us 0 w (by simpa using C5) (λj hj=>by unfold World.frozen?;rw[r4];simp) B.one;simp only[Nat.add_zero]at mL yf;rw[mL]at yf;injection yf with _ e2;rw[<-e2,<-YF]at F;rw[rA];have gn:∀(a b:Nat)(d:I AV)(x:AV)(q:kd),cM[a]?=some d->d[b]?=some x->(if(o+len)*i.size<=a*i.size+b/\a*i.size+b<(o+len)*i.size+us.length then us[a*i.size+b-(o+len)*i.size]? else cur[a*i.size+b]?)=some q->aO G w q x:=by
    intro a b d x q l R y;have S9:d.length=i.size:=by
     have f:=ZX l;rcases sD with⟨_,_,e⟩|⟨_,_,_,e,_⟩
     ·rw[e]at f;rcases ZE.1 f with f|f
      ·rcases ZE.1 f with f|f
       ·exact j9 d (List.mem_of_mem_take f)
       ·exact B.wid d f
      ·exact j9 d (Z2 f)
     ·rw[e]at f;rcases ZE.1 f with f|f
      ·exact j9 d f
      ·exact B.wid d f
    have kC:b<i.size:=by rw[<-S9];exact(Zk.1 R).1
    have PO:(a<o+len/\cs[a]?=some d)\/(o+len<=a/\a<o+len+ys.length/\ys[a-(o+len)]?=some d)\/(o+len+ys.length<=a/\cs[a]?=some d):=by
     rcases sD with⟨hf,_,e⟩|⟨e0,e1,_,e,_⟩
     ·rw[e]at l;have SJ:(cs.take (o+len)).length=o+len:=by rw[ae];omega
      by_cases H:a<o+len;{rw[ZP,ZW (by rw[SJ];exact H),List.getElem?_take_of_lt H]at l;exact .inl ⟨H,l⟩}
      ·rw[ZP,ZC (by rw[SJ];omega),SJ]at l;by_cases h2:a-(o+len)<ys.length
       ·rw[ZW h2]at l;exact .inr (.inl ⟨by omega,by omega,l⟩)
       ·rw[ZC (by omega),List.getElem?_drop,show o+len+ys.length+(a-(o+len)-ys.length)=a by omega]at l;exact .inr (.inr ⟨by omega,l⟩)
     ·rw[e]at l;by_cases H:a<cs.length
      ·rw[ZW H]at l;exact .inl ⟨by omega,l⟩
      ·rw[ZC (by omega)]at l;have:=(Zk.1 l).1;exact .inr (.inl ⟨by omega,by omega,by rw[show a-(o+len)=a-cs.length by omega];exact l⟩)
    rcases PO with⟨H,h2⟩|⟨H,h2,h3⟩|⟨H,h2⟩
    ·rw[ZN (by have:=oG H kC;omega)]at y;exact r9 a b d x q h2 R y
    ·have E:(o+len)*i.size<=a*i.size:=Xw _ H;have aS:a*i.size+b<(o+len+ys.length)*i.size:=oG h2 kC;rw[YF (o+len)]at aS;rw[ZL ⟨by omega,by rw[B.len];exact aS⟩]at y;refine B.rel (a-(o+len)) b d x q h3 R ?_;rw[Nat.sub_mul,show a*i.size-(o+len)*i.size+b=a*i.size+b-(o+len)*i.size by omega];exact y
    ·have E:(o+len+ys.length)*i.size<=a*i.size:=Xw _ H;rw[YF (o+len)]at E;rw[ZN (by rw[B.len];omega)]at y;exact r9 a b d x q h2 R y
   have aaw:∀d∈cM,d.length=i.size:=λd f=>by
    rcases sD with⟨_,_,e⟩|⟨_,_,_,e,_⟩
    ·rw[e]at f;rcases ZE.1 f with f|f
     ·rcases ZE.1 f with f|f
      ·exact j9 d (List.mem_of_mem_take f)
      ·exact B.wid d f
     ·exact j9 d (Z2 f)
    ·rw[e]at f;rcases ZE.1 f with f|f
     ·exact j9 d f
     ·exact B.wid d f
   rcases sD with⟨hf,C,W⟩|⟨e0,e1,C,W,lY,n8⟩
   ·have t:cM.length=cs.length:=by rw[W];simp;omega
    obtain⟨G',k1,k2,k3,k4,k5⟩:=XV (us:=us) (off:=(o+len)*i.size) (cM:=cM) hi hn gF r1 r2 r3 r4 r5 r6 r7 r8 nw t aaw gn;refine⟨_,_,G',F,k1,by rw[k2];exact Zr _,k3,?_⟩;refine .vec n o (len+ys.length) L' i.size (by rw[k2];exact qJ) ⟨_,_,_,rfl⟩ (by rw[k5,C,lg.1,hL];exact Zr _) λ_=> ?_;rw[k4];refine⟨by omega,⟨_,_,rfl,ta,c2,by omega,λho=> ?_⟩,λho hl=> ?_⟩
    ·rw[C]at ho ⊢;obtain⟨g2,afb,q1,q2,q3⟩:=c4 ho;exact⟨g2,afb,q1,by rw[<-q2,rA],q3⟩
    ·subst ho;rw[r2,hL,<-C,<-hl];simp at rc;subst rc;simp
   ·subst e0;subst e1;simp only[ZJ,Nat.zero_mul]at*;subst rc;obtain⟨w',fU⟩:∃w',w'=w.setRow g (cur.toList.take (len*i.size)++us++cur.toList.drop (len*i.size+us.length)).toArray:=⟨_,rfl⟩;rw[<-fU]at F;have jO:∀b,b≠g->w'.heap[b]?=w.heap[b]?:=λb J=>by rw[fU];exact setRow_other w g b _ J
    have qC:w'.heap[g]?=some (.cells (cur.toList.take (len*i.size)++us++cur.toList.drop (len*i.size+us.length)).toArray e (0,0)):=by rw[fU];exact setRow_heap w g cur _ e _ r4
    have iR:w'.heap.size=w.heap.size:=by rw[fU];exact P4 w g _
    obtain⟨sv,nx⟩:∃sv,sv=Value.slice (some ⟨g,0,none⟩) L' c:=⟨_,rfl⟩;have t:cM.length=L':=by rw[W,Zj,hL,C]
    have nG:G.fl n=len:=by rw[lg.1,hL]
    have hE:cn G.N G w (G.grow n G.S sv L' (some g)) w':=⟨by rw[iR];exact Zr _,λ_ _ h=>h,λb q p=>World.cell?_of_block (jO b (λe=>r8 q (e▸p))),λ_ _=>rfl,λm _=>by
        by_cases M:m=n;{right;subst M;simp only[Gh.grow,if_true,nG];omega}
        ·left;exact⟨by simp [Gh.grow,M],by simp [Gh.grow,M]⟩,iO rfl,λb J=>jO b (λe=>r3 (e▸J)),by rw[fU];rfl,by rw[fU];rfl,by rw[fU];rfl,λb q p=>.inl p⟩
    refine⟨_,w',_,F,hE,Zr _,NS hi hn (λ_=>rfl) (λ_=>rfl) _ _ _ _ hE (λg' uu=>by cases uu;exact⟨.inr r1,by rw[iR];exact(ZT.1 r4).1⟩) (λb q p=>.inl p) (λb _ ie=>jO b (λe=>ie (by rw[e]))) ?_,?_⟩;{refine⟨by simp [Gh.grow,t],by rw[t];exact lY,aaw,.inr ⟨g,c,_,by simp [Gh.grow],by simp [Gh.grow,nx,t],r3,qC,by rw[t];omega,r6,by rw[Y9 _ _ _ nw];exact r7,r8,λa b d x q l R y=> ?_⟩⟩;rw[Zp _ _ _ _ nw]at y;exact(gn a b d x q l R y).keep hE (Zr _)};{refine .vec n 0 (len+ys.length) L' i.size qJ ⟨_,_,_,rfl⟩ (by simp [Gh.grow]) λ_=>⟨by omega,⟨_,_,rfl,ta,c2,by omega,λ_=>⟨g,c,by simp [Gh.grow,nx],by simp,by simp⟩⟩,λ_ e=> ?_⟩;simp [Gh.grow,nx,C]}
  rcases lg.2.2.2 with⟨b1,b2,A',b3⟩|⟨g,cap,cur,r1,r2,r3,r4,r5,r6,r7,r8,r9⟩
  ·
   subst b2;simp at hL;subst hL;have ho:o=0:=by omega
   have NL:len=0:=by omega
   subst ho;subst NL;have:=call rfl rfl;rw[b3]at this;injection this with q1 _ q2;subst q2;rcases sD with⟨hf,_,_⟩|⟨_,_,C,W,lY,n8⟩
   ·omega
   ·simp only[ZJ,Wo]at C W;subst W;rw[C]at lY n8;have QZ:cM.length<=9223372036854775807:=by simp only[maxLen]at lY;omega
    have hold:(Builtin.firstCells i.size 0 (.slice A 0 0)).run P w.drew= .ok ([]:I kd).toArray w.drew:=by
     cases A with
     |none=>exact run_firstCells_none _ _ _ _ _
     |some a=>exact run_firstCells_some _ _ _ _ _ _ [] (by simp) (λj u hu=>by simp at hu)
    have F:=run_append_grow_src (P:=P) w T tx ty e i z hT mD hz A 0 0 [] hold v cM.length us p (by omega) (by omega) (growslice_fits (by omega) (by simpa using n8));simp only[ZJ,Wo]at F;obtain⟨cap,la⟩:∃cap,cap=grownCap w cM.length 0 e:=⟨_,rfl⟩;have lu:cM.length<=cap:=by rw[la];exact grownCap_ge _ _ _ _
    have E:cap<=maxLen:=by rw[la];exact grownCap_le_maxLen _ _ _ _ lY
    rw[<-la]at F;obtain⟨cur,lA⟩:∃cur,cur=us.toArray++Builtin.zeroCells z.cells (cap-cM.length):=⟨_,rfl⟩;rw[<-lA]at F;have iF:cur.size=cap*i.size:=by
      have:=size_zeroCells z.cells (cap-cM.length);rw[lA,Array.size_append,this,List.size_toArray,B.len,lK,<-YF]
      congr 1
      omega
    have gn:(w.drew.alloc (.cells cur e)).heap[w.heap.size]?=some (.cells cur e (0,0)):=World.alloc_heap_new w.drew _;have xZ:∀b,b<w.heap.size->(w.drew.alloc (.cells cur e)).heap[b]?=w.heap[b]?:=λb J=>Below.heap_alloc w.drew _ b J;obtain⟨sv,nx⟩:∃sv,sv=Value.slice (some ⟨w.heap.size,0,none⟩) L' cap:=⟨_,rfl⟩;have nG:G.fl n=0:=by rw[lg.1];rfl
    have hE:cn G.N G w (G.grow n G.S sv L' (some w.heap.size)) (w.drew.alloc (.cells cur e)):=⟨by simp,λ_ _ h=>h,λb q p=>World.cell?_of_block (xZ b (hi.S b q p)),λ_ _=>rfl,λm _=>by
        by_cases M:m=n;{right;subst M;simp only[Gh.grow,if_true,nG];omega}
        ·left;exact⟨by simp [Gh.grow,M],by simp [Gh.grow,M]⟩,iO rfl,λb J=>xZ b (hi.z b J),rfl,rfl,rfl,λb q p=>.inl p⟩
    refine⟨_,_,_,F,hE,Zr _,NS hi hn (λ_=>rfl) (λ_=>rfl) _ _ _ _ hE (λg' uu=>by cases uu;exact⟨.inl rfl,by simp⟩) (λb q p=>.inl p) (λb J _=>xZ b J) ?_,?_⟩
    ·refine⟨by simp [Gh.grow,C],lY,B.wid,.inr ⟨w.heap.size,cap,cur,by simp [Gh.grow],by simp [Gh.grow,nx,C],λhz=>Yv _ (hi.z _ hz),gn,lu,E,iF,λq p=>Yv _ (hi.S _ _ p),λa b d x q l R y=> ?_⟩⟩;have kC:b<i.size:=by rw[<-B.wid d (ZX l)];exact(Zk.1 R).1
     have aS:a*i.size+b<us.length:=by rw[B.len];exact oG (Zk.1 l).1 kC
     rw[lA,Array.getElem?_append_left (by simpa using aS),List.getElem?_toArray]at y;exact(B.rel a b d x q l R y).keep hE (Zr _)
    ·rw[ZJ];refine .vec n 0 cM.length L' i.size qJ ⟨_,_,_,rfl⟩ (by simp [Gh.grow]) λ_=>⟨by omega,⟨_,_,rfl,lu,E,by omega,λ_=>⟨w.heap.size,cap,by simp [Gh.grow,nx],by simp,by simp⟩⟩,λ_ e=> ?_⟩;simp [Gh.grow,nx,C]
  ·
   rcases sD with⟨hf,C,W⟩|⟨e0,e1,C,W,lY,n8⟩
   ·obtain⟨g2,afb,q1,q2,q3⟩:=c4 (by omega);rw[r2]at q1;injection q1 with q4 _ q5;cases q4
    subst q5;exact room (by omega) g cap cur r1 r2 r3 r4 r5 r6 r7 r8 r9 q2 q3
   ·have:=call e0 e1;rw[r2]at this;injection this with q2 _ q3;by_cases ta:len+ys.length<=c
    ·exact room ta g cap cur r1 r2 r3 r4 r5 r6 r7 r8 r9 (by rw[q2,e0];simp) (by omega)
    ·subst e0;subst q2;subst q3;rw[C]at lY n8;have QZ:L+ys.length<=9223372036854775807:=by simp only[maxLen]at lY;omega
     have Ks:(cur.toList.take (len*i.size)).length=len*i.size:=by
      rw[ae,Z0,r7];exact Nat.min_eq_left (Xw _ c1)
     have hold:(Builtin.firstCells i.size len (.slice (some ⟨g,0,none⟩) len c)).run P w.drew= .ok (cur.toList.take (len*i.size)).toArray w.drew:=
      run_firstCells_some _ _ _ _ _ _ _ Ks (λj q y=>by
       rw[nm,ZJ];show w.cell? ⟨g,j,none⟩=some q;rw[cell_of_row w g _ cur e (0,0) r4,<-ZF];have A2:=(Zk.1 y).1;rw[Ks]at A2;rw[List.getElem?_take_of_lt A2]at y;exact y)
     have F:=run_append_grow_src (P:=P) w T tx ty e i z hT mD hz (some ⟨g,0,none⟩) len c _ hold v ys.length us p (by omega) (by omega) (growslice_fits (by omega) (by rw[e1];exact n8));obtain⟨cap,la⟩:∃cap,cap=grownCap w (len+ys.length) c e:=⟨_,rfl⟩;have lu:len+ys.length<=cap:=by rw[la];exact grownCap_ge _ _ _ _
     have E:cap<=maxLen:=by rw[la];exact grownCap_le_maxLen _ _ _ _ (by rw[e1];exact lY)
     rw[<-la]at F;obtain⟨xb,lA⟩:∃xb,xb=(cur.toList.take (len*i.size)++us).toArray++Builtin.zeroCells z.cells (cap-(len+ys.length)):=⟨_,rfl⟩;rw[<-lA]at F;have yo:(cur.toList.take (len*i.size)++us).length=(len+ys.length)*i.size:=by rw[Zj,Ks,B.len,<-YF]
     have iF:xb.size=cap*i.size:=by
      have:=size_zeroCells z.cells (cap-(len+ys.length));rw[lA,Array.size_append,this,List.size_toArray,yo,lK,<-YF]
      congr 1
      omega
     have gn:(w.drew.alloc (.cells xb e)).heap[w.heap.size]?=some (.cells xb e (0,0)):=World.alloc_heap_new w.drew _;have xZ:∀b,b<w.heap.size->(w.drew.alloc (.cells xb e)).heap[b]?=w.heap[b]?:=λb J=>Below.heap_alloc w.drew _ b J;obtain⟨sv,nx⟩:∃sv,sv=Value.slice (some ⟨w.heap.size,0,none⟩) L' cap:=⟨_,rfl⟩;have nG:G.fl n=L:=by rw[lg.1,hL]
     have t:cM.length=L':=by rw[W,Zj,hL,C]
     have hE:cn G.N G w (G.grow n G.S sv L' (some w.heap.size)) (w.drew.alloc (.cells xb e)):=⟨by simp,λ_ _ h=>h,λb q p=>World.cell?_of_block (xZ b (hi.S b q p)),λ_ _=>rfl,λm _=>by
         by_cases M:m=n;{right;subst M;simp only[Gh.grow,if_true,nG];omega}
         ·left;exact⟨by simp [Gh.grow,M],by simp [Gh.grow,M]⟩,iO rfl,λb J=>xZ b (hi.z b J),rfl,rfl,rfl,λb q p=>.inl p⟩
     refine⟨_,_,_,F,hE,Zr _,NS hi hn (λ_=>rfl) (λ_=>rfl) _ _ _ _ hE (λg' uu=>by cases uu;exact⟨.inl rfl,by simp⟩) (λb q p=>.inl p) (λb J _=>xZ b J) ?_,?_⟩
     ·refine⟨by simp [Gh.grow,t],by rw[t,C];exact lY,λd l=> ?_,.inr ⟨w.heap.size,cap,xb,by simp [Gh.grow],by simp [Gh.grow,nx,t],λhz=>Yv _ (hi.z _ hz),gn,by rw[t];omega,E,iF,λq p=>Yv _ (hi.S _ _ p),λa b d x q l R y=> ?_⟩⟩
      ·rw[W]at l;rcases ZE.1 l with l|l
       ·exact j9 d l
       ·exact B.wid d l
      ·refine aO.keep hE (Zr _) ?_;have S9:d.length=i.size:=by
        have f:=ZX l;rw[W]at f;rcases ZE.1 f with f|f
        ·exact j9 d f
        ·exact B.wid d f
       have kC:b<i.size:=by rw[<-S9];exact(Zk.1 R).1
       have hal:a<len+ys.length:=by
        have:=(Zk.1 l).1;rw[t,C]at this;omega
       have aS:a*i.size+b<(cur.toList.take (len*i.size)++us).length:=by rw[yo];exact oG hal kC
       rw[lA,Array.getElem?_append_left (by simpa using aS),List.getElem?_toArray,agU _ us len a b Ks kC]at y;rw[W]at l;by_cases H:a<len;{rw[ZL H,List.getElem?_take_of_lt (oG H kC),ZF]at y;rw[ZW (by omega)]at l;exact r9 a b d x q l R y};{rw[ZN H]at y;rw[ZC (by omega)]at l;exact B.rel (a-len) b d x q (by rw[<-l];congr 1;omega) R y}
     ·refine .vec n 0 (len+ys.length) L' i.size qJ ⟨_,_,_,rfl⟩ (by simp [Gh.grow]) λ_=>⟨by omega,⟨_,_,rfl,lu,E,by omega,λ_=>⟨w.heap.size,cap,by simp [Gh.grow,nx],by simp,by simp⟩⟩,λ_ e=> ?_⟩;simp [Gh.grow,nx,C,e1]
def Y8{T tx ty e k dy:Nat}{i:TypeInfo}{z:kd}{A:U Addr}{v:kd}{ys:I (I AV)}{us:I kd}(hi:cu G w h)(B:P.underlying T=some (.slice e))(C:P.info? e=some i)(L:i.zero=some z)(M:i.size=k)(R:i.bytes=dy)(S:z.cells.size=k)(gF:0<k)
 (c:Cd G w k ys us) (E:Src P k tx v ys.length us w) (F:ys.length<=maxLen) (W:ys.length*dy<=140737488355328):
 ∃r w' G',(Builtin.append_ #[T,tx] ty #[.slice A 0 0,v]).run P w= .ok r w'/\cn G.N G w G' w'/\G.N<=G'.N/\cu G' w' (h++[.vec e k ys])/\aO G' w' r (.vec h.length 0 ys.length ys.length k):=by
 subst M;subst R;by_cases hy:ys.length=0;{have kY:ys=[]:=W7 hy;subst kY;have nv:us=[]:=W7 (by rw[c.len];simp);subst nv;have f:=run_append_nothing (P:=P) w T tx ty e i B C A 0 0 (Zr _) v E;obtain⟨hE,hI⟩:=Wl (w':=w) hi (.vec e i.size []) (λ_ _=>rfl) (.slice A 0 0) 0 none ⟨λ_ _=>rfl,Zr _,rfl,rfl,rfl⟩ (λg hg=>by cases hg) ⟨by simp [Gh.fV],by simp,(λ_ h=>by cases h),.inl ⟨by simp [Gh.fV],rfl,A,by simp [Gh.fV]⟩⟩;refine⟨_,w,_,f,hE,an _,hI,?_⟩;rw[hi.len];exact .vec G.N 0 0 0 i.size (by simp [Gh.fV]) ⟨_,_,_,rfl⟩ (by simp) λ_=>⟨by omega,⟨A,0,rfl,Zr _,WJ _,by omega,λh=>by omega⟩,λ_ _=>by simp [Gh.fV]⟩}
 ·have QZ:ys.length<=9223372036854775807:=by simp only[maxLen]at F;omega
  have l:(Builtin.firstCells i.size 0 (.slice A 0 0)).run P w.drew= .ok ([]:I kd).toArray w.drew:=by
   cases A with
   |none=>exact run_firstCells_none _ _ _ _ _
   |some a=>exact run_firstCells_some _ _ _ _ _ _ [] (by simp) (λj u hu=>by simp at hu)
  have f:=run_append_grow_src (P:=P) w T tx ty e i z B C L A 0 0 [] l v ys.length us E (by omega) (by omega) (growslice_fits (by omega) (by simpa using W));simp only[ZJ,Wo]at f;obtain⟨cap,m⟩:∃cap,cap=grownCap w ys.length 0 e:=⟨_,rfl⟩;have lu:ys.length<=cap:=by rw[m];exact grownCap_ge _ _ _ _
  have p:cap<=maxLen:=by rw[m];exact grownCap_le_maxLen _ _ _ _ F
  rw[<-m]at f;obtain⟨cur,t⟩:∃cur,cur=us.toArray++Builtin.zeroCells z.cells (cap-ys.length):=⟨_,rfl⟩;rw[<-t]at f;have iF:cur.size=cap*i.size:=by
    have:=size_zeroCells z.cells (cap-ys.length);rw[t,Array.size_append,this,List.size_toArray,c.len,S,<-YF]
    congr 1
    omega
  obtain⟨G',g1,g2,g3,g4⟩:=RL (e:=e) (k:=i.size) (cap:=cap) (cs:=ys) (cur:=cur) hi lu p iF c.wid w.drew ⟨rfl,rfl,rfl,rfl⟩ (λa b d x q y H J=>by
   have kC:b<i.size:=by rw[<-c.wid d (ZX y)];exact(Zk.1 H).1
   have aS:a*i.size+b<us.length:=by rw[c.len];exact oG (Zk.1 y).1 kC
   rw[t,Array.getElem?_append_left (by simpa using aS),List.getElem?_toArray]at J;exact c.rel a b d x q y H J)
  exact⟨_,_,G',f,g1,g2,g3,g4 _ (Zr _)⟩
end
def Tj:∀(cs:I AV)(l:I ga),AV.yX cs=some l->cs.length=l.length/\∀(i:Nat)(x:AV)(c:ga),cs[i]?=some x->l[i]?=some c->x.cap=some c
 |[],l,h=>by
  unfold AV.yX at h;cases h;exact⟨rfl,λi x c f=>by simp at f⟩
 |x::cs,l,h=>by
  unfold AV.yX at h;split at h
  ·next c g j k=>
   cases h
   obtain⟨m,p⟩:=Tj cs g k;refine⟨by simp [m],λi y d b e=> ?_⟩
   match i with
   |0=>simp only[List.getElem?_cons_zero,W2]at b e;subst b;subst e;exact j
   |i+1=>exact p i y d (by simpa using b) (by simpa using e)
  ·cases h
def aO.cap{G:Gh}{w:Zz}{u:kd}{x:AV}(h:aO G w u x):∀c,x.cap=some c->pn G.S w u c:=by
 induction h with
 |d h=>intro c g;simp only[AV.cap]at g;cases g;exact .d h
 |own n p h j y z=>intro c g;simp only[AV.cap]at g;cases g;exact .d j
 |full p j z=>intro c g;simp only[AV.cap]at g;cases g;exact .d j
 |bK p i k b o u x A B C=>
  intro c g;simp only[AV.cap,A]at g;cases g
  exact .bK x k b o u B C
 |fn f E cs F h H=>
  intro c g;simp only[AV.cap]at g;split at g
  ·next l e=>
   cases g
   obtain⟨m,J⟩:=Tj cs l e;refine .fn f E l (F.trans m) λi v d L q=> ?_;have t:i<cs.length:=by rw[m];exact(Zk.1 q).1
   exact H i v _ L (Zd t) d (J i _ d (Zd t) q)
  ·cases g
 |hid h m=>intro c g;simp only[AV.cap]at g;cases g;exact h
 |agg=>intro c g;simp [AV.cap]at g
 |bn=>intro c g;simp [AV.cap]at g
 |ptr=>intro c g;simp [AV.cap]at g
 |row=>intro c g;simp [AV.cap]at g
 |mp=>intro c g;simp [AV.cap]at g
 |cF=>intro c g;simp [AV.cap]at g
 |vec=>intro c g;simp [AV.cap]at g
 |eC=>intro c g;simp [AV.cap]at g
 |dead=>intro c g;simp [AV.cap]at g
section
variable {P:dg} {r:U Nat} {n N0:Nat} {G:Gh} {w:Zz} {a:Act} {s:St} {o:Oper} {K:St->Prop} {Q:Exit->Act->Zz->Prop}
def Am(f:dx G w a s)(l:Array Operand):(l.map a.eval).size=(l.toList.map (ev s)).length/\∀(i:Nat)(u:kd)(c:AV),(l.map a.eval)[i]?=some u->(l.toList.map (ev s))[i]?=some c->aO G w u c:=by
 refine⟨by simp,λi u c b d=> ?_⟩;rw[Array.getElem?_map]at b;rw[Zm,ZF]at d;cases e:l[i]? with
 |none=>rw[e]at b;cases b
 |some x=>rw[e]at b d;cases b;cases d;exact f.ev x
def Y6(e:dx G w a s)(l:Array (Nat×Operand)):(l.map λ(i,x)=>(i,a.eval x)).toList.length=(l.toList.map λp=>(p.1,ev s p.2)).length/\
 ∀(i:Nat)(p:Nat×AV)(q:Nat×kd),(l.toList.map λp=>(p.1,ev s p.2))[i]?=some p->(l.map λ(i,x)=>(i,a.eval x)).toList[i]?=some q->q.1=p.1/\aO G w q.2 p.2:=by
 refine⟨by simp,λi p q b c=> ?_⟩;rw[ZF,Array.getElem?_map]at c;rw[Zm,ZF]at b;cases d:l[i]? with
 |none=>rw[d]at b;cases b
 |some x=>rw[d]at b c;cases b;cases c;exact⟨rfl,e.ev x.2⟩
def GG{x y:Operand}{T b:TypeId}(c:Call)(d:c.callee= .builtin .append)(h1:c.args.toList=[x,y])(e:c.argTypes.toList=[T,b])(f:o.op= .call c):
 (execOp a.eval o).run P w=((Builtin.append_ #[T,b] o.type #[a.eval x,a.eval y]).run P w).andThen λv w'=>.ok (.value v) w':=by
 have g:c.args= #[x,y]:=by rw[<-Array.toList_inj];exact h1
 have i:c.argTypes= #[T,b]:=by rw[<-Array.toList_inj];exact e
 unfold execOp;simp only[f,resolve,d,g,i,invoke,builtin,Sem.run_bind,Sem.run_pure,Result.andThen_ok,List.map_toArray,ZS,a6]
def Y5{x:Operand}{T:TypeId}(c:Call)(b:c.callee= .builtin .len)(h1:c.args.toList=[x])(d:c.argTypes.toList=[T])(e:o.op= .call c):
 (execOp a.eval o).run P w=((Builtin.len_ #[T] o.type #[a.eval x]).run P w).andThen λv w'=>.ok (.value v) w':=by
 have f:c.args= #[x]:=by rw[<-Array.toList_inj];exact h1
 have g:c.argTypes= #[T]:=by rw[<-Array.toList_inj];exact d
 unfold execOp;simp only[e,resolve,b,f,g,invoke,builtin,Sem.run_bind,Sem.run_pure,Result.andThen_ok,List.map_toArray,ZS,a6]
def aha(c:Call)(b:c.callee= .builtin .max)(d:o.op= .call c):
 (execOp a.eval o).run P w=((Builtin.max_ c.argTypes o.type (c.args.map a.eval)).run P w).andThen λv w'=>.ok (.value v) w':=by
 unfold execOp;simp only[d,resolve,b,invoke,builtin,Sem.run_bind,Sem.run_pure,Result.andThen_ok]
def ajm(c:Call)(b:c.callee= .builtin .min)(d:o.op= .call c):
 (execOp a.eval o).run P w=((Builtin.min_ c.argTypes o.type (c.args.map a.eval)).run P w).andThen λv w'=>.ok (.value v) w':=by
 unfold execOp;simp only[d,resolve,b,invoke,builtin,Sem.run_bind,Sem.run_pure,Result.andThen_ok]
def ZK{j:Bool}{k m:IntKind}{z:Int}:∀(l:I AV)(d:I kd)(x:Int),d.length=l.length->(∀(i:Nat)(u:kd)(c:AV),d[i]?=some u->l[i]?=some c->aO G w u c)->MU j k x l=some (m,z)->
 (d.foldlM (if j then Builtin.max2 else Builtin.min2) (.int k x)).run P w= .ok (.int m z) w
 |[],[],x,_,_,h=>by cases h;simp
 |[],_::_,_,f,_,_=>by simp at f
 |_::_,[],_,f,_,_=>by simp at f
 |y::l,u::d,x,f,p,h=>by
  unfold MU at h;split at h;{next e=>cases e}
  ·next A b B e=>
   cases e
   have q:=(p 0 u _ rfl rfl).val;subst q;have g:=ZK l d _ (by simpa using f) (λi u c t v=>p (i+1) u c (by simpa using t) (by simpa using v)) h;rw[List.foldlM_cons,Sem.run_bind];cases j with
   |true=>simp only[if_true,V1]at g ⊢;simp only[Builtin.max2,Sem.run_pure,Result.andThen_ok];exact g
   |false=>simp only[Bool.false_eq_true,if_false,UQ]at g ⊢;simp only[Builtin.min2,Sem.run_pure,Result.andThen_ok];exact g
  ·cases h
def Y4{m:Bool}{k:IntKind}{z:Int}{l:I AV}{b:Array kd}(e:b.size=l.length)(t:∀(i:Nat)(u:kd)(c:AV),b[i]?=some u->l[i]?=some c->aO G w u c)(h:D0 m l=some (k,z)):
 ∃u us,b.toList=u::us/\(us.foldlM (if m then Builtin.max2 else Builtin.min2) u).run P w= .ok (.int k z) w:=by
 unfold D0 at h;split at h
 ·next y x p=>
  cases f:b.toList with
  |nil=>rw[<-Z0,f]at e;simp at e
  |cons u us=>
   refine⟨u,us,rfl,?_⟩;have q:∀(i:Nat)(v:kd)(c:AV),(u::us)[i]?=some v->(AV.d (.v (.int y x))::p)[i]?=some c->aO G w v c:=λi v c g j=>t i v c (by rw[<-ZF,f];exact g) j;have A:=(q 0 u _ rfl rfl).val;subst A;refine ZK p us x ?_ (λi v c g j=>q (i+1) v c (by simpa using g) (by simpa using j)) h;rw[<-Z0,f]at e;simpa using e
 ·cases h
def SL{f:FuncId}(h:O2 P f=true)(args:Array kd)(w:Zz):(callFunc f args).run P w= .ok (.enter f args) w:=by
 unfold O2 at h;cases b:P.funcs[f]? with
 |none=>rw[b]at h;simp at h
 |some c=>
  rw[b]at h;simp only[Zo,VJ]at h;obtain⟨d,g⟩:=h;have i:c.body≠none:=by intro e;rw[e]at d;cases d
  have j:c.name≠ "runtime.NumGoroutine" :=by simpa using g
  simp [callFunc,b,j,i]
def arA(j:dx G w a s)(C:N0<=G.N){x:AV}{h':I ar}{p:Sd}(c:rO P o.op (ev s) s.h=some (x,h',p))(W:p.ok)(E:K ((s.wh h').put o.dst x)):o.wpIn (WF r) n P a w (jw N0 G w K) Q:=by
 have A:=j.ev;unfold rO at c;split at c
 next T g=>
  split at c
  ·next q B=>
   cases c
   obtain⟨i1,i2,i3⟩:=alN j.inv;exact nC (by rw[g];simp) j C (v:= .map (some w.heap.size)) (by unfold execOp;simp [g,run_makeMap,Result.andThen]) i1 (an _) i2 i3 E
  ·cases c
 next T m i ok g=>
  split at c
  ·next k e B=>
   split at c
   ·next z hz=>
    split at c
    ·next b F H J=>
     split at c
     ·next kv L=>
      cases l:ja P k with
      |false=>rw[l]at c;cases c
      |true=>
       rw[l]at c;cases c
       obtain⟨v,M,R⟩:=am5 (ok:=ok) (s:=F) j.inv B hz l L;have t:=A m;rw[H]at t;have f:=A i;rw[J]at f;have f:=f.val;have S:a.eval m= .map (some (G.aZ b)):=by
        generalize a.eval m=u at t;cases t with|mp _ _=>rfl
       exact gx (by rw[g];simp) j C (by unfold execOp;simp [g,S,f,M,Result.andThen]) R E
     ·cases c
    ·cases c
   ·cases c
  ·cases c
 next T m i y g=>
  split at c
  ·next k e B=>
   split at c
   ·next b F d H J hd=>
    split at c
    ·next kv L=>
     cases l:ja P k with
     |false=>rw[l]at c;cases c
     |true=>
      rw[l]at c;cases c
      obtain⟨w',M,R,r3⟩:=alR (s:=F) j.inv B l L ((A y).toM hd) W;have t:=A m;rw[H]at t;have f:=A i;rw[J]at f;have f:=f.val;have S:a.eval m= .map (some (G.aZ b)):=by
       generalize a.eval m=u at t;cases t with|mp _ _=>rfl
      exact V8 (by rw[g];simp) j C (by unfold execOp;simp [g,S,f,M,Result.andThen]) R (Zr _) r3 E
    ·cases c
   ·cases c
  ·cases c
 next=>cases c
def Y2(B:dx G w a s)(E:N0<=G.N)(h:sw P o K s):o.wpIn (WF r) n P a w (jw N0 G w K) Q:=by
 have H:=B.ev;unfold sw dm at h;split at h
 next x l=>exact gx (by rw[l];simp) B E (v:=a.eval x) (by unfold execOp;rw[l];rfl) (H x) h
 next x l=>exact gx (by rw[l];simp) B E (v:=a.eval x) (by unfold execOp;rw[l];rfl) (H x) h
 next c x y l=>
  split at h
  next t C=>
   have hb:=H c;rw[C]at hb;have e:=hb.bool;cases t with
   |true=>exact gx (by rw[l];simp) B E (v:=a.eval x) (by unfold execOp;simp [l,e,asBool]) (H x) (h.1 rfl)
   |false=>exact gx (by rw[l];simp) B E (v:=a.eval y) (by unfold execOp;simp [l,e,asBool]) (H y) (h.2 rfl)
  next=>exact h.elim
 next e l=>
  split at h
  next z hz=>
   obtain⟨i1,i2⟩:=YA B.inv z.cells e (z.cells.toList.map λu=>.d (.v u)) (by simp) (λi u c M C=>by
    rw[Zm,ZF,M]at C;cases C;exact .d (.v u))
   exact nC (by rw[l];simp) B E (by unfold execOp;simp [l,Instr.alloc,GD hz,newVar,newRow]) (uf G w B.inv.z B.inv.S _) (an _) i1 i2 h
  next=>exact h.elim
 next e x l=>
  obtain⟨hb,hK⟩:=cv.1 h;have hr:=(H x).XO hb;obtain⟨i1,i2⟩:=YA B.inv (a.eval x).cells e (ev s x).cells hr.len hr.rel;exact nC (by rw[l];simp) B E (by unfold execOp;simp [l,Instr.box,newVar,newRow]) (uf G w B.inv.z B.inv.S _) (an _) i1 i2 hK
 next t x l=>
  obtain⟨u,y,L,J,W⟩:=YL B.inv (H x) h;exact gx (by rw[l];simp) B E (by unfold execOp;simp [l,L]) J W
 next t x y l=>
  unfold xU at h;split at h
  next m off hm=>
   split at h
   next cs iF=>
    split at h
    case h_2=>exact h.elim
    rename_i k hk
    obtain⟨gM,h4⟩:=cv.1 h;simp only[Zo,Ve,dS]at gM;obtain⟨⟨rfl,J⟩,W⟩:=gM;have L:=hk;have A:=H x;rw[hm]at A;obtain⟨w',r1,r2,r3⟩:=aq5 (P:=P) B.inv iF (H y) J L W;have ex:a.eval x= .pointer (some ⟨G.aZ m,off,none⟩):=by
     generalize a.eval x=u at A;cases A with
     |ptr=>rfl
    exact V8 (by rw[l];simp) B E (by unfold execOp;simp [l,Instr.storeAt,Instr.sureAddr,ex,r1]) r2 (Zr _) r3 h4
   next=>exact h.elim
  next=>exact h.elim
 next x l=>
  have A:=H x;split at h
  next m off hm=>
   rw[hm]at A;generalize R:a.eval x=u at A;cases A with
   |ptr _ _ zp=>exact gx (by rw[l];simp) B E (by unfold execOp;simp [l,R]) (.ptr m off zp) h
  next xs i off hm=>
   rw[hm]at A;generalize R:a.eval x=u at A;have C6:=A;cases A with
   |bK=>exact gx (by rw[l];simp) B E (by unfold execOp;simp [l,R]) C6 h
  next f cs hm=>
   rw[hm]at A;generalize R:a.eval x=u at A;have C6:=A;cases A with
   |fn=>exact gx (by rw[l];simp) B E (by unfold execOp;simp [l,R]) C6 h
  next=>exact h.elim
 next T x f l=>
  split at h
  next fo k g hT=>
   have A:=H x;split at h
   next m off hm=>
    rw[hm]at A;generalize R:a.eval x=u at A;cases A with
    |ptr _ _ zp=>exact gx (by rw[l];simp) B E (by unfold execOp;simp [l,R,Wp hT]) (.ptr m (off+fo) zp) h
   next xs i off hm=>
    rw[hm]at A;generalize R:a.eval x=u at A;cases A with
    |bK _ _ _ b oo us c A hS M=>exact gx (by rw[l];simp) B E (by unfold execOp;simp [l,R,Wp hT];rfl) (by rw[Nat.add_assoc];exact .bK xs i (off+fo) b oo us c A hS M) h
   next=>exact h.elim
  next=>exact h.elim
 next T x f l=>
  obtain⟨u,y,L,J,W⟩:=ao4 (H x) h;exact gx (by rw[l];simp) B E (by unfold execOp;simp [l,L]) J W
 next T x i l=>
  obtain⟨u,y,L,J,W⟩:=asr (H x) (H i) h;exact gx (by rw[l];simp) B E (by unfold execOp;simp [l,L]) J W
 next T x i l=>
  split at h
  next b z hb hz=>
   obtain⟨hT,h0,h⟩:=cv.1 h;have hT:=tG hT;have A:=H x;rw[hb]at A;have ex:=A.val;obtain⟨k,ei⟩:=(H i).int hz;split at h
   next c C=>
    refine gx (by rw[l];simp) B E (v:= .int .u8 c.toNat) ?_ (.d (.v _)) h;unfold execOp;simp [l,Instr.index,ex,ei,asIntOf,run_underlying hT,h0,C]
   next=>exact h.elim
  next=>exact h.elim
 next T ps l=>
  obtain⟨p1,p2⟩:=Y6 B ps;obtain⟨u,y,L,J,W⟩:=arM p1 p2 h;exact gx (by rw[l];simp) B E (by unfold execOp;simp only[l,Sem.run_bind,L];rfl) J W
 next T len ps l=>
  obtain⟨p1,p2⟩:=Y6 B ps;obtain⟨u,w',G',y,L,J,W,h4,h5,h6⟩:=ahO (T:=T) B.inv p1 p2 h;exact nC (by rw[l];simp) B E (by unfold execOp;simp only[l,Sem.run_bind,L];rfl) J W h4 h5 h6
 next T x lo hi mx l=>
  obtain⟨u,y,L,J,W⟩:=aqt B (H x) h;exact gx (by rw[l];simp) B E (by unfold execOp;simp [l,L]) J W
 next x i l=>
  have A:=H x;split at h
  next cs iF=>
   rw[iF]at A;generalize R:a.eval x=u at A;split at h
   next c C=>
    cases A with
    |bn vs _ hl hr=>
     have aS:i<vs.size:=by rw[hl];exact(Zk.1 C).1
     exact gx (by rw[l];simp) B E (v:=vs[i]) (by unfold execOp;simp [l,R,Instr.extract,aS]) (hr i _ c (ZH aS) C) h
   next=>exact h.elim
  next=>exact h.elim
 next f first dC l=>
  split at h
  ·next x A=>
   unfold Vi at A;split at A
   ·next e1=>
    cases A
    have ajg:first= #[]:=by
     rw[<-Array.toList_inj];exact List.map_eq_nil_iff.1 e1
    subst ajg;obtain⟨p1,p2⟩:=Am B dC;exact gx (by rw[l];simp) B E (v:= .func (.func f) #[] (dC.map a.eval)) (by unfold execOp;simp [l,Instr.makeFunc]) (.fn f _ _ p1 p2) h
   ·split at A
    ·next cs e1 e2=>
     cases A
     have apa:dC= #[]:=by
      rw[<-Array.toList_inj];exact List.map_eq_nil_iff.1 e2
     subst apa;obtain⟨p1,p2⟩:=Am B first
     obtain⟨c1,c2⟩:=Tj _ _ e1;exact gx (by rw[l];simp) B E (v:= .func (.func f) (first.map a.eval) #[]) (by unfold execOp;simp [l,Instr.makeFunc]) (.hid (.o9 f _ _ (p1.trans c1) λi u c M C=>by
      have aS:i<(first.toList.map (ev s)).length:=by rw[c1];exact(Zk.1 C).1
      exact(p2 i u _ M (Zd aS)).cap c (c2 i _ c (Zd aS) C)) rfl) h
    ·cases A
  ·exact h.elim
 next op T x y j l=>
  obtain⟨u,z,L,J,W⟩:=apV (X:=x) (Y:=y) (H x) (H y) h;refine gx (by rw[l];simp) B E ?_ J W;unfold execOp;simp only[l];rw[Sem.run_bind,L];rfl
 next op T x l=>
  obtain⟨u,z,L,J,W⟩:=ajL (P:=P) (H x) h;exact gx (by rw[l];simp) B E (by unfold execOp;simp [l,L]) J W
 next t u x l=>
  obtain⟨u,z,L,J,W⟩:=ahn (H x) h;exact gx (by rw[l];simp) B E (by unfold execOp;simp [l,L]) J W
 next c l=>
  have lq:∀c,o.op≠ .defer c:=by rw[l];simp
  split at h
  next C=>
   split at h
   next x T L J=>
    obtain⟨m,r1,r2⟩:=apF (ty:=o.type) (H x) h;exact gx lq B E (by rw[Y5 c C L J l,r1];rfl) (.d (.v _)) r2
   next=>exact h.elim
  next C=>
   split at h
   next x y T j L J=>
    obtain⟨hU,h⟩:=cv.1 h;obtain⟨⟨e',k'⟩,hU⟩:=aj.1 hU;obtain⟨p,w',G',q,h',r1,r2,r3,r4,r5,r6⟩:=asx (ty:=o.type) B.inv (H x) (H y) (ld hU).1 h;exact nC lq B E (by rw[GG c C L J l,r1];rfl) r2 r3 r4 r5 r6
   next=>exact h.elim
  next C=>
   split at h
   next k z hf=>
    obtain⟨p1,p2⟩:=Am B c.args;obtain⟨u,us,e1,e2⟩:=Y4 (P:=P) p1 p2 hf;refine gx lq B E (v:= .int k z) ?_ (.d (.v _)) h;rw[aha c C l];unfold Builtin.max_;rw[e1];simp only[if_true]at e2;rw[e2];rfl
   next=>exact h.elim
  next C=>
   split at h
   next k z hf=>
    obtain⟨p1,p2⟩:=Am B c.args;obtain⟨u,us,e1,e2⟩:=Y4 (P:=P) p1 p2 hf;refine gx lq B E (v:= .int k z) ?_ (.d (.v _)) h;rw[ajm c C l];unfold Builtin.min_;rw[e1];simp only[Bool.false_eq_true,if_false]at e2;rw[e2];rfl
   next=>exact h.elim
  next f C=>
   have call:∀(g:FuncId)(dC:I AV)(vs:Array kd),a.eval f= .func (.func g) #[] vs->vs.size=dC.length->(∀(i:Nat)(u:kd)(c:AV),vs[i]?=some u->dC[i]?=some c->aO G w u c)->
       dq P g (c.args.toList.map (ev s)++dC) s.h (λr h'=>K ((s.wh h').put o.dst r))->o.wpIn (WF r) n P a w (jw N0 G w K) Q:=by
       intro g dC vs R hl hr h;obtain⟨p1,p2⟩:=Am B c.args;obtain⟨Ez,kV⟩:=h;have uH:=kV G w (c.args.map a.eval++vs) B.inv (by rw[Array.size_append,Zj,p1,hl]) (λi u x M A=>by
        by_cases hi:i<(c.args.map a.eval).size;{rw[Array.getElem?_append_left hi]at M;rw[ZW (by rw[<-p1];exact hi)]at A;exact p2 i u x M A}
        ·rw[Array.getElem?_append_right (by omega)]at M;rw[ZC (by rw[<-p1];omega)]at A;rw[p1]at M;exact hr _ u x M A)
       refine⟨λ_ _=>trivial,?_⟩;have eN:(o.semAt (WF r).round a.eval).run P w= .ok (.enter g (c.args.map a.eval++vs)) w:=by
        rw[Oper.semAt_eq _ _ _ lq];unfold execOp;simp only[l,resolve,C,R];simp [Deferred.ofValue,invoke,SL Ez]
       rw[eN];refine⟨λh=>(by simp [WF,Fence.wide]at h),?_⟩;have J:=callsIn_wide (n:=n-1).2 uH;refine CallsIn.mono (F:=WF r) J ?_;rintro e w' ⟨v,G',x,h',rfl,x1,x2,x3,x4,x5⟩;exact⟨G',_,x1.less E,Za E x2,(B.move x1 x2 x3).put x4 o.dst,x5⟩
   have ahL:∀(g:FuncId)(dC:I AV)(vs:Array kd),a.eval f= .func (.func g) vs #[]->vs.size=dC.length->(∀(i:Nat)(u:kd)(c:AV),vs[i]?=some u->dC[i]?=some c->aO G w u c)->
       dq P g (dC++c.args.toList.map (ev s)) s.h (λr h'=>K ((s.wh h').put o.dst r))->o.wpIn (WF r) n P a w (jw N0 G w K) Q:=by
       intro g dC vs R hl hr h;obtain⟨p1,p2⟩:=Am B c.args;obtain⟨Ez,kV⟩:=h;have uH:=kV G w (vs++c.args.map a.eval) B.inv (by rw[Array.size_append,Zj,p1,hl]) (λi u x M A=>by
        by_cases hi:i<vs.size;{rw[Array.getElem?_append_left hi]at M;rw[ZW (by rw[<-hl];exact hi)]at A;exact hr i u x M A}
        ·rw[Array.getElem?_append_right (by omega)]at M;rw[ZC (by rw[<-hl];omega)]at A;rw[hl]at M;exact p2 _ u x M A)
       refine⟨λ_ _=>trivial,?_⟩;have eN:(o.semAt (WF r).round a.eval).run P w= .ok (.enter g (vs++c.args.map a.eval)) w:=by
        rw[Oper.semAt_eq _ _ _ lq];unfold execOp;simp only[l,resolve,C,R];simp [Deferred.ofValue,invoke,SL Ez]
       rw[eN];refine⟨λh=>(by simp [WF,Fence.wide]at h),?_⟩;have J:=callsIn_wide (n:=n-1).2 uH;refine CallsIn.mono (F:=WF r) J ?_;rintro e w' ⟨v,G',x,h',rfl,x1,x2,x3,x4,x5⟩;exact⟨G',_,x1.less E,Za E x2,(B.move x1 x2 x3).put x4 o.dst,x5⟩
   split at h
   next g dC hg=>
    have hf:=H f;rw[hg]at hf;generalize R:a.eval f=u at hf;cases hf with
    |fn _ vs _ hl hr=>exact call g dC vs R hl hr h
   next q hg=>
    obtain⟨g,as,eq,h⟩:=h;have hf:=H f;rw[hg]at hf;generalize R:a.eval f=u at hf;cases hf with
    |hid hq L=>
     cases hq with
     |d _=>simp [ga.app]at eq
     |bK _ _ _ _ _ _ _=>simp [ga.app]at eq
     |o9 g0 vs cs hl hr=>
      simp only[ga.app,W2,Prod.mk.injEq]at eq;obtain⟨rfl,rfl⟩:=eq;exact ahL _ (cs.map ga.av) vs R (by rw[Zq];exact hl) (λi u c M C=>by
       rw[Zm]at C;cases A:cs[i]? with
       |none=>rw[A]at C;cases C
       |some d=>rw[A]at C;cases C;exact(hr i u d M A).av) h
     |fn g0 vs cs hl hr=>
      simp only[ga.app,W2,Prod.mk.injEq]at eq;obtain⟨rfl,rfl⟩:=eq;exact call _ (cs.map ga.av) vs R (by rw[Zq];exact hl) (λi u c M C=>by
       rw[Zm]at C;cases A:cs[i]? with
       |none=>rw[A]at C;cases C
       |some d=>rw[A]at C;cases C;exact(hr i u d M A).av) h
   next=>exact h.elim
  next=>exact h.elim
 next op _=>
  split at h
  next x h' p A=>exact arA B E A h.1 h.2
  next=>exact h.elim
def Wb(b:dx G w a s){x:U Operand}{d:Nat}{z:Int}(h:vW (ev s) d x=some z)(c:0<=z):DZ a x d z.toNat:=by
 cases x with
 |none=>
  simp only[vW,W2]at h;subst h;show _=d;exact ZB d
 |some y=>
  simp only[vW]at h;obtain⟨k,e⟩:=(b.ev y).int h;exact⟨k,z,e,c,rfl⟩
def nW{α:Type}{b:Bool}{x y:α}(h:(bif b then some x else none)=some y):b=true/\x=y:=by
 cases b with
 |true=>exact⟨rfl,Zs h⟩
 |false=>cases h
def akh{α:Type}{b:Bool}{x:U α}{y:α}(h:(bif b then x else none)=some y):b=true/\x=some y:=by
 cases b with
 |true=>exact⟨rfl,h⟩
 |false=>cases h
def Xy(E:dx G w a s)(cN:N0<=G.N)(h:J1 P o K s):o.wpIn (WF r) n P a w (jw N0 G w K) Q:=by
 obtain⟨va,x,h',p,B,hp,hK⟩:=h;have M:=E.ev;unfold js at B;split at B
 next T y i F=>
  split at B
  ·next n' o' R L k z e k' i' J e2 e3=>
   split at B
   ·next e4 k2 cs S=>
    obtain⟨H,W⟩:=nW B;cases W
    rw[Zo,Ve,Ve]at H;obtain⟨rfl,rfl⟩:=H;obtain⟨hL,h0,aS,rfl⟩:=hp;obtain⟨gJ,gX⟩:=ld e3;obtain⟨kz,ez⟩:=(M i).int e2;have C:=M y;rw[J]at C;have m4:=C.vy E.inv S hL;obtain⟨CP,⟨A,c,q1,q2,q3,q4,q5⟩,_⟩:=m4;obtain⟨g,cap,s1,rfl,s3⟩:=q5 (by omega);have RY:z<(R:Int):=aS;refine gx (by rw[F];simp) E cN (v:= .pointer (some ⟨g,o'*k2+z.toNat*k2,none⟩)) ?_ (.eC n' (o'+z.toNat) 0 L k2 (E.inv.lt S) ⟨_,_,rfl⟩ (by rw[(E.inv.dJ n' _ S).1,hL];exact Zr _) λ_=>⟨by omega,g,cap,s1,?_⟩) hK;{unfold execOp;simp [F,q1,ez,Instr.indexAt,asIntOf,run_underlying gJ,h0,RY,nK gX,nm]};{rw[YF];rfl}
   ·cases B
  ·cases B
 next T y f F=>
  split at B
  ·next n' i j L k fo q g J hT=>
   cases B
   have C:=M y;rw[J]at C;generalize ea:a.eval y=u at C;cases C with
   |eC _ _ _ _ _ qJ TR hL hf=>
    obtain⟨pb,pq,rfl⟩:=TR;refine gx (by rw[F];simp) E cN (v:= .pointer (some ⟨pb,pq+fo,none⟩)) (by unfold execOp;simp [F,ea,Wp hT]) (.eC n' i (j+fo) L k qJ ⟨_,_,rfl⟩ hL λe=> ?_) hK;obtain⟨a1,g2,cap,a2,a3⟩:=hf e;refine⟨a1,g2,cap,a2,?_⟩;injection a3 with a3;injection a3 with a3;injection a3 with a4 a5;subst a4;subst a5;rw[Nat.add_assoc]
  ·cases B
 next y F=>
  split at B
  ·next n' i j L k J=>
   cases B
   have C:=M y;rw[J]at C;have hv2:=C;generalize ea:a.eval y=u at C hv2;cases C with
   |eC _ _ _ _ _ qJ TR hL hf=>
    obtain⟨pb,pq,rfl⟩:=TR;exact gx (by rw[F];simp) E cN (by unfold execOp;simp [F,ea]) hv2 hK
  ·cases B
 next t y F=>
  split at B
  ·next n' i j L k c J=>
   split at B
   ·next e k' cs z S hz=>
    obtain⟨H,W⟩:=nW B;cases W
    rw[Ve]at H;subst H;have C:=M y;rw[J]at C;obtain⟨u,r1,r2⟩:=amG E.inv S hp.1 hp.2 hz C;exact gx (by rw[F];simp) E cN (by unfold execOp;simp [F,r1]) r2 hK
   ·cases B
  ·cases B
 next t y z F=>
  split at B
  ·next n' i j L k c cM J=>
   split at B
   ·next e k' cs q S hq=>
    obtain⟨H,W⟩:=nW B;cases W
    simp only[Zo,Ve,dS]at H;obtain⟨⟨⟨⟨rfl,rfl⟩,TH⟩,hj⟩,gF⟩:=H;obtain⟨hL,hc,rfl⟩:=hp;have C:=M y;rw[J]at C;obtain⟨w',G',r1,r2,r3,r4⟩:=aii E.inv S hL hc C (M z) TH hq hj gF;exact V8 (by rw[F];simp) E cN (by unfold execOp;simp [F,r1]) r2 r3 r4 hK
   ·cases B
  ·cases B
 next T y lo hi F=>
  split at B
  ·next n' o' R L k e k' oo ll J hT=>
   split at B
   ·next l u hl hu=>
    split at B
    ·next e4 k2 cs S=>
     obtain⟨H,W⟩:=nW B;cases W
     rw[Zo,Ve,Ve]at H;obtain⟨rfl,rfl⟩:=H;obtain⟨hL,h0,hlu,huL,rfl,rfl⟩:=hp;obtain⟨gJ,gX⟩:=ld hT;have C:=M y;rw[J]at C;have m4:=C.vy E.inv S hL;obtain⟨CP,⟨A,c,q1,q2,q3,q4,q5⟩,_⟩:=m4;have H:=Jt (P:=P) (Cz:=true) (Wb E hl h0) (Wb E hu (by omega)) (by omega) (show u.toNat<=c by omega) w;refine gx (by rw[F];simp) E cN (v:= .slice (if c=l.toNat then A else A.map (·.add (l.toNat*k2))) (u.toNat-l.toNat) (c-l.toNat)) ?_ (.vec n' (o'+l.toNat) (u.toNat-l.toNat) L k2 (E.inv.lt S) ⟨_,_,_,rfl⟩ (by rw[(E.inv.dJ n' _ S).1,hL];exact Zr _) λ_=>⟨by omega,⟨_,_,rfl,by omega,by omega,by omega,λho2=> ?_⟩,λh1 h2=> ?_⟩) hK;{unfold execOp;simp [F,q1,Instr.sliceAt,Instr.slice,run_underlying gJ,H,nK gX]};{obtain⟨g,cap,s1,rfl,s3⟩:=q5 (by omega);refine⟨g,cap,s1,?_,by omega⟩;rw[ZN (by omega)];simp [nm,YF]}
     ·have ho0:o'=0:=by omega
      have NL:l.toNat=0:=by omega
      subst ho0;rw[NL];rw[NL]at h2;simp only[Nat.sub_zero]at h2 ⊢;by_cases zu:L=0
      ·subst zu;have:R=0:=by omega
       subst this
       rename_i gM
       rw[<-gM rfl rfl,q1,h2];split;{rfl};{cases A<;>simp [Addr.add]}
      ·obtain⟨g,cap,s1,rfl,s3⟩:=q5 (by omega);rw[s1,h2];have:c=cap:=by omega
       subst this;split<;>simp [nm]
    ·cases B
   ·cases B
  ·cases B
 next T l c F=>
  split at B
  ·next e k z1 z2 cs R m hT J e2=>
   split at B
   ·next z dy hz rK=>
    obtain⟨H,W⟩:=nW B;cases W
    simp only[Zo,Ve,dS]at H;obtain⟨⟨gF,lK⟩,_⟩:=H;obtain⟨h0,mr,hl,hc,rfl,hm,mM⟩:=hp;obtain⟨gJ,gX⟩:=ld hT;obtain⟨inf,i1,i2,i3⟩:=S8 gX rK;have EA:inf.zero=some z:=by
     obtain⟨i',j1,j2⟩:=N3 hz;rw[i1]at j1;cases j1;exact j2
    obtain⟨k1,ez1⟩:=(M l).int J;obtain⟨k2,ez2⟩:=(M c).int e2;obtain⟨u,w',G',r1,r2,r3,r4,r5⟩:=ak5 (kl:=k1) (kc:=k2) E.inv gJ i1 EA i2 i3 lK gF h0 mr hl hc hm mM;exact nC (by rw[F];simp) E cN (by unfold execOp;simp [F,ez1,ez2,r1]) r2 r3 r4 r5 hK
   ·cases B
  ·cases B
 next c F=>
  have lq:∀c,o.op≠ .defer c:=by rw[F];simp
  split at B
  next hc=>
   split at B
   ·next y T h1 h2=>
    split at B
    ·next n' oo R L k J=>
     split at B
     ·next e4 k2 cs S=>
      obtain⟨H,W⟩:=nW B;cases W
      rw[Zo,Ve]at H;obtain⟨hT,rfl⟩:=H;obtain⟨⟨e,q⟩,hT⟩:=aj.1 hT;have C:=M y;rw[J]at C;have m4:=C.vy E.inv S hp;obtain⟨CP,⟨A,cc,q1,q2,q3,q4,q5⟩,_⟩:=m4;exact gx lq E cN (v:= .int .i64 R) (by rw[Y5 c hc h1 h2 F,q1];simp [Builtin.len_,run_underlying (ld hT).1,goInt]) (.d (.v _)) hK
     ·cases B
    ·cases B
   ·cases B
  next hc=>
   split at B
   ·next y z T b h1 h2=>
    split at B
    ·next e k pU cM ys L' iL hT hU=>
     split at B
     ·next z0 dy hz rK=>
      obtain⟨H,B⟩:=akh B;rw[Zo,Ve,dS]at H;obtain⟨gF,lK⟩:=H;obtain⟨gJ,gX⟩:=ld hT;obtain⟨inf,i1,i2,i3⟩:=S8 gX rK;have EA:inf.zero=some z0:=by
       obtain⟨i',j1,j2⟩:=N3 hz;rw[i1]at j1;cases j1;exact j2
      have kH:z0.cells.size=k:=by rw[<-Z0];exact lK
      obtain⟨eU,kU⟩:=pU;split at B
      ·next n' oo R L k1 J=>
       split at B
       ·next e4 k2 cs S=>
        obtain⟨H,W⟩:=nW B;cases W
        simp only[Zo,Ve]at H;obtain⟨⟨rfl,rfl⟩,rfl⟩:=H;obtain⟨hL,AK,rfl,sD⟩:=hp;obtain⟨us,hr,Je⟩:=VI (tx:=b) E.inv (M z) AK gF (ld hU).1;have C:=M y;rw[J]at C;obtain⟨u,w',G',r1,r2,r3,r4,r5⟩:=arW (ty:=o.type) E.inv gJ i1 EA i2 i3 kH gF S hL C hr Je sD;exact nC lq E cN (by rw[GG c hc h1 h2 F,r1];rfl) r2 r3 r4 r5 hK
       ·cases B
      ·next J=>
       cases B
       obtain⟨AK,rfl,rfl,rfl,lY,n8⟩:=hp;obtain⟨us,hr,Je⟩:=VI (tx:=b) E.inv (M z) AK gF (ld hU).1;have C:=M y;rw[J]at C;have ev:=C.val;obtain⟨u,w',G',r1,r2,r3,r4,r5⟩:=Y8 (ty:=o.type) (A:=none) E.inv gJ i1 EA i2 i3 kH gF hr Je lY n8;exact nC lq E cN (by rw[GG c hc h1 h2 F,ev,r1];rfl) r2 r3 r4 r5 hK
      ·next xs J=>
       cases B
       obtain⟨rfl,AK,rfl,rfl,rfl,lY,n8⟩:=hp;obtain⟨us,hr,Je⟩:=VI (tx:=b) E.inv (M z) AK gF (ld hU).1;have C:=M y;rw[J]at C;obtain⟨A,eA⟩:∃A,a.eval y= .slice A 0 0:=by
        generalize a.eval y=u at C;cases C with|full _ _ hf=>exact hf
       obtain⟨u,w',G',r1,r2,r3,r4,r5⟩:=Y8 (ty:=o.type) (A:=A) E.inv gJ i1 EA i2 i3 kH gF hr Je lY n8;exact nC lq E cN (by rw[GG c hc h1 h2 F,eA,r1];rfl) r2 r3 r4 r5 hK
      ·cases B
     ·cases B
    ·cases B
   ·cases B
  next=>cases B
 next=>cases B
def arJ(j:dx G w a s)(m:N0<=G.N)(h:HI P o K s):o.wpIn (WF r) n P a w (jw N0 G w K) Q:=by
 have p:=j.ev;unfold HI at h;split at h
 ·next i T x y f l=>
  split at h
  ·next q J t z L M R B C=>
   obtain⟨e,k⟩:=J;have S:=(ld R).1;have E:=p y;rw[M]at E;have F:=E.val;obtain⟨A,b,oo,c,k',u,H,W,_,_,_,_,_⟩:=((p x).list L).rb;have hg:(eqGuard i T x y (a.eval x) (a.eval y)).run P w= .ok () w:=by rw[H,F];unfold eqGuard;cases i<;>simp
   have eN:(binOp i T (a.eval x) (a.eval y)).run P w= .ok (if A.isNone then t else z) w:=by
    rw[H,F];have hq:=run_equal_slice_nil (P:=P) (w:=w) T e A q.length c S;cases i<;>simp [zG]at B C<;>subst B<;>subst C<;>simp [binOp,hq]<;>cases A<;>rfl
   have g:(execOp a.eval o).run P w= .ok (.value (if A.isNone then t else z)) w:=by
    unfold execOp;simp only[l];rw[Sem.run_bind,Sem.run_bind,hg];simp only[Result.andThen_ok];rw[eN];rfl
   cases A with
   |none=>
    have nh:q=[]:=Classical.byContradiction λcX=>by have:=W cX;cases this
    exact gx (by rw[l];simp) j m g (.d (.v _)) (h.1 nh)
   |some ad=>exact gx (by rw[l];simp) j m g (.d (.v _)) h.2
  ·exact h.elim
 ·exact h.elim
def UO(b:dx G w a s)(c:N0<=G.N)(h:amW P o K s):o.wpIn (WF r) n P a w (jw N0 G w K) Q:=by
 rcases h with h|h|h
 ·exact Xy b c h
 ·exact arJ b c h
 ·exact Y2 b c h
end
end Go.Proofs.YtnnapanbbbcalaaGreatDoor
