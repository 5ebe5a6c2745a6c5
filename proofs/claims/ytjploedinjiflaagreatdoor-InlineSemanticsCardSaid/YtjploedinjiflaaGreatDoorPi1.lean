/-
  Part 1 of the proof.
-/
import Derived.WalkKit
import Derived.Laws.Strings
import Derived.Lib.Hide
import Derived.OrdersIn
import Derived.RangeFuncIn
import Derived.RangeFuncCalls
import Derived.RangeFuncLeaves
import Derived.RangeFuncFrom
import Derived.Deep.MidRow
import Derived.Laws.AppendOwn
import Derived.Maps.OwnOps
import Derived.KernelRfl
import Derived.Deep.AppendSrc
import Derived.Deep.Upon
import Derived.Laws.BytesString
import Derived.Laws.StructEq
import Derived.Laws.MakeOwn
import Derived.Laws.Cover3
set_option linter.defProp false
namespace Go.Proofs.YtjploedinjiflaaGreatDoor
open Go.RowKit
set_option linter.defProp false
theorem k7{p:Prop}(h:p:=by omega):p:=h
theorem km{p:Prop}(h:p:=by kernel_rfl):p:=h
theorem gj{p:Prop}(h:p:=by simp):p:=h
theorem gy{p:Prop}(h:p:=by decide):p:=h
abbrev Tf:=@cond_false
abbrev Tj:=@cond_true
abbrev Tn:=@beq_eq_false_iff_ne
abbrev Tr:=@of_decide_eq_true
abbrev TC:=@beq_iff_eq
abbrev Ui:=@bne_iff_ne
abbrev Uj:=@Bool.not_eq_true
abbrev UC:=@Bool.not_eq_true'
abbrev UF:=@decide_eq_false_iff_not
abbrev UL:=@decide_eq_true_eq
abbrev UZ:=@List.mem_map
abbrev Vg:=@Option.some.injEq
abbrev VC:=@List.eq_nil_of_length_eq_zero
abbrev VX:=@Bool.not_true
abbrev W5:=@List.nil_append
abbrev Wl:=@Nat.zero_le
abbrev Wn:=@beq_false_of_ne
abbrev X7:=@Nat.ble_eq_true_of_le
abbrev Xs:=@Nat.mul_le_mul_right
abbrev Y3:=@Int.mul_le_mul_of_nonneg_left
abbrev Ya:=@Nat.add_mul
abbrev Z0:=@Bool.true_and
abbrev Zf:=@List.length_set
abbrev ZG:=@Option.map_some
abbrev a6:=@List.mem_of_mem_drop
abbrev aa:=@List.mem_append_right
abbrev ab:=@List.map_append
abbrev ae:=@if_pos
abbrev af:=@if_neg
abbrev ah:=@List.mem_singleton
abbrev ai:=@List.map_nil
abbrev aj:=@Int.tdiv_eq_ediv_of_nonneg
abbrev ak:=@List.mem_iff_getElem
abbrev aq:=@List.mem_append_left
abbrev b5:=@Int.mul_assoc
abbrev b6:=@List.length_take
abbrev bh:=@Bool.or_eq_true
abbrev br:=@Int.mul_le_mul
abbrev c6:=@Bool.false_or
abbrev c7:=@Option.isSome_iff_exists
abbrev ca:=@List.length_drop
abbrev cG:=@Nat.le_succ
abbrev cH:=@Int.one_mul
abbrev cI:=@IntKind.wrap_u64
abbrev cR:=@IntKind.wrap_i64
abbrev re:=@Option.bind_some
abbrev Zj:=@List.getElem?_eq_some_iff
abbrev Zi:=@List.length_append
abbrev Zo:=@Bool.and_eq_true
abbrev Zp:=@List.length_cons
abbrev Zd:=@List.getElem?_eq_getElem
abbrev Zw:=@List.length_map
abbrev Zt:=@List.mem_cons_self
abbrev Zm:=@List.getElem?_map
abbrev Zh:=@Nat.le_of_ble_eq_true
abbrev Zk:=@List.mem_cons_of_mem
abbrev ZT:=@List.getElem?_append_left
abbrev Zx:=@Nat.le_refl
abbrev Zg:=@List.length_nil
abbrev ZZ:=@List.mem_of_getElem?
abbrev ZN:=@Nat.eq_of_beq_eq_true
abbrev ZP:=@Array.getElem?_eq_some_iff
abbrev ZK:=@List.getElem?_append_right
abbrev ZU:=@List.append_assoc
abbrev Ze:=@Nat.le_trans
abbrev Zl:=@Option.some.inj
abbrev ZQ:=@Nat.zero_add
abbrev ZW:=@List.append_nil
abbrev ZI:=@Array.getElem?_eq_getElem
abbrev ZL:=@Array.getElem?_toList
abbrev ZO:=@Nat.lt_of_lt_of_le
abbrev ZY:=@List.map_cons
abbrev Zc:=@List.all_eq_true
abbrev ZR:=@Int.toNat_natCast
abbrev ZJ:=@Nat.not_lt_zero
abbrev ZB:=@List.getElem?_set_self
abbrev Za:=@List.mem_cons
abbrev Z5:=@List.map_congr_left
abbrev Z1:=@List.getElem?_eq_none
abbrev Z9:=@Array.length_toList
abbrev Z7:=@List.getElem?_set_ne
abbrev Yn:=@List.drop_zero
abbrev Ym:=@List.length_replicate
abbrev Yx:=@List.getElem?_cons_succ
abbrev ZM:=@List.mem_append
abbrev Yl:=@List.take_append_drop
abbrev Yu:=@Nat.lt_irrefl
abbrev Yp:=@Nat.le_add_right
abbrev Yt:=@List.not_mem_nil
abbrev eD:=@decide_eq_true
abbrev Zn:=@decide_eq_false
abbrev Z3:=@beq_self_eq_true
abbrev Z4:=@List.all_cons
abbrev Yr:=@List.any_cons
abbrev ZC:=@Nat.lt_succ_self
abbrev Yy:=@Bool.or_eq_false_iff
abbrev U:Type->Type:=List
abbrev so:=ByteArray
abbrev O:Type->Type:=Option
abbrev eG:=Program
abbrev oZ:=Value
abbrev Zy:=World
def bL(a:so):U UInt8:=a.data.toList
def Xf(a:so):a.toList=bL a:=ByteArray.toList_eq a
def Yk{a b:so}(h:bL a=bL b):a=b:=by cases a;cases b;simp only[bL,Array.toList_inj]at h;rw[h]
def yU(l:U Nat):U oZ:=l.map λn=>Value.int .u8 (Int.ofNat n)
def Gp:U Nat:=(List.range 256).map λn=>bif (Nat.ble 9 n&&Nat.ble n 13)||n==32 then 1 else 0
def DK:U (Nat×U oZ):=(0,yU Gp):: []
def B3:U (Nat×U oZ)->Nat->O (U oZ)
 |[],_=>none
 |(k,l)::r,g=>bif k==g then some l else B3 r g
def XU:∀{t:U (Nat×U oZ)}{g:Nat}{l:U oZ},B3 t g=some l->(g,l)∈t
 |[],g,l,h=>by cases h
 |(k,b)::r,g,l,h=>by
  unfold B3 at h;cases e:k==g with
  |true=>rw[e]at h;cases h;rw[TC]at e;subst e;simp
  |false=>rw[e]at h;exact Zk _ (XU h)
inductive D where
 |v (u:Value)
 |sl (xs:List (List D))
 |ag (ds:List D)
inductive gd where
 |d (x:D)
 |bm (c:List D) (off:Nat)
 |fn (f:FuncId) (cs:List gd)
 |qd (f:FuncId) (cs:List gd)
inductive AV where
 |d (x:D)
 |agg (cs:List AV)
 |bw (cs:List AV)
 |ptr (n off:Nat)
 |bm (xs:List (List D)) (i off:Nat)
 |own (n:Nat) (xs:List (List D))
 |full (xs:List (List D))
 |row (n off len cap k:Nat)
 |fn (f:FuncId) (dz:List AV)
 |mp (n:Nat)
 |cD (n:Nat)
 |vec (n o len L k:Nat)
 |dU (n i j L k:Nat)
 |hid (c:gd)
 |dead
abbrev A1:AV:=.ptr 0 0
abbrev An:AV:=.ptr 1 0
abbrev Ar:AV:=.ptr 3 0
abbrev CV:AV:=.ptr 4 0
abbrev D0:AV:=.ptr 2 0
abbrev DF:AV:=.ptr 5 0
abbrev DW:AV:=.ptr 6 0
abbrev EA:AV:=.ptr 8 0
abbrev FW:AV:=.ptr 9 0
abbrev Ge:AV:=.ptr 10 0
abbrev Gl:AV:=.ptr 7 0
abbrev Gv:AV:=.ptr 11 0
abbrev GH:AV:=.ptr 12 0
abbrev GL:AV:=.ptr 14 0
abbrev H5:AV:=.ptr 13 0
abbrev I(x:List (List D)):AV:=.d (.sl x)
abbrev Af(x:Int):AV:=.d (.v (.int .u64 x))
inductive LS where
 |ready
 |busy
 |done (c:Code)
def LS.st:LS->LoopState
 | .ready=>.ready
 | .busy=>.busy
 | .done _=>.done
def LS.pd:LS->O Code
 | .done c=>some c
 |_=>none
inductive ao where
 |cells (cs:List AV)
 |front (e:TypeId) (k len:Nat)
 |vec (e:TypeId) (k:Nat) (cs:List (List AV))
 |map (kv:List (ByteArray×D))
 |l7 (kv:List (ByteArray×D))
 |lp (ls:LS) (p:Nat) (as bd:Code) (cs:List AV)
 |it (sn:Nat×List Nat) (cs:List AV)
 |gu (T:TypeId) (cs:List AV)
 |jC (e:TypeId) (b:ByteArray)
 |gone
structure Gh where
 N:Nat
 Z:Nat->Prop
 S:Nat->Nat->Prop
 bn:Nat->Nat
 sg:Nat->Value
 ow:Nat->Option Nat
 fl:Nat->Nat
 M:Nat
inductive dR(S:Nat->Nat->Prop)(w:World):Value->D->Prop
 |v (u:Value):dR S w u (.v u)
 |sl (A:Option Addr) (b o c k:Nat) (xs:List (List D)) (u:Nat->Nat->Value)
    (hA:xs≠ []->A=some ⟨b,o,none⟩) (hc:xs.length<=c) (hm:c<=maxLen)
    (hk:∀x∈xs,x.length=k)
    (hS:∀i j,i<xs.length->j<k->S b (o+i*k+j)/\w.cell? ⟨b,o+i*k+j,none⟩=some (u i j)/\(u i j).oneCell'=true)
    (hu:∀(i j:Nat)(x:List D)(d:D),xs[i]?=some x->x[j]?=some d->dR S w (u i j) d):dR S w (.slice A xs.length c) (.sl xs)
 |ag (vs:Array Value) (ds:List D) (hl:vs.size=ds.length) (h:∀(i:Nat)(u:Value)(d:D),vs[i]?=some u->ds[i]?=some d->dR S w u d):dR S w (.agg vs) (.ag ds)
inductive pD(S:Nat->Nat->Prop)(w:World):Value->gd->Prop
 |d {u:Value} {x:D} (h:dR S w u x):pD S w u (.d x)
 |bm (c:List D) (off b o:Nat) (u:Nat->Value) (hS:∀j,j<c.length->S b (o+j)/\w.cell? ⟨b,o+j,none⟩=some (u j)) (hu:∀(j:Nat)(d:D),c[j]?=some d->dR S w (u j) d):pD S w (.pointer (some ⟨b,o+off,none⟩)) (.bm c off)
 |fn (f:FuncId) (vs:Array Value) (cs:List gd) (hl:vs.size=cs.length) (h:∀(i:Nat)(u:Value)(c:gd),vs[i]?=some u->cs[i]?=some c->pD S w u c):pD S w (.func (.func f) #[] vs) (.fn f cs)
 |qd (f:FuncId) (vs:Array Value) (cs:List gd) (hl:vs.size=cs.length) (h:∀(i:Nat)(u:Value)(c:gd),vs[i]?=some u->cs[i]?=some c->pD S w u c):pD S w (.func (.func f) vs #[]) (.qd f cs)
structure Yj(s u:Value)(o len L k:Nat):Prop where
 ol:o+len<=L
 sl:∃A c,u= .slice A len c/\len<=c/\c<=maxLen/\L<=c+o/\(o<L->∃g cap,s= .slice (some ⟨g,0,none⟩) L cap/\A=some ⟨g,o*k,none⟩/\o+c=cap)
 all:o=0->len=L->u=s
structure X6(s u:Value)(i j L k:Nat):Prop where
 il:i<L
 pt:∃g cap,s= .slice (some ⟨g,0,none⟩) L cap/\u= .pointer (some ⟨g,i*k+j,none⟩)
inductive aM(G:Gh)(w:World):Value->AV->Prop
 |d {u:Value} {x:D} (h:dR G.S w u x):aM G w u (.d x)
 |agg (vs:Array Value) (cs:List AV) (hl:vs.size=cs.length) (h:∀(i:Nat)(u:Value)(c:AV),vs[i]?=some u->cs[i]?=some c->aM G w u c):aM G w (.agg vs) (.agg cs)
 |bw (vs:Array Value) (cs:List AV) (hl:vs.size=cs.length) (h:∀(i:Nat)(u:Value)(c:AV),vs[i]?=some u->cs[i]?=some c->aM G w u c):aM G w (.tuple vs) (.bw cs)
 |ptr (n off:Nat) (h:n<G.N):aM G w (.pointer (some ⟨G.bn n,off,none⟩)) (.ptr n off)
 |bm (xs:List (List D)) (i off b o:Nat) (u:Nat->Value) (x:List D) (hx:xs[i]?=some x)
  (hS:∀j,j<x.length->G.S b (o+j)/\w.cell? ⟨b,o+j,none⟩=some (u j)) (hu:∀(j:Nat)(d:D),x[j]?=some d->dR G.S w (u j) d):aM G w (.pointer (some ⟨b,o+off,none⟩)) (.bm xs i off)
 |own {u:Value} (n:Nat) (xs:List (List D)) (h:n<G.N) (hp:dR G.S w u (.sl xs)) (hle:xs.length<=G.fl n) (hf:xs.length=G.fl n->u=G.sg n):aM G w u (.own n xs)
 |full {u:Value} (xs:List (List D)) (hp:dR G.S w u (.sl xs)) (hf:∃A,u= .slice A xs.length xs.length):aM G w u (.full xs)
 |row (n off len cap k:Nat) (h:n<G.N) (hl:len<=cap) (hm:cap<=maxLen):aM G w (.slice (some ⟨G.bn n,off,none⟩) len cap) (.row n off len cap k)
 |fn (f:FuncId) (vs:Array Value) (cs:List AV) (hl:vs.size=cs.length) (h:∀(i:Nat)(u:Value)(c:AV),vs[i]?=some u->cs[i]?=some c->aM G w u c):aM G w (.func (.func f) #[] vs) (.fn f cs)
 |mp (n:Nat) (h:n<G.N):aM G w (.map (some (G.bn n))) (.mp n)
 |cD (n:Nat) (h:n<G.N):aM G w (.func (.yield (G.bn n)) #[] #[]) (.cD n)
 |vec {u:Value} (n o len L k:Nat) (h:n<G.N) (hs:∃A l c,u= .slice A l c) (hL:L<=G.fl n) (hf:L=G.fl n->Yj (G.sg n) u o len L k):aM G w u (.vec n o len L k)
 |dU {u:Value} (n i j L k:Nat) (h:n<G.N) (hs:∃b q,u= .pointer (some ⟨b,q,none⟩)) (hL:L<=G.fl n) (hf:L=G.fl n->X6 (G.sg n) u i j L k):aM G w u (.dU n i j L k)
 |hid {u:Value} {c:gd} (h:pD G.S w u c) (h1:u.oneCell'=true):aM G w u (.hid c)
 |dead (u:Value):aM G w u .dead
def mH:U (so×D)->so->O D
 |[],_=>none
 |(k,d)::l,s=>bif bL k==bL s then some d else mH l s
structure xY(S:Nat->Nat->Prop)(w:World)(es:Array MapEntry)(clock:Nat)(kv:List (ByteArray×D)):Prop where
 size:es.size<=maxLen
 stamped:MapKept.Stamped es clock
 D4:∀e∈es.toList,∃s d,e.key= .string s/\mH kv s=some d/\dR S w e.val d
 all:∀s d,mH kv s=some d->∃e∈es.toList,e.key= .string s
 len:es.size<=kv.length
 born:∀(i:Nat)(e:MapEntry),es[i]?=some e->e.born=i
 Oq:clock=es.size
structure LW(S:Nat->Nat->Prop)(w:World)(es:Array MapEntry)(clock:Nat)(kv:List (ByteArray×D)):Prop where
 ok:xY S w es clock kv
 ord:∀(i:Nat)(e:MapEntry),es[i]?=some e->∃p,kv[i]?=some p/\e.key= .string p.1/\dR S w e.val p.2
 all:kv.length=es.size
def ao.fv(G:Gh)(n:Nat):ao->O Nat
 | .cells _=>some (G.bn n)
 | .front _ _ _=>G.ow n
 | .vec _ _ _=>G.ow n
 | .map _=>some (G.bn n)
 | .l7 _=>some (G.bn n)
 | .lp _ _ _ _ _=>some (G.bn n)
 | .it _ _=>some (G.bn n)
 | .gu _ _=>some (G.bn n)
 | .jC _ _=>G.ow n
 | .gone=>none
def cu(h:U ao)(G:Gh)(n:Nat):O Nat:=(h[n]?).bind (ao.fv G n)
def eN{h:U ao}{G:Gh}{n:Nat}{B:ao}(e:h[n]?=some B):cu h G n=B.fv G n:=by unfold cu;rw[e];rfl
def Em{h:U ao}{G:Gh}{n:Nat}(e:h[n]?=none):cu h G n=none:=by unfold cu;rw[e];rfl
def nv{h:U ao}{G:Gh}{n b:Nat}(e:cu h G n=some b):∃B,h[n]?=some B/\B.fv G n=some b:=by
 unfold cu at e;cases c:h[n]? with
 |none=>rw[c]at e;cases e
 |some B=>rw[c]at e;exact⟨B,rfl,e⟩
def auJ(v:oZ):Prop:=v= .slice none 0 0\/∃g n b,v= .slice (some ⟨g,0,none⟩) n b/\b≠0
def fj(G:Gh)(w:Zy)(n:Nat):ao->Prop
 | .cells l=>¬G.Z (G.bn n)/\(∀o,¬G.S (G.bn n) o)/\∃(q:Array oZ)(T:TypeId),w.heap[G.bn n]?=some (.cells q T (0,0))/\q.size=l.length/\∀(i:Nat)(u:oZ)(c:AV),q[i]?=some u->l[i]?=some c->aM G w u c
 | .front e k m=>G.fl n=m/\m<=maxLen/\((G.ow n=none/\∃A,G.sg n= .slice A m m)\/ ∃(g d:Nat)(f:Array oZ),G.ow n=some g/\G.sg n= .slice (some ⟨g,0,none⟩) m d/\¬G.Z g/\w.heap[g]?=some (.cells f e (0,0))/\m<=d/\d<=maxLen/\f.size=d*k/\∀o,m*k<=o->¬G.S g o)
 | .vec e k l=>G.fl n=l.length/\l.length<=maxLen/\(∀c∈l,c.length=k)/\((G.ow n=none/\l=[]/\∃A,G.sg n= .slice A 0 0)\/ ∃(g d:Nat)(f:Array oZ),G.ow n=some g/\G.sg n= .slice (some ⟨g,0,none⟩) l.length d/\¬G.Z g/\w.heap[g]?=some (.cells f e (0,0))/\l.length<=d/\d<=maxLen/\f.size=d*k/\(∀o,¬G.S g o)/\ ∀(i j:Nat)(c:U AV)(x:AV)(u:oZ),l[i]?=some c->c[j]?=some x->f[i*k+j]?=some u->aM G w u x)
 | .map y=>¬G.Z (G.bn n)/\(∀o,¬G.S (G.bn n) o)/\∃(t:Array MapEntry)(clock:Nat),w.heap[G.bn n]?=some (.map t clock)/\xY G.S w t clock y
 | .l7 y=>¬G.Z (G.bn n)/\(∀o,¬G.S (G.bn n) o)/\∃(t:Array MapEntry)(clock:Nat),w.heap[G.bn n]?=some (.map t clock)/\LW G.S w t clock y
 | .lp C p as E l=>¬G.Z (G.bn n)/\(∀o,¬G.S (G.bn n) o)/\∃(fn:FuncId)(z:Array oZ)(D:Nat),w.heap[G.bn n]?=some (.loop {state:=C.st,pending:=C.pd,fn:=fn,tmps:=z,params:= #[p],assign:=as,body:=E,defers:=D})/\z.size=l.length/\∀(i:Nat)(u:oZ)(c:AV),z[i]?=some u->l[i]?=some c->aM G w u c
 | .it B l=>¬G.Z (G.bn n)/\(∀o,¬G.S (G.bn n) o)/\∃(fn:Nat)(q:Array oZ)(_:Unit),w.heap[G.bn n]?=some (.mapIter (some fn) B.1 B.2.toArray B.1)/\(q.size=l.length/\q= #[.map (some fn)])/\∀(i:Nat)(u:oZ)(c:AV),q[i]?=some u->l[i]?=some c->aM G w u c
 | .gu T l=>¬G.Z (G.bn n)/\(∀o,¬G.S (G.bn n) o)/\∃(_:Unit)(q:Array oZ)(p:oZ),w.heap[G.bn n]?=some (.cells (#[p]++q) T (0,0))/\(q.size=l.length/\(p= .pointer none\/p= .pointer (some ⟨G.bn n,0,none⟩))/\∀v∈q.toList,auJ v)/\∀(i:Nat)(u:oZ)(c:AV),q[i]?=some u->l[i]?=some c->aM G w u c
 | .jC e b=>G.fl n=b.size/\b.size<=maxLen/\((G.ow n=none/\b.size=0/\∃A,G.sg n= .slice A 0 0)\/ ∃(g d:Nat)(f:Array oZ),G.ow n=some g/\G.sg n= .slice (some ⟨g,0,none⟩) b.size d/\¬G.Z g/\w.heap[g]?=some (.cells f e (0,0))/\b.size<=d/\d<=maxLen/\f.size=d/\(∀o,¬G.S g o)/\∀(i:Nat)(u:UInt8),(bL b)[i]?=some u->f[i]?=some (.int .u8 u.toNat))
 | .gone=>True
def K8(G:Gh)(w:Zy):Prop:=(∀(g:Nat)(l:U oZ),(g,l)∈DK->∀(j:Nat)(v:oZ),l[j]?=some v->G.S g j/\w.cell? ⟨g,j,none⟩=some v)/\G.M<=w.heap.size
structure cp(G:Gh)(w:World)(h:List ao):Prop where
 len:h.length=G.N
 z:∀b,G.Z b->b<w.heap.size
 S:∀b o,G.S b o->b<w.heap.size
 dN:∀(n:Nat)(B:ao),h[n]?=some B->fj G w n B
 inj:∀(m n b:Nat),cu h G m=some b->cu h G n=some b->m=n
 gl:K8 G w
structure cf(N:Nat)(G:Gh)(w:World)(G':Gh)(w':World):Prop where
 size:w.heap.size<=w'.heap.size
 S:∀b o,G.S b o->G'.S b o
 cell:∀b o,G.S b o->w'.cell? ⟨b,o,none⟩=w.cell? ⟨b,o,none⟩
 bn:∀n,n<N->G'.bn n=G.bn n
 fr:∀n,n<N->(G'.fl n=G.fl n/\G'.sg n=G.sg n)\/G.fl n<G'.fl n
 Z:((∀b,G.Z b->G'.Z b)/\∀b,G'.Z b->G.Z b\/w.heap.size<=b)/\G'.M=G.M
 old:∀b,G.Z b->w'.heap[b]?=w.heap[b]?
 os:w'.os=w.os
 tape:w'.tape=w.tape
 output:w'.output=w.output
 new:∀b o,G'.S b o->G.S b o\/¬G.Z b
def iJ{Z c:Nat->Prop}{m M d:Nat}(h:c=Z)(e:d=M:=by rfl):((∀b,Z b->c b)/\∀b,c b->Z b\/m<=b)/\d=M:=⟨⟨λ_ k=>h▸k,λ_ k=>.inl (h▸k)⟩,e⟩
def cf.refl(N:Nat)(G:Gh)(w:Zy):cf N G w G w:=
 ⟨Zx _,λ_ _ h=>h,λ_ _ _=>rfl,λ_ _=>rfl,λ_ _=>.inl ⟨rfl,rfl⟩,iJ rfl,λ_ _=>rfl,rfl,rfl,rfl,λ_ _ h=>.inl h⟩
def cf.trans{N:Nat}{G G1 g:Gh}{w i w2:Zy}(h:cf N G w G1 i)(k:cf N G1 i g w2):cf N G w g w2:=
 ⟨Ze h.size k.size,λb o c=>k.S b o (h.S b o c),λb o c=>(k.cell b o (h.S b o c)).trans (h.cell b o c),λn d=>(k.bn n d).trans (h.bn n d),
  λn d=>by
   rcases h.fr n d with⟨f,j⟩|f<;>rcases k.fr n d with⟨k1,k2⟩|k1
   ·exact .inl ⟨k1.trans f,k2.trans j⟩
   ·exact .inr (f▸k1)
   ·exact .inr (k1▸f)
   ·exact .inr (Nat.lt_trans f k1),
  ⟨⟨λb e=>k.Z.1.1 b (h.Z.1.1 b e),λb e=>(k.Z.1.2 b e).elim (h.Z.1.2 b) λc=>.inr (Ze h.size c)⟩,k.Z.2.trans h.Z.2⟩,λb e=>(k.old b (h.Z.1.1 b e)).trans (h.old b e),k.os.trans h.os,k.tape.trans h.tape,k.output.trans h.output,λb o c=>(k.new b o c).elim (h.new b o) (λd=>.inr λl=>d (h.Z.1.1 b l))⟩
def cf.less{N M:Nat}{G G':Gh}{w w':Zy}(h:cf N G w G' w')(c:M<=N):cf M G w G' w':=
 ⟨h.size,h.S,h.cell,λn b=>h.bn n (ZO b c),λn b=>h.fr n (ZO b c),h.Z,h.old,h.os,h.tape,h.output,h.new⟩
def cf.mD{N:Nat}{G G':Gh}{w w':Zy}(h:cf N G w G' w'){b:Nat}(c:b<w.heap.size)(d:¬G.Z b):¬G'.Z b:=λk=>(h.Z.1.2 b k).elim d λe=>Yu _ (ZO c e)
def ux(G:Gh)(w:Zy)(b:U Deferred):Prop:=∃l:U Nat,l.Nodup/\b=l.map (λD=>{target:= .collected D,args:= #[]})/\∀D∈l,G.M<=D/\G.Z D/\w.heap[D]?=some (.deferred (some []))
def ux.nil(G:Gh)(w:Zy):ux G w []:=⟨[],List.nodup_nil,rfl,λ_ h=>absurd h Yt⟩
def ux.keep{N:Nat}{G G':Gh}{w w':Zy}{ds:U Deferred}(h:ux G w ds)(d:cf N G w G' w'):ux G' w' ds:=
 let ⟨l,e,f,b⟩:=h
 ⟨l,e,f,λD c=>⟨d.Z.2▸(b D c).1,d.Z.1.1 D (b D c).2.1,(d.old D (b D c).2.1).trans (b D c).2.2⟩⟩
def K8.keep{N:Nat}{G G':Gh}{w w':Zy}(h:K8 G w)(b:cf N G w G' w'):K8 G' w':=⟨λg l c j v d=>
 ⟨b.S _ _ (h.1 g l c j v d).1,(b.cell _ _ (h.1 g l c j v d).1).trans (h.1 g l c j v d).2⟩,by rw[b.Z.2];exact Ze h.2 b.size⟩
def dR.keep{S S':Nat->Nat->Prop}{w w':Zy}(l:∀b o,S b o->S' b o)(m:∀b o,S b o->w'.cell? ⟨b,o,none⟩=w.cell? ⟨b,o,none⟩){u:oZ}{x:D}(h:dR S w u x):dR S' w' u x:=by
 induction h with
 |v u=>exact .v u
 |sl A b o c k p u q t y z d _ g=>
  exact .sl A b o c k p u q t y z (λi j e f=>⟨l _ _ (d i j e f).1,(m _ _ (d i j e f).1).trans (d i j e f).2.1,(d i j e f).2.2⟩) g
 |ag B C E _ g=>exact .ag B C E g
def pD.keep{S S':Nat->Nat->Prop}{w w':Zy}(e:∀b o,S b o->S' b o)(g:∀b o,S b o->w'.cell? ⟨b,o,none⟩=w.cell? ⟨b,o,none⟩){u:oZ}{x:gd}(h:pD S w u x):pD S' w' u x:=by
 induction h with
 |d h=>exact .d (h.keep e g)
 |bm c i b o u k v=>exact .bm c i b o u (λj l=>⟨e _ _ (k j l).1,(g _ _ (k j l).1).trans (k j l).2⟩) (λj d y=>(v j d y).keep e g)
 |fn f m p q _ t=>exact .fn f m p q t
 |qd f m p q _ t=>exact .qd f m p q t
def aM.keep{G G':Gh}{w w':Zy}(c:cf G.N G w G' w')(m:G.N<=G'.N){u:oZ}{x:AV}(h:aM G w u x):aM G' w' u x:=by
 induction h with
 |d h=>exact .d (h.keep c.S c.cell)
 |agg t v p _ y=>exact .agg t v p y
 |bw t v p _ y=>exact .bw t v p y
 |ptr n l h=>rw[<-c.bn n h];exact .ptr n l (ZO h m)
 |bm z i l b o u x H B J=>exact .bm z i l b o u x H (λj C=>⟨c.S _ _ (B j C).1,(c.cell _ _ (B j C).1).trans (B j C).2⟩) (λj d M=>(J j d M).keep c.S c.cell)
 |own n z h E R q=>
  refine .own n z (ZO h m) (E.keep c.S c.cell) ?_ ?_
  ·rcases c.fr n h with⟨g,_⟩|g
   ·omega
   ·omega
  ·intro e;rcases c.fr n h with⟨g,A⟩|g
   ·rw[A];exact q (e.trans g)
   ·omega
 |full z E q=>exact .full z (E.keep c.S c.cell) q
 |row n l len cap k h p T=>rw[<-c.bn n h];exact .row n l len cap k (ZO h m) p T
 |fn f t v p _ y=>exact .fn f t v p y
 |mp n h=>rw[<-c.bn n h];exact .mp n (ZO h m)
 |cD n h=>rw[<-c.bn n h];exact .cD n (ZO h m)
 |vec n o len L k h F W q=>
  refine .vec n o len L k (ZO h m) F ?_ ?_;{rcases c.fr n h with⟨g,_⟩|g<;>omega}
  ·intro e;rcases c.fr n h with⟨g,A⟩|g
   ·rw[A];exact q (e.trans g)
   ·omega
 |dU n i j L k h F W q=>
  refine .dU n i j L k (ZO h m) F ?_ ?_;{rcases c.fr n h with⟨g,_⟩|g<;>omega}
  ·intro e;rcases c.fr n h with⟨g,A⟩|g
   ·rw[A];exact q (e.trans g)
   ·omega
 |hid h g=>exact .hid (h.keep c.S c.cell) g
 |dead u=>exact .dead u
structure St where
 n:Nat
 t:List (Nat×AV)
 h:List ao
def bE:U (Nat×AV)->Nat->AV
 |[],_=>.dead
 |(k,x)::l,i=>bif i==k then x else bE l i
def mN(k:Nat)(x:AV)(l:U (Nat×AV))(i:Nat):bE ((k,x)::l) i=if i=k then x else bE l i:=by
 simp only[bE,cond_eq_ite,TC]
def gN(b:Bool)(p:Prop):Prop:=cond b p False
def cm{b:Bool}{p:Prop}:gN b p↔b=true/\p:=by cases b<;>simp [gN]
def cF(a b:Nat):Bool:=a-b==0
def dT{a b:Nat}:cF a b=true↔a<=b:=by simp [cF];omega
def Yi:IntKind->Nat
 | .i8=>0| .i16=>1| .i32=>2| .i64=>3| .u8=>4| .u16=>5| .u32=>6| .u64=>7
def zG(a b:IntKind):Bool:=Yi a==Yi b
def W7{a b:IntKind}:zG a b=true↔a=b:=by cases a<;>cases b<;>decide
def St.put(s:St)(b:O Nat)(x:AV):St:=
 match b with
 |none=>s
 |some d=>bif s.n-d==0 then s else{s with t:=(d,x)::s.t}
def uc{s:St}{d:Nat}(h:d<s.n)(x:AV):s.put (some d) x={s with t:=(d,x)::s.t}:=by
 have:(s.n-d==0)=false:=by simp;omega
 simp only[St.put,this,Tf]
def Gj{s:St}{d:Nat}(h:¬d<s.n)(x:AV):s.put (some d) x=s:=by
 have:(s.n-d==0)=true:=by simp;omega
 simp only[St.put,this,Tj]
def St.wh(s:St)(h:U ao):St:={s with h:=h}
def Qf:oZ->AV
 | .agg b=>.agg (b.toList.map λu=>.d (.v u))
 | .tuple b=>.bw (b.toList.map λu=>.d (.v u))
 |u=>.d (.v u)
def ev(s:St):Operand->AV
 | .tmp t=>bE s.t t
 | .const v=>Qf v
 | .func f=>.fn f []
 | .global g=>match B3 DK g with
   |some l=>.bm [l.map .v] 0 0
   |none=>.dead
def AV.kW:AV->Bool
 | .d (.v u)=>u.oneCell'
 | .d (.sl _)| .ptr .. | .bm .. | .own .. | .full _| .row .. | .fn .. | .mp _| .cD _| .hid _| .vec .. | .dU .. =>true
 | .agg _| .bw _| .dead| .d (.ag _)=>false
def AV.cells:AV->U AV
 | .agg b=>b
 |x=>[x]
def AV.kQ:AV->Bool
 | .agg b=>b.all AV.kW
 |x=>x.kW
def D.xH:D->D
 | .v (.slice none 0 0)=>.sl []
 |x=>x
def AV.yW:AV->O D
 | .d x=>some x.xH
 | .own _ b=>some (.sl b)
 | .full b=>some (.sl b)
 |_=>none
def AV.gV:AV->O (U (U D))
 | .d (.sl b)=>some b
 | .own _ b=>some b
 | .full b=>some b
 | .d (.v (.slice none 0 0))=>some []
 |_=>none
def AV.int?:AV->O Int
 | .d (.v (.int _ n))=>some n
 |_=>none
def gd.av:gd->AV
 | .d x=>.d x
 | .bm c b=>.bm [c] 0 b
 | .fn f e=>.hid (.fn f e)
 | .qd f e=>.hid (.qd f e)
def gd.app(as:U AV):gd->O (FuncId×U AV)
 | .fn g b=>some (g,as++b.map gd.av)
 | .qd g b=>some (g,b.map gd.av++as)
 |_=>none
mutual
def AV.cap:AV->O gd
 | .d x=>some (.d x)
 | .own _ xs=>some (.d (.sl xs))
 | .full xs=>some (.d (.sl xs))
 | .bm xs i off=>match xs[i]? with
   |some c=>some (.bm c off)
   |none=>none
 | .fn f cs=>match AV.yO cs with
   |some l=>some (.fn f l)
   |none=>none
 | .hid c=>some c
 |_=>none
def AV.yO:U AV->O (U gd)
 |[]=>some []
 |x::l=>match x.cap,AV.yO l with
  |some c,some l=>some (c::l)
  |_,_=>none
end
def TX(f:FuncId)(first dz:U AV):O AV:=
 match first with
 |[]=>some (.fn f dz)
 |l=>match AV.yO l,dz with
  |some b,[]=>some (.hid (.qd f b))
  |_,_=>none
def ZH(P:eG)(t:TypeId):O Nat:=(P.info? t).map (·.size)
def nW(P:eG)(t:TypeId):O Bool:=(P.underlying t).map fun| .struct _=>true| .array .. =>true|_=>false
def uI(P:eG)(t:TypeId)(i:Nat):O (Nat×Nat×Bool):=
 match P.underlying t with
 |some (.struct b)=>match b[i]? with
  |some f=>match ZH P f.type,nW P f.type with
   |some (k+1),some g=>some (f.offset,k+1,g)
   |_,_=>none
  |none=>none
 |_=>none
def fF(P:eG)(t:TypeId):O (TypeId×Nat):=
 match P.underlying t with
 |some (.slice e)=>(ZH P e).map λk=>(e,k)
 |_=>none
def wY(P:eG)(t:TypeId):O (Nat×TypeId×Nat):=
 match P.underlying t with
 |some (.array n e)=>(ZH P e).map λk=>(n,e,k)
 |_=>none
def jc(P:eG)(t:TypeId):Bool:=match P.underlying t with|some .string=>true|_=>false
def Di(P:eG)(t:TypeId):Bool:=match P.underlying t with|some .bool=>true|_=>false
def tH(P:eG)(t:TypeId):O IntKind:=match P.underlying t with|some (.int k)=>some k|_=>none
def Fo(P:eG)(t:TypeId):Bool:=match P.underlying t with|some (.int .u8)=>true|_=>false
def jY(P:eG)(t:TypeId):O oZ:=(P.info? t).bind (·.zero)
def uj(P:eG)(t:TypeId):O Nat:=(P.info? t).map (·.bytes)
def Tp(c:BinOp)(k:IntKind)(a b:Int):O oZ:=
 match c with
 | .add=>some (.int k (k.wrap (a+b)))
 | .sub=>some (.int k (k.wrap (a-b)))
 | .mul=>some (.int k (k.wrap (a*b)))
 | .eql=>some (.bool (a==b))
 | .neq=>some (.bool (a !=b))
 | .lss=>some (.bool (a<b))
 | .leq=>some (.bool (a<=b))
 | .gtr=>some (.bool (a>b))
 | .geq=>some (.bool (a>=b))
 | .and=>some (.int k (k.wrap (BitVec.ofInt k.bits a&&&BitVec.ofInt k.bits b).toNat))
 | .or=>some (.int k (k.wrap (BitVec.ofInt k.bits a|||BitVec.ofInt k.bits b).toNat))
 | .xor=>some (.int k (k.wrap (BitVec.ofInt k.bits a^^^BitVec.ofInt k.bits b).toNat))
 | .andNot=>some (.int k (k.wrap (BitVec.ofInt k.bits a&&& ~~~BitVec.ofInt k.bits b).toNat))
 |_=>none
def V4(c:BinOp)(a b:so):O oZ:=
 match c with
 | .eql=>some (.bool (bL a==bL b))
 | .neq=>some (.bool (!(bL a==bL b)))
 | .lss=>some (.bool (Op.bytesLess (bL a) (bL b)))
 | .leq=>some (.bool (Op.bytesLess (bL a) (bL b)||bL a==bL b))
 | .gtr=>some (.bool (!(Op.bytesLess (bL a) (bL b)||bL a==bL b)))
 | .geq=>some (.bool (!Op.bytesLess (bL a) (bL b)))
 |_=>none
def TO(c:BinOp)(a b:Bool):O oZ:=
 match c with
 | .eql=>some (.bool (a==b))
 | .neq=>some (.bool (!(a==b)))
 |_=>none
def Vf(c:BinOp)(k:IntKind)(a b:Int):O oZ:=
 match c with
 | .quo=>some (.int k (k.wrap (a.tdiv b)))
 | .rem=>some (.int k (a.tmod b))
 |_=>none
def Wq(c:BinOp)(k:IntKind)(a b:Int):O oZ:=
 match c with
 | .shl=>some (.int k (k.wrap (a*2^(min b.toNat k.bits))))
 | .shr=>some (.int k (a.fdiv (2^(min b.toNat k.bits))))
 |_=>none
def MB(c:UnOp)(x:oZ):O oZ:=
 match c,x with
 | .not,.bool b=>some (.bool (!b))
 | .neg,.int k n=>some (.int k (k.wrap (0-n)))
 | .xor,.int k n=>some (.int k (k.wrap (BitVec.ofInt k.bits (if k.signed then-1 else k.max)^^^BitVec.ofInt k.bits n).toNat))
 |_,_=>none
def jn(cs:U AV)(off:Nat)(ys:U AV):U AV:=cs.take off++ys++cs.drop (off+ys.length)
def qj(k:Nat):Nat->U D->U (U D)
 |0,_=>[]
 |n+1,l=>l.take k::qj k n (l.drop k)
def rV(places:U (Nat×Nat)):U AV->U (Nat×AV)->O (U AV)
 |c,[]=>some c
 |c,(i,x)::r=>
  match places[i]? with
  |some (b,k)=>bif x.cells.length==k&&cF (b+k) c.length then rV places (jn c b x.cells) r else none
  |none=>none
def pg:U AV->O (U D)
 |[]=>some []
 |x::r=>match x.yW,pg r with
  |some d,some l=>some (d::l)
  |_,_=>none
def Ju(P:eG)(b:U Field):O (U (Nat×Nat)):=b.mapM λf=>(ZH P f.type).map λk=>(f.offset,k)
def IA(P:eG)(f:FuncId):Bool:=
 match P.funcs[f]? with
 |some b=>b.body.isSome&& !(b.name== "runtime.NumGoroutine")
 |none=>false
def da(P:eG)(f:FuncId)(args:U AV)(h:U ao)(K:AV->U ao->Prop):Prop:=IA P f=true/\∀(G:Gh)(w:Zy)(b:Array oZ),cp G w h->b.size=args.length->(∀(i:Nat)(u:oZ)(c:AV),b[i]?=some u->args[i]?=some c->aM G w u c)-> Calls P f b w λe d=>∃v G' r g,e= .returned v/\cf G.N G w G' d/\G.N<=G'.N/\cp G' d g/\aM G' d v r/\K r g
def da.mono{P:eG}{f:FuncId}{args:U AV}{h:U ao}{K K':AV->U ao->Prop}(b:da P f args h K)(c:∀r h',K r h'->K' r h'):da P f args h K':=
 ⟨b.1,λG w d g i j=>(b.2 G w d g i j).mono λ_ _ ⟨v,k,r,h',e,l,m,p,q,t⟩=>⟨v,k,r,h',e,l,m,p,q,c _ _ t⟩⟩
def uE(h:U ao)(p:AV)(K:U AV->Nat->Prop):Prop:=
 match p with
 | .ptr n b=>match h[n]? with
   |some (.cells c)=>K c b
   |_=>False
 | .bm e i b=>match e[i]? with
   |some c=>K (c.map .d) b
   |none=>False
 |_=>False
def qE(P:eG)(t:TypeId)(h:U ao)(p:AV)(K:AV->Prop):Prop:=
 uE h p λd b=>match nW P t,ZH P t with
  |some true,some k=>gN (cF (b+k) d.length) (K (.agg ((d.drop b).take k)))
  |some false,some _=>match d[b]? with
   |some c=>K c
   |none=>False
  |_,_=>False
def Ae(P:eG)(t:TypeId)(h:U ao)(p x:AV)(K:U ao->Prop):Prop:=
 match p with
 | .ptr n b=>match h[n]? with
   |some (.cells c)=>match ZH P t with
    |some k=>gN (k==x.cells.length&&x.kQ&&cF (b+x.cells.length) c.length) (K (h.set n (.cells (jn c b x.cells))))
    |none=>False
   |_=>False
 |_=>False
def uB(P:eG)(T:TypeId)(x i:AV)(K:AV->Prop):Prop:=
 match fF P T with
 |some (_,k)=>
  match x with
  | .row n e f _ j=>match i.int? with
    |some z=>gN (j==k) (0<=z/\z<f/\K (.ptr n (e+z.toNat*k)))
    |none=>False
  |_=>match x.gV,i.int? with
   |some g,some z=>0<=z/\(match g[z.toNat]? with|some c=>c.length=k/\K (.bm [c] 0 0)|none=>False)
   |_,_=>False
 |none=>match wY P T,x,i.int? with
  |some (n,_,k),.ptr b e,some z=>0<=z/\z<n/\K (.ptr b (e+z.toNat*k))
  |some (n,_,k),.bm g i e,some z=>gN (k==1) (0<=z/\z<n/\(match g[i]? with|some c=>(match c[e+z.toNat]? with|some d=>K (.bm [[d]] 0 0)|none=>False)|none=>False))
  |_,_,_=>False
def vn(P:eG)(T:TypeId)(x:AV)(K:Nat->Prop):Prop:=
 match x with
 | .d (.v (.string s))=>gN (jc P T) (K s.size)
 | .row _ _ b _ _=>gN (fF P T).isSome (K b)
 |x=>match x.gV with
  |some c=>gN (fF P T).isSome (K c.length)
  |none=>False
def lM(ρ:Operand->AV)(x:O Operand)(b:Nat)(K:Nat->Prop):Prop:=
 match x with
 |none=>K b
 |some y=>match (ρ y).int? with
  |some z=>0<=z/\K z.toNat
  |none=>False
def xA(P:eG)(T:TypeId)(ρ:Operand->AV)(x:AV)(lo hi g:O Operand)(K:AV->Prop):Prop:=
 match g with
 |none=>
  match x with
  | .d (.v (.string b))=>gN (jc P T) (lM ρ hi b.size λh=>h<=b.size/\lM ρ lo 0 λl=>l<=h/\K (.d (.v (.string (b.extract l h)))))
  | .ptr n f=>match wY P T with
    |some (m,_,k)=>gN (cF m 4096) (lM ρ hi m λh=>gN (cF h m) (lM ρ lo 0 λl=>gN (cF l h&& !cF m l) (K (.row n (f+l*k) (h-l) (m-l) k))))
    |none=>False
  |x=>match x.gV,fF P T with
   |some e,some (_,k)=>(∀c∈e,c.length=k)/\lM ρ hi e.length λh=>h<=e.length/\lM ρ lo 0 λl=>l<=h/\K (.d (.sl ((e.take h).drop l)))
   |_,_=>False
 |some m=>match lo,hi with
  |none,some y=>match x.gV,fF P T with
   |some e,some (_,k)=>(∀c∈e,c.length=k)/\lM ρ (some m) 0 λc=>c<=e.length/\lM ρ (some y) 0 λh=>h=c/\K (.full (e.take h))
   |_,_=>False
  |_,_=>False
def xE(h:U ao)(k:Nat)(x:AV)(K:U (U D)->Prop):Prop:=
 match x with
 | .row n d b _ g=>match h[n]? with
   |some (.cells e)=>match pg ((e.drop d).take (b*k))with
    |some i=>gN (g==k&&cF (d+b*k) e.length&&((e.drop d).take (b*k)).all AV.kW) (K (qj k b i))
    |none=>False
   |_=>False
 |x=>match x.gV with
  |some f=>(∀c∈f,c.length=k)/\K f
  |none=>False
def wT(P:eG)(T:TypeId)(h:U ao)(x y:AV)(K:AV->U ao->Prop):Prop:=
 match fF P T with
 |some (e,k)=>match jY P e,uj P e with
  |some z,some g=>gN (cF 1 k&&z.cells.toList.length==k)<|xE h k y λb=>
   match x with
   | .own n f=>match h[n]? with
     |some (.front i j len)=>gN (i==e&&j==k)<|len=f.length/\(∀c∈f,c.length=k)/\f.length+b.length<=maxLen/\(f.length+b.length)*g<=140737488355328/\K (.own n (f++b)) (h.set n (.front e k (f.length+b.length)))
     |_=>False
   | .d (.v (.slice none 0 0))=>b.length<=maxLen/\b.length*g<=140737488355328/\K (.own h.length b) (h++[.front e k b.length])
   | .full f=>(∀c∈f,c.length=k)/\f.length+b.length<=maxLen/\(f.length+b.length)*g<=140737488355328/\K (.own h.length (f++b)) (h++[.front e k (f.length+b.length)])
   |_=>False
  |_,_=>False
 |none=>False
def Qh(P:eG)(T:TypeId):O (U (Nat×Nat)):=
 match P.underlying T with
 |some (.struct b)=>Ju P b.toList
 |_=>none
def AI(P:eG)(T:TypeId)(b:U (Nat×AV))(K:AV->Prop):Prop:=
 match Qh P T,jY P T with
 |some places,some z=>match rV places (z.cells.toList.map λu=>.d (.v u)) b with
  |some c=>gN ((b.all λp=>p.2.kQ)&&z.cells.toList.all Value.oneCell') (K (.agg c))
  |none=>False
 |_,_=>False
def wA(k:Nat):Nat->Nat->U (Nat×Nat)
 |_,0=>[]
 |o,n+1=>(o,k)::wA k (o+k) n
def uK:Nat->U AV->U AV
 |0,_=>[]
 |n+1,l=>l++uK n l
def za(P:eG)(T:TypeId)(len:Nat)(b:U (Nat×AV))(K:AV->Prop):Prop:=
 match fF P T with
 |some (e,k)=>match jY P e with
  |some z=>match rV (wA k 0 len) (uK len (z.cells.toList.map λu=>.d (.v u))) b with
   |some c=>match pg c with
    |some f=>gN (cF 1 k&&cF (len*k) 16777216&&z.cells.toList.length==k&&z.cells.toList.all Value.oneCell'&&(b.all λp=>p.2.kQ)) (K (.full (qj k len f)))
    |none=>False
   |none=>False
  |none=>False
 |none=>False
def H9(P:eG)(t:TypeId)(x y:AV):O Bool:=
 match x,y with
 | .d (.v (.int k a)),.d (.v (.int c b))=>bif zG k c&&(tH P t).isSome then some (a==b)else none
 | .d (.v (.string a)),.d (.v (.string b))=>bif jc P t then some (bL a==bL b)else none
 | .d (.v (.bool a)),.d (.v (.bool b))=>bif Di P t then some (a==b)else none
 |_,_=>none
def CZ(P:eG)(c:TypeId->U AV->U AV->O Bool):U Field->U AV->U AV->O Bool
 |[],_,_=>some true
 |f::g,d,e=>bif f.name== "_" then none else
  match nW P f.type with
  |some false=>match d[f.offset]?,e[f.offset]? with
   |some x,some y=>match H9 P f.type x y,CZ P c g d e with
    |some a,some b=>some (a&&b)
    |_,_=>none
   |_,_=>none
  |some true=>match ZH P f.type with
   |some k=>bif cF (f.offset+k) d.length&&cF (f.offset+k) e.length then match c f.type ((d.drop f.offset).take k) ((e.drop f.offset).take k),CZ P c g d e with
    |some a,some b=>some (a&&b)
    |_,_=>none
    else none
   |none=>none
  |none=>none
def Lu(P:eG):Nat->TypeId->U AV->U AV->O Bool
 |0=>λ_ _ _=>none
 |d+1=>λT b c=>match P.underlying T with
  |some (.struct e)=>bif P.stoodInHeld T then none else CZ P (Lu P d) e.toList b c
  |_=>none
def MF(P:eG)(T:TypeId)(xs ys:U AV):O Bool:=
 match P.underlying T with
 |some (.struct b)=>bif P.stoodInHeld T||P.eqGuardType P.depth T then none else CZ P (Lu P 4) b.toList xs ys
 |_=>none
def yB(c:BinOp)(b:Bool):O oZ:=
 match c with
 | .eql=>some (.bool b)
 | .neq=>some (.bool (!b))
 |_=>none
def zZ(P:eG)(T:TypeId)(c:BinOp)(x y:AV)(K:AV->Prop):Prop:=
 match x,y with
 | .d (.v (.int k a)),.d (.v (.int e b))=>
   match Vf c k a b with
   |some v=>gN (zG k e) (b≠0/\K (.d (.v v)))
   |none=>match Wq c k a b with
    |some v=>0<=b/\K (.d (.v v))
    |none=>match Tp c k a b with
     |some v=>gN (zG k e) (K (.d (.v v)))
     |none=>False
 | .d (.v (.string a)),.d (.v (.string b))=>match V4 c a b with
   |some v=>K (.d (.v v))
   |none=>match c with
    | .add=>a.size+b.size<=maxLen/\K (.d (.v (.string (a++b))))
    |_=>False
 | .d (.v (.bool a)),.d (.v (.bool b))=>match TO c a b with
   |some v=>gN (Di P T) (K (.d (.v v)))
   |none=>False
 | .agg f,.agg g=>match MF P T f g with
   |some b=>match yB c b with
    |some v=>K (.d (.v v))
    |none=>False
   |none=>False
 |_,_=>False
def zR(b:UnOp)(x:AV)(K:AV->Prop):Prop:=
 match x with
 | .d (.v u)=>match MB b u with
   |some v=>K (.d (.v v))
   |none=>False
 |_=>False
def yI(P:eG)(c f:TypeId)(x:AV)(K:AV->Prop):Prop:=
 match x with
 | .d (.v (.int _ n))=>match tH P c,tH P f with
   |some _,some k=>K (.d (.v (.int k (k.wrap n))))
   |_,_=>False
 | .d (.v (.string b))=>gN (jc P c&&jc P f) (K (.d (.v (.string b))))
 |x=>match x.gV,fF P c with
  |some i,some (e,_)=>gN (Fo P e&&jc P f) (∃g:U Int,i=g.map (λn=>[.v (.int .u8 n)])/\K (.d (.v (.string ⟨(g.map λn=>UInt8.ofNat n.toNat).toArray⟩))))
  |_,_=>False
def Ax(P:eG)(T:TypeId)(x:AV)(f:Nat)(K:AV->Prop):Prop:=
 match uI P T f,x with
 |some (b,k,true),.agg d=>gN (cF (b+k) d.length) (K (.agg ((d.drop b).take k)))
 |some (b,_,false),.agg d=>match d[b]? with
  |some c=>K c
  |none=>False
 |_,_=>False
def AQ(P:eG)(T:TypeId):O (TypeId×TypeId):=
 match P.underlying T with
 |some (.map k e)=>some (k,e)
 |_=>none
inductive Sd
 |no
 |lt (n:Nat)
def Sd.ok:Sd->Prop
 | .no=>True
 | .lt n=>n<maxLen
def M6:D->AV
 | .ag b=>.agg (b.map .d)
 |d=>.d d
def BU:oZ->AV
 | .agg b=>.agg (b.toList.map λv=>.d (D.xH (.v v)))
 |v=>.d (.v v)
def tI(b:Bool)(z:oZ):O D->AV
 |some d=>bif b then .bw [M6 d,.d (.v (.bool true))]else M6 d
 |none=>bif b then .bw [BU z,.d (.v (.bool false))]else BU z
def AV.SO:AV->O D
 | .agg b=>(pg b).map .ag
 |x=>x.yW
def sL(P:eG)(c:Op)(ρ:Operand->AV)(h:U ao):O (AV×U ao×Sd):=
 match c with
 | .makeMap T none=>match AQ P T with
   |some _=>some (.mp h.length,h++[.map []],.no)
   |none=>none
 | .lookup T m i f=>match AQ P T with
   |some (k,e)=>match jY P e with
    |some z=>match ρ m,ρ i with
     | .mp n,.d (.v (.string s))=>match h[n]? with
       |some (.map b)=>bif jc P k then some (tI f z (mH b s),h,.no)else none
       |_=>none
     |_,_=>none
    |none=>none
   |none=>none
 | .mapUpdate T m i x=>match AQ P T with
   |some (k,_)=>match ρ m,ρ i,(ρ x).SO with
    | .mp n,.d (.v (.string s)),some d=>match h[n]? with
      |some (.map b)=>bif jc P k then some (.d (.v undef),h.set n (.map ((s,d)::b)),.lt b.length)else none
      |_=>none
    |_,_,_=>none
   |none=>none
 |_=>none
inductive VA
 |no
 |el (c:List AV)
 |st (c:List AV) (cs:List (List AV))
 |mk (cs:List (List AV)) (len m:Nat)
 |ap (cs ys:List (List AV)) (L len:Nat)
 |ix (i:Nat)
 |ol (o len:Nat)
def SA(P:eG)(t:TypeId)(c:U AV)(j:Nat):O AV:=
 match nW P t,ZH P t with
 |some true,some k=>bif cF (j+k) c.length then some (.agg ((c.drop j).take k))else none
 |some false,some _=>c[j]?
 |_,_=>none
def bf(xs:U (U D)):U (U AV):=xs.map λc=>c.map AV.d
def BM(h:U ao)(k:Nat)(y:AV)(ys:U (U AV)):Prop:=(∃d,y.gV=some d/\(∀c∈d,c.length=k)/\ys=bf d)\/(∃n o b L e f,y= .vec n o b L k/\h[n]?=some (.vec e k f)/\f.length=L/\ys=(f.drop o).take b/\∀c∈ys,c.all AV.kW=true)
def yj(ρ:Operand->AV)(d:Int):O Operand->O Int
 |none=>some d
 |some y=>(ρ y).int?
def jB(P:eG)(W:Op)(ρ:Operand->AV)(h:U ao)(a:VA):O (AV×U ao×Prop):=
 match W with
 | .indexAddr T x i=>match ρ x,(ρ i).int?,fF P T,a with
   | .vec n o g L k,some z,some (_,H),.ix N=>match h[n]? with
     |some (.vec _ J A)=>bif H==k&&J==k then some (.dU n N 0 L k,h,A.length=L/\0<=z/\z<g/\N=o+z.toNat)else none
     |_=>none
   |_,_,_,_=>none
 | .fieldAddr S x f=>match ρ x,uI P S f with
   | .dU n i j L k,some (fo,_,_)=>some (.dU n i (j+fo) L k,h,True)
   |_,_=>none
 | .nilCheck x=>match ρ x with
   | .dU n i j L k=>some (.dU n i j L k,h,True)
   |_=>none
 | .load t p=>match ρ p,a with
   | .dU n i j L k,.el c=>match h[n]?,SA P t c j with
     |some (.vec _ H A),some x=>bif H==k then some (x,h,A.length=L/\A[i]?=some c)else none
     |_,_=>none
   |_,_=>none
 | .store t p x=>match ρ p,a with
   | .dU n i j L k,.st c E=>match h[n]?,ZH P t with
     |some (.vec e H A),some q=>bif H==k&&q==(ρ x).cells.length&&(ρ x).kQ&&cF (j+(ρ x).cells.length) k&&cF 1 k then some (.d (.v undef),h.set n (.vec e k E),A.length=L/\A[i]?=some c/\E=A.set i (jn c j (ρ x).cells))else none
     |_,_=>none
   |_,_=>none
 | .slice T x lo hi none=>match ρ x,fF P T,a with
   | .vec n o g L k,some (_,H),.ol R F=>match yj ρ 0 lo,yj ρ g hi with
     |some l,some u=>match h[n]? with
      |some (.vec _ J A)=>bif H==k&&J==k then some (.vec n R F L k,h,A.length=L/\0<=l/\l<=u/\u<=(L:Int)-o/\R=o+l.toNat/\F=u.toNat-l.toNat)else none
      |_=>none
     |_,_=>none
   |_,_,_=>none
 | .makeSlice T l c=>match fF P T,(ρ l).int?,(ρ c).int?,a with
   |some (e,k),some l,some c,.mk A g m=>match jY P e,uj P e with
    |some z,some M=>bif cF 1 k&&z.cells.toList.length==k&&z.cells.toList.all Value.oneCell' then some (.vec h.length 0 g m k,h++[.vec e k A],0<=l/\l<=c/\l.toNat=g/\c.toNat=m/\A=List.replicate m (z.cells.toList.map λu=>.d (.v u))/\m<=maxLen/\M*m<=281474976710656)else none
    |_,_=>none
   |_,_,_,_=>none
 | .call c=>match c.callee with
   | .builtin .len=>match c.args.toList,c.argTypes.toList with
     |[x],[T]=>match ρ x with
      | .vec n _ g L k=>match h[n]? with
        |some (.vec _ J A)=>bif (fF P T).isSome&&J==k then some (.d (.v (.int .i64 g)),h,A.length=L)else none
        |_=>none
      |_=>none
     |_,_=>none
   | .builtin .append=>match c.args.toList,c.argTypes.toList with
     |[x,y],[T,b]=>match fF P T,fF P b,a with
      |some (e,k),some _,.ap E B C F=>match jY P e,uj P e with
       |some z,some M=>bif cF 1 k&&z.cells.toList.length==k then
        match ρ x with
        | .vec n o g L k1=>match h[n]? with
          |some (.vec e1 J A)=>bif k1==k&&J==k&&e1==e then some (.vec n o F C k,h.set n (.vec e k E),A.length=L/\BM h k (ρ y) B/\F=g+B.length/\
           ((o+g+B.length<=L/\C=L/\E=A.take (o+g)++B++A.drop (o+g+B.length))\/(o=0/\g=L/\C=L+B.length/\E=A++B/\C<=maxLen/\C*M<=140737488355328)))else none
          |_=>none
        | .d (.v (.slice none 0 0))=>some (.vec h.length 0 F C k,h++[.vec e k E],BM h k (ρ y) B/\E=B/\F=B.length/\C=B.length/\C<=maxLen/\C*M<=140737488355328)
        | .full xs=>some (.vec h.length 0 F C k,h++[.vec e k E],xs=[]/\BM h k (ρ y) B/\E=B/\F=B.length/\C=B.length/\C<=maxLen/\C*M<=140737488355328)
        |_=>none
       else none
       |_,_=>none
      |_,_,_=>none
     |_,_=>none
   |_=>none
 |_=>none
def PD(c:Bool)(k:IntKind):Int->U AV->O (IntKind×Int)
 |a,[]=>some (k,a)
 |a,.d (.v (.int _ b))::l=>PD c k (bif c then(if b>a then b else a)else(if b<a then b else a)) l
 |_,_=>none
def Ey(b:Bool):U AV->O (IntKind×Int)
 | .d (.v (.int k a))::l=>PD b k a l
 |_=>none
def dg(P:eG)(o:Oper)(ρ:Operand->AV)(h:U ao)(C:AV->U ao->Prop):Prop:=
 match o.op with
 | .move x| .assign x=>C (ρ x) h
 | .pick c a b=>match ρ c with
   | .d (.v (.bool t))=>(t=true->C (ρ a) h)/\(t=false->C (ρ b) h)
   |_=>False
 | .alloc e=>match jY P e with
   |some z=>C (.ptr h.length 0) (h++[ao.cells (z.cells.toList.map λu=>.d (.v u))])
   |none=>False
 | .box _ x=>gN (ρ x).kQ<|C (.ptr h.length 0) (h++[ao.cells (ρ x).cells])
 | .load t a=>qE P t h (ρ a) λx=>C x h
 | .store t a x=>Ae P t h (ρ a) (ρ x) λm=>C (.d (.v undef)) m
 | .nilCheck x=>match ρ x with
   | .ptr n l=>C (.ptr n l) h
   | .bm A i l=>C (.bm A i l) h
   | .fn f B=>C (.fn f B) h
   |_=>False
 | .fieldAddr S x f=>match uI P S f with
   |some (J,_,_)=>match ρ x with
    | .ptr n l=>C (.ptr n (l+J)) h
    | .bm A i l=>C (.bm A i (l+J)) h
    |_=>False
   |none=>False
 | .field T x f=>Ax P T (ρ x) f λy=>C y h
 | .indexAddr T x i=>uB P T (ρ x) (ρ i) λy=>C y h
 | .index T x i=>match ρ x,(ρ i).int? with
   | .d (.v (.string b)),some z=>gN (jc P T) (0<=z/\(match b[z.toNat]? with|some c=>C (.d (.v (.int .u8 c.toNat))) h|none=>False))
   |_,_=>False
 | .build T E=>AI P T (E.toList.map λp=>(p.1,ρ p.2)) λy=>C y h
 | .buildSlice T F E=>za P T F (E.toList.map λp=>(p.1,ρ p.2)) λy=>C y h
 | .slice T x L M N=>xA P T ρ (ρ x) L M N λy=>C y h
 | .extract x i=>match ρ x with
   | .bw B=>match B[i]? with
     |some c=>C c h
     |none=>False
   |_=>False
 | .makeFunc (.func f) first H=>match TX f (first.toList.map ρ) (H.toList.map ρ)with
   |some x=>C x h
   |none=>False
 | .binOp op T x y _=>zZ P T op (ρ x) (ρ y) λv=>C v h
 | .unOp op _ x=>zR op (ρ x) λv=>C v h
 | .convert a b x=>yI P a b (ρ x) λv=>C v h
 | .call c=>match c.callee with
   | .builtin .len=>match c.args.toList,c.argTypes.toList with
     |[x],[T]=>vn P T (ρ x) λn=>C (.d (.v (.int .i64 n))) h
     |_,_=>False
   | .builtin .append=>match c.args.toList,c.argTypes.toList with
     |[x,y],[T,j]=>gN (fF P j).isSome<|wT P T h (ρ x) (ρ y) λv m=>C v m
     |_,_=>False
   | .builtin .max=>match Ey true (c.args.toList.map ρ)with
     |some (k,a)=>C (.d (.v (.int k a))) h
     |none=>False
   | .builtin .min=>match Ey false (c.args.toList.map ρ)with
     |some (k,a)=>C (.d (.v (.int k a))) h
     |none=>False
   | .value f=>match ρ f with
     | .fn g H=>da P g (c.args.toList.map ρ++H) h λr m=>C r m
     | .hid q=>∃g as,q.app (c.args.toList.map ρ)=some (g,as)/\da P g as h λr m=>C r m
     |_=>False
   |_=>False
 |op=>match sL P op ρ h with
  |some (x,m,p)=>p.ok/\C x m
  |none=>False
def I4(P:eG)(o:Oper)(K:St->Prop)(s:St):Prop:=
 match o.op with
 | .binOp b T x y _=>match (ev s x).gV,ev s y,fF P T,yB b true,yB b false with
   |some c,.d (.v (.slice none 0 0)),some _,some e,some f=>(c=[]->K (s.put o.dst (.d (.v e))))/\K (s.put o.dst (.d (.v f)))
   |_,_,_,_,_=>False
 |_=>False
def JX(P:eG)(o:Oper)(K:St->Prop)(s:St):Prop:=∃a x b p,jB P o.op (ev s) s.h a=some (x,b,p)/\p/\K ((s.wh b).put o.dst x)
def tz(P:eG)(o:Oper)(K:St->Prop)(s:St):Prop:=dg P o (ev s) s.h λx h=>K ((s.wh h).put o.dst x)
def auT(P:eG)(o:Oper)(K:St->Prop)(s:St):Prop:=JX P o K s\/I4 P o K s\/tz P o K s
def nB(b o n:Nat):(⟨b,o,none⟩:Addr).add n=⟨b,o+n,none⟩:=by unfold Addr.add;split<;>simp_all
structure dk(G:Gh)(w:World)(a:Act)(s:St):Prop where
 size:a.tmps.size=s.n
 tmp:∀i,aM G w (a.tmps.getD i undef) (bE s.t i)
 inv:cp G w s.h
 df:ux G w a.defers
def pD.av{G:Gh}{w:Zy}{u:oZ}{c:gd}(h:pD G.S w u c):aM G w u c.av:=by
 cases h with
 |d h=>exact .d h
 |bm c e b o u k l=>exact .bm [c] 0 e b o u c rfl k l
 |fn f g i j h=>exact .hid (.fn f g i j h) rfl
 |qd f g i j h=>exact .hid (.qd f g i j h) rfl
def aM.kW{G:Gh}{w:Zy}{u:oZ}{x:AV}(h:aM G w u x)(e:x.kW=true):u.oneCell'=true:=by
 cases h with
 |d f=>cases f with
  |v u=>exact e
  |sl=>rfl
  |ag=>simp [AV.kW]at e
 |agg=>simp [AV.kW]at e
 |bw=>simp [AV.kW]at e
 |own n m _ f=>cases f;rfl
 |vec n o len L k _ g=>obtain⟨A,l,c,rfl⟩:=g;rfl
 |dU n i j L k _ g=>obtain⟨b,q,rfl⟩:=g;rfl
 |full m f=>cases f;rfl
 |hid h p=>exact p
 |dead=>simp [AV.kW]at e
 |_=>rfl
def aM.cells{G:Gh}{w:Zy}{u:oZ}{x:AV}(h:aM G w u x)(d:x.kQ=true):
 u.cells.size=x.cells.length/\∀(i:Nat)(v:oZ)(c:AV),u.cells[i]?=some v->x.cells[i]?=some c->aM G w v c/\v.oneCell'=true:=by
 have one:x.kW=true->x.cells=[x]->u.cells.size=x.cells.length/\∀(i:Nat)(v:oZ)(c:AV),u.cells[i]?=some v->x.cells[i]?=some c->aM G w v c/\v.oneCell'=true:=by
  intro j k;have l:=h.kW j;have m:u.cells= #[u]:=by cases u<;>simp_all [Value.cells,Value.oneCell']
  rw[m,k];refine⟨rfl,λi v c e b=> ?_⟩
  match i with
  |0=>simp at e b;subst e;subst b;exact⟨h,l⟩
  |i+1=>simp at b
 cases x with
 |agg f=>
  cases h with
  |agg t f p q=>
   refine⟨p,λi v c e b=> ?_⟩;have g:=q i v c e b;refine⟨g,g.kW ?_⟩;simp only[AV.kQ,Zc]at d;exact d c (ZZ b)
 |bw f=>simp [AV.kQ,AV.kW]at d
 |dead=>simp [AV.kQ,AV.kW]at d
 |_=>exact one d rfl
def cp.lt{G:Gh}{w:Zy}{h:U ao}(hi:cp G w h){n:Nat}{B:ao}(b:h[n]?=some B):n<G.N:=by
 rw[<-hi.len];exact(Zj.1 b).1
def cp.kR{G:Gh}{w:Zy}{h:U ao}(hi:cp G w h){n b:Nat}(d:cu h G n=some b):b<w.heap.size:=by
 obtain⟨B,u,d⟩:=nv d;have j:=hi.dN n B u;cases B with
 |gone=>cases d
 |cells m=>
  obtain⟨_,_,q,T,f,_⟩:=j;cases d
  exact(ZP.1 f).1
 |lp y p as bd m=>
  obtain⟨_,_,t,q,T,f,_⟩:=j;cases d
  exact(ZP.1 f).1
 |it z m=>
  obtain⟨_,_,t,q,T,f,_⟩:=j;cases d
  exact(ZP.1 f).1
 |gu A m=>
  obtain⟨_,_,t,q,T,f,_⟩:=j;cases d
  exact(ZP.1 f).1
 |map v=>
  obtain⟨_,_,x,c,f,_⟩:=j;cases d
  exact(ZP.1 f).1
 |l7 v=>
  obtain⟨_,_,x,c,f,_⟩:=j;cases d
  exact(ZP.1 f).1
 |front e k len=>
  have d:G.ow n=some b:=d;obtain⟨_,_,i|⟨g,cap,l,i,_,_,f,_⟩⟩:=j;{rw[i.1]at d;cases d};{rw[i]at d;cases d;exact(ZP.1 f).1}
 |jC e C=>
  have d:G.ow n=some b:=d;obtain⟨_,_,i|⟨g,cap,l,i,_,_,f,_⟩⟩:=j;{rw[i.1]at d;cases d};{rw[i]at d;cases d;exact(ZP.1 f).1}
 |vec e k m=>
  have d:G.ow n=some b:=d;obtain⟨_,_,_,i|⟨g,cap,l,i,_,_,f,_⟩⟩:=j;{rw[i.1]at d;cases d};{rw[i]at d;cases d;exact(ZP.1 f).1}
def fj.mD{G:Gh}{w:Zy}{n b:Nat}{B:ao}(f:fj G w n B)(c:B.fv G n=some b):¬G.Z b:=by
 cases B with
 |gone=>cases c
 |cells l=>cases c;exact f.1
 |lp q p as bd l=>cases c;exact f.1
 |it t l=>cases c;exact f.1
 |gu u l=>cases c;exact f.1
 |map m=>cases c;exact f.1
 |l7 m=>cases c;exact f.1
 |front e k len=>
  have c:G.ow n=some b:=c;obtain⟨_,_,d|⟨g,cap,i,d,_,j,_⟩⟩:=f;{rw[d.1]at c;cases c};{rw[d]at c;cases c;exact j}
 |jC e v=>
  have c:G.ow n=some b:=c;obtain⟨_,_,d|⟨g,cap,i,d,_,j,_⟩⟩:=f;{rw[d.1]at c;cases c};{rw[d]at c;cases c;exact j}
 |vec e k l=>
  have c:G.ow n=some b:=c;obtain⟨_,_,_,d|⟨g,cap,i,d,_,j,_⟩⟩:=f;{rw[d.1]at c;cases c};{rw[d]at c;cases c;exact j}
def xY.keep{S S':Nat->Nat->Prop}{w w':Zy}{f:Array MapEntry}{c:Nat}{kv:U (so×D)}(h:xY S w f c kv)(g:∀b o,S b o->S' b o)(i:∀b o,S b o->w'.cell? ⟨b,o,none⟩=w.cell? ⟨b,o,none⟩):xY S' w' f c kv:=
 ⟨h.size,h.stamped,λe j=>let ⟨s,d,k,l,m⟩:=h.D4 e j;⟨s,d,k,l,m.keep g i⟩,h.all,h.len,h.born,h.Oq⟩
def LW.keep{S S':Nat->Nat->Prop}{w w':Zy}{d:Array MapEntry}{c:Nat}{kv:U (so×D)}(h:LW S w d c kv)(f:∀b o,S b o->S' b o)(g:∀b o,S b o->w'.cell? ⟨b,o,none⟩=w.cell? ⟨b,o,none⟩):LW S' w' d c kv:=
 ⟨h.ok.keep f g,λi e j=>let ⟨p,k,l,m⟩:=h.ord i e j;⟨p,k,l,m.keep f g⟩,h.all⟩
def fj.keep{G G':Gh}{w w':Zy}{n:Nat}(m:n<G.N)(d:cf G.N G w G' w')(L:G.N<=G'.N){B:ao}
 (hg:G'.fl n=G.fl n/\G'.sg n=G.sg n/\G'.ow n=G.ow n)
 (y:∀b,B.fv G n=some b->w'.heap[b]?=w.heap[b]?/\∀o,¬G.S b o->¬G'.S b o)
 (h:fj G w n B):fj G' w' n B:=by
 obtain⟨f1,H,J⟩:=hg;cases B with
 |gone=>trivial
 |cells cs=>
  obtain⟨q,f,F,T,l,t,v⟩:=h;obtain⟨c2,c1⟩:=y _ rfl;refine⟨by rw[d.bn n m];exact d.mD (ZP.1 l).1 q,by rw[d.bn n m];exact λo=>c1 o (f o),F,T,by rw[d.bn n m,c2];exact l,t,λi u c C E=>(v i u c C E).keep d L⟩
 |lp ls p as bd cs=>
  obtain⟨q,f,M,F,T,l,t,v⟩:=h;obtain⟨c2,c1⟩:=y _ rfl;refine⟨by rw[d.bn n m];exact d.mD (ZP.1 l).1 q,by rw[d.bn n m];exact λo=>c1 o (f o),M,F,T,by rw[d.bn n m,c2];exact l,t,λi u c C E=>(v i u c C E).keep d L⟩
 |it sn cs=>
  obtain⟨q,f,M,F,T,l,t,v⟩:=h;obtain⟨c2,c1⟩:=y _ rfl;refine⟨by rw[d.bn n m];exact d.mD (ZP.1 l).1 q,by rw[d.bn n m];exact λo=>c1 o (f o),M,F,T,by rw[d.bn n m,c2];exact l,t,λi u c C E=>(v i u c C E).keep d L⟩
 |gu T0 cs=>
  obtain⟨q,f,M,F,T,l,t,v⟩:=h;obtain⟨c2,c1⟩:=y _ rfl;refine⟨by rw[d.bn n m];exact d.mD (ZP.1 l).1 q,by rw[d.bn n m];exact λo=>c1 o (f o),M,F,T,by rw[d.bn n m,c2];exact l,by rw[d.bn n m];exact t,λi u c C E=>(v i u c C E).keep d L⟩
 |map kv=>
  obtain⟨q,f,es,c,l,t⟩:=h;obtain⟨c2,c1⟩:=y _ rfl;exact⟨by rw[d.bn n m];exact d.mD (ZP.1 l).1 q,by rw[d.bn n m];exact λo=>c1 o (f o),es,c,by rw[d.bn n m,c2];exact l,t.keep d.S d.cell⟩
 |l7 kv=>
  obtain⟨q,f,es,c,l,t⟩:=h;obtain⟨c2,c1⟩:=y _ rfl;exact⟨by rw[d.bn n m];exact d.mD (ZP.1 l).1 q,by rw[d.bn n m];exact λo=>c1 o (f o),es,c,by rw[d.bn n m,c2];exact l,t.keep d.S d.cell⟩
 |jC e b=>
  obtain⟨q,R,f⟩:=h;refine⟨f1.trans q,R,?_⟩;rcases f with⟨f,h0,A,l⟩|⟨g,cap,z,f,l,t,v,W,h7,h8,h9,bu⟩
  ·exact .inl ⟨J.trans f,h0,A,H.trans l⟩
  ·obtain⟨f5,f6⟩:=y g f;exact .inr ⟨g,cap,z,J.trans f,H.trans l,d.mD (ZP.1 v).1 t,f5.trans v,W,h7,h8,λo=>f6 o (h9 o),bu⟩
 |front e k len=>
  obtain⟨q,R,f⟩:=h;refine⟨f1.trans q,R,?_⟩;rcases f with⟨f,A,l⟩|⟨g,cap,z,f,l,t,v,W,h7,h8,h9⟩
  ·exact .inl ⟨J.trans f,A,H.trans l⟩
  ·obtain⟨f5,f6⟩:=y g f;exact .inr ⟨g,cap,z,J.trans f,H.trans l,d.mD (ZP.1 v).1 t,f5.trans v,W,h7,h8,λo y=>f6 o (h9 o y)⟩
 |vec e k cs=>
  obtain⟨q,R,hk,f⟩:=h;refine⟨f1.trans q,R,hk,?_⟩;rcases f with⟨f,e2,A,l⟩|⟨g,cap,z,f,l,t,v,W,h7,h8,h9,bu⟩
  ·exact .inl ⟨J.trans f,e2,A,H.trans l⟩
  ·obtain⟨f5,f6⟩:=y g f;exact .inr ⟨g,cap,z,J.trans f,H.trans l,d.mD (ZP.1 v).1 t,f5.trans v,W,h7,h8,λo=>f6 o (h9 o),λi j c x u E hx C=>(bu i j c x u E hx C).keep d L⟩
def dk.put{G:Gh}{w:Zy}{a:Act}{s:St}(h:dk G w a s){v:oZ}{x:AV}(g:aM G w v x)(b:O Nat):dk G w (a.put b v) (s.put b x):=by
 cases b with
 |none=>exact h
 |some d=>
  by_cases c:d<s.n
  ·have e:s.put (some d) x={s with t:=(d,x)::s.t}:=uc c x;rw[e];refine⟨by simp [Act.put,h.size],λi=> ?_,h.inv,h.df⟩;by_cases f:i=d
   ·subst f;have:(a.tmps.setIfInBounds i v).getD i undef=v:=by simp [Array.getD,h.size,c]
    simp only[Act.put,this,mN,if_true];exact g
   ·have:(a.tmps.setIfInBounds d v).getD i undef=a.tmps.getD i undef:=by simp [Array.getElem?_setIfInBounds_ne (Ne.symm f)]
    simp only[Act.put,this,mN,af f];exact h.tmp i
  ·have e:s.put (some d) x=s:=Gj c x;have j:a.put (some d) v=a:=by
    have:a.tmps.setIfInBounds d v=a.tmps:=Array.setIfInBounds_eq_of_size_le (by rw[h.size];omega);simp [Act.put,this]
   rw[e,j];exact h
def dk.move{G G':Gh}{w w':Zy}{a:Act}{s:St}(h:dk G w a s)(b:cf G.N G w G' w')(c:G.N<=G'.N){h':U ao}(hi:cp G' w' h'):dk G' w' a {s with h:=h'}:=
 ⟨h.size,λi=>(h.tmp i).keep b c,hi,h.df.keep b⟩
def dk.ev{G:Gh}{w:Zy}{a:Act}{s:St}(h:dk G w a s)(x:Operand):aM G w (a.eval x) (ev s x):=by
 cases x with
 |tmp t=>exact h.tmp t
 |const v=>
  show aM G w v (Qf v);unfold Qf;split
  ·rename_i p
   exact .agg p _ gj λi u c b k=>by
    simp only[Zm,ZL,b,ZG,Vg]at k;subst k;exact .d (.v u)
  ·rename_i p
   exact .bw p _ gj λi u c b k=>by
    simp only[Zm,ZL,b,ZG,Vg]at k;subst k;exact .d (.v u)
  ·exact .d (.v v)
 |global g=>
  show aM G w (.pointer (some ⟨g,0,none⟩)) (match B3 DK g with|some l=>.bm [l.map .v] 0 0|none=>.dead);split
  ·next l z=>
   have y:=h.inv.gl.1 g l (XU z);have:=aM.bm (G:=G) (w:=w) [l.map .v] 0 0 g 0 (λj=>l.getD j undef) (l.map .v) rfl (λj q=> ?_) (λj d m=> ?_);{exact this};{rw[Zw]at q;have e:l[j]?=some l[j]:=Zd q;rw[ZQ];refine⟨(y j _ e).1,?_⟩;rw[(y j _ e).2];simp [q]}
   ·rw[Zm]at m;cases e:l[j]? with
    |none=>rw[e]at m;cases m
    |some v=>
     rw[e]at m;cases m
     have:l.getD j undef=v:=by simp [List.getD,e]
     rw[this];exact .v v
  ·exact .dead _
 |func f=>exact .fn f #[] [] rfl λi u c b=>by simp at b
def Gh.fz(G:Gh)(b:Nat):Gh:={G with N:=G.N+1,bn:=λn=>if n=G.N then b else G.bn n}
def Iu(G:Gh)(w:Zy)(c:∀b,G.Z b->b<w.heap.size)(d:∀b o,G.S b o->b<w.heap.size)(o:Obj):cf G.N G w (G.fz w.heap.size) (w.alloc o):=
 ⟨by simp,λ_ _ h=>h,λb _ h=>World.cell?_alloc_lt _ _ _ (d _ _ h),λn e=>by simp [Gh.fz,Nat.ne_of_lt e],λ_ _=>.inl ⟨rfl,rfl⟩,iJ rfl,
  λb f=>Below.heap_alloc w o b (c b f),rfl,rfl,rfl,λ_ _ h=>.inl h⟩
def Yg{G:Gh}{w:Zy}{h:U ao}(hi:cp G w h)(f:Array oZ)(T:TypeId)(cs:U AV)(A:f.size=cs.length)
 (C:∀(i:Nat)(u:oZ)(c:AV),f[i]?=some u->cs[i]?=some c->aM G w u c):
 cp (G.fz w.heap.size) (w.alloc (.cells f T)) (h++[.cells cs])/\aM (G.fz w.heap.size) (w.alloc (.cells f T)) (.pointer (some ⟨w.heap.size,0,none⟩)) (.ptr h.length 0):=by
 have j:=Iu G w hi.z hi.S (.cells f T);have x:G.N<=(G.fz w.heap.size).N:=cG _;have k:(G.fz w.heap.size).bn h.length=w.heap.size:=by simp [Gh.fz,hi.len]
 have E:∀n(B:ao),n<G.N->B.fv (G.fz w.heap.size) n=B.fv G n:=λn B d=>by
  cases B<;>simp [ao.fv,Gh.fz,Nat.ne_of_lt d]
 have F:∀n,n<G.N->cu (h++[.cells cs]) (G.fz w.heap.size) n=cu h G n:=λn d=>by
  have l:n<h.length:=by rw[hi.len];exact d
  unfold cu;rw[ZT l,Zd l];exact E n _ d
 have H:cu (h++[.cells cs]) (G.fz w.heap.size) h.length=some w.heap.size:=by
  rw[eN (B:= .cells cs) gj];exact congrArg some k
 refine⟨⟨by simp [Gh.fz,hi.len],λb q=>ZO (hi.z b q) j.size,λb o t=>ZO (hi.S b o t) j.size,λn B g=> ?_,λm n b J d=> ?_,hi.gl.keep j⟩,?_⟩
 ·by_cases d:n<h.length
  ·rw[ZT d]at g;have v:n<G.N:=hi.len▸d;exact fj.keep v j x ⟨rfl,rfl,rfl⟩ (λb q=>⟨Below.heap_alloc w _ _ (hi.kR (n:=n) ((eN g).trans q)),λo h=>h⟩) (hi.dN n B g)
  ·have L:n=h.length:=by
    have:=(Zj.1 g).1;simp at this;omega
   subst L;simp at g;subst g;exact⟨by rw[k];exact λM=>Yu _ (hi.z _ M),λo t=>by rw[k]at t;exact Yu _ (hi.S _ _ t),f,T,by rw[k];exact World.alloc_heap_new w _,A,λi u c R W=>(C i u c R W).keep j x⟩
 ·have p:∀n b,cu (h++[.cells cs]) (G.fz w.heap.size) n=some b->(n<G.N/\cu h G n=some b)\/(n=h.length/\b=w.heap.size):=λn b d=>by
   by_cases l:n<G.N;{exact .inl ⟨l,by rw[<-F n l];exact d⟩}
   ·by_cases e:n=h.length
    ·subst e;rw[H]at d;cases d;exact .inr ⟨rfl,rfl⟩
    ·rw[Em (Z1 (by simp;have:=hi.len;omega))]at d;cases d
  rcases p m b J with⟨_,y⟩|⟨rfl,rfl⟩<;>rcases p n _ d with⟨_,v⟩|⟨rfl,q⟩
  ·exact hi.inj m n b y v
  ·have:=hi.kR y;omega
  ·have:=hi.kR v;omega
  ·rfl
 ·have:=aM.ptr (G:=G.fz w.heap.size) (w:=w.alloc (.cells f T)) h.length 0 (by simp [Gh.fz,hi.len])
  rwa [k]at this
def Qd(w:Zy)(g:Nat)(cs:Array oZ):(w.setRow g cs).heap.size=w.heap.size:=by simp [World.setRow]
def au6(w:Zy)(g:Nat)(cs:Array oZ)(b o:Nat)(h:b≠g):(w.setRow g cs).cell? ⟨b,o,none⟩=w.cell? ⟨b,o,none⟩:=World.cell?_of_block (setRow_other w g b cs h)
def amz{G:Gh}{w:Zy}{g:Nat}(cs:Array oZ)(c:¬G.Z g)(d:∀b o,G.S b o->(w.setRow g cs).cell? ⟨b,o,none⟩=w.cell? ⟨b,o,none⟩):cf G.N G w G (w.setRow g cs):=
 ⟨by rw[Qd];exact Zx _,λ_ _ h=>h,d,λ_ _=>rfl,λ_ _=>.inl ⟨rfl,rfl⟩,iJ rfl,λb f=>setRow_other w g b cs (λe=>c (e▸f)),rfl,rfl,rfl,λ_ _ h=>.inl h⟩
def Fj(cs ys:U AV)(off:Nat)(h:off+ys.length<=cs.length):(jn cs off ys).length=cs.length:=by
 simp [jn];omega
def auA{R:oZ->AV->Prop}(e us:Array oZ)(cs ys:U AV)(off:Nat)(k:e.size=cs.length)(l:us.size=ys.length)(q:off+ys.length<=cs.length)
 (g:∀(i:Nat)(u:oZ)(c:AV),e[i]?=some u->cs[i]?=some c->R u c) (m:∀(i:Nat)(u:oZ)(c:AV),us[i]?=some u->ys[i]?=some c->R u c):
 ∀(i:Nat)(u:oZ)(c:AV),(e.toList.take off++us.toList++e.toList.drop (off+us.toList.length)).toArray[i]?=some u->(jn cs off ys)[i]?=some c->R u c:=by
 intro i u c b d;have f:us.toList.length=ys.length:=by rw[Z9,l]
 rw[f,List.getElem?_toArray]at b;unfold jn at d;simp only[ZU]at b d;have p:e.toList.length=cs.length:=by rw[Z9,k]
 by_cases h:i<off;{rw[ZT (by simp;omega),List.getElem?_take_of_lt h]at b;rw[ZT (by simp;omega),List.getElem?_take_of_lt h]at d;exact g i u c (by rw[<-ZL];exact b) d}
 ·rw[ZK (by simp;omega)]at b d;simp only[b6,p]at b d;rw[Nat.min_eq_left k7]at b d;by_cases j:i-off<ys.length
  ·rw[ZT (by rw[f];exact j)]at b;rw[ZT j]at d;exact m (i-off) u c (by rw[<-ZL];exact b) d
  ·rw[ZK (by rw[f];omega),List.getElem?_drop]at b;rw[ZK k7,List.getElem?_drop]at d;rw[f]at b;rw[show off+ys.length+(i-off-ys.length)=i by omega]at b d;exact g i u c (by rw[<-ZL];exact b) d
def aop{P:eG}{G:Gh}{w:Zy}{h:U ao}(hi:cp G w h){n off:Nat}{cs:U AV}(q:h[n]?=some (.cells cs)){t:TypeId}{v:oZ}{x:AV}
 (hv:aM G w v x) (d:x.kQ=true) (l:ZH P t=some x.cells.length) (A:off+x.cells.length<=cs.length):
 ∃w',(storeVar t ⟨G.bn n,off,none⟩ v).run P w= .ok () w'/\cf G.N G w G w'/\cp G w' (h.set n (.cells (jn cs off x.cells))):=by
 obtain⟨M,W,p,T,hh,C,hr⟩:=hi.dN n _ q;obtain⟨f,Xi⟩:=hv.cells d;obtain⟨i,lk,mm⟩:∃i,P.info? t=some i/\i.size=x.cells.length:=by
  unfold ZH at l;cases hq:P.info? t with
  |none=>rw[hq]at l;cases l
  |some i=>rw[hq]at l;exact⟨i,rfl,by simpa using l⟩
 have E:=run_storeCells_at P (G.bn n) off T v.cells.toList 0 p w hh (by rw[Z9,f,C];simpa using A) (λu F=>by
  obtain⟨j,hj⟩:=List.mem_iff_getElem?.1 F;have jw:v.cells[j]?=some u:=by rw[<-ZL];exact hj
  have x7:j<x.cells.length:=by rw[<-f];exact(ZP.1 jw).1
  exact(Xi j u _ jw (Zd x7)).2)
 simp only[Nat.add_zero]at E;obtain⟨w',y⟩:∃w',w'=w.setRow (G.bn n) (p.toList.take off++v.cells.toList++p.toList.drop (off+v.cells.toList.length)).toArray:=⟨_,rfl⟩;rw[<-y]at E;have g:cf G.N G w G w':=by
  rw[y];exact amz _ M λb o H=>au6 w _ _ b o (λe=>W o (e▸H))
 have fQ:∀m,m≠n->(h.set n (.cells (jn cs off x.cells)))[m]?=h[m]?:=λm hm=>by rw[Z7 (Ne.symm hm)]
 have nL:(h.set n (.cells (jn cs off x.cells)))[n]?=some (.cells (jn cs off x.cells)):=by
  rw[ZB (Zj.1 q).1]
 have fg:∀m,cu (h.set n (.cells (jn cs off x.cells))) G m=cu h G m:=λm=>by
  by_cases e:m=n;{subst e;rw[eN nL,eN q];rfl};{unfold cu;rw[fQ m e]}
 have np:cu h G n=some (G.bn n):=eN q;refine⟨w',?_,g,⟨by rw[Zf];exact hi.len,λb d=>ZO (hi.z b d) g.size,λb o H=>ZO (hi.S b o H) g.size,λm B k=> ?_,λm m' b J L=>hi.inj m m' b (by rw[<-fg];exact J) (by rw[<-fg];exact L),hi.gl.keep g⟩⟩;{unfold storeVar;simp only[sizeOf,typeInfo,Sem.run_bind,f];simp [lk,mm,E]}
 ·by_cases e:m=n
  ·subst e;rw[nL]at k;cases k
   refine⟨M,W,_,T,by rw[y];exact setRow_heap w _ p _ T _ hh,?_,λi u c F hc=> ?_⟩
   ·rw[Fj _ _ _ A];have:v.cells.toList.length=x.cells.length:=by rw[Z9];exact f
    simp only[List.size_toArray,Zi,b6,ca,Z9,C,f];omega
   ·exact(auA (R:=aM G w) p v.cells cs x.cells off C f A hr (λi u c J L=>(Xi i u c J L).1) i u c F hc).keep g (Zx _)
  ·rw[fQ m e]at k;have cV:∀b,cu h G m=some b->b≠G.bn n:=λb d eb=>e (hi.inj m n b d (by rw[eb];exact np));refine fj.keep (hi.lt k) g (Zx _) ⟨rfl,rfl,rfl⟩ (λb d=>⟨?_,λo h=>h⟩) (hi.dN m B k);rw[y];exact setRow_other w _ _ _ (cV _ ((eN k).trans d))
def dR.ui{S:Nat->Nat->Prop}{w:Zy}{v:oZ}{xs:U (U D)}(h:dR S w v (.sl xs)):
 ∃(A:O Addr)(b o c k:Nat)(u:Nat->Nat->oZ),v= .slice A xs.length c/\(xs≠ []->A=some ⟨b,o,none⟩)/\xs.length<=c/\c<=maxLen/\(∀x∈xs,x.length=k)/\
  (∀i j,i<xs.length->j<k->S b (o+i*k+j)/\w.cell? ⟨b,o+i*k+j,none⟩=some (u i j)/\(u i j).oneCell'=true)/\
  (∀(i j:Nat)(x:U D)(d:D),xs[i]?=some x->x[j]?=some d->dR S w (u i j) d):=by
 cases h with
 |sl A b o c k xs u e f g l m p=>exact⟨A,b,o,c,k,u,rfl,e,f,g,l,m,p⟩
structure Rd(S:Nat->Nat->Prop)(w:World)(k:Nat)(xs:List (List D))(us:List Value):Prop where
 len:us.length=xs.length*k
 wid:∀x∈xs,x.length=k
 one:∀u∈us,u.oneCell'=true
 rel:∀(i j:Nat)(x:List D)(d:D),xs[i]?=some x->x[j]?=some d->∃u,us[i*k+j]?=some u/\dR S w u d
def Rd.keep{S S':Nat->Nat->Prop}{w w':Zy}{k:Nat}{xs:U (U D)}{us:U oZ}(h:Rd S w k xs us)(c:∀b o,S b o->S' b o)(e:∀b o,S b o->w'.cell? ⟨b,o,none⟩=w.cell? ⟨b,o,none⟩):Rd S' w' k xs us:=
 ⟨h.len,h.wid,h.one,λi j x d f g=>let ⟨u,l,m⟩:=h.rel i j x d f g;⟨u,l,m.keep c e⟩⟩
def Rd.append{S:Nat->Nat->Prop}{w:Zy}{k:Nat}{xs ys:U (U D)}{us l:U oZ}(h:Rd S w k xs us)(h':Rd S w k ys l):Rd S w k (xs++ys) (us++l):=by
 refine⟨by rw[Zi,Zi,h.len,h'.len,Ya],λx b=> ?_,λu c=> ?_,λi j x d b m=> ?_⟩
 ·rcases ZM.1 b with b|b
  ·exact h.wid x b
  ·exact h'.wid x b
 ·rcases ZM.1 c with c|c
  ·exact h.one u c
  ·exact h'.one u c
 ·by_cases p:i<xs.length
  ·rw[ZT p]at b;obtain⟨u,f,g⟩:=h.rel i j x d b m;exact⟨u,by rw[ZT (Zj.1 f).1];exact f,g⟩
  ·rw[ZK k7]at b;obtain⟨u,f,g⟩:=h'.rel (i-xs.length) j x d b m;refine⟨u,?_,g⟩;have e:i*k+j=xs.length*k+((i-xs.length)*k+j):=by rw[Nat.sub_mul];have:=Xs k (Nat.le_of_not_lt p);omega
   rw[e,ZK (by rw[h.len];omega),h.len,Nat.add_sub_cancel_left];exact f
def Rd.JD{S:Nat->Nat->Prop}{w:Zy}{k:Nat}{xs:U (U D)}{us:U oZ}(h:Rd S w k xs us)(b c:Nat)(g:xs.length<=c)(l:c<=maxLen)
 (m:∀o,o<xs.length*k->S b o) (p:∀(o:Nat)(u:oZ),us[o]?=some u->w.cell? ⟨b,o,none⟩=some u):dR S w (.slice (some ⟨b,0,none⟩) xs.length c) (.sl xs):=by
 refine .sl _ b 0 c k xs (λi j=>us.getD (i*k+j) undef) (λ_=>rfl) g l h.wid (λi j q A=> ?_) (λi j x d t v=> ?_)
 ·have e:i*k+j<xs.length*k:=by
   have:(i+1)*k<=xs.length*k:=Xs k q;rw[Ya]at this;omega
  have f:us[i*k+j]?=some (us[i*k+j]'(by rw[h.len];exact e)):=Zd (by rw[h.len];exact e);rw[ZQ];refine⟨m _ e,?_,?_⟩;{rw[p _ _ f];simp [f]};{simp only[List.getD_eq_getElem?_getD,f,Option.getD_some];exact h.one _ (List.getElem_mem _)}
 ·obtain⟨u,y,z⟩:=h.rel i j x d t v;simp only[List.getD_eq_getElem?_getD,y,Option.getD_some];exact z
def dR.rd{S:Nat->Nat->Prop}{w:Zy}{v:oZ}{xs:U (U D)}{k:Nat}(h:dR S w v (.sl xs))(m:0<k)(p:∀x∈xs,x.length=k):
 ∃us,Rd S w k xs us/\∃A c,v= .slice A xs.length c/\xs.length<=c/\c<=maxLen/\(xs≠ []->∃b o,A=some ⟨b,o,none⟩/\∀(j:Nat)(u:oZ),us[j]?=some u->S b (o+j)/\w.cell? ⟨b,o+j,none⟩=some u):=by
 obtain⟨A,b,o,c,k',u,rfl,E,q,y,F,z,H⟩:=h.ui;by_cases f:xs=[];{subst f;exact⟨[],⟨by simp,(λ_ h=>by cases h),(λ_ h=>by cases h),λi j x d f=>by simp at f⟩,A,c,rfl,q,y,λh=>absurd rfl h⟩}
 ·have J:k'=k:=by
   obtain⟨x,B⟩:=List.exists_mem_of_ne_nil xs f;rw[<-F x B,p x B]
  subst J;refine⟨(List.range (xs.length*k')).map λt=>u (t / k') (t%k'),⟨by simp,p,λv g=> ?_,λi j x d f C=> ?_⟩,A,c,rfl,q,y,λL=>⟨b,o,E L,λj v g=> ?_⟩⟩;{obtain⟨t,M,rfl⟩:=UZ.1 g;have N:=List.mem_range.1 M;exact(z (t / k') (t%k') (Nat.div_lt_of_lt_mul (by rw[Nat.mul_comm];exact N)) (Nat.mod_lt _ m)).2.2}
  ·have l:j<k':=by rw[<-p x (ZZ f)];exact(Zj.1 C).1
   have R:i<xs.length:=(Zj.1 f).1;refine⟨u i j,?_,H i j x d f C⟩;have T:i*k'+j<xs.length*k':=by
    have:(i+1)*k'<=xs.length*k':=Xs k' R;rw[Ya]at this;omega
   rw[Zm,List.getElem?_range T];simp only[ZG,Vg];rw[show(i*k'+j)/ k'=i by rw[Nat.add_comm,Nat.add_mul_div_right _ _ m,Nat.div_eq_of_lt l,ZQ],show(i*k'+j)%k'=j by rw[Nat.add_comm,Nat.add_mul_mod_self_right,Nat.mod_eq_of_lt l]]
  ·rw[Zm]at g;by_cases l:j<xs.length*k'
   ·rw[List.getElem?_range l]at g;simp only[ZG,Vg]at g;subst g;have:=z (j / k') (j%k') (Nat.div_lt_of_lt_mul (by rw[Nat.mul_comm];exact l)) (Nat.mod_lt _ m);have e:o+j / k'*k'+j%k'=o+j:=by have:=Nat.div_add_mod j k';rw[Nat.mul_comm]at this;omega
    rw[e]at this;exact⟨this.1,this.2.1⟩
   ·rw[Z1 (by simp;omega)]at g;cases g
def dR.src{P:eG}{S:Nat->Nat->Prop}{w:Zy}{v:oZ}{xs:U (U D)}{k:Nat}(h:dR S w v (.sl xs))(i:0<k)(l:∀x∈xs,x.length=k){tx e':TypeId}(f:P.underlying tx=some (.slice e')):
 ∃us,Rd S w k xs us/\Src P k tx v xs.length us w:=by
 obtain⟨us,e,A,c,rfl,_,_,m⟩:=h.rd i l;refine⟨us,e,?_⟩;by_cases g:xs=[]
 ·subst g;have p:us=[]:=VC (by rw[e.len];simp);subst p;cases A with
  |none=>exact Src.ofNil w f c
  |some a=>exact Src.ofSlice w f a 0 c [] gj (λj u d=>by simp at d) (λu d=>by cases d)
 ·obtain⟨b,o,rfl,q⟩:=m g;exact Src.ofSlice w f _ _ c us e.len (λj u d=>by rw[nB];exact(q j u d).2) e.one
def Gh.jg(G:Gh)(v:oZ)(len:Nat):Gh:={G with N:=G.N+1,sg:=λn=>if n=G.N then v else G.sg n,fl:=λn=>if n=G.N then len else G.fl n,ow:=λn=>if n=G.N then none else G.ow n}
def Qi{G:Gh}{w:Zy}{h:U ao}(hi:cp G w h){v:oZ}{xs:U (U D)}(t:dR G.S w v (.sl xs))(y:∃A,v= .slice A xs.length xs.length)(e:TypeId)(k:Nat):
 cf G.N G w (G.jg v xs.length) w/\G.N<=(G.jg v xs.length).N/\cp (G.jg v xs.length) w (h++[.front e k xs.length])/\aM (G.jg v xs.length) w v (.own h.length xs):=by
 have i:∀n,n<G.N->n≠G.N:=λn d=>Nat.ne_of_lt d;have p:cf G.N G w (G.jg v xs.length) w:=⟨Zx _,λ_ _ h=>h,λ_ _ _=>rfl,λ_ _=>rfl,λn d=>.inl ⟨by simp [Gh.jg,i n d],by simp [Gh.jg,i n d]⟩,iJ rfl,λ_ _=>rfl,rfl,rfl,rfl,λ_ _ h=>.inl h⟩;have x:G.N<=(G.jg v xs.length).N:=cG _;have q:xs.length<=maxLen:=by
  obtain⟨A,b,o,c,R,u,_,_,C,E,_⟩:=t.ui;exact Ze C E
 have F:∀n(B:ao),n<G.N->B.fv (G.jg v xs.length) n=B.fv G n:=λn B d=>by
  cases B<;>simp [ao.fv,Gh.jg,Nat.ne_of_lt d]
 have f:∀n b,cu (h++[.front e k xs.length]) (G.jg v xs.length) n=some b->cu h G n=some b:=λn b g=>by
  by_cases d:n<h.length;{unfold cu at g ⊢;rw[ZT d,Zd d]at g;rw[Zd d,<-g];exact(F n _ (hi.len▸d)).symm}
  ·by_cases H:n=h.length
   ·subst H;rw[eN (B:= .front e k xs.length) gj]at g;simp [ao.fv,Gh.jg,hi.len]at g
   ·rw[Em (Z1 (by simp;omega))]at g;cases g
 refine⟨p,x,⟨by simp [Gh.jg,hi.len],hi.z,hi.S,λn B j=> ?_,λm n b J d=>hi.inj m n b (f m b J) (f n b d),hi.gl.keep p⟩,?_⟩
 ·by_cases d:n<h.length
  ·rw[ZT d]at j;have l:n<G.N:=hi.len▸d;exact fj.keep l p x ⟨by simp [Gh.jg,i n l],by simp [Gh.jg,i n l],by simp [Gh.jg,i n l]⟩ (λb g=>⟨rfl,λo h=>h⟩) (hi.dN n B j)
  ·have L:n=h.length:=by
    have:=(Zj.1 j).1;simp at this;omega
   subst L;simp at j;subst j;obtain⟨A,M⟩:=y;exact⟨by simp [Gh.jg,hi.len],q,.inl ⟨by simp [Gh.jg,hi.len],A,by simp [Gh.jg,hi.len,M]⟩⟩
 ·exact .own h.length xs (by simp [Gh.jg,hi.len]) t (by simp [Gh.jg,hi.len]) (λ_=>by simp [Gh.jg,hi.len])
def Xp{P:eG}{e k b:Nat}(c:ZH P e=some k)(d:uj P e=some b):∃i,P.info? e=some i/\i.size=k/\i.bytes=b:=by
 unfold ZH at c;unfold uj at d;cases f:P.info? e with
 |none=>rw[f]at c;cases c
 |some i=>rw[f]at c d;exact⟨i,rfl,by simpa using c,by simpa using d⟩
def Gh.grow(G:Gh)(n:Nat)(S:Nat->Nat->Prop)(v:oZ)(len:Nat)(ow:O Nat):Gh:={G with S:=S,sg:=λm=>if m=n then v else G.sg m,fl:=λm=>if m=n then len else G.fl m,ow:=λm=>if m=n then ow else G.ow m}
def Yf{G:Gh}{w w':Zy}{h:U ao}(hi:cp G w h){n e k len c:Nat}(H:h[n]?=some (.front e k len))(S:Nat->Nat->Prop)(v:oZ)(g:Nat)
 (x:cf G.N G w (G.grow n S v c (some g)) w') (y:g=w.heap.size\/G.ow n=some g) (C:g<w'.heap.size)
 (J:∀b o,S b o->G.S b o\/b=g) (T:∀b,b<w.heap.size->b≠g->w'.heap[b]?=w.heap[b]?)
 (W:fj (G.grow n S v c (some g)) w' n (.front e k c)):cp (G.grow n S v c (some g)) w' (h.set n (.front e k c)):=by
 have L:∀m,m≠n->(h.set n (.front e k c))[m]?=h[m]?:=λm d=>by rw[Z7 (Ne.symm d)]
 have E:(h.set n (.front e k c))[n]?=some (.front e k c):=by rw[ZB (Zj.1 H).1]
 have px:∀m(B:ao),m≠n->B.fv (G.grow n S v c (some g)) m=B.fv G m:=λm B d=>by
  cases B<;>simp [ao.fv,Gh.grow,d]
 have A:∀m,m≠n->cu (h.set n (.front e k c)) (G.grow n S v c (some g)) m=cu h G m:=λm d=>by
  unfold cu;rw[L m d];cases h[m]? with
  |none=>rfl
  |some B=>exact px m B d
 have F:∀m,m≠n->cu h G m≠some g:=λm d j=>by
  rcases y with y|y
  ·have:=hi.kR j;omega
  ·exact d (hi.inj m n g j ((eN H).trans y))
 refine⟨by rw[Zf];exact hi.len,λb j=>ZO (hi.z b j) x.size,λb o f=> ?_,λm B d=> ?_,λm i b l p=> ?_,hi.gl.keep x⟩
 ·rcases J b o f with f|f
  ·exact ZO (hi.S b o f) x.size
  ·rw[f];exact C
 ·by_cases q:m=n
  ·subst q;rw[E]at d;cases d;exact W
  ·rw[L m q]at d;refine fj.keep (hi.lt d) x (Zx _) ⟨by simp [Gh.grow,q],by simp [Gh.grow,q],by simp [Gh.grow,q]⟩ (λb j=> ?_) (hi.dN m B d);have M:cu h G m=some b:=(eN d).trans j;have R:b≠g:=λe'=>F m q (by rw[M,e']);refine⟨T _ (hi.kR M) R,λo kL f=> ?_⟩;rcases J _ o f with f|f
   ·exact kL f
   ·exact R f
 ·by_cases t:m=n<;>by_cases u:i=n
  ·rw[t,u]
  ·subst t;rw[A i u]at p;have:cu (h.set m (.front e k c)) (G.grow m S v c (some g)) m=some g:=by rw[eN E];simp [ao.fv,Gh.grow]
   rw[this]at l;cases l;exact absurd p (F i u)
  ·subst u;rw[A m t]at l;have:cu (h.set i (.front e k c)) (G.grow i S v c (some g)) i=some g:=by rw[eN E];simp [ao.fv,Gh.grow]
   rw[this]at p;cases p;exact absurd l (F m t)
  ·rw[A m t]at l;rw[A i u]at p;exact hi.inj m i b l p
set_option maxHeartbeats 1000000 in
def Ye{P:eG}{G:Gh}{w:Zy}{h:U ao}(hi:cp G w h){T tx ty e k dc:Nat}{i:TypeInfo}{z:oZ}(hT:P.underlying T=some (.slice e))(mL:P.info? e=some i)(hz:i.zero=some z)(nT:i.size=k)(zf:i.bytes=dc)(ld:z.cells.size=k)
 (iF:0<k) {n:Nat} {xs ys:U (U D)} (R:h[n]?=some (.front e k xs.length)) {u v:oZ} (W:aM G w u (.own n xs)) (kf:∀x∈xs,x.length=k)
 {us:U oZ} (hr:Rd G.S w k ys us) (d:Src P k tx v ys.length us w) (OR:xs.length+ys.length<=maxLen) (sw:(xs.length+ys.length)*dc<=140737488355328):
 ∃r w' G',(Builtin.append_ #[T,tx] ty #[u,v]).run P w= .ok r w'/\cf G.N G w G' w'/\G.N<=G'.N/\cp G' w' (h.set n (.front e k (xs.length+ys.length)))/\aM G' w' r (.own n (xs++ys)):=by
 subst nT;subst zf;have qH:=hi.lt R;obtain⟨mG,hml,hbr⟩:=hi.dN n _ R;obtain⟨hp,huf⟩:dR G.S w u (.sl xs)/\u=G.sg n:=by
  cases W with
  |own _ _ _ hp t hf=>exact⟨hp,hf mG.symm⟩
 obtain⟨f,Dd,A,c,BZ,mT,Ag,hA⟩:=hp.rd iF kf;have Rq:h.set n (.front e i.size (xs.length+0))=h:=by
  rw[Nat.add_zero];refine List.ext_getElem? λm=> ?_;by_cases E:m=n
  ·subst E;rw[ZB (Zj.1 R).1,R]
  ·rw[Z7 (Ne.symm E)]
 by_cases hy:ys.length=0;{have jU:ys=[]:=VC hy;subst jU;have ng:us=[]:=VC (by rw[hr.len];simp);subst ng;have:=run_append_nothing (P:=P) w T tx ty e i hT mL A xs.length c mT v d;refine⟨u,w,G,by rw[BZ];exact this,cf.refl _ _ _,Zx _,?_,by rw[ZW];exact W⟩;simp only[Zg];rw[Rq];exact hi}
 ·have hy0:0<ys.length:=Nat.pos_of_ne_zero hy;have Wy:xs.length+ys.length<=9223372036854775807:=by simp only[maxLen]at OR;omega
  have SV:Rd G.S w i.size (xs++ys) (f++us):=Dd.append hr;have H:c<xs.length+ys.length->∃r w' G',(Builtin.append_ #[T,tx] ty #[u,v]).run P w= .ok r w'/\cf G.N G w G' w'/\G.N<=G'.N/\cp G' w' (h.set n (.front e i.size (xs.length+ys.length)))/\aM G' w' r (.own n (xs++ys)):=by
   intro hg;have hold:(Builtin.firstCells i.size xs.length (.slice A xs.length c)).run P w.drew= .ok f.toArray w.drew:=by
    by_cases hx:xs=[]
    ·subst hx;have:f=[]:=VC (by rw[Dd.len];simp);subst this;cases A with
     |none=>exact run_firstCells_none _ _ _ _ _
     |some a=>exact run_firstCells_some _ _ _ _ _ _ [] gj (λj u W=>by simp at W)
    ·obtain⟨b,o,rfl,hc⟩:=hA hx;exact run_firstCells_some _ _ _ _ _ _ f Dd.len (λj u W=>by rw[nB];exact(hc j u W).2)
   have J:=run_append_grow_src (P:=P) w T tx ty e i z hT mL hz A xs.length c f hold v ys.length us d hg k7 (growslice_fits hg sw);obtain⟨cap,kI⟩:∃cap,cap=grownCap w (xs.length+ys.length) c e:=⟨_,rfl⟩;have lf:xs.length+ys.length<=cap:=by rw[kI];exact grownCap_ge _ _ _ _
   have t:cap<=maxLen:=by rw[kI];exact grownCap_le_maxLen _ _ _ _ OR
   rw[<-kI]at J;obtain⟨cur,mf⟩:∃cur,cur=(f++us).toArray++Builtin.zeroCells z.cells (cap-(xs.length+ys.length)):=⟨_,rfl⟩;rw[<-mf]at J;obtain⟨w',F⟩:∃w',w'=w.drew.alloc (.cells cur e):=⟨_,rfl⟩;rw[<-F]at J;have ib:cur.size=cap*i.size:=by
     have:=size_zeroCells z.cells (cap-(xs.length+ys.length));rw[mf,Array.size_append,this,List.size_toArray,SV.len,ld,Zi,<-Ya]
     congr 1
     omega
   have gW:w'.heap[w.heap.size]?=some (.cells cur e (0,0)):=by rw[F];exact World.alloc_heap_new w.drew _
   have Xc:∀b,b<w.heap.size->w'.heap[b]?=w.heap[b]?:=λb y=>by rw[F];exact Below.heap_alloc w.drew _ b y
   have B:w'.heap.size=w.heap.size+1:=by rw[F];simp
   obtain⟨S,q⟩:∃S:Nat->Nat->Prop,S=λb o=>G.S b o\/(b=w.heap.size/\o<(xs.length+ys.length)*i.size):=⟨_,rfl⟩;have ia:∀b o,G.S b o->w'.cell? ⟨b,o,none⟩=w.cell? ⟨b,o,none⟩:=λb o d=>World.cell?_of_block (Xc b (hi.S b o d));have hE:cf G.N G w (G.grow n S (.slice (some ⟨w.heap.size,0,none⟩) (xs.length+ys.length) cap) (xs.length+ys.length) (some w.heap.size)) w':=
    ⟨by rw[B];exact cG _,λb o h=>by show S b o;rw[q];exact .inl h,ia,λ_ _=>rfl,
     λm _=>by
      by_cases E:m=n;{right;subst E;simp only[Gh.grow,if_true,mG];omega}
      ·left;exact⟨by simp [Gh.grow,E],by simp [Gh.grow,E]⟩,
     iJ rfl,λb y=>Xc b (hi.z b y),by rw[F];rfl,by rw[F];rfl,by rw[F];rfl,λb o d=>by
      have p:S b o:=d;rw[q]at p;rcases p with h|⟨rfl,_⟩
      ·exact .inl h
      ·exact .inr λhz=>Yu _ (hi.z _ hz)⟩
   have hP:dR S w' (.slice (some ⟨w.heap.size,0,none⟩) (xs++ys).length cap) (.sl (xs++ys)):=by
    refine(SV.keep (S':=S) (w':=w') (λb o h=>by rw[q];exact .inl h) ia).JD w.heap.size cap (by rw[Zi];exact lf) t (λo l=>by rw[q];exact .inr ⟨rfl,by rw[Zi]at l;exact l⟩) (λo x l=> ?_);rw[cell_of_row w' w.heap.size o cur e (0,0) gW,mf,Array.getElem?_append_left (by simp only[List.size_toArray];exact(Zj.1 l).1),List.getElem?_toArray];exact l
   rw[Zi]at hP;refine⟨_,w',_,by rw[BZ];exact J,hE,Zx _,Yf hi R S _ w.heap.size hE (.inl rfl) (by rw[B];exact ZC _) (λb o d=> ?_) (λb y _=>Xc b y) ?_,?_⟩;{rw[q]at d;exact d.imp id And.left}
   ·refine⟨by simp [Gh.grow],OR,.inr ⟨w.heap.size,cap,cur,by simp [Gh.grow],by simp [Gh.grow],λhz=>Yu _ (hi.z _ hz),gW,lf,t,ib,λo l d=> ?_⟩⟩;have p:S w.heap.size o:=d;rw[q]at p;rcases p with p|⟨_,p⟩
    ·have:=hi.S _ _ p;omega
    ·omega
   ·exact .own n (xs++ys) qH hP (by simp [Gh.grow]) (λ_=>by simp [Gh.grow])
  rcases hbr with⟨jq,A',lK⟩|⟨g,cap,cur,jq,lK,Gx,rQ,JV,RB,hb7,Yz⟩
  ·refine H ?_;rw[huf,lK]at BZ;cases BZ
   omega
  ·have Zu:=BZ;rw[huf,lK]at Zu;injection Zu with eA0 _ e1;have e2:=e1.symm;subst e2;subst eA0;by_cases qP:xs.length+ys.length<=c
   ·
    have om:xs.length*i.size+us.length<=cur.size:=by rw[hr.len,hb7,<-Ya];exact Xs _ qP
    have HN:∀o,w.cell? ⟨g,o,none⟩=cur[o]?:=λo=>cell_of_row w g o cur e (0,0) rQ;have Ch:∀j,j<us.length->(w.cell? ⟨g,0+xs.length*i.size+j,none⟩).isSome=true:=λj hj=>by
     rw[HN,ZQ,ZI k7];rfl
    have J:=run_append_room_src (P:=P) w T tx ty e i hT mL g 0 xs.length c v ys.length us d qP Ch
     (λj hj=>by unfold World.frozen?;rw[rQ];simp)
    rw[ZQ]at J Ch;obtain⟨w',F⟩:∃w',w'=w.setCells g (xs.length*i.size) us:=⟨_,rfl⟩;rw[<-F]at J;have as7:g<w.heap.size:=(ZP.1 rQ).1;have lS:=run_storeCells_at P g (xs.length*i.size) e us 0 cur w rQ (by simpa using om) d.one;have yL:=run_storeCells_cells (P:=P) g (xs.length*i.size) us 0 w (by simpa using Ch) (λj hj=>by unfold World.frozen?;rw[rQ];simp) d.one;simp only[Nat.add_zero]at lS yL;rw[lS]at yL;have L:w'=w.setRow g (cur.toList.take (xs.length*i.size)++us++cur.toList.drop (xs.length*i.size+us.length)).toArray:=by
      rw[F];injection yL with _ e2;exact e2.symm
    obtain⟨C,Vx⟩:∃C:Array oZ,C=(cur.toList.take (xs.length*i.size)++us++cur.toList.drop (xs.length*i.size+us.length)).toArray:=⟨_,rfl⟩;rw[<-Vx]at L;have qp:w'.heap[g]?=some (.cells C e (0,0)):=by rw[L];exact setRow_heap w g cur C e _ rQ
    have jV:∀b,b≠g->w'.heap[b]?=w.heap[b]?:=λb y=>by rw[L];exact setRow_other w g b C y
    have B:w'.heap.size=w.heap.size:=by rw[L];exact Qd w g C
    have gZ:∀o,C[o]?=if o<xs.length*i.size then cur[o]? else if o<xs.length*i.size+us.length then us[o-xs.length*i.size]? else cur[o]?:=λo=>by
     rw[Vx,List.getElem?_toArray,ZU];have hl:cur.toList.length=cur.size:=Z9;by_cases M:o<xs.length*i.size;{rw[ae M,ZT (by simp;omega),List.getElem?_take_of_lt M,ZL]}
     ·rw[af M,ZK (by simp;omega)];simp only[b6,hl];rw[Nat.min_eq_left k7];by_cases h2:o<xs.length*i.size+us.length
      ·rw[ae h2,ZT k7]
      ·rw[af h2,ZK k7,List.getElem?_drop,show xs.length*i.size+us.length+(o-xs.length*i.size-us.length)=o by omega,ZL]
    have aoD:C.size=cur.size:=by
     rw[Vx];simp only[List.size_toArray,Zi,b6,ca,Z9];omega
    have ia:∀b o,G.S b o->w'.cell? ⟨b,o,none⟩=w.cell? ⟨b,o,none⟩:=λb o d=>by
     by_cases eb:b=g;{subst eb;have l:o<xs.length*i.size:=Nat.lt_of_not_le λt=>Yz o t d;rw[HN,cell_of_row w' b o C e (0,0) qp,gZ,ae l]};{exact World.cell?_of_block (jV b eb)}
    obtain⟨S,q⟩:∃S:Nat->Nat->Prop,S=λb o=>G.S b o\/(b=g/\o<(xs.length+ys.length)*i.size):=⟨_,rfl⟩;have hE:cf G.N G w (G.grow n S (.slice (some ⟨g,0,none⟩) (xs.length+ys.length) c) (xs.length+ys.length) (some g)) w':=
     ⟨by rw[B];exact Zx _,λb o h=>by show S b o;rw[q];exact .inl h,ia,λ_ _=>rfl,
      λm _=>by
       by_cases E:m=n;{right;subst E;simp only[Gh.grow,if_true,mG];omega}
       ·left;exact⟨by simp [Gh.grow,E],by simp [Gh.grow,E]⟩,
      iJ rfl,λb y=>jV b (λe=>Gx (e▸y)),by rw[L];rfl,by rw[L];rfl,by rw[L];rfl,λb o d=>by
       have p:S b o:=d;rw[q]at p;rcases p with h|⟨rfl,_⟩
       ·exact .inl h
       ·exact .inr Gx⟩
    have hP:dR S w' (.slice (some ⟨g,0,none⟩) (xs++ys).length c) (.sl (xs++ys)):=by
     refine(SV.keep (S':=S) (w':=w') (λb o h=>by rw[q];exact .inl h) ia).JD g c (by rw[Zi];exact qP) RB (λo l=>by rw[q];exact .inr ⟨rfl,by rw[Zi]at l;exact l⟩) (λo x l=> ?_);rw[cell_of_row w' g o C e (0,0) qp,gZ];have la:f.length=xs.length*i.size:=Dd.len;by_cases M:o<xs.length*i.size
     ·rw[ae M];rw[ZT k7]at l;have hx:xs≠ []:=λe=>by subst e;simp at M
      obtain⟨b,o',eA,hc⟩:=hA hx;cases eA
      have:=(hc o x l).2;rw[ZQ,HN]at this;exact this
     ·rw[af M];rw[ZK k7,la]at l;have:=(Zj.1 l).1;rw[ae k7];exact l
    rw[Zi]at hP;refine⟨_,w',_,by rw[BZ];exact J,hE,Zx _,Yf hi R S _ g hE (.inr jq) (by rw[B];exact as7) (λb o d=> ?_) (λb _ y=>jV b y) ?_,?_⟩;{rw[q]at d;exact d.imp id And.left}
    ·refine⟨by simp [Gh.grow],OR,.inr ⟨g,c,C,by simp [Gh.grow],by simp [Gh.grow],Gx,qp,qP,RB,by rw[aoD,hb7],λo l d=> ?_⟩⟩;have p:S g o:=d;rw[q]at p;rcases p with p|⟨_,p⟩
     ·exact Yz o (Ze (Xs _ (Yp _ _)) l) p
     ·omega
    ·exact .own n (xs++ys) qH hP (by simp [Gh.grow]) (λ_=>by simp [Gh.grow])
   ·exact H k7
def WF(r:O Nat):Fence:={Fence.wide with round:=r}
def kE(N0:Nat)(G:Gh)(w:Zy)(K:St->Prop)(a':Act)(w':Zy):Prop:=∃G' b,cf N0 G w G' w'/\N0<=G'.N/\dk G' w' a' b/\K b
section
variable {P:eG} {r:O Nat} {n N0:Nat} {G:Gh} {w:Zy} {a:Act} {s:St} {o:Oper} {K:St->Prop} {Q:Exit->Act->Zy->Prop}
def rZ(f:∀c,o.op≠ .defer c)(g:dk G w a s)(b:N0<=G.N){v:oZ}{x:AV}{w':Zy}{G':Gh}{h':U ao}(i:(execOp a.eval o).run P w= .ok (.value v) w')
 (d:cf G.N G w G' w') (e:G.N<=G'.N) (hi:cp G' w' h') (j:aM G' w' v x) (k:K ((s.wh h').put o.dst x)):o.wpIn (WF r) n P a w (kE N0 G w K) Q:=by
 refine⟨λ_ _=>trivial,?_⟩;rw[Oper.semAt_eq _ _ _ f,i];exact⟨G',_,d.less b,Ze b e,(g.move d e hi).put j o.dst,k⟩
def gK(d:∀c,o.op≠ .defer c)(b:dk G w a s)(e:N0<=G.N){v:oZ}{x:AV}(f:(execOp a.eval o).run P w= .ok (.value v) w)(g:aM G w v x)(i:K (s.put o.dst x)):
 o.wpIn (WF r) n P a w (kE N0 G w K) Q:=
 rZ d b e f (cf.refl _ _ _) (Zx _) b.inv g i
def SF(g:∀c,o.op≠ .defer c)(i:dk G w a s)(b:N0<=G.N){w':Zy}{G':Gh}{h':U ao}(j:(execOp a.eval o).run P w= .ok .skip w')
 (e:cf G.N G w G' w') (f:G.N<=G'.N) (hi:cp G' w' h') (k:K ((s.wh h').put o.dst (.d (.v undef)))):o.wpIn (WF r) n P a w (kE N0 G w K) Q:=by
 refine⟨λ_ _=>trivial,?_⟩;rw[Oper.semAt_eq _ _ _ g,j];exact⟨G',_,e.less b,Ze b f,(i.move e f hi).put (.d (.v undef)) o.dst,k⟩
def Yd{t k:Nat}(h:ZH P t=some k):∃i,P.info? t=some i/\i.size=k:=by
 unfold ZH at h;cases b:P.info? t with
 |none=>rw[b]at h;cases h
 |some i=>rw[b]at h;exact⟨i,rfl,by simpa using h⟩
def O8{t:Nat}{z:oZ}(h:jY P t=some z):∃i,P.info? t=some i/\i.zero=some z:=by
 unfold jY at h;cases b:P.info? t with
 |none=>rw[b]at h;cases h
 |some i=>rw[b]at h;exact⟨i,rfl,by simpa using h⟩
def Lb{t:Nat}{z:oZ}(h:jY P t=some z)(w:Zy):(zeroValue t).run P w= .ok z w:=by
 obtain⟨i,b,c⟩:=O8 h;simp [zeroValue,typeInfo,b,c]
def og{t k:Nat}(h:ZH P t=some k)(w:Zy):(sizeOf t).run P w= .ok k w:=by
 obtain⟨i,b,c⟩:=Yd h;simp [sizeOf,typeInfo,b,c]
def JE{t:Nat}{g:Bool}(h:nW P t=some g)(w:Zy):(isAgg t).run P w= .ok g w:=by
 unfold nW at h;cases b:P.underlying t with
 |none=>rw[b]at h;cases h
 |some d=>
  rw[b]at h;unfold isAgg;rw[Sem.run_bind,run_underlying b w];simp only[ZG,Vg]at h;subst h;cases d<;>rfl
def asv{t:Nat}(h:nW P t=some true):∃d,P.underlying t=some d/\d.isRow=true:=by
 unfold nW at h;cases b:P.underlying t with
 |none=>rw[b]at h;cases h
 |some d=>rw[b]at h;refine⟨d,rfl,?_⟩;cases d<;>simp_all [TypeDesc.isRow]
def Yc{t:Nat}{C:AV->Prop}:∀(b o:Nat)(cs:U AV)(off:Nat)(us:Nat->oZ),(∀j,j<cs.length->w.cell? ⟨b,o+j,none⟩=some (us j))->(∀(j:Nat)(c:AV),cs[j]?=some c->aM G w (us j) c)->
 (match nW P t,ZH P t with
  |some true,some k=>gN (cF (off+k) cs.length) (C (.agg ((cs.drop off).take k)))
  |some false,some _=>match cs[off]? with
   |some c=>C c
   |none=>False
  |_,_=>False)->∃u x,(loadVar t ⟨b,o+off,none⟩).run P w= .ok u w/\aM G w u x/\C x:=by
 intro b o cs off us p q g;split at g
 ·rename_i k m v
  obtain⟨l,y⟩:=cm.1 g;rw[dT]at l;obtain⟨d,z,A⟩:=asv m;have B:((List.range k).map λj=>us (off+j)).length=k:=by simp
  have E:=run_loadVar_mid (P:=P) w b (o+off) t ((List.range k).map λj=>us (off+j)) d (λj u e=>by
   rw[Zm]at e;by_cases F:j<k
   ·rw[List.getElem?_range F]at e;simp only[ZG,Vg]at e;subst e;have:=p (off+j) k7
    rwa [<-Nat.add_assoc]at this
   ·rw[Z1 (by simp;omega)]at e;cases e) z A (by rw[B];exact v)
  refine⟨_,_,E,.agg _ _ (by simp;omega) λi u c e f=> ?_,y⟩;rw[List.getElem?_toArray,Zm]at e;rw[List.getElem?_take]at f;split at f
  ·rename_i H
   rw[List.getElem?_range H]at e;simp only[ZG,Vg]at e;subst e;rw[List.getElem?_drop]at f;exact q (off+i) c f
  ·cases f
 ·rename_i k m v
  split at g
  ·rename_i c f
   refine⟨us off,c,?_,q off c f,g⟩;unfold loadVar;rw[Sem.run_bind,JE m w];simp only[Result.andThen_ok,Bool.false_eq_true,if_false];unfold load;simp only[Sem.run,p off (Zj.1 f).1]
  ·exact g.elim
 ·exact g.elim
def YW{t:Nat}{p:AV}{v:oZ}{C:AV->Prop}(hi:cp G w s.h)(F:aM G w v p)(h:qE P t s.h p C):∃u x,(Instr.loadAt t v).run P w= .ok u w/\aM G w u x/\C x:=by
 have g:=Yc (P:=P) (G:=G) (w:=w) (t:=t) (C:=C);unfold qE uE at h;cases p with
 |ptr m f=>
  simp only at h;split at h
  ·rename_i k L
   obtain⟨_,_,vs,T,M,H,N⟩:=hi.dN m _ L;cases F with
   |ptr _ _ zk=>
    obtain⟨u,x,l,q,z⟩:=g (G.bn m) 0 k f (λj=>vs.getD j undef) (λj A=>by
     have B:j<vs.size:=by rw[H];exact A
     rw[ZQ,cell_of_row w (G.bn m) j vs T (0,0) M];simp [Array.getD,B]) (λj c e=>by
     have B:j<vs.size:=by rw[H];exact(Zj.1 e).1
     exact N j _ c (by simp [Array.getD,B]) e) h
    rw[ZQ]at l;exact⟨u,x,by simp [Instr.loadAt,Instr.sureAddr,l],q,z⟩
  ·exact h.elim
 |bm xs i f=>
  simp only at h;split at h
  ·rename_i k J
   cases F with
   |bm _ _ _ b o R x S W hu=>
    rw[S]at J;cases J
    obtain⟨u,y,l,q,z⟩:=g b o (k.map .d) f R (λj A=>(W j (by simpa using A)).2) (λj c e=>by
     rw[Zm]at e;cases E:k[j]? with
     |none=>rw[E]at e;cases e
     |some d=>rw[E]at e;cases e;exact .d (hu j d E)) h
    exact⟨u,y,by simp [Instr.loadAt,Instr.sureAddr,l],q,z⟩
  ·exact h.elim
 |_=>exact h.elim
def aM.list{u:oZ}{x:AV}{xs:U (U D)}(h:aM G w u x)(b:x.gV=some xs):dR G.S w u (.sl xs):=by
 unfold AV.gV at b;split at b;{cases b;cases h with|d h=>exact h};{cases b;cases h with|own _ _ _ h=>exact h};{cases b;cases h with|full _ h=>exact h}
 ·cases b
  cases h with
  |d h=>
   cases h with
   |v=>exact .sl none 0 0 0 0 [] (λ_ _=>undef) (λh=>absurd rfl h) (Zx _) gj (λ_ h=>by cases h) (λi j c=>by simp at c) (λi j x d b=>by simp at b)
 ·cases b
def aM.int{u:oZ}{x:AV}{z:Int}(h:aM G w u x)(b:x.int?=some z):∃k,u= .int k z:=by
 unfold AV.int? at b;split at b
 ·rename_i k m
  cases b
  cases h with
  |d h=>cases h with|v=>exact⟨k,rfl⟩
 ·cases b
def aM.bool{u:oZ}{t:Bool}(h:aM G w u (.d (.v (.bool t)))):u= .bool t:=by
 cases h with|d h=>cases h with|v=>rfl
def aM.val{u v:oZ}(h:aM G w u (.d (.v v))):u=v:=by
 cases h with|d h=>cases h with|v=>rfl
def lF{T e k:Nat}(h:fF P T=some (e,k)):P.underlying T=some (.slice e)/\ZH P e=some k:=by
 unfold fF at h;split at h
 ·rename_i c d
  cases b:ZH P c with
  |none=>rw[b]at h;cases h
  |some f=>rw[b]at h;simp at h;obtain⟨rfl,rfl⟩:=h;exact⟨d,b⟩
 ·cases h
def SN{T m e k:Nat}(h:wY P T=some (m,e,k)):P.underlying T=some (.array m e)/\ZH P e=some k:=by
 unfold wY at h;split at h
 ·rename_i f c d
  cases b:ZH P c with
  |none=>rw[b]at h;cases h
  |some g=>rw[b]at h;simp at h;obtain⟨rfl,rfl,rfl⟩:=h;exact⟨d,b⟩
 ·cases h
def akb{T:Nat}{x i:AV}{u v:oZ}{C:AV->Prop}(M:aM G w u x)(N:aM G w v i)(h:uB P T x i C):∃p y,(Instr.indexAt T u v).run P w= .ok p w/\aM G w p y/\C y:=by
 unfold uB at h;split at h
 ·rename_i e k E
  obtain⟨B,f⟩:=lF E;split at h
  ·rename_i m g len cap R
   split at h
   ·rename_i z t
    obtain⟨yn,l,q,F⟩:=cm.1 h;rw[TC]at yn;subst yn;obtain⟨W,rfl⟩:=N.int t;cases M with
    |row _ _ _ _ _ hm hl o7=>
     have hN:(z.toNat:Int)=z:=Int.toNat_of_nonneg l;refine⟨_,_,?_,.ptr m (g+z.toNat*R) hm,F⟩;simp [Instr.indexAt,asIntOf,run_underlying B,l,q,og f,nB]
   ·exact h.elim
  ·split at h
   ·rename_i xs z nc t
    obtain⟨l,h⟩:=h;obtain⟨W,rfl⟩:=N.int t;split at h
    ·rename_i c H
     obtain⟨hk,F⟩:=h;obtain⟨A,b,o,cc,R,us,rfl,hA,mT,Ag,gO,hS,ng⟩:=(M.list nc).ui;have q:z.toNat<xs.length:=(Zj.1 H).1;have cV:xs≠ []:=λe=>by subst e;simp at q
     have ek:R=k:=by rw[<-gO c (ZZ H),hk]
     subst ek;rw[hA cV];have Q9:z<(xs.length:Int):=by omega
     refine⟨_,.bm [c] 0 0,?_,.bm [c] 0 0 b (o+z.toNat*R) (us z.toNat) c rfl (λj J=> ?_) (λj d S=>ng _ _ _ _ H S),F⟩;{simp [Instr.indexAt,asIntOf,run_underlying B,l,Q9,og f,nB]};{have:=hS z.toNat j q (by rw[hk]at J;exact J);exact⟨this.1,this.2.1⟩}
    ·exact h.elim
   ·exact h.elim
 ·split at h
  ·rename_i m e k b g z E t
   obtain⟨l,q,F⟩:=h;obtain⟨B,f⟩:=SN E;obtain⟨W,rfl⟩:=N.int t;cases M with
   |ptr _ _ hb=>
    refine⟨_,_,?_,.ptr b (g+z.toNat*k) hb,F⟩;simp [Instr.indexAt,Instr.sureAddr,asIntOf,run_underlying B,l,q,og f,nB]
  ·rename_i m e k xs i' g z E t
   obtain⟨ko,l,q,L⟩:=cm.1 h;rw[TC]at ko;subst ko;obtain⟨B,f⟩:=SN E;obtain⟨W,rfl⟩:=N.int t;split at L
   ·rename_i c H
    split at L
    ·rename_i d S
     cases M with
     |bm _ _ _ b o us c' gZ hS ng=>
      rw[H]at gZ;cases gZ
      have auQ:=(Zj.1 S).1;refine⟨_,.bm [[d]] 0 0,?_,.bm [[d]] 0 0 b (o+(g+z.toNat)) (λ_=>us (g+z.toNat)) [d] rfl (λj J=> ?_) (λj d' fA=> ?_),L⟩;{simp [Instr.indexAt,Instr.sureAddr,asIntOf,run_underlying B,l,q,og f,nB,Nat.add_assoc]};{simp at J;subst J;exact hS _ auQ}
      ·match j with
       |0=>simp at fA;subst fA;exact ng _ _ S
       |j+1=>simp at fA
    ·exact L.elim
   ·exact L.elim
  ·exact h.elim
def vb{T:Nat}(h:jc P T=true):P.underlying T=some .string:=by
 unfold jc at h;split at h;{assumption};{cases h}
def aow{T:Nat}{x:AV}{u:oZ}{ty:Nat}{C:Nat->Prop}(g:aM G w u x)(h:vn P T x C):∃m:Nat,(Builtin.len_ #[T] ty #[u]).run P w= .ok (.int .i64 m) w/\C m:=by
 have d:∀(A:O Addr)(l c:Nat),(fF P T).isSome=true->(Builtin.len_ #[T] ty #[.slice A l c]).run P w= .ok (.int .i64 l) w:=by
  intro A l c f;obtain⟨⟨e,k⟩,f⟩:=c7.1 f;simp [Builtin.len_,run_underlying (lF f).1,goInt]
 unfold vn at h;split at h
 ·rename_i b
  have:=g.val;subst this;obtain⟨f,i⟩:=cm.1 h;exact⟨b.size,by simp [Builtin.len_,run_underlying (vb f),goInt],i⟩
 ·cases g with
  |row=>exact⟨_,d _ _ _ (cm.1 h).1,(cm.1 h).2⟩
 ·split at h
  ·rename_i p j
   obtain⟨A,b,o,c,k,q,rfl,_⟩:=(g.list j).ui;exact⟨_,d _ _ _ (cm.1 h).1,(cm.1 h).2⟩
  ·exact h.elim
def Ew(a:Act)(x:O Operand)(d m:Nat):Prop:=match x with|none=>m=d|some y=>∃k z,a.eval y= .int k z/\0<=z/\m=z.toNat
def wV{x:O Operand}{d:Nat}{C:Nat->Prop}(b:dk G w a s)(h:lM (ev s) x d C):∃m,C m/\Ew a x d m:=by
 cases x with
 |none=>exact⟨_,h,rfl⟩
 |some y=>
  unfold lM at h;simp only at h;split at h
  ·rename_i z c
   obtain⟨k,e⟩:=(b.ev y).int c;exact⟨_,h.2,k,z,e,h.1,rfl⟩
  ·exact h.elim
def BN{k:IntKind}{z:Int}{y:Nat}{b:BoundsCode}(c:0<=z)(h:z.toNat<=y)(w:Zy):(Instr.sliceBound (.int k z) y b).run P w= .ok z.toNat w:=by
 have:z<=(y:Int):=by omega
 simp [Instr.sliceBound,asIntOf,c,this]
def HZ{lo hi:O Operand}{len cap l h:Nat}{Dm:Bool}(c:Ew a lo 0 l)(b:Ew a hi len h)(f:l<=h)(g:h<=cap)(w:Zy):
 (Instr.sliceBounds Dm len cap (lo.map a.eval) (hi.map a.eval) none).run P w= .ok (l,h,cap) w:=by
 unfold Ew at c b;cases lo with
 |none=>
  subst c;cases hi with
  |none=>subst b;simp [Instr.sliceBounds]
  |some y=>
   obtain⟨k,z,e,d,rfl⟩:=b;simp [Instr.sliceBounds,e,BN d g]
 |some x=>
  obtain⟨m,p,i,j,rfl⟩:=c;cases hi with
  |none=>subst b;simp [Instr.sliceBounds,i,BN j f]
  |some y=>
   obtain⟨k,z,e,d,rfl⟩:=b;simp [Instr.sliceBounds,e,i,BN d g,BN j f]
def dR.part{S:Nat->Nat->Prop}{v:oZ}{xs:U (U D)}{k:Nat}(u:dR S w v (.sl xs))(q:∀c∈xs,c.length=k){l h:Nat}(T:l<=h)(W:h<=xs.length):
 ∃A c,v= .slice A xs.length c/\xs.length<=c/\dR S w (.slice (if c=l then A else A.map (·.add (l*k))) (h-l) (c-l)) (.sl ((xs.take h).drop l)):=by
 obtain⟨A,b,o,c,p,y,rfl,z,B,Ag,C,E,F⟩:=u.ui;refine⟨A,c,rfl,B,?_⟩;have f:((xs.take h).drop l).length=h-l:=by simp;omega
 rw[<-f];by_cases g:xs=[]
 ·subst g;have e:((([]:U (U D)).take h).drop l)=[]:=by simp
  rw[e];exact .sl _ 0 0 (c-l) 0 [] (λ_ _=>undef) (λh=>absurd rfl h) (Wl _) k7 (λ_ h=>by cases h) (λi j m=>by simp at m) (λi j x d g=>by simp at g)
 ·have H:p=k:=by
   obtain⟨x,t⟩:=List.exists_mem_of_ne_nil xs g;rw[<-C x t,q x t]
  subst H;have J:∀i,i<h-l->((xs.take h).drop l)[i]?=xs[l+i]?:=λi m=>by
   rw[List.getElem?_drop,List.getElem?_take_of_lt k7]
  refine .sl _ b (o+l*p) (c-l) p _ (λi j=>y (l+i) j) (λL=> ?_) (by rw[f];omega) k7 (λx g=>q x (List.mem_of_mem_take (a6 g))) (λi j m M=> ?_) (λi j x d g N=> ?_);{have R:0<((xs.take h).drop l).length:=List.length_pos_iff.2 L;rw[f]at R;rw[af k7,z g];simp [nB]};{rw[f]at m;have:=E (l+i) j k7 M;rw[Ya,<-Nat.add_assoc]at this;exact this};{have m:=(Zj.1 g).1;rw[f]at m;rw[J i m]at g;exact F _ _ _ _ g N}
def apl{T:Nat}{x:AV}{u:oZ}{lo hi mx:O Operand}{C:AV->Prop}(j:dk G w a s)(H:aM G w u x)(h:xA P T (ev s) x lo hi mx C):
 ∃p y,(Instr.sliceAt T u (lo.map a.eval) (hi.map a.eval) (mx.map a.eval)).run P w= .ok p w/\aM G w p y/\C y:=by
 unfold xA at h;split at h
 ·split at h
  ·rename_i b
   obtain⟨g,h⟩:=cm.1 h;have g:=vb g;have:=H.val;subst this;obtain⟨m,h,q⟩:=wV j h;obtain⟨t,h⟩:=h;obtain⟨l,h,z⟩:=wV j h;obtain⟨i,h⟩:=h;refine⟨_,_,?_,.d (.v _),h⟩;have B:=HZ (P:=P) (Dm:=false) z q i t w;simp [Instr.sliceAt,Instr.slice,run_underlying g,B]
  ·rename_i m N
   split at h
   ·rename_i c e k g
    rw[cm,dT]at h;obtain⟨Ag,h⟩:=h;have Ag:c<=maxLen:=by unfold maxLen;omega
    obtain⟨E,f⟩:=SN g;obtain⟨hh,h,q⟩:=wV j h;obtain⟨t,h⟩:=cm.1 h;rw[dT]at t;obtain⟨l,h,z⟩:=wV j h;obtain⟨i,h⟩:=cm.1 h;simp only[Zo,dT,UC,<-Uj,Nat.not_le]at i;obtain⟨i,J⟩:=i;have B:=HZ (P:=P) (Dm:=false) z q i t w;cases H with
    |ptr _ _ zk=>
     refine⟨_,_,?_,.row m (N+l*k) (hh-l) (c-l) k zk k7 k7,h⟩;simp [Instr.sliceAt,Instr.sureAddr,run_underlying E,B,og f,nB,Nat.ne_of_gt J]
   ·exact h.elim
  ·split at h
   ·rename_i F e k R g
    obtain⟨W,h⟩:=h;obtain⟨E,f⟩:=lF g;obtain⟨hh,h,q⟩:=wV j h;obtain⟨t,h⟩:=h;obtain⟨l,h,z⟩:=wV j h;obtain⟨i,h⟩:=h;obtain⟨A,c,rfl,J,L⟩:=(H.list R).part W i t;have B:=HZ (P:=P) (Dm:=true) z q i (Ze t J) w;refine⟨_,_,?_,.d L,h⟩;simp [Instr.sliceAt,Instr.slice,run_underlying E,B,og f]
   ·exact h.elim
 ·rename_i y
  split at h
  case h_2=>exact h.elim
  rename_i yh
  split at h
  ·rename_i F e k R g
   obtain⟨W,h⟩:=h;obtain⟨E,f⟩:=lF g;obtain⟨c',M,hc⟩:=wV j h;obtain⟨gP,M⟩:=M;obtain⟨hh,h4,q⟩:=wV j M;obtain⟨rfl,h5⟩:=h4;clear h M;obtain⟨k1,z1,e1,p1,q1⟩:=hc;obtain⟨k2,z2,e2,p2,q2⟩:=q;obtain⟨A,c,rfl,J,L⟩:=(H.list R).part W (Wl hh) gP;have hp':dR G.S w (.slice A hh hh) (.sl (F.take hh)):=by
    have h1:(if c=0 then A else A.map (·.add (0*k)))=A:=by
     split;{rfl};{cases A<;>simp [Addr.add]}
    rw[h1,Yn]at L;obtain⟨A',b,o,c2,k',us,e,r1,r2,r3,r4,r5,r6⟩:=L.ui;have z:(F.take hh).length=hh:=by simp;omega
    injection e with eA e3 e4;subst eA;have:=dR.sl (S:=G.S) (w:=w) A b o hh k' (F.take hh) us r1 k7 k7 r4 r5 r6
    rwa [z]at this
   refine⟨.slice A hh hh,.full (F.take hh),?_,.full _ hp' ⟨A,by simp;omega⟩,h5⟩;have b1:(Instr.sliceBound (.int k1 z1) c .slice3Acap).run P w= .ok hh w:=by rw[BN p1 k7,q1]
   have b2:(Instr.sliceBound (.int k2 z2) hh .slice3B).run P w= .ok hh w:=by rw[BN p2 k7,<-q2]
   simp only[ZG,Option.map_none,e1,e2];have hA:A.map (·.add 0)=A:=by cases A<;>simp [Addr.add]
   simp [Instr.sliceAt,Instr.slice,Instr.sliceBounds,run_underlying E,b1,b2,og f,hA]
  ·exact h.elim
def KY:∀{cs:U AV}{b:U D},pg cs=some b->b.length=cs.length/\∀(i:Nat)(c:AV)(d:D),cs[i]?=some c->b[i]?=some d->c.yW=some d
 |[],b,h=>by simp [pg]at h;subst h;simp
 |c::cs,b,h=>by
  unfold pg at h;split at h
  ·rename_i d l g j
   cases h
   obtain⟨k,m⟩:=KY j;refine⟨by simp [k],λi p q e f=> ?_⟩
   match i with
   |0=>simp at e f;subst e;subst f;exact g
   |i+1=>exact m i p q (by simpa using e) (by simpa using f)
  ·cases h
def dR.xH{S:Nat->Nat->Prop}{w:Zy}{u:oZ}{x:D}(h:dR S w u x):dR S w u x.xH:=by
 unfold D.xH;split
 ·cases h with
  |v=>exact .sl none 0 0 0 0 [] (λ_ _=>undef) (λh=>absurd rfl h) (Zx _) (Wl _) (λ_ h=>absurd h Yt) (λi j b=>absurd b (ZJ _)) (λi j x d c=>by simp at c)
 ·exact h
def aM.Ol{u:oZ}{x:AV}{d:D}(h:aM G w u x)(b:x.yW=some d):dR G.S w u d:=by
 unfold AV.yW at b;split at b;{cases b;cases h with|d h=>exact h.xH};{cases b;cases h with|own _ _ _ h=>exact h};{cases b;cases h with|full _ h=>exact h};{cases b}
def u6(k:Nat):∀(m:Nat)(l:U D),(qj k m l).length=m
 |0,_=>rfl
 |m+1,l=>by simp [qj,u6 k m]
def Th(k:Nat):∀(m:Nat)(l:U D)(i:Nat),i<m->(qj k m l)[i]?=some ((l.drop (i*k)).take k)
 |0,_,_,h=>by omega
 |m+1,l,0,_=>by simp [qj]
 |m+1,l,i+1,h=>by
  have:=Th k m (l.drop k) i k7;rw[qj,Yx,this,List.drop_drop,Ya,Nat.one_mul,Nat.add_comm k]
def Yb{k m:Nat}{us:U oZ}{c:U D}(v:c.length=m*k)(p:us.length=m*k)(h1:∀u∈us,u.oneCell'=true)
 (q:∀(i:Nat)(u:oZ)(d:D),us[i]?=some u->c[i]?=some d->dR G.S w u d):Rd G.S w k (qj k m c) us:=by
 have t:∀i,i<m->(i+1)*k<=m*k:=λi e=>Xs k e;refine⟨by rw[u6,p],λx f=> ?_,h1,λi j x d f b=> ?_⟩
 ·obtain⟨i,e⟩:=List.mem_iff_getElem?.1 f;have g:i<m:=by have:=(Zj.1 e).1;rwa [u6]at this
  rw[Th k m c i g]at e;cases e
  have:=t i g;rw[Ya]at this;simp;omega
 ·have g:i<m:=by have:=(Zj.1 f).1;rwa [u6]at this
  rw[Th k m c i g]at f;cases f
  rw[List.getElem?_take]at b;split at b
  ·rw[List.getElem?_drop]at b;have:=(Zj.1 b).1;have l:i*k+j<us.length:=by omega
   exact⟨us[i*k+j],Zd l,q _ _ _ (Zd l) b⟩
  ·cases b
def aiJ{k b e':Nat}{y:AV}{v:oZ}{C:U (U D)->Prop}(hi:cp G w s.h)(J:aM G w v y)(hk:0<k)(L:P.underlying b=some (.slice e'))(h:xE s.h k y C):
 ∃ys us,Rd G.S w k ys us/\Src P k b v ys.length us w/\C ys:=by
 unfold xE at h;split at h
 ·rename_i m g e B k'
  split at h
  ·rename_i t hm
   split at h
   ·rename_i ds sX
    obtain⟨M,hC⟩:=cm.1 h;simp only[Zo,TC,dT]at M;obtain⟨⟨rfl,N⟩,gL⟩:=M;obtain⟨E,F⟩:=KY sX;obtain⟨_,_,x,T,hh,hl,hr⟩:=hi.dN m _ hm;cases J with
    |row _ _ _ _ _ zk mT o7=>
     have DS:ds.length=e*k':=by rw[E];simp;omega
     have z:((x.toList.drop g).take (e*k')).length=e*k':=by simp;omega
     have R:∀(i:Nat)(u:oZ)(c:AV),((x.toList.drop g).take (e*k'))[i]?=some u->((t.drop g).take (e*k'))[i]?=some c->aM G w u c:=λi u c f A=>by
      rw[List.getElem?_take]at f A;split at f
      ·rename_i nT
       rw[ae nT]at A;rw[List.getElem?_drop]at f A;exact hr _ u c (by rw[<-ZL];exact f) A
      ·cases f
     have W:((t.drop g).take (e*k')).length=e*k':=by simp;omega
     have p:∀u∈(x.toList.drop g).take (e*k'),u.oneCell'=true:=λu f=>by
      obtain⟨i,hi⟩:=List.mem_iff_getElem?.1 f;have H:i<e*k':=by rw[<-z];exact(Zj.1 hi).1
      have q:=Zd (l:=(t.drop g).take (e*k')) (i:=i) (by rw[W];exact H);exact(R i u _ hi q).kW (Zc.1 gL _ (ZZ q))
     have zh:=Yb (G:=G) (w:=w) (k:=k') (m:=e) DS z p (λi u d f hd=>by
      have H:i<e*k':=by rw[<-z];exact(Zj.1 f).1
      have q:=Zd (l:=(t.drop g).take (e*k')) (i:=i) (by rw[W];exact H);exact(R i u _ f q).Ol (F i _ d q hd))
     refine⟨_,_,zh,?_,hC⟩;rw[u6];refine Src.ofSlice w L _ e B _ z (λj u f=> ?_) p;rw[List.getElem?_take]at f;split at f;{rw[List.getElem?_drop,ZL]at f;rw[nB,cell_of_row w _ _ x T (0,0) hh];exact f};{cases f}
   ·exact h.elim
  ·exact h.elim
 ·split at h
  ·rename_i ys jU
   obtain⟨us,E,F⟩:=(J.list jU).src (P:=P) hk h.1 L;exact⟨ys,us,E,F,h.2⟩
  ·exact h.elim
def LB:dR G.S w (.slice none 0 0) (.sl []):=
 .sl none 0 0 0 0 [] (λ_ _=>undef) (λh=>absurd rfl h) (Zx _) gj (λ_ h=>by cases h) (λi j b=>by simp at b) (λi j x d c=>by simp at c)
def at0(h:U ao)(x y:ao):(h++[x]).set h.length y=h++[y]:=by simp
def ai9{T b ty e':Nat}{x y:AV}{u v:oZ}{C:AV->U ao->Prop}(hi:cp G w s.h)(F:aM G w u x)(hv:aM G w v y)(hU:P.underlying b=some (.slice e'))(h:wT P T s.h x y C):
 ∃p w' G' q h',(Builtin.append_ #[T,b] ty #[u,v]).run P w= .ok p w'/\cf G.N G w G' w'/\G.N<=G'.N/\cp G' w' h'/\aM G' w' p q/\C q h':=by
 unfold wT at h;split at h
 ·rename_i e k hT
  obtain⟨gz,H⟩:=lF hT;split at h
  ·rename_i z dc hz sw
   obtain⟨j,h⟩:=cm.1 h;simp only[Zo,TC,dT,Z9]at j;obtain⟨J,ld⟩:=j;obtain⟨i,L,mm,JT⟩:=Xp H sw;have l:i.zero=some z:=by
    obtain⟨i',h1,d⟩:=O8 hz;rw[L]at h1;cases h1;exact d
   obtain⟨ys,us,hr,hs,d⟩:=aiJ hi hv J hU h;clear h;have fresh:∀(xs:U (U D)),dR G.S w u (.sl xs)->(∃A,u= .slice A xs.length xs.length)->(∀c∈xs,c.length=k)->xs.length+ys.length<=maxLen->(xs.length+ys.length)*dc<=140737488355328->
    C (.own s.h.length (xs++ys)) (s.h++[.front e k (xs.length+ys.length)])->
    ∃p w' G' q h',(Builtin.append_ #[T,b] ty #[u,v]).run P w= .ok p w'/\cf G.N G w G' w'/\G.N<=G'.N/\cp G' w' h'/\aM G' w' p q/\C q h':=by
    intro xs M R t W f g;obtain⟨a1,a2,a3,a4⟩:=Qi hi M R e k;obtain⟨p,w',G',r1,r2,r3,E,r5⟩:=Ye (P:=P) (ty:=ty) a3 gz L l mm JT ld J (n:=s.h.length) (xs:=xs) (ys:=ys) gj a4 t (hr.keep a1.S a1.cell) hs W f;rw[at0]at E;exact⟨p,w',G',_,_,r1,a1.trans (r2.less a2),Ze a2 r3,E,r5,g⟩
   split at d
   ·rename_i m xs
    split at d
    ·rename_i e2 k2 len W
     obtain⟨j,rfl,t,B,f,g⟩:=cm.1 d;simp only[Zo,TC]at j;obtain⟨rfl,rfl⟩:=j;obtain⟨p,w',G',r1,r2,r3,E,r5⟩:=Ye (P:=P) (ty:=ty) hi gz L l mm JT ld J W F t hr hs B f;exact⟨p,w',G',_,_,r1,r2,r3,E,r5,g⟩
    ·exact d.elim
   ·have:=F.val;subst this;obtain⟨B,f,g⟩:=d;exact fresh [] LB ⟨none,rfl⟩ (λ_ h=>by cases h) (by simpa using B) (by simpa using f) (by simpa using g)
   ·rename_i xs
    obtain⟨t,B,f,g⟩:=d;cases F with
    |full _ M R=>exact fresh xs M R t B f g
   ·exact d.elim
  ·exact h.elim
 ·exact h.elim
end
def YY(off:Nat):∀(l:U oZ)(k:Nat)(cs:Array oZ),((l.zipIdx k).foldl (λcs(p:oZ×Nat)=>cs.setIfInBounds (off+p.2) p.1) cs).size=cs.size/\
 ∀i,off+k+l.length<=cs.size->((l.zipIdx k).foldl (λcs(p:oZ×Nat)=>cs.setIfInBounds (off+p.2) p.1) cs)[i]?=if off+k<=i/\i<off+k+l.length then l[i-(off+k)]? else cs[i]?
 |[],k,cs=>⟨rfl,λi _=>by
    have h:¬(off+k<=i/\i<off+k+([]:U oZ).length):=by simp
    rw[af h];rfl⟩
 |u::l,k,cs=>by
  obtain⟨d,e⟩:=YY off l (k+1) (cs.setIfInBounds (off+k) u);simp only[List.zipIdx_cons,List.foldl_cons];refine⟨by rw[d];simp,λi f=> ?_⟩;simp only[Zp]at f ⊢;rw[e i (by simp;omega)];by_cases b:off+(k+1)<=i/\i<off+(k+1)+l.length;{rw[ae b,ae ⟨by omega,by omega⟩,show i-(off+k)=i-(off+(k+1))+1 by omega,Yx]}
  ·rw[af b];by_cases c:i=off+k
   ·subst c;rw[ae ⟨Zx _,by omega⟩,Nat.sub_self,List.getElem?_cons_zero,Array.getElem?_setIfInBounds_self_of_lt k7]
   ·rw[af k7,Array.getElem?_setIfInBounds_ne (Ne.symm c)]
section
variable {P:eG} {G:Gh} {w:Zy}
structure Row(G:Gh)(w:World)(vs:Array Value)(cs:List AV):Prop where
 len:vs.size=cs.length
 rel:∀(i:Nat)(u:Value)(c:AV),vs[i]?=some u->cs[i]?=some c->aM G w u c
 one:∀(i:Nat)(u:Value),vs[i]?=some u->u.oneCell'=true
def akD{vs us:Array oZ}{cs ys:U AV}(h:Row G w vs cs)(h':Row G w us ys){off:Nat}(g:off+ys.length<=cs.length):
 Row G w (us.zipIdx.foldl (λcs(p:oZ×Nat)=>cs.setIfInBounds (off+p.2) p.1) vs) (jn cs off ys):=by
 have e:us.zipIdx.foldl (λcs(p:oZ×Nat)=>cs.setIfInBounds (off+p.2) p.1) vs=(us.toList.zipIdx 0).foldl (λcs(p:oZ×Nat)=>cs.setIfInBounds (off+p.2) p.1) vs:=by
  rw[<-Array.foldl_toList,Array.toList_zipIdx]
 obtain⟨l,j⟩:=YY off us.toList 0 vs;rw[<-e]at l j;have m:us.toList.length=ys.length:=by rw[Z9,h'.len]
 have d:off+0+us.toList.length<=vs.size:=by rw[m,h.len];omega
 have q:∀i,(jn cs off ys)[i]?=if off+0<=i/\i<off+0+us.toList.length then ys[i-off]? else cs[i]?:=λi=>by
  unfold jn;rw[ZU];by_cases t:i<off;{rw[ZT (by simp;omega),List.getElem?_take_of_lt t,af k7]}
  ·rw[ZK (by simp;omega)];simp only[b6];rw[Nat.min_eq_left k7];by_cases g:i-off<ys.length
   ·rw[ZT g,ae k7]
   ·rw[ZK k7,List.getElem?_drop,af k7,show off+ys.length+(i-off-ys.length)=i by omega]
 refine⟨by rw[l,Fj _ _ _ g,h.len],λi u c b f=> ?_,λi u b=> ?_⟩
 ·rw[j i d]at b;rw[q]at f;split at b
  ·rename_i k
   rw[ae k]at f;exact h'.rel _ _ _ (by rw[<-ZL];exact b) f
  ·rename_i k
   rw[af k]at f;exact h.rel _ _ _ b f
 ·rw[j i d]at b;split at b
  ·exact h'.one _ _ (by rw[<-ZL];exact b)
  ·exact h.one _ _ b
def aM.ahU{u:oZ}{x:AV}(h:aM G w u x)(f:x.kQ=true):Row G w u.cells x.cells:=by
 obtain⟨d,e⟩:=h.cells f;refine⟨d,λi v c b g=>(e i v c b g).1,λi v b=> ?_⟩;have j:i<x.cells.length:=by rw[<-d];exact(ZP.1 b).1
 exact(e i v _ b (Zd j)).2
def Ve(place:Nat->O (Nat×Nat))(places:U (Nat×Nat))(l:∀i y,places[i]?=some y->place i=some y):∀(c:U (Nat×AV))(e:U (Nat×oZ))(cs cw:U AV)(d:Array oZ),Row G w d cs->
 e.length=c.length->(∀(i:Nat)(p:Nat×AV)(q:Nat×oZ),c[i]?=some p->e[i]?=some q->q.1=p.1/\aM G w q.2 p.2)->(c.all λp=>p.2.kQ)=true->rV places cs c=some cw->
 ∃m,Instr.fill place d e=some m/\Row G w m cw
 |[],[],cs,cw,d,h,_,_,_,b=>by
  simp only[rV,Vg]at b;subst b;exact⟨d,rfl,h⟩
 |[],_::_,_,_,_,_,f,_,_,_=>by simp at f
 |_::_,[],_,_,_,_,f,_,_,_=>by simp at f
 |(j,x)::c,(E,u)::e,cs,cw,d,h,f,z,t,b=>by
  obtain⟨A,B⟩:=z 0 (j,x) (E,u) rfl rfl;simp only at A B;subst A;simp only[Z4,Zo]at t;unfold rV at b;split at b
  ·rename_i v k F
   rw[cond_eq_ite]at b;split at b
   ·rename_i g
    simp only[Zo,TC,dT]at g;have C:=B.ahU t.1;obtain⟨m,H,J⟩:=Ve place places l c e _ cw _ (akD h C (by rw[g.1];exact g.2)) (by simpa using f) (λi p q l L=>z (i+1) p q (by simpa using l) (by simpa using L)) t.2 b;refine⟨m,?_,J⟩;unfold Instr.fill;rw[l _ _ F];have M:¬(u.cells.size≠k||decide (v+u.cells.size>d.size))=true:=by
     rw[C.len,g.1,h.len];simp;exact g.2
    simp only[M];exact H
   ·cases b
  ·cases b
def YX{z:Array oZ}(h:z.toList.all Value.oneCell'=true):z.all (·.oneCell')=true:=by
 rw[Zc]at h;exact Array.all_eq_true_iff_forall_mem.2 λu b=>h u (Array.mem_toList_iff.2 b)
def atb(z:oZ)(h:z.cells.all (·.oneCell')=true):Row G w z.cells (z.cells.toList.map λu=>.d (.v u)):=by
 refine⟨by simp,λi u c b e=> ?_,λi u b=>Array.all_eq_true_iff_forall_mem.1 h u (Array.mem_of_getElem? b)⟩;rw[Zm,ZL,b]at e;cases e
 exact .d (.v u)
def YU:∀(b:U Field)(c:U (Nat×Nat))(w:Zy),Ju P b=some c->(b.mapM (m:=Sem) λf=>do pure (f.offset,<-sizeOf f.type)).run P w= .ok c w
 |[],c,w,h=>by simp [Ju]at h;subst h;simp
 |f::b,c,w,h=>by
  unfold Ju at h;simp only[List.mapM_cons,Option.bind_eq_bind,Option.bind_eq_some_iff,Option.map_eq_some_iff,Option.pure_def,Vg]at h;obtain⟨p,⟨k,d,rfl⟩,e,g,rfl⟩:=h;have i:=YU b e w g;simp only[List.mapM_cons,Sem.run_bind,og d,Sem.run_pure,Result.andThen_ok,i]
def aod{T:Nat}{c:U (Nat×AV)}{d:Array (Nat×oZ)}{C:AV->Prop}(A:d.toList.length=c.length)
 (B:∀(i:Nat)(p:Nat×AV)(q:Nat×oZ),c[i]?=some p->d.toList[i]?=some q->q.1=p.1/\aM G w q.2 p.2) (h:AI P T c C):∃u y,(Instr.build T d).run P w= .ok u w/\aM G w u y/\C y:=by
 unfold AI at h;split at h
 ·rename_i places z g E
  obtain⟨b,F,H⟩:∃b,P.underlying T=some (.struct b)/\Ju P b.toList=some places:=by
   unfold Qh at g;split at g;{exact⟨_,by assumption,g⟩};{cases g}
  ·split at h
   ·rename_i j J
    obtain⟨t,L⟩:=cm.1 h;simp only[Zo]at t;obtain⟨M,k⟩:=t;have k:=YX k;have N:(b.mapM (m:=Sem) λf=>do pure (f.offset,<-sizeOf f.type)).run P w= .ok places.toArray w:=by
     rw[Array.mapM_eq_mapM_toList];have:=YU b.toList places w H;have e:(Functor.map List.toArray (b.toList.mapM (m:=Sem) λf=>do pure (f.offset,<-sizeOf f.type)):Sem _)=(b.toList.mapM (m:=Sem) λf=>do pure (f.offset,<-sizeOf f.type))>>=λl=>pure l.toArray:=rfl;rw[e,Sem.run_bind,this];rfl
    obtain⟨v,R,x⟩:=Ve (λi=>places.toArray[i]?) places (λi S h=>by simpa using h) c d.toList _ j z.cells (atb (G:=G) (w:=w) z k) A B M J;refine⟨.agg v,.agg j,?_,.agg v j x.len x.rel,L⟩;unfold Instr.build;simp only[Sem.run_bind,Lb E,Result.andThen_ok,run_underlying F,N,R,Sem.run_pure]
   ·exact h.elim
 ·exact h.elim
def YT{T:Nat}(h:Di P T=true):P.underlying T=some .bool:=by
 unfold Di at h;split at h;{assumption};{cases h}
def Pm{T:Nat}{k:IntKind}(h:tH P T=some k):P.underlying T=some (.int k):=by
 unfold tH at h;split at h;{cases h;assumption};{cases h}
def YR{t off:Nat}{b:Array oZ}{u:oZ}(c:nW P t=some false)(d:b[off]?=some u):(part t b off).run P w= .ok u w:=by
 unfold part;rw[Sem.run_bind,JE c w];simp [d]
def atp{t:Nat}{u v:oZ}{x y:AV}{b:Bool}(d:Nat)(g:aM G w u x)(i:aM G w v y)(h:H9 P t x y=some b):(Op.equalIn (d+1) t u v).run P w= .ok b w:=by
 unfold H9 at h;split at h
 ·have e:=g.val;have f:=i.val;subst e;subst f
  rename_i k a j l
  cases c:zG k j&&(tH P t).isSome with
  |false=>rw[c]at h;cases h
  |true=>
   rw[c]at h;cases h;rw[Zo,W7]at c;obtain⟨rfl,c⟩:=c;obtain⟨m,p⟩:=c7.1 c;exact run_equalIn_int w d t k m a l (Pm p)
 ·have e:=g.val;have f:=i.val;subst e;subst f;cases c:jc P t with
  |false=>rw[c]at h;cases h
  |true=>rw[c]at h;cases h;rw[<-Xf,<-Xf];exact run_equalIn_string w d t _ _ (vb c)
 ·have e:=g.val;have f:=i.val;subst e;subst f;cases c:Di P t with
  |false=>rw[c]at h;cases h
  |true=>rw[c]at h;cases h;exact run_equalIn_bool w d t _ _ (YT c)
 ·cases h
def aqN{t off k:Nat}{b:Array oZ}(c:nW P t=some true)(d:ZH P t=some k):(part t b off).run P w= .ok (.agg (b.extract off (off+k))) w:=by
 unfold part;rw[Sem.run_bind,JE c w];simp [og d]
def YQ{us:Array oZ}{xs:U AV}{off k:Nat}(f:us.size=xs.length)(g:off+k<=xs.length)(e:∀(i:Nat)(u:oZ)(c:AV),us[i]?=some u->xs[i]?=some c->aM G w u c):
 (us.extract off (off+k)).size=((xs.drop off).take k).length/\∀(i:Nat)(u:oZ)(c:AV),(us.extract off (off+k))[i]?=some u->((xs.drop off).take k)[i]?=some c->aM G w u c:=by
 refine⟨by simp;omega,λi u c d b=> ?_⟩;rw[List.getElem?_take]at b;split at b
 ·next j=>
  rw[List.getElem?_drop]at b;rw[Array.getElem?_extract]at d;split at d;{exact e _ _ _ d b};{cases d}
 ·cases b
def OU{e:TypeId->U AV->U AV->O Bool}(d:Nat)
 (z:∀(T:Nat)(us vs:Array oZ)(xs ys:U AV)(b:Bool),us.size=xs.length->vs.size=ys.length->(∀(i:Nat)(u:oZ)(c:AV),us[i]?=some u->xs[i]?=some c->aM G w u c)->(∀(i:Nat)(u:oZ)(c:AV),vs[i]?=some u->ys[i]?=some c->aM G w u c)->e T xs ys=some b->(Op.equalIn (d+1) T (.agg us) (.agg vs)).run P w= .ok b w)
 {us vs:Array oZ} {xs ys:U AV} (l:us.size=xs.length) (m:vs.size=ys.length)
 (p:∀(i:Nat)(u:oZ)(c:AV),us[i]?=some u->xs[i]?=some c->aM G w u c) (q:∀(i:Nat)(u:oZ)(c:AV),vs[i]?=some u->ys[i]?=some c->aM G w u c):
 ∀(g:U Field)(b:Bool),CZ P e g xs ys=some b->(Op.eqFields (d+1) us vs g).run P w= .ok b w
 |[],b,h=>by cases h;simp [Op.eqFields]
 |f::g,b,h=>by
  unfold CZ at h;cases A:f.name== "_" with
  |true=>rw[A]at h;cases h
  |false=>
   rw[A]at h;simp only[Tf]at h;have E:f.name≠ "_" :=by simpa using A
   split at h
   ·next t=>
    split at h
    ·next x y v F=>
     split at h
     ·next a c B C=>
      cases h
      have L:f.offset<us.size:=by rw[l];exact(Zj.1 v).1
      have M:f.offset<vs.size:=by rw[m];exact(Zj.1 F).1
      have H:=ZI L;have J:=ZI M;simp only[Op.eqFields,ae E,Sem.run_bind,YR (w:=w) t H,YR (w:=w) t J,Result.andThen_ok,atp d (p _ _ _ H v) (q _ _ _ J F) B];cases a with
      |true=>simp only[VX,Bool.false_eq_true,if_false,Z0];exact OU d z l m p q g c C
      |false=>simp
     ·cases h
    ·cases h
   ·next t=>
    split at h
    ·next k v=>
     cases j:cF (f.offset+k) xs.length&&cF (f.offset+k) ys.length with
     |false=>rw[j]at h;cases h
     |true=>
      rw[j]at h;rw[Zo,dT,dT]at j;simp only[Tj]at h;split at h
      ·next a c B C=>
       cases h
       obtain⟨N,R⟩:=YQ l j.1 p;obtain⟨q1,S⟩:=YQ m j.2 q;simp only[Op.eqFields,ae E,Sem.run_bind,aqN (w:=w) t v,Result.andThen_ok,z _ _ _ _ _ a N q1 R S B];cases a with
       |true=>simp only[VX,Bool.false_eq_true,if_false,Z0];exact OU d z l m p q g c C
       |false=>simp
      ·cases h
    ·cases h
   ·cases h
def YP:∀(n d:Nat)(T:Nat)(us e:Array oZ)(xs ys:U AV)(b:Bool),us.size=xs.length->e.size=ys.length->(∀(i:Nat)(u:oZ)(c:AV),us[i]?=some u->xs[i]?=some c->aM G w u c)->(∀(i:Nat)(u:oZ)(c:AV),e[i]?=some u->ys[i]?=some c->aM G w u c)->Lu P n T xs ys=some b->(Op.equalIn (d+n+1) T (.agg us) (.agg e)).run P w= .ok b w
 |0,_,_,_,_,_,_,_,_,_,_,_,h=>by cases h
 |n+1,d,T,us,e,xs,ys,b,k,l,m,p,h=>by
  unfold Lu at h;split at h
  ·next fs g=>
   cases f:P.stoodInHeld T with
   |true=>rw[f]at h;cases h
   |false=>
    rw[f]at h;have j:P.fieldsOf T=fs:=by unfold Program.fieldsOf;rw[g]
    rw[show d+(n+1)+1=(d+n+1)+1 by omega,run_equalIn_struct w (d+n+1) T us e (by rw[j];exact g) f,j];exact OU (d+n) (λq t v x y z=>YP n d q t v x y z) k l m p _ b h
  ·cases h
def apr{T:Nat}{us e:Array oZ}{xs ys:U AV}{b:Bool}(j:us.size=xs.length)(k:e.size=ys.length)
 (l:∀(i:Nat)(u:oZ)(c:AV),us[i]?=some u->xs[i]?=some c->aM G w u c) (m:∀(i:Nat)(u:oZ)(c:AV),e[i]?=some u->ys[i]?=some c->aM G w u c) (h:MF P T xs ys=some b):
 P.eqGuardType P.depth T=false/\(Op.equalIn 10000 T (.agg us) (.agg e)).run P w= .ok b w:=by
 unfold MF at h;split at h
 ·next fs f=>
  cases d:P.stoodInHeld T||P.eqGuardType P.depth T with
  |true=>rw[d]at h;cases h
  |false=>
   rw[d]at h;rw[Yy]at d;refine⟨d.2,?_⟩;have g:P.fieldsOf T=fs:=by unfold Program.fieldsOf;rw[f]
   rw[run_equalIn_struct w 9999 T us e (by rw[g];exact f) d.1,g];exact OU 9998 (λp q t v x y=>YP 4 9994 p q t v x y) j k l m _ b h
 ·cases h
def arW{c:BinOp}{x y:AV}{u v:oZ}{T:Nat}{X Y:Operand}{C:AV->Prop}(q:aM G w u x)(t:aM G w v y)(h:zZ P T c x y C):
 ∃r z,(do eqGuard c T X Y u v;binOp c T u v:Sem oZ).run P w= .ok r w/\aM G w r z/\C z:=by
 unfold zZ at h;split at h
 ·rename_i k a F b
  have i:=q.val;have j:=t.val;subst i;subst j;have g:(eqGuard c T X Y (.int k a) (.int F b)).run P w= .ok () w:=by unfold eqGuard;cases c<;>simp
  rw[Sem.run_bind,g];simp only[Result.andThen_ok];split at h
  ·rename_i z f
   obtain⟨l,H,m⟩:=cm.1 h;rw[W7]at l;subst l;refine⟨z,_,?_,.d (.v z),m⟩;cases c<;>simp [Vf]at f<;>subst f<;>simp [binOp,Op.intDiv,H]
  ·split at h
   ·rename_i z f
    refine⟨z,_,?_,.d (.v z),h.2⟩;have p:¬b<0:=by omega
    cases c<;>simp [Wq]at f<;>subst f<;>simp [binOp,Op.shift,p]
   ·split at h
    ·rename_i z f
     obtain⟨l,m⟩:=cm.1 h;rw[W7]at l;subst l;refine⟨z,_,?_,.d (.v z),m⟩;cases c<;>simp [Tp]at f<;>subst f<;>simp [binOp,Op.intArith,Op.intCmp,Op.intBits]
    ·exact h.elim
 ·rename_i a b
  have i:=q.val;have j:=t.val;subst i;subst j;have g:(eqGuard c T X Y (.string a) (.string b)).run P w= .ok () w:=by unfold eqGuard;cases c<;>simp
  rw[Sem.run_bind,g];simp only[Result.andThen_ok];split at h
  ·rename_i z f
   refine⟨z,_,?_,.d (.v z),h⟩;cases c<;>simp [V4]at f<;>subst f<;>simp [binOp,Op.stringOp,Xf]
  ·split at h
   ·refine⟨_,_,?_,.d (.v _),h.2⟩;have J:¬(((a.size+b.size:Nat):Int)>IntKind.i64.max):=by
     have:=h.1;unfold maxLen at this;have e:IntKind.i64.max=9223372036854775807:=by decide
     rw[e];omega
    simp only[binOp,Op.stringOp];rw[af J];rfl
   ·exact h.elim
 ·rename_i a b
  have i:=q.val;have j:=t.val;subst i;subst j;have g:(eqGuard c T X Y (.bool a) (.bool b)).run P w= .ok () w:=by unfold eqGuard;cases c<;>simp
  rw[Sem.run_bind,g];simp only[Result.andThen_ok];split at h
  ·rename_i z f
   obtain⟨A,m⟩:=cm.1 h;have A:=YT A;refine⟨z,_,?_,.d (.v z),m⟩;have p:=run_equalIn_bool (P:=P) w 9999 T a b A;cases c<;>simp [TO]at f<;>subst f<;>simp [binOp,Op.equal,Op.maxDepth,p]
  ·exact h.elim
 ·rename_i xs ys
  cases q with
  |agg L _ M N=>
   cases t with
   |agg R _ S W=>
    split at h
    ·next b p=>
     obtain⟨g,B⟩:=apr M S N W p;rw[Sem.run_bind,run_eqGuard_agg w c T X Y L R g];simp only[Result.andThen_ok];split at h
     ·next z E=>
      refine⟨z,_,?_,.d (.v z),h⟩;cases c<;>simp [yB]at E<;>subst E;{rw[run_eql_struct,B];rfl};{rw[run_neq_struct,B];rfl}
     ·exact h.elim
    ·exact h.elim
 ·exact h.elim
def ap4{c:UnOp}{x:AV}{u:oZ}{C:AV->Prop}(f:aM G w u x)(h:zR c x C):∃r z,(Op.unary c u).run P w= .ok r w/\aM G w r z/\C z:=by
 unfold zR at h;split at h
 ·rename_i v
  have e:=f.val;subst e;split at h
  ·rename_i z b
   refine⟨z,_,?_,.d (.v z),h⟩;unfold MB at b;split at b;{cases b;simp [Op.unary]};{cases b;simp [Op.unary,Op.intArith]};{cases b;simp [Op.unary,Op.intBits]};{cases b}
  ·exact h.elim
 ·exact h.elim
def arK{T:Nat}(h:Fo P T=true):P.underlying T=some (.int .u8):=by
 unfold Fo at h;split at h;{assumption};{cases h}
def ajs{a b:Nat}{x:AV}{u:oZ}{C:AV->Prop}(E:aM G w u x)(h:yI P a b x C):∃r z,(convert a b u).run P w= .ok r w/\aM G w r z/\C z:=by
 unfold yI at h;split at h
 ·rename_i k2 m
  have e:=E.val;subst e;split at h
  ·rename_i k1 k t y
   refine⟨_,_,?_,.d (.v _),h⟩;simp [convert,run_underlying (Pm t),run_underlying (Pm y),Conv.intToInt]
  ·exact h.elim
 ·rename_i s
  have e:=E.val;subst e;obtain⟨c,F⟩:=cm.1 h;rw[Zo]at c;refine⟨_,_,?_,.d (.v _),F⟩;simp [convert,run_underlying (vb c.1),run_underlying (vb c.2)]
 ·split at h
  ·rename_i xs e k S T
   obtain⟨c,f,rfl,F⟩:=cm.1 h;rw[Zo]at c;refine⟨_,_,?_,.d (.v _),F⟩;obtain⟨A,W,o,H,k',L,rfl,M,mT,Ag,gO,N,ng⟩:=(E.list S).ui;rw[run_convert_bytes_string w a b e A _ H (lF T).1 (arK c.1) (vb c.2)];simp only[Zw]at M mT N ⊢;cases f with
   |nil=>
    cases A with
    |none=>rfl
    |some R=>
     have g:=run_loadCells_list (P:=P) w R (([]:U Int).map (Value.int .u8)) (λj v i=>by simp at i);simp only[ai,Zg]at g;have:=run_bytesToString (P:=P) w R 0 H [] (by simpa using g);exact this
   |cons p f=>
    have xO:=M gj;subst xO;have ko:k'=1:=(gO [.v (.int .u8 p)] gj).symm;subst ko;have g:=run_loadCells_list (P:=P) w ⟨W,o,none⟩ ((p::f).map (Value.int .u8)) (λj v i=>by
     have B:=(Zj.1 i).1;rw[Zw]at B;have t:=(N j 0 B k7).2.1;rw[Zm,Zd B]at i;cases i
     have y:=ng j 0 [.v (.int .u8 ((p::f)[j]))] (.v (.int .u8 ((p::f)[j]))) (by rw[Zm,Zd B];rfl) rfl;have h3:L j 0= .int .u8 ((p::f)[j]):=by
      generalize L j 0=q at y;cases y;rfl
     rw[nB];rw[h3]at t
     simpa using t)
    rw[Zw]at g;rw[run_bytesToString w _ _ H _ g];have J:∀(l:U Int)(r:so),l.foldl (λr n=>r.push (UInt8.ofNat n.toNat)) r=⟨r.data++(l.map λn=>UInt8.ofNat n.toNat).toArray⟩:=by
      intro l
      induction l with
      |nil=>intro r;simp
      |cons x l ih=>intro r;rw[List.foldl_cons,ih];simp [ByteArray.push]
    rw[J];have Jo:ByteArray.empty.data= #[]:=rfl;rw[Jo];simp
  ·exact h.elim
def Wk{T f off k:Nat}{g:Bool}(h:uI P T f=some (off,k,g)):∃c b,P.underlying T=some (.struct c)/\c[f]?=some b/\ZH P b.type=some k/\0<k/\nW P b.type=some g/\b.offset=off:=by
 unfold uI at h;split at h
 ·rename_i c d
  split at h
  ·rename_i b e
   split at h
   ·rename_i l m i j
    cases h
    exact⟨c,b,d,e,i,Nat.succ_pos _,j,rfl⟩
   ·cases h
  ·cases h
 ·cases h
def Tt{T f off k o b:Nat}{g:Bool}(h:uI P T f=some (off,k,g)):(Instr.fieldAt T (.pointer (some ⟨b,o,none⟩)) f).run P w= .ok (.pointer (some ⟨b,o+off,none⟩)) w:=by
 obtain⟨j,l,c,d,e,i,m,rfl⟩:=Wk h;simp [Instr.fieldAt,run_underlying c,d,Instr.sureAddr,fieldPlace,og e,Nat.ne_of_gt i,nB]
def aoX{T f:Nat}{x:AV}{u:oZ}{C:AV->Prop}(e:aM G w u x)(h:Ax P T x f C):∃r z,(Instr.field T u f).run P w= .ok r w/\aM G w r z/\C z:=by
 unfold Ax at h;split at h
 ·rename_i j k A l
  obtain⟨B,E⟩:=cm.1 h;rw[dT]at B;obtain⟨F,g,m,p,v,H,q,rfl⟩:=Wk l;cases e with
  |agg vs _ b t=>
   refine⟨.agg (vs.extract g.offset (g.offset+k)),_,?_,.agg _ _ ?_ λi u c e d=> ?_,E⟩;{simp [Instr.field,run_underlying m,p,asAgg,part,JE q,og v]};{simp;omega}
   ·rw[Array.getElem?_extract]at e;rw[List.getElem?_take]at d;split at d
    ·rw[List.getElem?_drop]at d;split at e
     ·exact t _ u c e d
     ·cases e
    ·cases d
 ·rename_i j k A l
  obtain⟨F,g,m,p,v,H,q,rfl⟩:=Wk l;split at h
  ·rename_i c d
   cases e with
   |agg vs _ b t=>
    have y:g.offset<vs.size:=by rw[b];exact(Zj.1 d).1
    refine⟨vs[g.offset],c,?_,t _ _ c (ZI y) d,h⟩;simp [Instr.field,run_underlying m,p,asAgg,part,JE q,ZI y]
  ·exact h.elim
 ·exact h.elim
end
def Gh.sx(G:Gh)(b m:Nat):Gh:={G with S:=λc o=>G.S c o\/(c=b/\o<m)}
def YN{G:Gh}{w:Zy}{h:U ao}(hi:cp G w h)(g:Obj)(m:Nat):cf G.N G w (G.sx w.heap.size m) (w.alloc g)/\cp (G.sx w.heap.size m) (w.alloc g) h:=by
 have d:cf G.N G w (G.sx w.heap.size m) (w.alloc g):=
  ⟨by simp,λ_ _ h=>.inl h,λb _ h=>World.cell?_alloc_lt _ _ _ (hi.S _ _ h),λ_ _=>rfl,λ_ _=>.inl ⟨rfl,rfl⟩,iJ rfl,λb f=>Below.heap_alloc w g b (hi.z b f),rfl,rfl,rfl,λb o c=>c.imp id fun⟨e,_⟩ j=>Yu _ (hi.z _ (e▸j))⟩
 refine⟨d,hi.len,λb f=>ZO (hi.z b f) d.size,λb o c=> ?_,λn B i=> ?_,λm n b k l=>hi.inj m n b k l,hi.gl.keep d⟩
 ·rcases c with c|⟨rfl,_⟩
  ·exact ZO (hi.S b o c) d.size
  ·simp
 ·refine fj.keep (hi.lt i) d (Zx _) ⟨rfl,rfl,rfl⟩ (λb f=> ?_) (hi.dN n B i);have p:=hi.kR (n:=n) (b:=b) ((eN i).trans f);refine⟨Below.heap_alloc w _ _ p,λo q c=> ?_⟩;rcases c with c|⟨e,_⟩
  ·exact q c
  ·omega
def Yw(k:Nat):∀(n o i:Nat)(b:Nat×Nat),(wA k o n)[i]?=some b->b=(o+i*k,k)
 |0,_,_,_,h=>by simp [wA]at h
 |n+1,o,0,b,h=>by simp [wA]at h;rw[<-h];simp
 |n+1,o,i+1,b,h=>by
  have:=Yw k n (o+k) i b (by simpa [wA]using h);rw[this,Ya];simp;omega
def YM(l:U AV):∀n,(uK n l).length=n*l.length
 |0=>by simp [uK]
 |n+1=>by rw[uK,Zi,YM l n,Ya];omega
def YL(l:U AV):∀(n i:Nat),i<n*l.length->(uK n l)[i]?=l[i%l.length]?
 |0,i,h=>by omega
 |n+1,i,h=>by
  rw[uK];by_cases b:i<l.length;{rw[ZT b,Nat.mod_eq_of_lt b]};{rw[ZK k7,YL l n _ (by rw[Ya]at h;omega),<-Nat.mod_eq_sub_mod k7]}
def akL(z:oZ){k:Nat}(b:z.cells.size=k)(n:Nat):uK n (z.cells.toList.map λu=>.d (.v u))=(List.range (n*k)).map λi=>.d (.v (z.cells[i%z.cells.size]!)):=by
 have c:(z.cells.toList.map λu=>AV.d (.v u)).length=k:=by simp [b]
 refine List.ext_getElem? λi=> ?_;by_cases f:i<n*k
 ·rw[YL _ _ _ (by rw[c];exact f),Zm,Zm,List.getElem?_range f,c,b,ZL];have j:0<k:=Nat.pos_of_ne_zero λe=>by subst e;simp at f
  have g:i%k<z.cells.size:=by rw[b];exact Nat.mod_lt _ j
  rw[ZI g];simp only[ZG];rw[getElem!_pos z.cells (i%k) g]
 ·rw[Z1 (by rw[YM,c];omega),Z1 (by simp;omega)]
def YJ:∀{c:U (Nat×AV)}{places:U (Nat×Nat)}{cs cw:U AV},rV places cs c=some cw->cw.length=cs.length
 |[],_,_,_,h=>by simp only[rV,Vg]at h;rw[h]
 |(i,x)::c,places,cs,cw,h=>by
  unfold rV at h;split at h
  ·rw[cond_eq_ite]at h;split at h
   ·rename_i b
    simp only[Zo,TC,dT]at b;rw[YJ h,Fj _ _ _ (by rw[b.1];exact b.2)]
   ·cases h
  ·cases h
section
variable {P:eG} {r:O Nat} {n N0:Nat} {G:Gh} {w:Zy} {a:Act} {s:St} {o:Oper} {K:St->Prop} {Q:Exit->Act->Zy->Prop}
def ate{T len:Nat}{h:U ao}{A:U (Nat×AV)}{B:Array (Nat×oZ)}{C:AV->Prop}(hi:cp G w h)(hl:B.toList.length=A.length)
 (hr:∀(i:Nat)(p:Nat×AV)(q:Nat×oZ),A[i]?=some p->B.toList[i]?=some q->q.1=p.1/\aM G w q.2 p.2) (f:za P T len A C):
 ∃u w' G' y,(Instr.buildSlice T len B).run P w= .ok u w'/\cf G.N G w G' w'/\G.N<=G'.N/\cp G' w' h/\aM G' w' u y/\C y:=by
 unfold za at f;split at f
 ·rename_i e k hT
  obtain⟨gz,H⟩:=lF hT;split at f
  ·rename_i z hz
   split at f
   ·rename_i cs J
    split at f
    ·rename_i ds sX
     obtain⟨gn,f⟩:=cm.1 f;simp only[Zo,TC,dT,Z9]at gn;obtain⟨⟨⟨⟨hk,hsm⟩,ld⟩,L⟩,hb⟩:=gn;have L:=YX L;rw[akL z ld]at J;have HV:=Yw k;obtain⟨g,m⟩:∃g:Array oZ,g=if len*k=0 then #[]else z.cells:=⟨_,rfl⟩
     obtain⟨E,t⟩:∃E:Array oZ,E=(Array.range (len*k)).map (g[·%g.size]!):=⟨_,rfl⟩;have qp:Row G w E ((List.range (len*k)).map λi=>.d (.v (z.cells[i%z.cells.size]!))):=by
      have I3:∀i,i<len*k->g[i%g.size]! =z.cells[i%z.cells.size]! :=λi hi=>by rw[m,af k7]
      refine⟨by rw[t];simp,λi u c b l=> ?_,λi u b=> ?_⟩
      ·rw[t,Array.getElem?_map]at b;rw[Zm]at l;by_cases hi:i<len*k
       ·rw[List.getElem?_range hi]at l;rw[Array.getElem?_range,ae hi]at b;simp only[ZG,Vg]at b l;subst b;subst l;rw[I3 i hi];exact .d (.v _)
       ·rw[Z1 (by simp;omega)]at l;cases l
      ·rw[t,Array.getElem?_map]at b;by_cases hi:i<len*k
       ·rw[Array.getElem?_range,ae hi]at b;simp only[ZG,Vg]at b;subst b;rw[I3 i hi];have F:i%z.cells.size<z.cells.size:=Nat.mod_lt _ k7;rw[getElem!_pos z.cells _ F];exact Array.all_eq_true_iff_forall_mem.1 L _ (Array.getElem_mem _)
       ·rw[Array.getElem?_eq_none (by simp;omega)]at b;cases b
     obtain⟨gM,M,R⟩:=Ve (λi=>some (i*k,k)) (wA k 0 len) (λi pl h=>by
      have:=HV len 0 i pl h;rw[this];simp) A B.toList _ cs E qp hl hr hb J
     obtain⟨d1,d2⟩:=KY sX;have gP:cs.length=len*k:=by
      have:=YJ J;rw[this];simp
     have yM:gM.size=len*k:=by rw[R.len,gP]
     obtain⟨W,i2⟩:=YN hi (.cells gM e) (len*k);have zh:Rd G.S w k (qj k len ds) gM.toList:=Yb (by rw[d1,gP]) (by rw[Z9,yM]) (λu b=>by
      obtain⟨j,hj⟩:=List.mem_iff_getElem?.1 b;exact R.one j u (by rw[<-ZL];exact hj)) (λi u d b hd=>by
      have F:i<cs.length:=by rw[<-d1];exact(Zj.1 hd).1
      exact(R.rel i u _ (by rw[<-ZL];exact b) (Zd F)).Ol (d2 i _ d (Zd F) hd))
     have hp:dR (G.sx w.heap.size (len*k)).S (w.alloc (.cells gM e)) (.slice (some ⟨w.heap.size,0,none⟩) len len) (.sl (qj k len ds)):=by
      have:=(zh.keep W.S W.cell).JD w.heap.size len (by rw[u6];exact Zx _) (by have:=Nat.le_mul_of_pos_right len hk;simp only[maxLen];omega) (λo ho=>.inr ⟨rfl,by rw[u6]at ho;exact ho⟩) (λo u b=>by
       rw[World.cell?_alloc_new,<-ZL];exact b)
      rwa [u6]at this
     refine⟨_,_,_,_,?_,W,Zx _,i2,.full _ hp ⟨some ⟨w.heap.size,0,none⟩,by rw[u6]⟩,f⟩;have kL:¬(len*k>2^24):=by omega
     unfold Instr.buildSlice;simp only[Sem.run_bind,run_underlying gz,Result.andThen_ok,og H,kL,if_false];by_cases x:len*k=0;{rw[ae x]at m;subst m;subst t;simp [x]at M;simp [x,M,newRow]};{rw[af x]at m;subst m;subst t;simp [x,Lb hz,M,newRow]}
    ·exact f.elim
   ·exact f.elim
  ·exact f.elim
 ·exact f.elim
end
section
variable {P:eG} {G:Gh} {w:Zy} {h:U ao}
def Ca(k s:so)(d:D)(l:U (so×D)):mH ((k,d)::l) s=if k=s then some d else mH l s:=by
 have b:mH ((k,d)::l) s=bif bL k==bL s then some d else mH l s:=rfl;rw[b];by_cases e:k=s
 ·subst e;rw[ae rfl];simp
 ·rw[af e];have:(bL k==bL s)=false:=by rw[Tn];exact λc=>e (Yk c)
  rw[this];rfl
def Pd{T k e:TypeId}(h:AQ P T=some (k,e)):P.underlying T=some (.map k e):=by
 unfold AQ at h;split at h;{next c d b=>cases h;exact b};{cases h}
def apW(hi:cp G w h):cf G.N G w (G.fz w.heap.size) (w.alloc (.map #[] 0))/\cp (G.fz w.heap.size) (w.alloc (.map #[] 0)) (h++[.map []])/\aM (G.fz w.heap.size) (w.alloc (.map #[] 0)) (.map (some w.heap.size)) (.mp h.length):=by
 have j:=Iu G w hi.z hi.S (.map #[] 0);have x:G.N<=(G.fz w.heap.size).N:=cG _;have k:(G.fz w.heap.size).bn h.length=w.heap.size:=by simp [Gh.fz,hi.len]
 have y:∀n(B:ao),n<G.N->B.fv (G.fz w.heap.size) n=B.fv G n:=λn B c=>by
  cases B<;>simp [ao.fv,Gh.fz,Nat.ne_of_lt c]
 have A:∀n,n<G.N->cu (h++[.map []]) (G.fz w.heap.size) n=cu h G n:=λn c=>by
  have l:n<h.length:=by rw[hi.len];exact c
  unfold cu;rw[ZT l,Zd l];exact y n _ c
 have C:cu (h++[.map []]) (G.fz w.heap.size) h.length=some w.heap.size:=by
  rw[eN (B:= .map []) gj];exact congrArg some k
 refine⟨j,⟨by simp [Gh.fz,hi.len],λb q=>ZO (hi.z b q) j.size,λb o f=>ZO (hi.S b o f) j.size,λn B g=> ?_,λm n b E c=> ?_,hi.gl.keep j⟩,?_⟩
 ·by_cases c:n<h.length
  ·rw[ZT c]at g;have t:n<G.N:=hi.len▸c;exact fj.keep t j x ⟨rfl,rfl,rfl⟩ (λb q=>⟨Below.heap_alloc w _ _ (hi.kR (n:=n) ((eN g).trans q)),λo h=>h⟩) (hi.dN n B g)
  ·have F:n=h.length:=by
    have:=(Zj.1 g).1;simp at this;omega
   subst F;simp at g;subst g;exact⟨by rw[k];exact λH=>Yu _ (hi.z _ H),λo f=>by rw[k]at f;exact Yu _ (hi.S _ _ f), #[],0,by rw[k];exact World.alloc_heap_new w _,
    ⟨by simp,MapKept.stamped_empty 0,λe u=>(by simp at u),λs d f=>(by cases f),by simp,λi e u=>(by simp at u),rfl⟩⟩
 ·have p:∀n b,cu (h++[.map []]) (G.fz w.heap.size) n=some b->(n<G.N/\cu h G n=some b)\/(n=h.length/\b=w.heap.size):=λn b c=>by
   by_cases l:n<G.N;{exact .inl ⟨l,by rw[<-A n l];exact c⟩}
   ·by_cases e:n=h.length
    ·subst e;rw[C]at c;cases c;exact .inr ⟨rfl,rfl⟩
    ·rw[Em (Z1 (by simp;have:=hi.len;omega))]at c;cases c
  rcases p m b E with⟨_,v⟩|⟨rfl,rfl⟩<;>rcases p n _ c with⟨_,t⟩|⟨rfl,q⟩
  ·exact hi.inj m n b v t
  ·have:=hi.kR v;omega
  ·have:=hi.kR t;omega
  ·rfl
 ·have:=aM.mp (G:=G.fz w.heap.size) (w:=w.alloc (.map #[] 0)) h.length (by simp [Gh.fz,hi.len])
  rwa [k]at this
def auF{v:oZ}{d:D}(h:dR G.S w v d):aM G w v (M6 d):=by
 cases d with
 |v x=>exact .d h
 |sl k=>exact .d h
 |ag l=>
  cases h with
  |ag e _ f h=>
   refine .agg e _ (by rw[Zw];exact f) λi u c g b=> ?_;rw[Zm]at b;obtain⟨d,j,rfl⟩:=Option.map_eq_some_iff.1 b;exact .d (h i u d g j)
def at2(z:oZ):aM G w z (BU z):=by
 unfold BU;split
 ·next e=>
  refine .agg e _ (by rw[Zw];exact Z9.symm) λi u c f b=> ?_;rw[Zm,ZL,f]at b;cases b
  exact .d (dR.v u).xH
 ·exact .d (.v _)
def aM.toM{u:oZ}{x:AV}{d:D}(h:aM G w u x)(b:x.SO=some d):dR G.S w u d:=by
 unfold AV.SO at b;split at b
 ·next cs=>
  obtain⟨j,k,rfl⟩:=Option.map_eq_some_iff.1 b;obtain⟨c,l⟩:=KY k;cases h with
  |agg m _ p q=>
   refine .ag m j (p.trans c.symm) λi v e t f=> ?_;have g:i<cs.length:=by rw[<-c];exact(Zj.1 f).1
   exact(q i v _ t (Zd g)).Ol (l i _ e (Zd g) f)
 ·exact h.Ol b
def ve{s:so}:MapKept.IsKey .string (.string s):=trivial
def alm{T k e:TypeId}{z:oZ}{n:Nat}{p:U (so×D)}{s:so}{ok:Bool}(hi:cp G w h)(C:AQ P T=some (k,e))(J:jY P e=some z)(L:jc P k=true)(M:h[n]?=some (.map p)):
 ∃v,(Instr.lookup T (.map (some (G.bn n))) (.string s) ok).run P w= .ok v w/\aM G w v (tI ok z (mH p s)):=by
 obtain⟨_,_,es,clock,E,y⟩:=hi.dN n _ M;have N:∀x∈es.toList,MapKept.IsKey .string x.key:=λx A=>by
  obtain⟨R,d,f,_⟩:=y.D4 x A;rw[f];exact ve
 have q:=vb L;have g:∀(v:oZ)(d:AV)(b:Bool),aM G w v d->aM G w (if ok then .tuple #[v,.bool b]else v) (bif ok then .bw [d,.d (.v (.bool b))]else d):=λv d b F=>by
  cases ok with
  |false=>exact F
  |true=>
   refine .bw #[v,.bool b] _ rfl λi u c l t=> ?_
   match i with
   |0=>simp at l t;subst l;subst t;exact F
   |1=>simp at l t;subst l;subst t;exact .d (.v _)
   |i+2=>simp at l
 rcases MapKept.findNow_spec (ve (s:=s)) es.toList 0 N with⟨f,B⟩|⟨j,m,f,B,S⟩
 ·have W:mH p s=none:=by
   cases hq:mH p s with
   |none=>rfl
   |some d=>
    obtain⟨x,A,kf⟩:=y.all s d hq;exact absurd kf (B x A)
  refine⟨if ok then .tuple #[z,.bool false]else z,?_,?_⟩;{simp [Instr.lookup,run_underlying (Pd C),MapKept.run_getObj_map E,MapKept.run_checkKey q ve,MapKept.run_findKey q f,Lb J,Result.andThen]};{rw[W];have:=g z _ false (at2 z);unfold tI;exact this}
 ·have jd:m∈es.toList:=ZZ B;obtain⟨R,d,H,k2,k3⟩:=y.D4 m jd;rw[S]at H;cases H
  refine⟨if ok then .tuple #[m.val,.bool true]else m.val,?_,?_⟩;{simp [Instr.lookup,run_underlying (Pd C),MapKept.run_getObj_map E,MapKept.run_checkKey q ve,MapKept.run_findKey q f,Result.andThen]};{rw[k2];have:=g m.val _ true (auF k3);unfold tI;exact this}
def ajC{T k e:TypeId}{n:Nat}{g:U (so×D)}{s:so}{v:oZ}{d:D}(hi:cp G w h)(hT:AQ P T=some (k,e))(q:jc P k=true)(hn:h[n]?=some (.map g))(hv:dR G.S w v d)(hlen:g.length<maxLen):
 ∃w',(Instr.mapUpdate T (.map (some (G.bn n))) (.string s) v).run P w= .ok () w'/\cf G.N G w G w'/\cp G w' (h.set n (.map ((s,d)::g))):=by
 obtain⟨hZ,hS,es,clock,H,c⟩:=hi.dN n _ hn;have qz:∀x∈es.toList,MapKept.IsKey .string x.key:=λx f=>by
  obtain⟨u,d,A,_⟩:=c.D4 x f;rw[A];exact ve
 have rJ:=vb q;have M:∀(C:Array MapEntry)(R:Nat)(w':Zy),w'=ChangeMaps.setBlock w (G.bn n) (.map C R)->xY G.S w C R ((s,d)::g)->cf G.N G w G w'/\cp G w' (h.set n (.map ((s,d)::g))):=by
  intro C R w' J W;have jV:∀b,b≠G.bn n->w'.heap[b]?=w.heap[b]?:=λb t=>by rw[J];exact ChangeMaps.heap_setBlock_other H _ t
  have Rq:w'.heap[G.bn n]?=some (.map C R):=by rw[J];exact ChangeMaps.heap_setBlock_same H _
  have hsz:w'.heap.size=w.heap.size:=by rw[J];simp [ChangeMaps.setBlock]
  have ia:∀b o,G.S b o->w'.cell? ⟨b,o,none⟩=w.cell? ⟨b,o,none⟩:=λb o hs=>World.cell?_of_block (jV b (λe=>hS o (e▸hs)));have hE:cf G.N G w G w':=⟨by rw[hsz];exact Zx _,λ_ _ h=>h,ia,λ_ _=>rfl,λ_ _=>.inl ⟨rfl,rfl⟩,iJ rfl,λb t=>jV b (λe=>hZ (e▸t)),by rw[J];rfl,by rw[J];rfl,by rw[J];rfl,λ_ _ h=>.inl h⟩;refine⟨hE,?_⟩;have np:cu h G n=some (G.bn n):=eN hn;have nL:(h.set n (.map ((s,d)::g)))[n]?=some (.map ((s,d)::g)):=by rw[ZB (Zj.1 hn).1]
  have fQ:∀m,m≠n->(h.set n (.map ((s,d)::g)))[m]?=h[m]?:=λm c=>by rw[Z7 (Ne.symm c)]
  have fg:∀m,cu (h.set n (.map ((s,d)::g))) G m=cu h G m:=λm=>by
   by_cases e:m=n;{subst e;rw[eN nL,eN hn];rfl};{unfold cu;rw[fQ m e]}
  refine⟨by rw[Zf];exact hi.len,λb t=>ZO (hi.z b t) hE.size,λb o hs=>ZO (hi.S b o hs) hE.size,λm B L=> ?_,λm m' b A l=>hi.inj m m' b (by rw[<-fg];exact A) (by rw[<-fg];exact l),hi.gl.keep hE⟩;by_cases e:m=n
  ·subst e;rw[nL]at L;cases L
   exact⟨hZ,hS,C,R,Rq,W.keep (λ_ _ h=>h) ia⟩
  ·rw[fQ m e]at L;have cV:∀b,cu h G m=some b->b≠G.bn n:=λb t eb=>e (hi.inj m n b t (by rw[eb];exact np));exact fj.keep (hi.lt L) hE (Zx _) ⟨rfl,rfl,rfl⟩ (λb t=>⟨jV b (cV _ ((eN L).trans t)),λo h=>h⟩) (hi.dN m B L)
 rcases MapKept.findNow_spec (ve (s:=s)) es.toList 0 qz with⟨A,l⟩|⟨j,e0,A,l,h3⟩
 ·have W:xY G.S w (es.push ⟨.string s,v,clock⟩) (clock+1) ((s,d)::g):=by
   refine⟨by have:=c.len;simp;omega,MapKept.stamped_push c.stamped l,λx f=> ?_,λu E F=> ?_,by have:=c.len;simp;omega,λi e p=> ?_,by rw[c.Oq];simp⟩
   ·simp only[Array.toList_push,ZM,ah]at f;rcases f with f|rfl
    ·obtain⟨u,E,k1,k2,k3⟩:=c.D4 x f;refine⟨u,E,k1,?_,k3⟩;rw[Ca,af (λe=>l x f (by rw[k1,e]))];exact k2
    ·exact⟨s,d,rfl,by rw[Ca,ae rfl],hv⟩
   ·rw[Ca]at F;simp only[Array.toList_push,ZM,ah];split at F
    ·next e=>subst e;exact⟨_,.inr rfl,rfl⟩
    ·obtain⟨x,f,q⟩:=c.all u E F;exact⟨x,.inl f,q⟩
   ·rw[Array.getElem?_push]at p;split at p
    ·next ei=>cases p;rw[ei];exact c.Oq
    ·exact c.born i e p
  obtain⟨f1,f2⟩:=M _ _ _ rfl W;refine⟨_,?_,f1,f2⟩;simp [Instr.mapUpdate,run_underlying (Pd hT),MapKept.run_getObj_map H,MapKept.run_checkKey rJ ve,MapKept.run_findKey rJ A,MapKept.run_setObj_map _ H,Result.andThen,ChangeMaps.setBlock]
 ·have hj:es[j]?=some e0:=by simpa using l
  have x7:j<es.toList.length:=(Zj.1 l).1;have atG:∀e',es[j]?=some e'->({e' with key:= .string s,val:=v}:MapEntry).key=e'.key:=λe' C8=>by rw[hj]at C8;cases C8;exact h3.symm
  have PQ:(es.modify j (λe'=>{e' with key:= .string s,val:=v})).toList=es.toList.set j {e0 with key:= .string s,val:=v}:=by
   rw[Array.toList_modify];exact ChangeMaps.modify_eq_set _ _ _ _ l
  have mc:(es.toList.map (·.key)).Nodup:=c.stamped.2.2;have W:xY G.S w (es.modify j (λe'=>{e' with key:= .string s,val:=v})) clock ((s,d)::g):=by
   refine⟨by simpa using c.size,MapKept.stamped_modify c.stamped _ _ (λ_ _=>rfl) (λe' _ C8=>atG e' C8),λx f=> ?_,λu E F=> ?_,by have:=c.len;simp;omega,λi e p=> ?_,by rw[c.Oq];simp⟩
   ·rw[PQ]at f;obtain⟨i,eK,y⟩:=List.getElem_of_mem f;rw[List.getElem_set]at y;split at y
    ·rw[<-y];exact⟨s,d,rfl,by rw[Ca,ae rfl],hv⟩
    ·next cV=>
     have mm:i<es.toList.length:=by simpa using eK
     have mb:x∈es.toList:=by rw[<-y];exact List.getElem_mem mm
     obtain⟨u,E,k1,k2,k3⟩:=c.D4 x mb;refine⟨u,E,k1,?_,k3⟩;rw[Ca,af ?_];{exact k2}
     ·intro C;have a1:(es.toList.map (·.key))[i]?=some (.string s):=by rw[Zm,Zd mm,y];simp [k1,C]
      have a2:(es.toList.map (·.key))[j]?=some (.string s):=by rw[Zm,l];simp [h3]
      have hii:i<(es.toList.map (·.key)).length:=by simpa using mm
      exact cV ((List.getElem?_inj hii mc).1 (a1.trans a2.symm)).symm
   ·rw[PQ];rw[Ca]at F;split at F
    ·next e=>subst e;exact⟨_,List.mem_iff_getElem?.2 ⟨j,ZB x7⟩,rfl⟩
    ·next cV=>
     obtain⟨x,f,q⟩:=c.all u E F;obtain⟨i,eK,y⟩:=List.getElem_of_mem f;refine⟨x,ak.2 ⟨i,by simpa using eK,?_⟩,q⟩;rw[List.getElem_set];split
     ·next e=>
      subst e;exfalso;have:es.toList[j]?=some x:=by rw[Zd eK,y]
      rw[this]at l;cases l
      rw[h3]at q;injection q with q;exact cV q
     ·exact y
   ·rw[Array.getElem?_modify]at p;split at p
    ·next ei=>
     subst ei;rw[hj]at p;cases p
     exact c.born _ e0 hj
    ·exact c.born i e p
  obtain⟨f1,f2⟩:=M _ _ _ rfl W;refine⟨_,?_,f1,f2⟩;simp [Instr.mapUpdate,run_underlying (Pd hT),MapKept.run_getObj_map H,MapKept.run_checkKey rJ ve,MapKept.run_findKey rJ A,hj,h3,MapKept.run_keyThatStays ve,MapKept.run_setObj_map _ H,Result.andThen,ChangeMaps.setBlock]
end
set_option linter.unusedVariables false
set_option linter.unusedSimpArgs false
section
variable {P:eG} {G:Gh} {w:Zy} {h:U ao}
def M9{w':Zy}(hi:cp G w h){n:Nat}{B B':ao}(y:h[n]?=some B)(M:∀G':Gh,B.fv G' n=G'.ow n)(R:∀G':Gh,B'.fv G' n=G'.ow n)(S:Nat->Nat->Prop)(v:oZ)(len:Nat)(ow:O Nat)
 (t:cf G.N G w (G.grow n S v len ow) w') (k:∀g,ow=some g->(g=w.heap.size\/G.ow n=some g)/\g<w'.heap.size)
 (A:∀b o,S b o->G.S b o\/ow=some b) (T:∀b,b<w.heap.size->ow≠some b->w'.heap[b]?=w.heap[b]?)
 (W:fj (G.grow n S v len ow) w' n B'):cp (G.grow n S v len ow) w' (h.set n B'):=by
 have E:∀m,m≠n->(h.set n B')[m]?=h[m]?:=λm c=>by rw[Z7 (Ne.symm c)]
 have F:(h.set n B')[n]?=some B':=by rw[ZB (Zj.1 y).1]
 have px:∀m(C:ao),m≠n->C.fv (G.grow n S v len ow) m=C.fv G m:=λm C c=>by
  cases C<;>simp [ao.fv,Gh.grow,c]
 have u:∀m,m≠n->cu (h.set n B') (G.grow n S v len ow) m=cu h G m:=λm c=>by
  unfold cu;rw[E m c];cases h[m]? with
  |none=>rfl
  |some C=>exact px m C c
 have H:cu (h.set n B') (G.grow n S v len ow) n=ow:=by rw[eN F,R];simp [Gh.grow]
 have x:∀m b,m≠n->ow=some b->cu h G m≠some b:=λm b c ho e=>by
  rcases (k b ho).1 with k|k
  ·have:=hi.kR e;omega
  ·exact c (hi.inj m n b e ((eN y).trans ((M G).trans k)))
 refine⟨by rw[Zf];exact hi.len,λb e=>ZO (hi.z b e) t.size,λb o d=> ?_,λm C c=> ?_,λm l b f i=> ?_,hi.gl.keep t⟩
 ·rcases A b o d with d|d
  ·exact ZO (hi.S b o d) t.size
  ·exact(k b d).2
 ·by_cases j:m=n
  ·subst j;rw[F]at c;cases c;exact W
  ·rw[E m j]at c;refine fj.keep (hi.lt c) t (Zx _) ⟨by simp [Gh.grow,j],by simp [Gh.grow,j],by simp [Gh.grow,j]⟩ (λb e=> ?_) (hi.dN m C c);have J:cu h G m=some b:=(eN c).trans e;have L:ow≠some b:=λe'=>x m b j e' J;refine⟨T _ (hi.kR J) L,λo kL d=> ?_⟩;rcases A _ o d with d|d
   ·exact kL d
   ·exact L d
 ·by_cases p:m=n<;>by_cases q:l=n
  ·rw[p,q]
  ·subst p;rw[u l q]at i;rw[H]at f;exact absurd i (x l b q f)
  ·subst q;rw[u m p]at f;rw[H]at i;exact absurd f (x m b p i)
  ·rw[u m p]at f;rw[u l q]at i;exact hi.inj m l b f i
def Gh.fP(G:Gh)(v:oZ)(len:Nat)(ow:O Nat):Gh:={G with N:=G.N+1,sg:=λn=>if n=G.N then v else G.sg n,fl:=λn=>if n=G.N then len else G.fl n,ow:=λn=>if n=G.N then ow else G.ow n}
def Uh{w':Zy}(hi:cp G w h)(B:ao)(x:∀(G':Gh) n,B.fv G' n=G'.ow n)(v:oZ)(len:Nat)(e:O Nat)(f:(∀b,b<w.heap.size->w'.heap[b]?=w.heap[b]?)/\w.heap.size<=w'.heap.size/\w'.os=w.os/\w'.tape=w.tape/\w'.output=w.output)
 (how:∀g,e=some g->w.heap.size<=g)
 (y:fj (G.fP v len e) w' G.N B):cf G.N G w (G.fP v len e) w'/\cp (G.fP v len e) w' (h++[B]):=by
 have j:∀n,n<G.N->n≠G.N:=λn c=>Nat.ne_of_lt c;have t:cf G.N G w (G.fP v len e) w':=⟨f.2.1,λ_ _ h=>h,λb o u=>World.cell?_of_block (f.1 b (hi.S b o u)),λ_ _=>rfl,λn c=>.inl ⟨by simp [Gh.fP,j n c],by simp [Gh.fP,j n c]⟩,iJ rfl,λb d=>f.1 b (hi.z b d),f.2.2.1,f.2.2.2.1,f.2.2.2.2,λ_ _ h=>.inl h⟩;have A:G.N<=(G.fP v len e).N:=cG _;have E:∀n(C:ao),n<G.N->C.fv (G.fP v len e) n=C.fv G n:=λn C c=>by
  cases C<;>simp [ao.fv,Gh.fP,Nat.ne_of_lt c]
 have k:∀n b,cu (h++[B]) (G.fP v len e) n=some b->(n<G.N/\cu h G n=some b)\/(n=G.N/\e=some b):=λn b d=>by
  by_cases c:n<h.length;{unfold cu at d;rw[ZT c,Zd c]at d;exact .inl ⟨hi.len▸c,by unfold cu;rw[Zd c,<-d];exact(E n _ (hi.len▸c)).symm⟩}
  ·by_cases F:n=h.length
   ·subst F;rw[eN (B:=B) gj,x]at d;exact .inr ⟨hi.len,by simpa [Gh.fP,hi.len]using d⟩
   ·rw[Em (Z1 (by simp;omega))]at d;cases d
 refine⟨t,by simp [Gh.fP,hi.len],λb d=>ZO (hi.z b d) f.2.1,λb o u=>ZO (hi.S b o u) f.2.1,λn C i=> ?_,λm n b H J=> ?_,hi.gl.keep t⟩
 ·by_cases c:n<h.length
  ·rw[ZT c]at i;have l:n<G.N:=hi.len▸c;exact fj.keep l t A ⟨by simp [Gh.fP,j n l],by simp [Gh.fP,j n l],by simp [Gh.fP,j n l]⟩ (λb d=>⟨f.1 b (hi.kR ((eN i).trans d)),λo h=>h⟩) (hi.dN n C i)
  ·have L:n=h.length:=by
    have:=(Zj.1 i).1;simp at this;omega
   subst L;simp at i;subst i;rw[hi.len];exact y
 ·rcases k m b H with⟨_,p⟩|⟨rfl,p⟩<;>rcases k n b J with⟨_,q⟩|⟨rfl,q⟩
  ·exact hi.inj m n b p q
  ·have:=hi.kR p;have:=how b q;omega
  ·have:=hi.kR q;have:=how b p;omega
  ·rfl
def aM.ud{n o len L k:Nat}{e:TypeId}{cs:U (U AV)}{u:oZ}(hi:cp G w h)(b:h[n]?=some (.vec e k cs))(c:cs.length=L)(d:aM G w u (.vec n o len L k)):Yj (G.sg n) u o len L k:=by
 have f:=(hi.dN n _ b).1;cases d with|vec _ _ _ _ _ i j l g=>exact g (by rw[<-c,f])
def aM.aco{n i j L k:Nat}{e:TypeId}{b:Nat}{cs:U (U AV)}{u:oZ}(hi:cp G w h)(c:h[n]?=some (.vec e b cs))(d:cs.length=L)(f:aM G w u (.dU n i j L k)):X6 (G.sg n) u i j L k:=by
 have g:=(hi.dN n _ c).1;cases f with|dU _ _ _ _ _ m p q l=>exact l (by rw[<-d,g])
def Ah{n:Nat}{e k:Nat}{cs:U (U AV)}(hi:cp G w h)(d:h[n]?=some (.vec e k cs))(f:cs≠ []):∃(g cap:Nat)(cur:Array oZ),G.ow n=some g/\G.sg n= .slice (some ⟨g,0,none⟩) cs.length cap/\¬G.Z g/\w.heap[g]?=some (.cells cur e (0,0))/\cs.length<=cap/\cap<=maxLen/\cur.size=cap*k/\(∀o,¬G.S g o)/\
        ∀(i j:Nat)(c:U AV)(x:AV)(u:oZ),cs[i]?=some c->c[j]?=some x->cur[i*k+j]?=some u->aM G w u x:=by
 obtain⟨_,_,_,b|b⟩:=hi.dN n _ d;{exact absurd b.2.1 f};{exact b}
def zb{n:Nat}{e k:Nat}{cs:U (U AV)}(hi:cp G w h)(b:h[n]?=some (.vec e k cs)):∀c∈cs,c.length=k:=(hi.dN n _ b).2.2.1
def lX{i k L j:Nat}(hi:i<L)(b:j<k):i*k+j<L*k:=by
 have:(i+1)*k<=L*k:=Xs k hi;rw[Ya]at this;omega
def MJ{i k j:Nat}(b:j<k):(i*k+j)/ k=i/\(i*k+j)%k=j:=by
 have c:0<k:=by omega
 exact⟨by rw[Nat.add_comm,Nat.add_mul_div_right _ _ c,Nat.div_eq_of_lt b,ZQ],by rw[Nat.add_comm,Nat.add_mul_mod_self_right,Nat.mod_eq_of_lt b]⟩
def ake{i i' j j' k:Nat}(d:j<k)(f:j'<k)(e:i*k+j=i'*k+j'):i=i'/\j=j':=by
 have b:=MJ (i:=i) d;have c:=MJ (i:=i') f;exact⟨by rw[<-b.1,<-c.1,e],by rw[<-b.2,<-c.2,e]⟩
def aiy{t n i j L k:Nat}{e:TypeId}{cs:U (U AV)}{c:U AV}{x:AV}{v:oZ}(hi:cp G w h)(d:h[n]?=some (.vec e k cs))(H:cs.length=L)(f:cs[i]?=some c)(b:SA P t c j=some x)(J:aM G w v (.dU n i j L k)):
 ∃u,(Instr.loadAt t v).run P w= .ok u w/\aM G w u x:=by
 have l:i<cs.length:=(Zj.1 f).1;have XN:c.length=k:=zb hi d c (ZZ f);obtain⟨g,M,cur,r1,N,r3,R,z,r6,A,r8,S⟩:=Ah hi d (λe=>by subst e;simp at l);obtain⟨_,g',Ab,B,T⟩:=J.aco hi d H;rw[N]at B;cases B
 have W:∀q,q<c.length->w.cell? ⟨g,i*k+q,none⟩=some (cur.getD (i*k+q) undef):=λq m=>by
  rw[cell_of_row w g _ cur e (0,0) R];have:i*k+q<cur.size:=by
    rw[A];exact ZO (lX l k7) (Xs k z)
  simp [Array.getD,this]
 have h2:∀(q:Nat)(y:AV),c[q]?=some y->aM G w (cur.getD (i*k+q) undef) y:=λq y m=>by
  have Wr:=(Zj.1 m).1;have a8:i*k+q<cur.size:=by
   rw[A];exact ZO (lX l k7) (Xs k z)
  have e1:cur[i*k+q]?=some (cur.getD (i*k+q) undef):=by simp [Array.getD,a8]
  exact S i q c y _ f m e1
 have p:=Yc (P:=P) (G:=G) (w:=w) (t:=t) (C:=(·=x)) g (i*k) c j (λq=>cur.getD (i*k+q) undef) W h2 (by
  unfold SA at b;revert b;cases nW P t with
  |none=>intro b;cases b
  |some E=>
   cases ZH P t with
   |none=>cases E<;>(intro b;cases b)
   |some kk=>
    cases E with
    |true=>
     simp only;intro b;cases F:cF (j+kk) c.length with
     |false=>rw[F]at b;cases b
     |true=>rw[F]at b;cases b;exact rfl
    |false=>
     simp only;intro b;rw[b])
 obtain⟨u,y,k1,k2,rfl⟩:=p;refine⟨u,?_,k2⟩;rw[T];simp [Instr.loadAt,Instr.sureAddr,k1]
def anW{t b off k:Nat}{T:TypeId}{v:oZ}{c:Array oZ}(f:w.heap[b]?=some (.cells c T (0,0)))(g:ZH P t=some k)(d:v.cells.size=k)(j:∀u∈v.cells.toList,u.oneCell'=true)(l:off+k<=c.size):
 (storeVar t ⟨b,off,none⟩ v).run P w= .ok () (w.setRow b (c.toList.take off++v.cells.toList++c.toList.drop (off+v.cells.toList.length)).toArray):=by
 obtain⟨i,m,p⟩:=Yd g;have e:=run_storeCells_at P b off T v.cells.toList 0 c w f (by rw[Z9,d];simpa using l) j;simp only[Nat.add_zero]at e;unfold storeVar;simp only[sizeOf,typeInfo,Sem.run_bind,d];simp [m,p,e]
def YI(vs:Array oZ)(us:U oZ)(off q:Nat)(d:off+us.length<=vs.size):(vs.toList.take off++us++vs.toList.drop (off+us.length)).toArray[q]?=if off<=q/\q<off+us.length then us[q-off]? else vs[q]?:=by
 rw[List.getElem?_toArray,ZU];have b:vs.toList.length=vs.size:=Z9;by_cases c:q<off;{rw[ZT (by simp;omega),List.getElem?_take_of_lt c,af k7,ZL]}
 ·rw[ZK (by simp;omega)];simp only[b6,b];rw[Nat.min_eq_left k7];by_cases e:q<off+us.length
  ·rw[ZT k7,ae k7]
  ·rw[ZK k7,List.getElem?_drop,af k7,show off+us.length+(q-off-us.length)=q by omega,ZL]
def YH(vs:Array oZ)(us:U oZ)(off:Nat)(b:off+us.length<=vs.size):(vs.toList.take off++us++vs.toList.drop (off+us.length)).toArray.size=vs.size:=by
 simp only[List.size_toArray,Zi,b6,ca,Z9];omega
def anT(cs ys:U AV)(off q:Nat)(c:off+ys.length<=cs.length):(jn cs off ys)[q]?=if off<=q/\q<off+ys.length then ys[q-off]? else cs[q]?:=by
 unfold jn;rw[ZU];by_cases b:q<off;{rw[ZT (by simp;omega),List.getElem?_take_of_lt b,af k7]}
 ·rw[ZK (by simp;omega)];simp only[b6];rw[Nat.min_eq_left k7];by_cases d:q<off+ys.length
  ·rw[ZT k7,ae k7]
  ·rw[ZK k7,List.getElem?_drop,af k7,show off+ys.length+(q-off-ys.length)=q by omega]
def Xu{n e k g cap:Nat}{cs cw:U (U AV)}{cur:Array oZ}{us:U oZ}{off:Nat}(hi:cp G w h)(B:h[n]?=some (.vec e k cs))(iF:0<k)(L:G.ow n=some g)(M:G.sg n= .slice (some ⟨g,0,none⟩) cs.length cap)(C:¬G.Z g)(E:w.heap[g]?=some (.cells cur e (0,0)))(R:cs.length<=cap)(T:cap<=maxLen)(W:cur.size=cap*k)(F:∀o,¬G.S g o)
 (l:off+us.length<=cur.size) (t:cw.length=cs.length) (jb:∀c∈cw,c.length=k)
 (BV:∀(i j:Nat)(c:U AV)(x:AV)(u:oZ),cw[i]?=some c->c[j]?=some x->(if off<=i*k+j/\i*k+j<off+us.length then us[i*k+j-off]? else cur[i*k+j]?)=some u->aM G w u x):
 ∃G',cf G.N G w G' (w.setRow g (cur.toList.take off++us++cur.toList.drop (off+us.length)).toArray)/\G'.N=G.N/\cp G' (w.setRow g (cur.toList.take off++us++cur.toList.drop (off+us.length)).toArray) (h.set n (.vec e k cw))/\(∀m,G'.sg m=G.sg m)/\(∀m,G'.fl m=G.fl m):=by
 obtain⟨w',f⟩:∃w',w'=w.setRow g (cur.toList.take off++us++cur.toList.drop (off+us.length)).toArray:=⟨_,rfl⟩;rw[<-f];have v:∀b,b≠g->w'.heap[b]?=w.heap[b]?:=λb l=>by rw[f];exact setRow_other w g b _ l
 have qp:w'.heap[g]?=some (.cells (cur.toList.take off++us++cur.toList.drop (off+us.length)).toArray e (0,0)):=by rw[f];exact setRow_heap w g cur _ e _ E
 have q:w'.heap.size=w.heap.size:=by rw[f];exact Qd w g _
 obtain⟨G',d⟩:∃G',G'=G.grow n G.S (G.sg n) (G.fl n) (some g):=⟨_,rfl⟩;have y:∀m,G'.sg m=G.sg m:=λm=>by rw[d];simp only[Gh.grow];split<;>simp_all
 have z:∀m,G'.fl m=G.fl m:=λm=>by rw[d];simp only[Gh.grow];split<;>simp_all
 have A:cf G.N G w G' w':=⟨by rw[q];exact Zx _,λb o h=>by rw[d];exact h,λb o p=>World.cell?_of_block (v b (λe=>F o (e▸p))),λ_ _=>by rw[d];rfl,λm _=>.inl ⟨z m,y m⟩,iJ (by rw[d];rfl) (by rw[d];rfl),λb l=>v b (λe=>C (e▸l)),by rw[f];rfl,by rw[f];rfl,by rw[f];rfl,λb o p=>.inl (by rw[d]at p;exact p)⟩;have H:=hi.dN n _ B;refine⟨G',A,by rw[d];rfl,?_,y,z⟩;subst d;refine M9 hi B (λ_=>rfl) (λ_=>rfl) _ _ _ _ A (λg' uY=> ?_) (λb o p=>.inl p) (λb _ gY=>v b (λe=>gY (by rw[e]))) ?_;{cases uY;exact⟨.inr L,by rw[q];exact(ZP.1 E).1⟩};{refine⟨by rw[z,t];exact H.1,by rw[t];exact H.2.1,jb,.inr ⟨g,cap,_,by simp [Gh.grow],by rw[y,t];exact M,C,qp,by rw[t];exact R,T,by rw[YH _ _ _ l];exact W,F,λi j c x u hc hx J=> ?_⟩⟩;rw[YI _ _ _ _ l]at J;exact(BV i j c x u hc hx J).keep A (Zx _)}
def aqs{t n i j L k:Nat}{e:TypeId}{cs:U (U AV)}{c:U AV}{x:AV}{v u:oZ}(hi:cp G w h)(B:h[n]?=some (.vec e k cs))(hL:cs.length=L)(C:cs[i]?=some c)(hv:aM G w v (.dU n i j L k))(hx:aM G w u x)(Xv:x.kQ=true)(ht:ZH P t=some x.cells.length)(hj:j+x.cells.length<=k)(iF:0<k):
 ∃w' G',(Instr.storeAt t v u).run P w= .ok () w'/\cf G.N G w G' w'/\G.N<=G'.N/\cp G' w' (h.set n (.vec e k (cs.set i (jn c j x.cells)))):=by
 have A:i<cs.length:=(Zj.1 C).1;have E:=zb hi B;have XN:c.length=k:=E c (ZZ C);obtain⟨g,F,cur,r1,M,r3,R,S,r6,T,r8,W⟩:=Ah hi B (λe=>by subst e;simp at A);obtain⟨_,g',Ab,p1,p2⟩:=hv.aco hi B hL;rw[M]at p1;cases p1
 obtain⟨H,c2⟩:=hx.cells Xv;have qt:u.cells.toList.length=x.cells.length:=by rw[Z9,H]
 have gL:∀y∈u.cells.toList,y.oneCell'=true:=λy f=>by
  obtain⟨q,p⟩:=List.mem_iff_getElem?.1 f;have Wr:u.cells[q]?=some y:=by rw[<-ZL];exact p
  have J:q<x.cells.length:=by rw[<-H];exact(ZP.1 Wr).1
  exact(c2 q y _ Wr (Zd J)).2
 have om:i*k+j+x.cells.length<=cur.size:=by
  have h1:(i+1)*k<=F*k:=Xs k (ZO A S);rw[Ya]at h1;rw[T];omega
 have eB:=anW (P:=P) (off:=i*k+j) R ht H gL om;obtain⟨G',e1,e2,e3,_⟩:=Xu (us:=u.cells.toList) (off:=i*k+j) (cw:=cs.set i (jn c j x.cells)) hi B iF r1 M r3 R S r6 T r8 (by rw[qt];exact om) (by rw[Zf]) (λd l=>by
     obtain⟨q,p⟩:=List.mem_iff_getElem?.1 l;by_cases e:i=q
     ·subst e;rw[ZB A]at p;cases p
      rw[Fj _ _ _ k7];exact XN
     ·rw[Z7 e]at p;exact E d (ZZ p)) (λa b d y z l f m=>by
     have kD:b<k:=by
      by_cases e:i=a
      ·subst e;rw[ZB A]at l;cases l
       have:=(Zj.1 f).1;rw[Fj _ _ _ k7]at this;omega
      ·rw[Z7 e]at l;rw[<-E d (ZZ l)];exact(Zj.1 f).1
     rw[qt]at m;by_cases e:i=a
     ·subst e;rw[ZB A]at l;cases l
      rw[anT _ _ _ _ k7]at f;by_cases hb:j<=b/\b<j+x.cells.length;{rw[ae hb]at f;rw[ae k7,show i*k+b-(i*k+j)=b-j by omega,ZL]at m;exact(c2 _ _ _ m f).1};{rw[af hb]at f;rw[af k7]at m;exact W i b c y z C f m}
     ·rw[Z7 e]at l;rw[af ?_]at m
      ·exact W a b d y z l f m
      ·intro hh;have:a*k+b=i*k+(a*k+b-i*k):=by omega
       exact e ((ake (i:=a) (i':=i) (j:=b) (j':=a*k+b-i*k) kD k7 this).1.symm))
 refine⟨_,G',?_,e1,by rw[e2];exact Zx _,e3⟩;rw[p2];simp [Instr.storeAt,Instr.sureAddr,eB]
end
section
variable {P:eG} {G:Gh} {w:Zy} {h:U ao}
structure QV(G:Gh)(w:World)(k:Nat)(ys:List (List AV))(us:List Value):Prop where
 len:us.length=ys.length*k
 wid:∀c∈ys,c.length=k
 one:∀u∈us,u.oneCell'=true
 rel:∀(i j:Nat)(c:List AV)(x:AV)(u:Value),ys[i]?=some c->c[j]?=some x->us[i*k+j]?=some u->aM G w u x
def VY{k tx e':Nat}{y:AV}{v:oZ}{ys:U (U AV)}(hi:cp G w h)(hv:aM G w v y)(hs:BM h k y ys)(iF:0<k)(B:P.underlying tx=some (.slice e')):
 ∃us,QV G w k ys us/\Src P k tx v ys.length us w:=by
 rcases hs with⟨xs,E,p,rfl⟩|⟨n,o,len,L,e,F,rfl,p,H,J,h5⟩
 ·obtain⟨us,M,Ai⟩:=(hv.list E).src iF p B;have hl:(bf xs).length=xs.length:=by unfold bf;rw[Zw]
  refine⟨us,⟨by rw[hl];exact M.len,λc f=> ?_,M.one,λi j c x u f l b=> ?_⟩,by rw[hl];exact Ai⟩;{unfold bf at f;obtain⟨d,hd,rfl⟩:=UZ.1 f;rw[Zw];exact p d hd}
  ·unfold bf at f;rw[Zm]at f;cases N:xs[i]? with
   |none=>rw[N]at f;cases f
   |some d=>
    rw[N]at f;cases f
    rw[Zm]at l;cases R:d[j]? with
    |none=>rw[R]at l;cases l
    |some z=>
     rw[R]at l;cases l
     obtain⟨u',a1,a2⟩:=M.rel i j d z N R;rw[a1]at b;cases b
     exact .d a2
 ·have t:=hv.ud hi p H;obtain⟨A,c,rfl,c1,c2,c3,c4⟩:=t.sl;have C:ys.length=len:=by rw[J,b6,ca,H];have:=t.ol;omega
  by_cases h0:len=0
  ·subst h0;have:ys=[]:=VC C;subst this;refine⟨[],⟨by simp,(λ_ h=>by cases h),(λ_ h=>by cases h),λi j c x u f=>by simp at f⟩,?_⟩;cases A with
   |none=>exact Src.ofNil w B c
   |some a=>exact Src.ofSlice w B a 0 c [] gj (λj u b=>by simp at b) (λu b=>by cases b)
  ·have ho:o<L:=by have:=t.ol;omega
   obtain⟨g,S,p1,rfl,p3⟩:=c4 ho;have cV:F≠ []:=λe=>by subst e;simp at H;omega
   obtain⟨g',Ab,cur,r1,r2,r3,r4,r5,r6,r7,r8,r9⟩:=Ah hi p cV;rw[r2]at p1;cases p1
   have T:=zb hi p;have W:∀q,q<len*k->o*k+q<cur.size:=λq m=>by
    have E:(o+len)*k<=S*k:=Xs k (by have:=t.ol;omega);rw[Ya]at E;rw[r7];omega
   have jU:∀i,i<len->ys[i]?=F[o+i]?:=λi eK=>by rw[J,List.getElem?_take_of_lt eK,List.getElem?_drop]
   have gL:∀q,q<len*k->(cur.getD (o*k+q) undef).oneCell'=true:=λq m=>by
    have DJ:q / k<len:=Nat.div_lt_of_lt_mul (by rw[Nat.mul_comm];exact m);have hkj:q%k<k:=Nat.mod_lt _ iF;obtain⟨d,ib⟩:∃d,F[o+q / k]?=some d:=⟨_,Zd (by have:=t.ol;omega)⟩;have HN:=T _ (ZZ ib);obtain⟨x,l⟩:∃x,d[q%k]?=some x:=⟨_,Zd (by rw[HN];exact hkj)⟩;have e1:(o+q / k)*k+q%k=o*k+q:=by
     rw[Ya];have:=Nat.div_add_mod q k;rw[Nat.mul_comm]at this;omega
    have Ea:cur[(o+q / k)*k+q%k]?=some (cur.getD (o*k+q) undef):=by
     rw[e1];simp [Array.getD,W q m]
    refine(r9 _ _ _ _ _ ib l Ea).kW ?_;have jd:d∈ys:=ZZ ((jU _ DJ).trans ib);have:=h5 _ jd;rw[Zc]at this;exact this _ (ZZ l)
   refine⟨(List.range (len*k)).map λq=>cur.getD (o*k+q) undef,⟨by rw[C];simp,λc f=>T c ?_,λu b=> ?_,λi j c x u f l b=> ?_⟩,?_⟩;{rw[J]at f;exact a6 (List.mem_of_mem_take f)};{obtain⟨q,m,rfl⟩:=UZ.1 b;exact gL q (List.mem_range.1 m)}
   ·have jT:i<len:=by rw[<-C];exact(Zj.1 f).1
    rw[jU i jT]at f;have K6:j<k:=by rw[<-T c (ZZ f)];exact(Zj.1 l).1
    have a8:i*k+j<len*k:=lX jT K6;rw[Zm,List.getElem?_range a8]at b;simp only[ZG,Vg]at b;refine r9 (o+i) j c x u f l ?_;rw[<-b,show(o+i)*k+j=o*k+(i*k+j) by rw[Ya];omega];simp [Array.getD,W _ a8]
   ·rw[C];refine Src.ofSlice w B _ len c _ gj (λj u b=> ?_) (λu b=> ?_)
    ·rw[nB,cell_of_row w g _ cur e (0,0) r4];rw[Zm]at b;by_cases hj:j<len*k
     ·rw[List.getElem?_range hj]at b;simp only[ZG,Vg]at b;rw[<-b];simp [Array.getD,W _ hj]
     ·rw[Z1 (by simp;omega)]at b;cases b
    ·obtain⟨q,m,rfl⟩:=UZ.1 b;exact gL q (List.mem_range.1 m)
def apT{α:Type}{k:Nat}(l:U α)(us:U α)(m i j:Nat)(b:l.length=m*k)(c:j<k):(l++us)[i*k+j]?=if i<m then l[i*k+j]? else us[(i-m)*k+j]?:=by
 by_cases h:i<m;{rw[ae h,ZT (by rw[b];exact lX h c)]};{have d:m*k<=i*k:=Xs k k7;rw[af h,ZK (by rw[b];omega),b,Nat.sub_mul,show i*k+j-m*k=i*k-m*k+j by omega]}
def Si{e k cap:Nat}{cs:U (U AV)}{cur:Array oZ}(hi:cp G w h)(h1:cs.length<=cap)(t:cap<=maxLen)(C:cur.size=cap*k)(E:∀c∈cs,c.length=k)(w0:Zy)(l:w0.heap=w.heap/\w0.os=w.os/\w0.tape=w.tape/\w0.output=w.output)
 (F:∀(i j:Nat)(c:U AV)(x:AV)(u:oZ),cs[i]?=some c->c[j]?=some x->cur[i*k+j]?=some u->aM G w u x):
 ∃G',cf G.N G w G' (w0.alloc (.cells cur e))/\G.N<=G'.N/\cp G' (w0.alloc (.cells cur e)) (h++[.vec e k cs])/\∀len,len<=cs.length->aM G' (w0.alloc (.cells cur e)) (.slice (some ⟨w.heap.size,0,none⟩) len cap) (.vec h.length 0 len cs.length k):=by
 have d:w0.heap.size=w.heap.size:=by rw[l.1]
 have H:(w0.alloc (.cells cur e)).heap[w.heap.size]?=some (.cells cur e (0,0)):=by rw[<-d];exact World.alloc_heap_new w0 _
 have m:∀b,b<w.heap.size->(w0.alloc (.cells cur e)).heap[b]?=w.heap[b]?:=λb v=>by rw[Below.heap_alloc w0 _ b (by rw[d];exact v),l.1]
 have f:(∀b,b<w.heap.size->(w0.alloc (.cells cur e)).heap[b]?=w.heap[b]?)/\w.heap.size<=(w0.alloc (.cells cur e)).heap.size/\(w0.alloc (.cells cur e)).os=w.os/\(w0.alloc (.cells cur e)).tape=w.tape/\(w0.alloc (.cells cur e)).output=w.output:=
  ⟨m,by simp [d],l.2.1,l.2.2.1,l.2.2.2⟩
 obtain⟨q,y⟩:∃q,q=Value.slice (some ⟨w.heap.size,0,none⟩) cs.length cap:=⟨_,rfl⟩;obtain⟨J,_⟩:cf G.N G w (G.fP q cs.length (some w.heap.size)) (w0.alloc (.cells cur e))/\True:=by
  refine⟨⟨f.2.1,λ_ _ h=>h,λb o A=>World.cell?_of_block (f.1 b (hi.S b o A)),λ_ _=>rfl,λn B=>.inl ⟨by simp [Gh.fP,Nat.ne_of_lt B],by simp [Gh.fP,Nat.ne_of_lt B]⟩,iJ rfl,λb v=>f.1 b (hi.z b v),f.2.2.1,f.2.2.2.1,f.2.2.2.2,λ_ _ h=>.inl h⟩,trivial⟩
 obtain⟨L,M⟩:=Uh (w':=w0.alloc (.cells cur e)) hi (.vec e k cs) (λ_ _=>rfl) q cs.length (some w.heap.size) f (λg R=>by cases R;exact Zx _) (by
  refine⟨by simp [Gh.fP],Ze h1 t,E,.inr ⟨w.heap.size,cap,cur,by simp [Gh.fP],by simp [Gh.fP,y],λT=>Yu _ (hi.z _ T),H,h1,t,C,λo A=>Yu _ (hi.S _ _ A),λi j c x u W hx hu=>(F i j c x u W hx hu).keep J (cG _)⟩⟩)
 refine⟨_,L,cG _,M,λlen p=> ?_⟩;rw[hi.len];refine .vec G.N 0 len cs.length k (by simp [Gh.fP]) ⟨_,_,_,rfl⟩ (by simp [Gh.fP]) λ_=>⟨by omega,⟨_,_,rfl,Ze p h1,t,h1,λ_=>⟨w.heap.size,cap,by simp [Gh.fP,y],by simp,by simp⟩⟩,λ_ e=>by subst e;simp [Gh.fP,y]⟩
def ajr{T e k len m dc:Nat}{i:TypeInfo}{z:oZ}{kl kc:IntKind}{l c:Int}(hi:cp G w h)(L:P.underlying T=some (.slice e))(M:P.info? e=some i)(R:i.zero=some z)(S:i.size=k)(W:i.bytes=dc)(t:z.cells.toList.length=k)(iF:0<k)
 (h0:0<=l) (mT:l<=c) (E:l.toNat=len) (f:c.toNat=m) (F:m<=maxLen) (hb:dc*m<=281474976710656):
 ∃u w' G',(Instr.makeSlice T (.int kl l) (.int kc c)).run P w= .ok u w'/\cf G.N G w G' w'/\G.N<=G'.N/\cp G' w' (h++[.vec e k (List.replicate m (z.cells.toList.map λu=>.d (.v u)))])/\aM G' w' u (.vec h.length 0 len m k):=by
 subst S;subst W;have gY:(i.bytes:Int)*c<=281474976710656:=by
  have:((i.bytes*m:Nat):Int)<=281474976710656:=by omega
  rw[Int.natCast_mul,<-f,Int.toNat_of_nonneg k7]at this;exact this
 have A:c<=9223372036854775807:=by have h:=F;simp [maxLen]at h;omega
 have H:=run_make (P:=P) w T e i z L M R kl kc l c h0 mT gY A;rw[E,f]at H;have B:(List.replicate m (z.cells.toList.map λu=>AV.d (.v u))).length=m:=Ym;obtain⟨G',g1,g2,g3,J⟩:=Si (e:=e) (k:=i.size) (cap:=m) (cs:=List.replicate m (z.cells.toList.map λu=>AV.d (.v u))) (cur:=madeCells z.cells (m*i.size)) hi (by rw[B];exact Zx _) F (size_madeCells _ _) (λc f=>by
  rw[List.eq_of_mem_replicate f,Zw];exact t) w ⟨rfl,rfl,rfl,rfl⟩ (λa b c x u f j g=>by
  have:=List.eq_of_mem_replicate (ZZ f);subst this;rw[Zm]at j;cases p:z.cells.toList[b]? with
  |none=>rw[p]at j;cases j
  |some y=>
   rw[p]at j;cases j
   have q:b<i.size:=by rw[<-t];exact(Zj.1 p).1
   have Xd:a<m:=by have:=(Zj.1 f).1;rwa [B]at this
   unfold madeCells at g;have a8:a*i.size+b<m*i.size:=lX Xd q;rw[Array.getElem?_map,Array.getElem?_range,ae a8]at g;simp only[ZG,Vg]at g;have C:z.cells.size=i.size:=by rw[<-Z9];exact t
   rw[C,(MJ (i:=a) q).2]at g;have uk:z.cells[b]?=some y:=by rw[<-ZL];exact p
   rw[getElem!_pos z.cells b (by rw[C];exact q)]at g;rw[ZI (by rw[C];exact q)]at uk;cases uk
   subst g;exact .d (.v _))
 rw[B]at J;refine⟨_,_,G',H,g1,g2,g3,J len ?_⟩;rw[<-E,<-f];omega
def amv{T tx ty e k dc n o len L:Nat}{i:TypeInfo}{z:oZ}{u v:oZ}{cs ys:U (U AV)}{us:U oZ}(hi:cp G w h)(hT:P.underlying T=some (.slice e))(mL:P.info? e=some i)(hz:i.zero=some z)(nT:i.size=k)(zf:i.bytes=dc)(ld:z.cells.size=k)(iF:0<k)
 (hn:h[n]?=some (.vec e k cs)) (hL:cs.length=L) (hu:aM G w u (.vec n o len L k)) (y:QV G w k ys us) (p:Src P k tx v ys.length us w)
 {L':Nat} {cw:U (U AV)} (tv:(o+len+ys.length<=L/\L'=L/\cw=cs.take (o+len)++ys++cs.drop (o+len+ys.length))\/(o=0/\len=L/\L'=L+ys.length/\cw=cs++ys/\L'<=maxLen/\L'*dc<=140737488355328)):
 ∃r w' G',(Builtin.append_ #[T,tx] ty #[u,v]).run P w= .ok r w'/\cf G.N G w G' w'/\G.N<=G'.N/\cp G' w' (h.set n (.vec e k cw))/\aM G' w' r (.vec n o (len+ys.length) L' k):=by
 subst nT;subst zf;have qH:=hi.lt hn;have jb:=zb hi hn;have mi:=hu.ud hi hn hL;have pE:=hi.dN n _ hn;have avw:=mi;obtain⟨yi,⟨A,c,rfl,c1,c2,c3,c4⟩,call⟩:=mi;by_cases hy:ys.length=0
 ·have jU:ys=[]:=VC hy;subst jU;have ng:us=[]:=VC (by rw[y.len];simp);subst ng;have E:=run_append_nothing (P:=P) w T tx ty e i hT mL A len c c1 v p;have e1:cw=cs:=by
   rcases tv with⟨_,_,e⟩|⟨_,_,_,e,_⟩
   ·rw[e];simp
   ·rw[e];simp
  have e2:L'=L:=by
   rcases tv with⟨_,e,_⟩|⟨_,_,e,_⟩
   ·exact e
   ·rw[e];simp
  subst e1;subst e2;refine⟨_,w,G,E,cf.refl _ _ _,Zx _,?_,by simpa using hu⟩;have:h.set n (.vec e i.size cw)=h:=by
   refine List.ext_getElem? λm=> ?_;by_cases J:m=n
   ·subst J;rw[ZB (Zj.1 hn).1,hn]
   ·rw[Z7 (Ne.symm J)]
  rw[this];exact hi
 ·have hy0:0<ys.length:=Nat.pos_of_ne_zero hy;have room:len+ys.length<=c->∀g cap cur,G.ow n=some g->G.sg n= .slice (some ⟨g,0,none⟩) cs.length cap->¬G.Z g->w.heap[g]?=some (.cells cur e (0,0))->cs.length<=cap->cap<=maxLen->cur.size=cap*i.size->(∀o,¬G.S g o)->
      (∀(a b:Nat)(d:U AV)(x:AV)(q:oZ),cs[a]?=some d->d[b]?=some x->cur[a*i.size+b]?=some q->aM G w q x)->A=some ⟨g,o*i.size,none⟩->o+c=cap->
      ∃r w' G',(Builtin.append_ #[T,tx] ty #[.slice A len c,v]).run P w= .ok r w'/\cf G.N G w G' w'/\G.N<=G'.N/\cp G' w' (h.set n (.vec e i.size cw))/\aM G' w' r (.vec n o (len+ys.length) L' i.size):=by
   intro qP g cap cur r1 r2 r3 r4 r5 r6 r7 r8 r9 rA rc;have om:(o+len)*i.size+us.length<=cur.size:=by
    rw[y.len,r7,<-Ya];exact Xs _ k7
   have Ch:∀j,j<us.length->(w.cell? ⟨g,o*i.size+len*i.size+j,none⟩).isSome=true:=λj hj=>by
    rw[cell_of_row w g _ cur e (0,0) r4,ZI (by rw[Ya]at om;omega)];rfl
   have E:=run_append_room_src (P:=P) w T tx ty e i hT mL g (o*i.size) len c v ys.length us p qP Ch (λj hj=>by unfold World.frozen?;rw[r4];simp);have lS:=run_storeCells_at P g (o*i.size+len*i.size) e us 0 cur w r4 (by rw[Ya]at om;simpa using om) y.one;have yL:=run_storeCells_cells (P:=P) g (o*i.size+len*i.size) us 0 w (by simpa using Ch) (λj hj=>by unfold World.frozen?;rw[r4];simp) y.one;simp only[Nat.add_zero]at lS yL;rw[lS]at yL;injection yL with _ e2;rw[<-e2,<-Ya]at E;rw[rA];have gW:∀(a b:Nat)(d:U AV)(x:AV)(q:oZ),cw[a]?=some d->d[b]?=some x->(if(o+len)*i.size<=a*i.size+b/\a*i.size+b<(o+len)*i.size+us.length then us[a*i.size+b-(o+len)*i.size]? else cur[a*i.size+b]?)=some q->aM G w q x:=by
    intro a b d x q l M t;have SH:d.length=i.size:=by
     have f:=ZZ l;rcases tv with⟨_,_,e⟩|⟨_,_,_,e,_⟩
     ·rw[e]at f;rcases ZM.1 f with f|f
      ·rcases ZM.1 f with f|f
       ·exact jb d (List.mem_of_mem_take f)
       ·exact y.wid d f
      ·exact jb d (a6 f)
     ·rw[e]at f;rcases ZM.1 f with f|f
      ·exact jb d f
      ·exact y.wid d f
    have kD:b<i.size:=by rw[<-SH];exact(Zj.1 M).1
    have Mn:(a<o+len/\cs[a]?=some d)\/(o+len<=a/\a<o+len+ys.length/\ys[a-(o+len)]?=some d)\/(o+len+ys.length<=a/\cs[a]?=some d):=by
     rcases tv with⟨hf,_,e⟩|⟨e0,e1,_,e,_⟩
     ·rw[e]at l;have Tb:(cs.take (o+len)).length=o+len:=by rw[b6];omega
      by_cases F:a<o+len;{rw[ZU,ZT (by rw[Tb];exact F),List.getElem?_take_of_lt F]at l;exact .inl ⟨F,l⟩}
      ·rw[ZU,ZK (by rw[Tb];omega),Tb]at l;by_cases h2:a-(o+len)<ys.length
       ·rw[ZT h2]at l;exact .inr (.inl ⟨by omega,by omega,l⟩)
       ·rw[ZK k7,List.getElem?_drop,show o+len+ys.length+(a-(o+len)-ys.length)=a by omega]at l;exact .inr (.inr ⟨by omega,l⟩)
     ·rw[e]at l;by_cases F:a<cs.length
      ·rw[ZT F]at l;exact .inl ⟨by omega,l⟩
      ·rw[ZK k7]at l;have:=(Zj.1 l).1;exact .inr (.inl ⟨by omega,by omega,by rw[show a-(o+len)=a-cs.length by omega];exact l⟩)
    rcases Mn with⟨F,h2⟩|⟨F,h2,h3⟩|⟨F,h2⟩
    ·rw[af (by have:=lX F kD;omega)]at t;exact r9 a b d x q h2 M t
    ·have C:(o+len)*i.size<=a*i.size:=Xs _ F;have a8:a*i.size+b<(o+len+ys.length)*i.size:=lX h2 kD;rw[Ya (o+len)]at a8;rw[ae ⟨by omega,by rw[y.len];exact a8⟩]at t;refine y.rel (a-(o+len)) b d x q h3 M ?_;rw[Nat.sub_mul,show a*i.size-(o+len)*i.size+b=a*i.size+b-(o+len)*i.size by omega];exact t
    ·have C:(o+len+ys.length)*i.size<=a*i.size:=Xs _ F;rw[Ya (o+len)]at C;rw[af (by rw[y.len];omega)]at t;exact r9 a b d x q h2 M t
   have adi:∀d∈cw,d.length=i.size:=λd f=>by
    rcases tv with⟨_,_,e⟩|⟨_,_,_,e,_⟩
    ·rw[e]at f;rcases ZM.1 f with f|f
     ·rcases ZM.1 f with f|f
      ·exact jb d (List.mem_of_mem_take f)
      ·exact y.wid d f
     ·exact jb d (a6 f)
    ·rw[e]at f;rcases ZM.1 f with f|f
     ·exact jb d f
     ·exact y.wid d f
   rcases tv with⟨hf,B,R⟩|⟨e0,e1,B,R,mz,o0⟩
   ·have W:cw.length=cs.length:=by rw[R];simp;omega
    obtain⟨G',k1,k2,k3,k4,k5⟩:=Xu (us:=us) (off:=(o+len)*i.size) (cw:=cw) hi hn iF r1 r2 r3 r4 r5 r6 r7 r8 om W adi gW;refine⟨_,_,G',E,k1,by rw[k2];exact Zx _,k3,?_⟩;refine .vec n o (len+ys.length) L' i.size (by rw[k2];exact qH) ⟨_,_,_,rfl⟩ (by rw[k5,B,pE.1,hL];exact Zx _) λ_=> ?_;rw[k4];refine⟨by omega,⟨_,_,rfl,qP,c2,by omega,λho=> ?_⟩,λho hl=> ?_⟩
    ·rw[B]at ho ⊢;obtain⟨g2,ahL,q1,q2,q3⟩:=c4 ho;exact⟨g2,ahL,q1,by rw[<-q2,rA],q3⟩
    ·subst ho;rw[r2,hL,<-B,<-hl];simp at rc;subst rc;simp
   ·subst e0;subst e1;simp only[ZQ,Nat.zero_mul]at*;subst rc;obtain⟨w',fU⟩:∃w',w'=w.setRow g (cur.toList.take (len*i.size)++us++cur.toList.drop (len*i.size+us.length)).toArray:=⟨_,rfl⟩;rw[<-fU]at E;have jV:∀b,b≠g->w'.heap[b]?=w.heap[b]?:=λb H=>by rw[fU];exact setRow_other w g b _ H
    have qp:w'.heap[g]?=some (.cells (cur.toList.take (len*i.size)++us++cur.toList.drop (len*i.size+us.length)).toArray e (0,0)):=by rw[fU];exact setRow_heap w g cur _ e _ r4
    have hsz:w'.heap.size=w.heap.size:=by rw[fU];exact Qd w g _
    obtain⟨sv,ot⟩:∃sv,sv=Value.slice (some ⟨g,0,none⟩) L' c:=⟨_,rfl⟩;have W:cw.length=L':=by rw[R,Zi,hL,B]
    have mG:G.fl n=len:=by rw[pE.1,hL]
    have hE:cf G.N G w (G.grow n G.S sv L' (some g)) w':=⟨by rw[hsz];exact Zx _,λ_ _ h=>h,λb q p=>World.cell?_of_block (jV b (λe=>r8 q (e▸p))),λ_ _=>rfl,λm _=>by
        by_cases J:m=n;{right;subst J;simp only[Gh.grow,if_true,mG];omega}
        ·left;exact⟨by simp [Gh.grow,J],by simp [Gh.grow,J]⟩,iJ rfl,λb H=>jV b (λe=>r3 (e▸H)),by rw[fU];rfl,by rw[fU];rfl,by rw[fU];rfl,λb q p=>.inl p⟩
    refine⟨_,w',_,E,hE,Zx _,M9 hi hn (λ_=>rfl) (λ_=>rfl) _ _ _ _ hE (λg' uY=>by cases uY;exact⟨.inr r1,by rw[hsz];exact(ZP.1 r4).1⟩) (λb q p=>.inl p) (λb _ gY=>jV b (λe=>gY (by rw[e]))) ?_,?_⟩;{refine⟨by simp [Gh.grow,W],by rw[W];exact mz,adi,.inr ⟨g,c,_,by simp [Gh.grow],by simp [Gh.grow,ot,W],r3,qp,by rw[W];omega,r6,by rw[YH _ _ _ om];exact r7,r8,λa b d x q l M t=> ?_⟩⟩;rw[YI _ _ _ _ om]at t;exact(gW a b d x q l M t).keep hE (Zx _)};{refine .vec n 0 (len+ys.length) L' i.size qH ⟨_,_,_,rfl⟩ (by simp [Gh.grow]) λ_=>⟨by omega,⟨_,_,rfl,qP,c2,by omega,λ_=>⟨g,c,by simp [Gh.grow,ot],by simp,by simp⟩⟩,λ_ e=> ?_⟩;simp [Gh.grow,ot,B]}
  rcases pE.2.2.2 with⟨b1,b2,A',b3⟩|⟨g,cap,cur,r1,r2,r3,r4,r5,r6,r7,r8,r9⟩
  ·
   subst b2;simp at hL;subst hL;have ho:o=0:=by omega
   have KR:len=0:=by omega
   subst ho;subst KR;have:=call rfl rfl;rw[b3]at this;injection this with q1 _ q2;subst q2;rcases tv with⟨hf,_,_⟩|⟨_,_,B,R,mz,o0⟩
   ·omega
   ·simp only[ZQ,W5]at B R;subst R;rw[B]at mz o0;have Wy:cw.length<=9223372036854775807:=by simp only[maxLen]at mz;omega
    have hold:(Builtin.firstCells i.size 0 (.slice A 0 0)).run P w.drew= .ok ([]:U oZ).toArray w.drew:=by
     cases A with
     |none=>exact run_firstCells_none _ _ _ _ _
     |some a=>exact run_firstCells_some _ _ _ _ _ _ [] gj (λj u hu=>by simp at hu)
    have E:=run_append_grow_src (P:=P) w T tx ty e i z hT mL hz A 0 0 [] hold v cw.length us p k7 k7 (growslice_fits k7 (by simpa using o0));simp only[ZQ,W5]at E;obtain⟨cap,kI⟩:∃cap,cap=grownCap w cw.length 0 e:=⟨_,rfl⟩;have lf:cw.length<=cap:=by rw[kI];exact grownCap_ge _ _ _ _
    have C:cap<=maxLen:=by rw[kI];exact grownCap_le_maxLen _ _ _ _ mz
    rw[<-kI]at E;obtain⟨cur,mf⟩:∃cur,cur=us.toArray++Builtin.zeroCells z.cells (cap-cw.length):=⟨_,rfl⟩;rw[<-mf]at E;have ib:cur.size=cap*i.size:=by
      have:=size_zeroCells z.cells (cap-cw.length);rw[mf,Array.size_append,this,List.size_toArray,y.len,ld,<-Ya]
      congr 1
      omega
    have gW:(w.drew.alloc (.cells cur e)).heap[w.heap.size]?=some (.cells cur e (0,0)):=World.alloc_heap_new w.drew _;have zW:∀b,b<w.heap.size->(w.drew.alloc (.cells cur e)).heap[b]?=w.heap[b]?:=λb H=>Below.heap_alloc w.drew _ b H;obtain⟨sv,ot⟩:∃sv,sv=Value.slice (some ⟨w.heap.size,0,none⟩) L' cap:=⟨_,rfl⟩;have mG:G.fl n=0:=by rw[pE.1];rfl
    have hE:cf G.N G w (G.grow n G.S sv L' (some w.heap.size)) (w.drew.alloc (.cells cur e)):=⟨by simp,λ_ _ h=>h,λb q p=>World.cell?_of_block (zW b (hi.S b q p)),λ_ _=>rfl,λm _=>by
        by_cases J:m=n;{right;subst J;simp only[Gh.grow,if_true,mG];omega}
        ·left;exact⟨by simp [Gh.grow,J],by simp [Gh.grow,J]⟩,iJ rfl,λb H=>zW b (hi.z b H),rfl,rfl,rfl,λb q p=>.inl p⟩
    refine⟨_,_,_,E,hE,Zx _,M9 hi hn (λ_=>rfl) (λ_=>rfl) _ _ _ _ hE (λg' uY=>by cases uY;exact⟨.inl rfl,by simp⟩) (λb q p=>.inl p) (λb H _=>zW b H) ?_,?_⟩
    ·refine⟨by simp [Gh.grow,B],mz,y.wid,.inr ⟨w.heap.size,cap,cur,by simp [Gh.grow],by simp [Gh.grow,ot,B],λhz=>Yu _ (hi.z _ hz),gW,lf,C,ib,λq p=>Yu _ (hi.S _ _ p),λa b d x q l M t=> ?_⟩⟩;have kD:b<i.size:=by rw[<-y.wid d (ZZ l)];exact(Zj.1 M).1
     have a8:a*i.size+b<us.length:=by rw[y.len];exact lX (Zj.1 l).1 kD
     rw[mf,Array.getElem?_append_left (by simpa using a8),List.getElem?_toArray]at t;exact(y.rel a b d x q l M t).keep hE (Zx _)
    ·rw[ZQ];refine .vec n 0 cw.length L' i.size qH ⟨_,_,_,rfl⟩ (by simp [Gh.grow]) λ_=>⟨by omega,⟨_,_,rfl,lf,C,by omega,λ_=>⟨w.heap.size,cap,by simp [Gh.grow,ot],by simp,by simp⟩⟩,λ_ e=> ?_⟩;simp [Gh.grow,ot,B]
  ·
   rcases tv with⟨hf,B,R⟩|⟨e0,e1,B,R,mz,o0⟩
   ·obtain⟨g2,ahL,q1,q2,q3⟩:=c4 k7;rw[r2]at q1;injection q1 with q4 _ q5;cases q4
    subst q5;exact room k7 g cap cur r1 r2 r3 r4 r5 r6 r7 r8 r9 q2 q3
   ·have:=call e0 e1;rw[r2]at this;injection this with q2 _ q3;by_cases qP:len+ys.length<=c
    ·exact room qP g cap cur r1 r2 r3 r4 r5 r6 r7 r8 r9 (by rw[q2,e0];simp) k7
    ·subst e0;subst q2;subst q3;rw[B]at mz o0;have Wy:L+ys.length<=9223372036854775807:=by simp only[maxLen]at mz;omega
     have LY:(cur.toList.take (len*i.size)).length=len*i.size:=by
      rw[b6,Z9,r7];exact Nat.min_eq_left (Xs _ c1)
     have hold:(Builtin.firstCells i.size len (.slice (some ⟨g,0,none⟩) len c)).run P w.drew= .ok (cur.toList.take (len*i.size)).toArray w.drew:=
      run_firstCells_some _ _ _ _ _ _ _ LY (λj q t=>by
       rw[nB,ZQ];show w.cell? ⟨g,j,none⟩=some q;rw[cell_of_row w g _ cur e (0,0) r4,<-ZL];have x7:=(Zj.1 t).1;rw[LY]at x7;rw[List.getElem?_take_of_lt x7]at t;exact t)
     have E:=run_append_grow_src (P:=P) w T tx ty e i z hT mL hz (some ⟨g,0,none⟩) len c _ hold v ys.length us p k7 k7 (growslice_fits k7 (by rw[e1];exact o0));obtain⟨cap,kI⟩:∃cap,cap=grownCap w (len+ys.length) c e:=⟨_,rfl⟩;have lf:len+ys.length<=cap:=by rw[kI];exact grownCap_ge _ _ _ _
     have C:cap<=maxLen:=by rw[kI];exact grownCap_le_maxLen _ _ _ _ (by rw[e1];exact mz)
     rw[<-kI]at E;obtain⟨wZ,mf⟩:∃wZ,wZ=(cur.toList.take (len*i.size)++us).toArray++Builtin.zeroCells z.cells (cap-(len+ys.length)):=⟨_,rfl⟩;rw[<-mf]at E;have zP:(cur.toList.take (len*i.size)++us).length=(len+ys.length)*i.size:=by rw[Zi,LY,y.len,<-Ya]
     have ib:wZ.size=cap*i.size:=by
      have:=size_zeroCells z.cells (cap-(len+ys.length));rw[mf,Array.size_append,this,List.size_toArray,zP,ld,<-Ya]
      congr 1
      omega
     have gW:(w.drew.alloc (.cells wZ e)).heap[w.heap.size]?=some (.cells wZ e (0,0)):=World.alloc_heap_new w.drew _;have zW:∀b,b<w.heap.size->(w.drew.alloc (.cells wZ e)).heap[b]?=w.heap[b]?:=λb H=>Below.heap_alloc w.drew _ b H;obtain⟨sv,ot⟩:∃sv,sv=Value.slice (some ⟨w.heap.size,0,none⟩) L' cap:=⟨_,rfl⟩;have mG:G.fl n=L:=by rw[pE.1,hL]
     have W:cw.length=L':=by rw[R,Zi,hL,B]
     have hE:cf G.N G w (G.grow n G.S sv L' (some w.heap.size)) (w.drew.alloc (.cells wZ e)):=⟨by simp,λ_ _ h=>h,λb q p=>World.cell?_of_block (zW b (hi.S b q p)),λ_ _=>rfl,λm _=>by
         by_cases J:m=n;{right;subst J;simp only[Gh.grow,if_true,mG];omega}
         ·left;exact⟨by simp [Gh.grow,J],by simp [Gh.grow,J]⟩,iJ rfl,λb H=>zW b (hi.z b H),rfl,rfl,rfl,λb q p=>.inl p⟩
     refine⟨_,_,_,E,hE,Zx _,M9 hi hn (λ_=>rfl) (λ_=>rfl) _ _ _ _ hE (λg' uY=>by cases uY;exact⟨.inl rfl,by simp⟩) (λb q p=>.inl p) (λb H _=>zW b H) ?_,?_⟩
     ·refine⟨by simp [Gh.grow,W],by rw[W,B];exact mz,λd l=> ?_,.inr ⟨w.heap.size,cap,wZ,by simp [Gh.grow],by simp [Gh.grow,ot,W],λhz=>Yu _ (hi.z _ hz),gW,by rw[W];omega,C,ib,λq p=>Yu _ (hi.S _ _ p),λa b d x q l M t=> ?_⟩⟩
      ·rw[R]at l;rcases ZM.1 l with l|l
       ·exact jb d l
       ·exact y.wid d l
      ·refine aM.keep hE (Zx _) ?_;have SH:d.length=i.size:=by
        have f:=ZZ l;rw[R]at f;rcases ZM.1 f with f|f
        ·exact jb d f
        ·exact y.wid d f
       have kD:b<i.size:=by rw[<-SH];exact(Zj.1 M).1
       have hal:a<len+ys.length:=by
        have:=(Zj.1 l).1;rw[W,B]at this;omega
       have a8:a*i.size+b<(cur.toList.take (len*i.size)++us).length:=by rw[zP];exact lX hal kD
       rw[mf,Array.getElem?_append_left (by simpa using a8),List.getElem?_toArray,apT _ us len a b LY kD]at t;rw[R]at l;by_cases F:a<len;{rw[ae F,List.getElem?_take_of_lt (lX F kD),ZL]at t;rw[ZT k7]at l;exact r9 a b d x q l M t};{rw[af F]at t;rw[ZK k7]at l;exact y.rel (a-len) b d x q (by rw[<-l];congr 1;omega) M t}
     ·refine .vec n 0 (len+ys.length) L' i.size qH ⟨_,_,_,rfl⟩ (by simp [Gh.grow]) λ_=>⟨by omega,⟨_,_,rfl,lf,C,by omega,λ_=>⟨w.heap.size,cap,by simp [Gh.grow,ot],by simp,by simp⟩⟩,λ_ e=> ?_⟩;simp [Gh.grow,ot,B,e1]
def YG{T tx ty e k dc:Nat}{i:TypeInfo}{z:oZ}{A:O Addr}{v:oZ}{ys:U (U AV)}{us:U oZ}(hi:cp G w h)(B:P.underlying T=some (.slice e))(C:P.info? e=some i)(L:i.zero=some z)(M:i.size=k)(R:i.bytes=dc)(S:z.cells.size=k)(iF:0<k)
 (c:QV G w k ys us) (E:Src P k tx v ys.length us w) (F:ys.length<=maxLen) (W:ys.length*dc<=140737488355328):
 ∃r w' G',(Builtin.append_ #[T,tx] ty #[.slice A 0 0,v]).run P w= .ok r w'/\cf G.N G w G' w'/\G.N<=G'.N/\cp G' w' (h++[.vec e k ys])/\aM G' w' r (.vec h.length 0 ys.length ys.length k):=by
 subst M;subst R;by_cases hy:ys.length=0;{have jU:ys=[]:=VC hy;subst jU;have ng:us=[]:=VC (by rw[c.len];simp);subst ng;have f:=run_append_nothing (P:=P) w T tx ty e i B C A 0 0 (Zx _) v E;obtain⟨hE,hI⟩:=Uh (w':=w) hi (.vec e i.size []) (λ_ _=>rfl) (.slice A 0 0) 0 none ⟨λ_ _=>rfl,Zx _,rfl,rfl,rfl⟩ (λg hg=>by cases hg) ⟨by simp [Gh.fP],by simp,(λ_ h=>by cases h),.inl ⟨by simp [Gh.fP],rfl,A,by simp [Gh.fP]⟩⟩;refine⟨_,w,_,f,hE,cG _,hI,?_⟩;rw[hi.len];exact .vec G.N 0 0 0 i.size (by simp [Gh.fP]) ⟨_,_,_,rfl⟩ gj λ_=>⟨by omega,⟨A,0,rfl,Zx _,Wl _,by omega,λh=>by omega⟩,λ_ _=>by simp [Gh.fP]⟩}
 ·have Wy:ys.length<=9223372036854775807:=by simp only[maxLen]at F;omega
  have l:(Builtin.firstCells i.size 0 (.slice A 0 0)).run P w.drew= .ok ([]:U oZ).toArray w.drew:=by
   cases A with
   |none=>exact run_firstCells_none _ _ _ _ _
   |some a=>exact run_firstCells_some _ _ _ _ _ _ [] gj (λj u hu=>by simp at hu)
  have f:=run_append_grow_src (P:=P) w T tx ty e i z B C L A 0 0 [] l v ys.length us E k7 k7 (growslice_fits k7 (by simpa using W));simp only[ZQ,W5]at f;obtain⟨cap,m⟩:∃cap,cap=grownCap w ys.length 0 e:=⟨_,rfl⟩;have lf:ys.length<=cap:=by rw[m];exact grownCap_ge _ _ _ _
  have p:cap<=maxLen:=by rw[m];exact grownCap_le_maxLen _ _ _ _ F
  rw[<-m]at f;obtain⟨cur,t⟩:∃cur,cur=us.toArray++Builtin.zeroCells z.cells (cap-ys.length):=⟨_,rfl⟩;rw[<-t]at f;have ib:cur.size=cap*i.size:=by
    have:=size_zeroCells z.cells (cap-ys.length);rw[t,Array.size_append,this,List.size_toArray,c.len,S,<-Ya]
    congr 1
    omega
  obtain⟨G',g1,g2,g3,g4⟩:=Si (e:=e) (k:=i.size) (cap:=cap) (cs:=ys) (cur:=cur) hi lf p ib c.wid w.drew ⟨rfl,rfl,rfl,rfl⟩ (λa b d x q y H J=>by
   have kD:b<i.size:=by rw[<-c.wid d (ZZ y)];exact(Zj.1 H).1
   have a8:a*i.size+b<us.length:=by rw[c.len];exact lX (Zj.1 y).1 kD
   rw[t,Array.getElem?_append_left (by simpa using a8),List.getElem?_toArray]at J;exact c.rel a b d x q y H J)
  exact⟨_,_,G',f,g1,g2,g3,g4 _ (Zx _)⟩
end
def Q0:∀(cs:U AV)(l:U gd),AV.yO cs=some l->cs.length=l.length/\∀(i:Nat)(x:AV)(c:gd),cs[i]?=some x->l[i]?=some c->x.cap=some c
 |[],l,h=>by
  unfold AV.yO at h;cases h;exact⟨rfl,λi x c f=>by simp at f⟩
 |x::cs,l,h=>by
  unfold AV.yO at h;split at h
  ·next c g j k=>
   cases h
   obtain⟨m,p⟩:=Q0 cs g k;refine⟨by simp [m],λi y d b e=> ?_⟩
   match i with
   |0=>simp only[List.getElem?_cons_zero,Vg]at b e;subst b;subst e;exact j
   |i+1=>exact p i y d (by simpa using b) (by simpa using e)
  ·cases h
def aM.cap{G:Gh}{w:Zy}{u:oZ}{x:AV}(h:aM G w u x):∀c,x.cap=some c->pD G.S w u c:=by
 induction h with
 |d h=>intro c g;simp only[AV.cap]at g;cases g;exact .d h
 |own n p h j y z=>intro c g;simp only[AV.cap]at g;cases g;exact .d j
 |full p j z=>intro c g;simp only[AV.cap]at g;cases g;exact .d j
 |bm p i k b o u x A B C=>
  intro c g;simp only[AV.cap,A]at g;cases g
  exact .bm x k b o u B C
 |fn f E cs F h H=>
  intro c g;simp only[AV.cap]at g;split at g
  ·next l e=>
   cases g
   obtain⟨m,J⟩:=Q0 cs l e;refine .fn f E l (F.trans m) λi v d L q=> ?_;have t:i<cs.length:=by rw[m];exact(Zj.1 q).1
   exact H i v _ L (Zd t) d (J i _ d (Zd t) q)
  ·cases g
 |hid h m=>intro c g;simp only[AV.cap]at g;cases g;exact h
 |agg=>intro c g;simp [AV.cap]at g
 |bw=>intro c g;simp [AV.cap]at g
 |ptr=>intro c g;simp [AV.cap]at g
 |row=>intro c g;simp [AV.cap]at g
 |mp=>intro c g;simp [AV.cap]at g
 |cD=>intro c g;simp [AV.cap]at g
 |vec=>intro c g;simp [AV.cap]at g
 |dU=>intro c g;simp [AV.cap]at g
 |dead=>intro c g;simp [AV.cap]at g
section
variable {P:eG} {r:O Nat} {n N0:Nat} {G:Gh} {w:Zy} {a:Act} {s:St} {o:Oper} {K:St->Prop} {Q:Exit->Act->Zy->Prop}
def zL(f:dk G w a s)(l:Array Operand):(l.map a.eval).size=(l.toList.map (ev s)).length/\∀(i:Nat)(u:oZ)(c:AV),(l.map a.eval)[i]?=some u->(l.toList.map (ev s))[i]?=some c->aM G w u c:=by
 refine⟨by simp,λi u c b d=> ?_⟩;rw[Array.getElem?_map]at b;rw[Zm,ZL]at d;cases e:l[i]? with
 |none=>rw[e]at b;cases b
 |some x=>rw[e]at b d;cases b;cases d;exact f.ev x
def YE(e:dk G w a s)(l:Array (Nat×Operand)):(l.map λ(i,x)=>(i,a.eval x)).toList.length=(l.toList.map λp=>(p.1,ev s p.2)).length/\
 ∀(i:Nat)(p:Nat×AV)(q:Nat×oZ),(l.toList.map λp=>(p.1,ev s p.2))[i]?=some p->(l.map λ(i,x)=>(i,a.eval x)).toList[i]?=some q->q.1=p.1/\aM G w q.2 p.2:=by
 refine⟨by simp,λi p q b c=> ?_⟩;rw[ZL,Array.getElem?_map]at c;rw[Zm,ZL]at b;cases d:l[i]? with
 |none=>rw[d]at b;cases b
 |some x=>rw[d]at b c;cases b;cases c;exact⟨rfl,e.ev x.2⟩
def Fa{x y:Operand}{T b:TypeId}(c:Call)(d:c.callee= .builtin .append)(h1:c.args.toList=[x,y])(e:c.argTypes.toList=[T,b])(f:o.op= .call c):
 (execOp a.eval o).run P w=((Builtin.append_ #[T,b] o.type #[a.eval x,a.eval y]).run P w).andThen λv w'=>.ok (.value v) w':=by
 have g:c.args= #[x,y]:=by rw[<-Array.toList_inj];exact h1
 have i:c.argTypes= #[T,b]:=by rw[<-Array.toList_inj];exact e
 unfold execOp;simp only[f,resolve,d,g,i,invoke,builtin,Sem.run_bind,Sem.run_pure,Result.andThen_ok,List.map_toArray,ZY,ai]
def Zr{x:Operand}{T:TypeId}(c:Call)(b:c.callee= .builtin .len)(h1:c.args.toList=[x])(d:c.argTypes.toList=[T])(e:o.op= .call c):
 (execOp a.eval o).run P w=((Builtin.len_ #[T] o.type #[a.eval x]).run P w).andThen λv w'=>.ok (.value v) w':=by
 have f:c.args= #[x]:=by rw[<-Array.toList_inj];exact h1
 have g:c.argTypes= #[T]:=by rw[<-Array.toList_inj];exact d
 unfold execOp;simp only[e,resolve,b,f,g,invoke,builtin,Sem.run_bind,Sem.run_pure,Result.andThen_ok,List.map_toArray,ZY,ai]
def apy(c:Call)(b:c.callee= .builtin .max)(d:o.op= .call c):
 (execOp a.eval o).run P w=((Builtin.max_ c.argTypes o.type (c.args.map a.eval)).run P w).andThen λv w'=>.ok (.value v) w':=by
 unfold execOp;simp only[d,resolve,b,invoke,builtin,Sem.run_bind,Sem.run_pure,Result.andThen_ok]
def ato(c:Call)(b:c.callee= .builtin .min)(d:o.op= .call c):
 (execOp a.eval o).run P w=((Builtin.min_ c.argTypes o.type (c.args.map a.eval)).run P w).andThen λv w'=>.ok (.value v) w':=by
 unfold execOp;simp only[d,resolve,b,invoke,builtin,Sem.run_bind,Sem.run_pure,Result.andThen_ok]
def YD{j:Bool}{k m:IntKind}{z:Int}:∀(l:U AV)(d:U oZ)(x:Int),d.length=l.length->(∀(i:Nat)(u:oZ)(c:AV),d[i]?=some u->l[i]?=some c->aM G w u c)->PD j k x l=some (m,z)->
 (d.foldlM (if j then Builtin.max2 else Builtin.min2) (.int k x)).run P w= .ok (.int m z) w
 |[],[],x,_,_,h=>by cases h;simp
 |[],_::_,_,f,_,_=>by simp at f
 |_::_,[],_,f,_,_=>by simp at f
 |y::l,u::d,x,f,p,h=>by
  unfold PD at h;split at h;{next e=>cases e}
  ·next A b B e=>
   cases e
   have q:=(p 0 u _ rfl rfl).val;subst q;have g:=YD l d _ (by simpa using f) (λi u c t v=>p (i+1) u c (by simpa using t) (by simpa using v)) h;rw[List.foldlM_cons,Sem.run_bind];cases j with
   |true=>simp only[if_true,Tj]at g ⊢;simp only[Builtin.max2,Sem.run_pure,Result.andThen_ok];exact g
   |false=>simp only[Bool.false_eq_true,if_false,Tf]at g ⊢;simp only[Builtin.min2,Sem.run_pure,Result.andThen_ok];exact g
  ·cases h
def YC{m:Bool}{k:IntKind}{z:Int}{l:U AV}{b:Array oZ}(e:b.size=l.length)(t:∀(i:Nat)(u:oZ)(c:AV),b[i]?=some u->l[i]?=some c->aM G w u c)(h:Ey m l=some (k,z)):
 ∃u us,b.toList=u::us/\(us.foldlM (if m then Builtin.max2 else Builtin.min2) u).run P w= .ok (.int k z) w:=by
 unfold Ey at h;split at h
 ·next y x p=>
  cases f:b.toList with
  |nil=>rw[<-Z9,f]at e;simp at e
  |cons u us=>
   refine⟨u,us,rfl,?_⟩;have q:∀(i:Nat)(v:oZ)(c:AV),(u::us)[i]?=some v->(AV.d (.v (.int y x))::p)[i]?=some c->aM G w v c:=λi v c g j=>t i v c (by rw[<-ZL,f];exact g) j;have A:=(q 0 u _ rfl rfl).val;subst A;refine YD p us x ?_ (λi v c g j=>q (i+1) v c (by simpa using g) (by simpa using j)) h;rw[<-Z9,f]at e;simpa using e
 ·cases h
def QI{f:FuncId}(h:IA P f=true)(args:Array oZ)(w:Zy):(callFunc f args).run P w= .ok (.enter f args) w:=by
 unfold IA at h;cases b:P.funcs[f]? with
 |none=>rw[b]at h;simp at h
 |some c=>
  rw[b]at h;simp only[Zo,UC]at h;obtain⟨d,g⟩:=h;have i:c.body≠none:=by intro e;rw[e]at d;cases d
  have j:c.name≠ "runtime.NumGoroutine" :=by simpa using g
  simp [callFunc,b,j,i]
def amb(j:dk G w a s)(C:N0<=G.N){x:AV}{h':U ao}{p:Sd}(c:sL P o.op (ev s) s.h=some (x,h',p))(W:p.ok)(E:K ((s.wh h').put o.dst x)):o.wpIn (WF r) n P a w (kE N0 G w K) Q:=by
 have A:=j.ev;unfold sL at c;split at c
 next T g=>
  split at c
  ·next q B=>
   cases c
   obtain⟨i1,i2,i3⟩:=apW j.inv;exact rZ (by rw[g];simp) j C (v:= .map (some w.heap.size)) (by unfold execOp;simp [g,run_makeMap,Result.andThen]) i1 (cG _) i2 i3 E
  ·cases c
 next T m i ok g=>
  split at c
  ·next k e B=>
   split at c
   ·next z hz=>
    split at c
    ·next b F H J=>
     split at c
     ·next kv L=>
      cases l:jc P k with
      |false=>rw[l]at c;cases c
      |true=>
       rw[l]at c;cases c
       obtain⟨v,M,R⟩:=alm (ok:=ok) (s:=F) j.inv B hz l L;have t:=A m;rw[H]at t;have f:=A i;rw[J]at f;have f:=f.val;have S:a.eval m= .map (some (G.bn b)):=by
        generalize a.eval m=u at t;cases t with|mp _ _=>rfl
       exact gK (by rw[g];simp) j C (by unfold execOp;simp [g,S,f,M,Result.andThen]) R E
     ·cases c
    ·cases c
   ·cases c
  ·cases c
 next T m i y g=>
  split at c
  ·next k e B=>
   split at c
   ·next b F d H J hd=>
    split at c
    ·next kv L=>
     cases l:jc P k with
     |false=>rw[l]at c;cases c
     |true=>
      rw[l]at c;cases c
      obtain⟨w',M,R,r3⟩:=ajC (s:=F) j.inv B l L ((A y).toM hd) W;have t:=A m;rw[H]at t;have f:=A i;rw[J]at f;have f:=f.val;have S:a.eval m= .map (some (G.bn b)):=by
       generalize a.eval m=u at t;cases t with|mp _ _=>rfl
      exact SF (by rw[g];simp) j C (by unfold execOp;simp [g,S,f,M,Result.andThen]) R (Zx _) r3 E
    ·cases c
   ·cases c
  ·cases c
 next=>cases c
def YB(B:dk G w a s)(E:N0<=G.N)(h:tz P o K s):o.wpIn (WF r) n P a w (kE N0 G w K) Q:=by
 have H:=B.ev;unfold tz dg at h;split at h
 next x l=>exact gK (by rw[l];simp) B E (v:=a.eval x) (by unfold execOp;rw[l];rfl) (H x) h
 next x l=>exact gK (by rw[l];simp) B E (v:=a.eval x) (by unfold execOp;rw[l];rfl) (H x) h
 next c x y l=>
  split at h
  next t C=>
   have hb:=H c;rw[C]at hb;have e:=hb.bool;cases t with
   |true=>exact gK (by rw[l];simp) B E (v:=a.eval x) (by unfold execOp;simp [l,e,asBool]) (H x) (h.1 rfl)
   |false=>exact gK (by rw[l];simp) B E (v:=a.eval y) (by unfold execOp;simp [l,e,asBool]) (H y) (h.2 rfl)
  next=>exact h.elim
 next e l=>
  split at h
  next z hz=>
   obtain⟨i1,i2⟩:=Yg B.inv z.cells e (z.cells.toList.map λu=>.d (.v u)) gj (λi u c M C=>by
    rw[Zm,ZL,M]at C;cases C;exact .d (.v u))
   exact rZ (by rw[l];simp) B E (by unfold execOp;simp [l,Instr.alloc,Lb hz,newVar,newRow]) (Iu G w B.inv.z B.inv.S _) (cG _) i1 i2 h
  next=>exact h.elim
 next e x l=>
  obtain⟨hb,hK⟩:=cm.1 h;have hr:=(H x).ahU hb;obtain⟨i1,i2⟩:=Yg B.inv (a.eval x).cells e (ev s x).cells hr.len hr.rel;exact rZ (by rw[l];simp) B E (by unfold execOp;simp [l,Instr.box,newVar,newRow]) (Iu G w B.inv.z B.inv.S _) (cG _) i1 i2 hK
 next t x l=>
  obtain⟨u,y,L,J,W⟩:=YW B.inv (H x) h;exact gK (by rw[l];simp) B E (by unfold execOp;simp [l,L]) J W
 next t x y l=>
  unfold Ae at h;split at h
  next m off hm=>
   split at h
   next cs ib=>
    split at h
    case h_2=>exact h.elim
    rename_i k hk
    obtain⟨gn,h4⟩:=cm.1 h;simp only[Zo,TC,dT]at gn;obtain⟨⟨rfl,J⟩,W⟩:=gn;have L:=hk;have A:=H x;rw[hm]at A;obtain⟨w',r1,r2,r3⟩:=aop (P:=P) B.inv ib (H y) J L W;have ex:a.eval x= .pointer (some ⟨G.bn m,off,none⟩):=by
     generalize a.eval x=u at A;cases A with
     |ptr=>rfl
    exact SF (by rw[l];simp) B E (by unfold execOp;simp [l,Instr.storeAt,Instr.sureAddr,ex,r1]) r2 (Zx _) r3 h4
   next=>exact h.elim
  next=>exact h.elim
 next x l=>
  have A:=H x;split at h
  next m off hm=>
   rw[hm]at A;generalize R:a.eval x=u at A;cases A with
   |ptr _ _ zk=>exact gK (by rw[l];simp) B E (by unfold execOp;simp [l,R]) (.ptr m off zk) h
  next xs i off hm=>
   rw[hm]at A;generalize R:a.eval x=u at A;have CI:=A;cases A with
   |bm=>exact gK (by rw[l];simp) B E (by unfold execOp;simp [l,R]) CI h
  next f cs hm=>
   rw[hm]at A;generalize R:a.eval x=u at A;have CI:=A;cases A with
   |fn=>exact gK (by rw[l];simp) B E (by unfold execOp;simp [l,R]) CI h
  next=>exact h.elim
 next T x f l=>
  split at h
  next fo k g hT=>
   have A:=H x;split at h
   next m off hm=>
    rw[hm]at A;generalize R:a.eval x=u at A;cases A with
    |ptr _ _ zk=>exact gK (by rw[l];simp) B E (by unfold execOp;simp [l,R,Tt hT]) (.ptr m (off+fo) zk) h
   next xs i off hm=>
    rw[hm]at A;generalize R:a.eval x=u at A;cases A with
    |bm _ _ _ b oo us c A hS M=>exact gK (by rw[l];simp) B E (by unfold execOp;simp [l,R,Tt hT];rfl) (by rw[Nat.add_assoc];exact .bm xs i (off+fo) b oo us c A hS M) h
   next=>exact h.elim
  next=>exact h.elim
 next T x f l=>
  obtain⟨u,y,L,J,W⟩:=aoX (H x) h;exact gK (by rw[l];simp) B E (by unfold execOp;simp [l,L]) J W
 next T x i l=>
  obtain⟨u,y,L,J,W⟩:=akb (H x) (H i) h;exact gK (by rw[l];simp) B E (by unfold execOp;simp [l,L]) J W
 next T x i l=>
  split at h
  next b z hb hz=>
   obtain⟨hT,h0,h⟩:=cm.1 h;have hT:=vb hT;have A:=H x;rw[hb]at A;have ex:=A.val;obtain⟨k,ei⟩:=(H i).int hz;split at h
   next c C=>
    refine gK (by rw[l];simp) B E (v:= .int .u8 c.toNat) ?_ (.d (.v _)) h;unfold execOp;simp [l,Instr.index,ex,ei,asIntOf,run_underlying hT,h0,C]
   next=>exact h.elim
  next=>exact h.elim
 next T ps l=>
  obtain⟨p1,p2⟩:=YE B ps;obtain⟨u,y,L,J,W⟩:=aod p1 p2 h;exact gK (by rw[l];simp) B E (by unfold execOp;simp only[l,Sem.run_bind,L];rfl) J W
 next T len ps l=>
  obtain⟨p1,p2⟩:=YE B ps;obtain⟨u,w',G',y,L,J,W,h4,h5,h6⟩:=ate (T:=T) B.inv p1 p2 h;exact rZ (by rw[l];simp) B E (by unfold execOp;simp only[l,Sem.run_bind,L];rfl) J W h4 h5 h6
 next T x lo hi mx l=>
  obtain⟨u,y,L,J,W⟩:=apl B (H x) h;exact gK (by rw[l];simp) B E (by unfold execOp;simp [l,L]) J W
 next x i l=>
  have A:=H x;split at h
  next cs ib=>
   rw[ib]at A;generalize R:a.eval x=u at A;split at h
   next c C=>
    cases A with
    |bw vs _ hl hr=>
     have a8:i<vs.size:=by rw[hl];exact(Zj.1 C).1
     exact gK (by rw[l];simp) B E (v:=vs[i]) (by unfold execOp;simp [l,R,Instr.extract,a8]) (hr i _ c (ZI a8) C) h
   next=>exact h.elim
  next=>exact h.elim
 next f first dz l=>
  split at h
  ·next x A=>
   unfold TX at A;split at A
   ·next e1=>
    cases A
    have auY:first= #[]:=by
     rw[<-Array.toList_inj];exact List.map_eq_nil_iff.1 e1
    subst auY;obtain⟨p1,p2⟩:=zL B dz;exact gK (by rw[l];simp) B E (v:= .func (.func f) #[] (dz.map a.eval)) (by unfold execOp;simp [l,Instr.makeFunc]) (.fn f _ _ p1 p2) h
   ·split at A
    ·next cs e1 e2=>
     cases A
     have anV:dz= #[]:=by
      rw[<-Array.toList_inj];exact List.map_eq_nil_iff.1 e2
     subst anV;obtain⟨p1,p2⟩:=zL B first
     obtain⟨c1,c2⟩:=Q0 _ _ e1;exact gK (by rw[l];simp) B E (v:= .func (.func f) (first.map a.eval) #[]) (by unfold execOp;simp [l,Instr.makeFunc]) (.hid (.qd f _ _ (p1.trans c1) λi u c M C=>by
      have a8:i<(first.toList.map (ev s)).length:=by rw[c1];exact(Zj.1 C).1
      exact(p2 i u _ M (Zd a8)).cap c (c2 i _ c (Zd a8) C)) rfl) h
    ·cases A
  ·exact h.elim
 next op T x y j l=>
  obtain⟨u,z,L,J,W⟩:=arW (X:=x) (Y:=y) (H x) (H y) h;refine gK (by rw[l];simp) B E ?_ J W;unfold execOp;simp only[l];rw[Sem.run_bind,L];rfl
 next op T x l=>
  obtain⟨u,z,L,J,W⟩:=ap4 (P:=P) (H x) h;exact gK (by rw[l];simp) B E (by unfold execOp;simp [l,L]) J W
 next t u x l=>
  obtain⟨u,z,L,J,W⟩:=ajs (H x) h;exact gK (by rw[l];simp) B E (by unfold execOp;simp [l,L]) J W
 next c l=>
  have mc:∀c,o.op≠ .defer c:=by rw[l];simp
  split at h
  next C=>
   split at h
   next x T L J=>
    obtain⟨m,r1,r2⟩:=aow (ty:=o.type) (H x) h;exact gK mc B E (by rw[Zr c C L J l,r1];rfl) (.d (.v _)) r2
   next=>exact h.elim
  next C=>
   split at h
   next x y T j L J=>
    obtain⟨hU,h⟩:=cm.1 h;obtain⟨⟨e',k'⟩,hU⟩:=c7.1 hU;obtain⟨p,w',G',q,h',r1,r2,r3,r4,r5,r6⟩:=ai9 (ty:=o.type) B.inv (H x) (H y) (lF hU).1 h;exact rZ mc B E (by rw[Fa c C L J l,r1];rfl) r2 r3 r4 r5 r6
   next=>exact h.elim
  next C=>
   split at h
   next k z hf=>
    obtain⟨p1,p2⟩:=zL B c.args;obtain⟨u,us,e1,e2⟩:=YC (P:=P) p1 p2 hf;refine gK mc B E (v:= .int k z) ?_ (.d (.v _)) h;rw[apy c C l];unfold Builtin.max_;rw[e1];simp only[if_true]at e2;rw[e2];rfl
   next=>exact h.elim
  next C=>
   split at h
   next k z hf=>
    obtain⟨p1,p2⟩:=zL B c.args;obtain⟨u,us,e1,e2⟩:=YC (P:=P) p1 p2 hf;refine gK mc B E (v:= .int k z) ?_ (.d (.v _)) h;rw[ato c C l];unfold Builtin.min_;rw[e1];simp only[Bool.false_eq_true,if_false]at e2;rw[e2];rfl
   next=>exact h.elim
  next f C=>
   have call:∀(g:FuncId)(dz:U AV)(vs:Array oZ),a.eval f= .func (.func g) #[] vs->vs.size=dz.length->(∀(i:Nat)(u:oZ)(c:AV),vs[i]?=some u->dz[i]?=some c->aM G w u c)->
       da P g (c.args.toList.map (ev s)++dz) s.h (λr h'=>K ((s.wh h').put o.dst r))->o.wpIn (WF r) n P a w (kE N0 G w K) Q:=by
       intro g dz vs R hl hr h;obtain⟨p1,p2⟩:=zL B c.args;obtain⟨zF,kZ⟩:=h;have vF:=kZ G w (c.args.map a.eval++vs) B.inv (by rw[Array.size_append,Zi,p1,hl]) (λi u x M A=>by
        by_cases hi:i<(c.args.map a.eval).size;{rw[Array.getElem?_append_left hi]at M;rw[ZT (by rw[<-p1];exact hi)]at A;exact p2 i u x M A}
        ·rw[Array.getElem?_append_right k7]at M;rw[ZK (by rw[<-p1];omega)]at A;rw[p1]at M;exact hr _ u x M A)
       refine⟨λ_ _=>trivial,?_⟩;have eB:(o.semAt (WF r).round a.eval).run P w= .ok (.enter g (c.args.map a.eval++vs)) w:=by
        rw[Oper.semAt_eq _ _ _ mc];unfold execOp;simp only[l,resolve,C,R];simp [Deferred.ofValue,invoke,QI zF]
       rw[eB];refine⟨λh=>(by simp [WF,Fence.wide]at h),?_⟩;have J:=callsIn_wide (n:=n-1).2 vF;refine CallsIn.mono (F:=WF r) J ?_;rintro e w' ⟨v,G',x,h',rfl,x1,x2,x3,x4,x5⟩;exact⟨G',_,x1.less E,Ze E x2,(B.move x1 x2 x3).put x4 o.dst,x5⟩
   have asa:∀(g:FuncId)(dz:U AV)(vs:Array oZ),a.eval f= .func (.func g) vs #[]->vs.size=dz.length->(∀(i:Nat)(u:oZ)(c:AV),vs[i]?=some u->dz[i]?=some c->aM G w u c)->
       da P g (dz++c.args.toList.map (ev s)) s.h (λr h'=>K ((s.wh h').put o.dst r))->o.wpIn (WF r) n P a w (kE N0 G w K) Q:=by
       intro g dz vs R hl hr h;obtain⟨p1,p2⟩:=zL B c.args;obtain⟨zF,kZ⟩:=h;have vF:=kZ G w (vs++c.args.map a.eval) B.inv (by rw[Array.size_append,Zi,p1,hl]) (λi u x M A=>by
        by_cases hi:i<vs.size;{rw[Array.getElem?_append_left hi]at M;rw[ZT (by rw[<-hl];exact hi)]at A;exact hr i u x M A}
        ·rw[Array.getElem?_append_right k7]at M;rw[ZK (by rw[<-hl];omega)]at A;rw[hl]at M;exact p2 _ u x M A)
       refine⟨λ_ _=>trivial,?_⟩;have eB:(o.semAt (WF r).round a.eval).run P w= .ok (.enter g (vs++c.args.map a.eval)) w:=by
        rw[Oper.semAt_eq _ _ _ mc];unfold execOp;simp only[l,resolve,C,R];simp [Deferred.ofValue,invoke,QI zF]
       rw[eB];refine⟨λh=>(by simp [WF,Fence.wide]at h),?_⟩;have J:=callsIn_wide (n:=n-1).2 vF;refine CallsIn.mono (F:=WF r) J ?_;rintro e w' ⟨v,G',x,h',rfl,x1,x2,x3,x4,x5⟩;exact⟨G',_,x1.less E,Ze E x2,(B.move x1 x2 x3).put x4 o.dst,x5⟩
   split at h
   next g dz hg=>
    have hf:=H f;rw[hg]at hf;generalize R:a.eval f=u at hf;cases hf with
    |fn _ vs _ hl hr=>exact call g dz vs R hl hr h
   next q hg=>
    obtain⟨g,as,eq,h⟩:=h;have hf:=H f;rw[hg]at hf;generalize R:a.eval f=u at hf;cases hf with
    |hid hq L=>
     cases hq with
     |d _=>simp [gd.app]at eq
     |bm _ _ _ _ _ _ _=>simp [gd.app]at eq
     |qd g0 vs cs hl hr=>
      simp only[gd.app,Vg,Prod.mk.injEq]at eq;obtain⟨rfl,rfl⟩:=eq;exact asa _ (cs.map gd.av) vs R (by rw[Zw];exact hl) (λi u c M C=>by
       rw[Zm]at C;cases A:cs[i]? with
       |none=>rw[A]at C;cases C
       |some d=>rw[A]at C;cases C;exact(hr i u d M A).av) h
     |fn g0 vs cs hl hr=>
      simp only[gd.app,Vg,Prod.mk.injEq]at eq;obtain⟨rfl,rfl⟩:=eq;exact call _ (cs.map gd.av) vs R (by rw[Zw];exact hl) (λi u c M C=>by
       rw[Zm]at C;cases A:cs[i]? with
       |none=>rw[A]at C;cases C
       |some d=>rw[A]at C;cases C;exact(hr i u d M A).av) h
   next=>exact h.elim
  next=>exact h.elim
 next op _=>
  split at h
  next x h' p A=>exact amb B E A h.1 h.2
  next=>exact h.elim
def Tz(b:dk G w a s){x:O Operand}{d:Nat}{z:Int}(h:yj (ev s) d x=some z)(c:0<=z):Ew a x d z.toNat:=by
 cases x with
 |none=>
  simp only[yj,Vg]at h;subst h;show _=d;exact ZR d
 |some y=>
  simp only[yj]at h;obtain⟨k,e⟩:=(b.ev y).int h;exact⟨k,z,e,c,rfl⟩
def oa{α:Type}{b:Bool}{x y:α}(h:(bif b then some x else none)=some y):b=true/\x=y:=by
 cases b with
 |true=>exact⟨rfl,Zl h⟩
 |false=>cases h
def auc{α:Type}{b:Bool}{x:O α}{y:α}(h:(bif b then x else none)=some y):b=true/\x=some y:=by
 cases b with
 |true=>exact⟨rfl,h⟩
 |false=>cases h
def YA(E:dk G w a s)(cW:N0<=G.N)(h:JX P o K s):o.wpIn (WF r) n P a w (kE N0 G w K) Q:=by
 obtain⟨va,x,h',p,B,hp,hK⟩:=h;have M:=E.ev;unfold jB at B;split at B
 next T y i F=>
  split at B
  ·next n' o' R L k z e k' i' J e2 e3=>
   split at B
   ·next e4 k2 cs S=>
    obtain⟨H,he⟩:=oa B;cases he
    rw[Zo,TC,TC]at H;obtain⟨rfl,rfl⟩:=H;obtain⟨hL,h0,a8,rfl⟩:=hp;obtain⟨gz,W⟩:=lF e3;obtain⟨kz,ez⟩:=(M i).int e2;have C:=M y;rw[J]at C;have mi:=C.ud E.inv S hL;obtain⟨yi,⟨A,c,q1,q2,q3,q4,q5⟩,_⟩:=mi;obtain⟨g,cap,s1,rfl,s3⟩:=q5 k7;have Q9:z<(R:Int):=a8;refine gK (by rw[F];simp) E cW (v:= .pointer (some ⟨g,o'*k2+z.toNat*k2,none⟩)) ?_ (.dU n' (o'+z.toNat) 0 L k2 (E.inv.lt S) ⟨_,_,rfl⟩ (by rw[(E.inv.dN n' _ S).1,hL];exact Zx _) λ_=>⟨by omega,g,cap,s1,?_⟩) hK;{unfold execOp;simp [F,q1,ez,Instr.indexAt,asIntOf,run_underlying gz,h0,Q9,og W,nB]};{rw[Ya];rfl}
   ·cases B
  ·cases B
 next T y f F=>
  split at B
  ·next n' i j L k fo q g J hT=>
   cases B
   have C:=M y;rw[J]at C;generalize ea:a.eval y=u at C;cases C with
   |dU _ _ _ _ _ qH Sf hL hf=>
    obtain⟨pb,pq,rfl⟩:=Sf;refine gK (by rw[F];simp) E cW (v:= .pointer (some ⟨pb,pq+fo,none⟩)) (by unfold execOp;simp [F,ea,Tt hT]) (.dU n' i (j+fo) L k qH ⟨_,_,rfl⟩ hL λe=> ?_) hK;obtain⟨a1,g2,cap,a2,a3⟩:=hf e;refine⟨a1,g2,cap,a2,?_⟩;injection a3 with a3;injection a3 with a3;injection a3 with a4 a5;subst a4;subst a5;rw[Nat.add_assoc]
  ·cases B
 next y F=>
  split at B
  ·next n' i j L k J=>
   cases B
   have C:=M y;rw[J]at C;have YK:=C;generalize ea:a.eval y=u at C YK;cases C with
   |dU _ _ _ _ _ qH Sf hL hf=>
    obtain⟨pb,pq,rfl⟩:=Sf;exact gK (by rw[F];simp) E cW (by unfold execOp;simp [F,ea]) YK hK
  ·cases B
 next t y F=>
  split at B
  ·next n' i j L k c J=>
   split at B
   ·next e k' cs z S hz=>
    obtain⟨H,he⟩:=oa B;cases he
    rw[TC]at H;subst H;have C:=M y;rw[J]at C;obtain⟨u,r1,r2⟩:=aiy E.inv S hp.1 hp.2 hz C;exact gK (by rw[F];simp) E cW (by unfold execOp;simp [F,r1]) r2 hK
   ·cases B
  ·cases B
 next t y z F=>
  split at B
  ·next n' i j L k c cw J=>
   split at B
   ·next e k' cs q S hq=>
    obtain⟨H,he⟩:=oa B;cases he
    simp only[Zo,TC,dT]at H;obtain⟨⟨⟨⟨rfl,rfl⟩,Xv⟩,hj⟩,iF⟩:=H;obtain⟨hL,hc,rfl⟩:=hp;have C:=M y;rw[J]at C;obtain⟨w',G',r1,r2,r3,r4⟩:=aqs E.inv S hL hc C (M z) Xv hq hj iF;exact SF (by rw[F];simp) E cW (by unfold execOp;simp [F,r1]) r2 r3 r4 hK
   ·cases B
  ·cases B
 next T y lo hi F=>
  split at B
  ·next n' o' R L k e k' oo ll J hT=>
   split at B
   ·next l u hl hu=>
    split at B
    ·next e4 k2 cs S=>
     obtain⟨H,he⟩:=oa B;cases he
     rw[Zo,TC,TC]at H;obtain⟨rfl,rfl⟩:=H;obtain⟨hL,h0,hlu,huL,rfl,rfl⟩:=hp;obtain⟨gz,W⟩:=lF hT;have C:=M y;rw[J]at C;have mi:=C.ud E.inv S hL;obtain⟨yi,⟨A,c,q1,q2,q3,q4,q5⟩,_⟩:=mi;have H:=HZ (P:=P) (Dm:=true) (Tz E hl h0) (Tz E hu k7) k7 (show u.toNat<=c by omega) w;refine gK (by rw[F];simp) E cW (v:= .slice (if c=l.toNat then A else A.map (·.add (l.toNat*k2))) (u.toNat-l.toNat) (c-l.toNat)) ?_ (.vec n' (o'+l.toNat) (u.toNat-l.toNat) L k2 (E.inv.lt S) ⟨_,_,_,rfl⟩ (by rw[(E.inv.dN n' _ S).1,hL];exact Zx _) λ_=>⟨by omega,⟨_,_,rfl,by omega,by omega,by omega,λho2=> ?_⟩,λh1 h2=> ?_⟩) hK;{unfold execOp;simp [F,q1,Instr.sliceAt,Instr.slice,run_underlying gz,H,og W]};{obtain⟨g,cap,s1,rfl,s3⟩:=q5 k7;refine⟨g,cap,s1,?_,by omega⟩;rw[af k7];simp [nB,Ya]}
     ·have ho0:o'=0:=by omega
      have KR:l.toNat=0:=by omega
      subst ho0;rw[KR];rw[KR]at h2;simp only[Nat.sub_zero]at h2 ⊢;by_cases zO:L=0
      ·subst zO;have:R=0:=by omega
       subst this
       rename_i gn
       rw[<-gn rfl rfl,q1,h2];split;{rfl};{cases A<;>simp [Addr.add]}
      ·obtain⟨g,cap,s1,rfl,s3⟩:=q5 k7;rw[s1,h2];have:c=cap:=by omega
       subst this;split<;>simp [nB]
    ·cases B
   ·cases B
  ·cases B
 next T l c F=>
  split at B
  ·next e k z1 z2 cs R m hT J e2=>
   split at B
   ·next z dc hz sw=>
    obtain⟨H,he⟩:=oa B;cases he
    simp only[Zo,TC,dT]at H;obtain⟨⟨iF,ld⟩,_⟩:=H;obtain⟨h0,mT,hl,hc,rfl,hm,oO⟩:=hp;obtain⟨gz,W⟩:=lF hT;obtain⟨inf,i1,i2,i3⟩:=Xp W sw;have JJ:inf.zero=some z:=by
     obtain⟨i',j1,j2⟩:=O8 hz;rw[i1]at j1;cases j1;exact j2
    obtain⟨k1,ez1⟩:=(M l).int J;obtain⟨k2,ez2⟩:=(M c).int e2;obtain⟨u,w',G',r1,r2,r3,r4,r5⟩:=ajr (kl:=k1) (kc:=k2) E.inv gz i1 JJ i2 i3 ld iF h0 mT hl hc hm oO;exact rZ (by rw[F];simp) E cW (by unfold execOp;simp [F,ez1,ez2,r1]) r2 r3 r4 r5 hK
   ·cases B
  ·cases B
 next c F=>
  have mc:∀c,o.op≠ .defer c:=by rw[F];simp
  split at B
  next hc=>
   split at B
   ·next y T h1 h2=>
    split at B
    ·next n' oo R L k J=>
     split at B
     ·next e4 k2 cs S=>
      obtain⟨H,he⟩:=oa B;cases he
      rw[Zo,TC]at H;obtain⟨hT,rfl⟩:=H;obtain⟨⟨e,q⟩,hT⟩:=c7.1 hT;have C:=M y;rw[J]at C;have mi:=C.ud E.inv S hp;obtain⟨yi,⟨A,cc,q1,q2,q3,q4,q5⟩,_⟩:=mi;exact gK mc E cW (v:= .int .i64 R) (by rw[Zr c hc h1 h2 F,q1];simp [Builtin.len_,run_underlying (lF hT).1,goInt]) (.d (.v _)) hK
     ·cases B
    ·cases B
   ·cases B
  next hc=>
   split at B
   ·next y z T b h1 h2=>
    split at B
    ·next e k pU cw ys L' iP hT hU=>
     split at B
     ·next z0 dc hz sw=>
      obtain⟨H,B⟩:=auc B;rw[Zo,TC,dT]at H;obtain⟨iF,ld⟩:=H;obtain⟨gz,W⟩:=lF hT;obtain⟨inf,i1,i2,i3⟩:=Xp W sw;have JJ:inf.zero=some z0:=by
       obtain⟨i',j1,j2⟩:=O8 hz;rw[i1]at j1;cases j1;exact j2
      have lq:z0.cells.size=k:=by rw[<-Z9];exact ld
      obtain⟨eU,kU⟩:=pU;split at B
      ·next n' oo R L k1 J=>
       split at B
       ·next e4 k2 cs S=>
        obtain⟨H,he⟩:=oa B;cases he
        simp only[Zo,TC]at H;obtain⟨⟨rfl,rfl⟩,rfl⟩:=H;obtain⟨hL,Ai,rfl,tv⟩:=hp;obtain⟨us,hr,F4⟩:=VY (tx:=b) E.inv (M z) Ai iF (lF hU).1;have C:=M y;rw[J]at C;obtain⟨u,w',G',r1,r2,r3,r4,r5⟩:=amv (ty:=o.type) E.inv gz i1 JJ i2 i3 lq iF S hL C hr F4 tv;exact rZ mc E cW (by rw[Fa c hc h1 h2 F,r1];rfl) r2 r3 r4 r5 hK
       ·cases B
      ·next J=>
       cases B
       obtain⟨Ai,rfl,rfl,rfl,mz,o0⟩:=hp;obtain⟨us,hr,F4⟩:=VY (tx:=b) E.inv (M z) Ai iF (lF hU).1;have C:=M y;rw[J]at C;have ev:=C.val;obtain⟨u,w',G',r1,r2,r3,r4,r5⟩:=YG (ty:=o.type) (A:=none) E.inv gz i1 JJ i2 i3 lq iF hr F4 mz o0;exact rZ mc E cW (by rw[Fa c hc h1 h2 F,ev,r1];rfl) r2 r3 r4 r5 hK
      ·next xs J=>
       cases B
       obtain⟨rfl,Ai,rfl,rfl,rfl,mz,o0⟩:=hp;obtain⟨us,hr,F4⟩:=VY (tx:=b) E.inv (M z) Ai iF (lF hU).1;have C:=M y;rw[J]at C;obtain⟨A,eA⟩:∃A,a.eval y= .slice A 0 0:=by
        generalize a.eval y=u at C;cases C with|full _ _ hf=>exact hf
       obtain⟨u,w',G',r1,r2,r3,r4,r5⟩:=YG (ty:=o.type) (A:=A) E.inv gz i1 JJ i2 i3 lq iF hr F4 mz o0;exact rZ mc E cW (by rw[Fa c hc h1 h2 F,eA,r1];rfl) r2 r3 r4 r5 hK
      ·cases B
     ·cases B
    ·cases B
   ·cases B
  next=>cases B
 next=>cases B
def aqW(j:dk G w a s)(m:N0<=G.N)(h:I4 P o K s):o.wpIn (WF r) n P a w (kE N0 G w K) Q:=by
 have p:=j.ev;unfold I4 at h;split at h
 ·next i T x y f l=>
  split at h
  ·next q J t z L M R B C=>
   obtain⟨e,k⟩:=J;have S:=(lF R).1;have E:=p y;rw[M]at E;have F:=E.val;obtain⟨A,b,oo,c,k',u,H,W,_,_,_,_,_⟩:=((p x).list L).ui;have hg:(eqGuard i T x y (a.eval x) (a.eval y)).run P w= .ok () w:=by rw[H,F];unfold eqGuard;cases i<;>simp
   have eB:(binOp i T (a.eval x) (a.eval y)).run P w= .ok (if A.isNone then t else z) w:=by
    rw[H,F];have hq:=run_equal_slice_nil (P:=P) (w:=w) T e A q.length c S;cases i<;>simp [yB]at B C<;>subst B<;>subst C<;>simp [binOp,hq]<;>cases A<;>rfl
   have g:(execOp a.eval o).run P w= .ok (.value (if A.isNone then t else z)) w:=by
    unfold execOp;simp only[l];rw[Sem.run_bind,Sem.run_bind,hg];simp only[Result.andThen_ok];rw[eB];rfl
   cases A with
   |none=>
    have nc:q=[]:=Classical.byContradiction λcV=>by have:=W cV;cases this
    exact gK (by rw[l];simp) j m g (.d (.v _)) (h.1 nc)
   |some ad=>exact gK (by rw[l];simp) j m g (.d (.v _)) h.2
  ·exact h.elim
 ·exact h.elim
def S9(b:dk G w a s)(c:N0<=G.N)(h:auT P o K s):o.wpIn (WF r) n P a w (kE N0 G w K) Q:=by
 rcases h with h|h|h
 ·exact YA b c h
 ·exact aqW b c h
 ·exact YB b c h
end
end Go.Proofs.YtjploedinjiflaaGreatDoor
