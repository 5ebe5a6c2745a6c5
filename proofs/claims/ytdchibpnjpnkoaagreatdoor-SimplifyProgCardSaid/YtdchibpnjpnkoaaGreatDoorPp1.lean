/-
  Part 1 of the proof: AbsGlob, AbsCore, AbsOps, AbsHeap, AbsStore, AbsApp, AbsOp, AbsOp2, AbsOp3, AbsMap, AbsVec, AbsVec2, AbsOp4, AbsLeave, AbsLoop.
-/
import Derived.WalkKit
import Derived.Laws.Strings
import Derived.Lib.Hide
import Derived.OrdersIn
import Derived.RangeFuncIn
import Derived.RangeFuncCalls
import Derived.RangeFuncLeaves
import Derived.RangeFuncFrom
import Derived.Deep.MidRow
import Derived.Laws.AppendOwn
import Derived.Maps.OwnOps
import Derived.KernelRfl
import Derived.Deep.AppendSrc
import Derived.Deep.Upon
import Derived.Laws.BytesString
import Derived.Laws.StructEq
import Derived.Laws.MakeOwn
import Derived.Laws.Cover3
namespace Go.Proofs.YtdchibpnjpnkoaaGreatDoor
open Go.RowKit
abbrev arx:=@Option.bind_some
abbrev ary:=@List.getElem?_eq_some_iff
abbrev arz:=@List.length_append
abbrev arA:=@Bool.and_eq_true
abbrev arB:=@List.length_cons
abbrev arC:=@List.getElem?_eq_getElem
abbrev arD:=@List.length_map
abbrev arE:=@List.mem_cons_self
abbrev arF:=@List.getElem?_map
abbrev arG:=@Nat.le_of_ble_eq_true
abbrev arH:=@List.mem_cons_of_mem
abbrev arI:=@List.getElem?_append_left
abbrev arJ:=@Nat.le_refl
abbrev arK:=@List.length_nil
abbrev arL:=@List.mem_of_getElem?
abbrev arM:=@Nat.eq_of_beq_eq_true
abbrev arN:=@Array.getElem?_eq_some_iff
abbrev arO:=@List.getElem?_append_right
abbrev arP:=@List.append_assoc
abbrev arQ:=@Nat.le_trans
abbrev arR:=@Option.some.inj
abbrev arS:=@Nat.zero_add
abbrev arT:=@List.append_nil
abbrev arU:=@Array.getElem?_eq_getElem
abbrev arV:=@Array.getElem?_toList
abbrev arW:=@Nat.lt_of_lt_of_le
abbrev arX:=@List.map_cons
abbrev arY:=@List.all_eq_true
abbrev arZ:=@Int.toNat_natCast
abbrev ar0:=@Nat.not_lt_zero
abbrev ar1:=@List.getElem?_set_self
abbrev ar2:=@List.mem_cons
abbrev ar3:=@List.map_congr_left
abbrev ar4:=@List.getElem?_eq_none
abbrev ar5:=@Array.length_toList
abbrev ar6:=@List.getElem?_set_ne
abbrev ar7:=@List.drop_zero
abbrev ar8:=@List.length_replicate
abbrev ar9:=@List.getElem?_cons_succ
abbrev asa:=@List.mem_append
abbrev asb:=@List.take_append_drop
abbrev asc:=@Nat.lt_irrefl
abbrev asd:=@Nat.le_add_right
abbrev ase:=@List.not_mem_nil
abbrev asf:=@decide_eq_true
abbrev asg:=@decide_eq_false
abbrev ash:=@beq_self_eq_true
abbrev asi:=@List.all_cons
abbrev asj:=@List.any_cons
abbrev asl:=@Nat.lt_succ_self
abbrev asm:=@Bool.or_eq_false_iff
abbrev asn:Type->Type:=List
abbrev aso:=ByteArray
abbrev asp:Type->Type:=Option
abbrev asq:=Program
abbrev asr:=Value
abbrev ass:=World
def bL(a:aso):asn UInt8:=a.data.toList
theorem Sv(a:aso):a.toList=bL a:=ByteArray.toList_eq a
theorem Pw{a b:aso}(h:bL a=bL b):a=b:=by cases a;cases b;simp only[bL,Array.toList_inj]at h;rw[h]
def xf(l:asn Nat):asn asr:=l.map λn=>Value.int .u8 (Int.ofNat n)
def Gu:asn Nat:=(List.range 256).map λn=>bif (Nat.ble 9 n&&Nat.ble n 13)||n==32 then 1 else 0
def Bo:asn (Nat×asn asr):=
 (0,xf Gu)::
  []
def AF:asn (Nat×asn asr)->Nat->asp (asn asr)
 |[],_=>none
 |(k,l)::r,g=>bif k==g then some l else AF r g
theorem Ww:∀{t:asn (Nat×asn asr)}{g:Nat}{l:asn asr},AF t g=some l->(g,l)∈t
 |[],g,l,h=>by cases h
 |(k,l')::r,g,l,h=>by
  unfold AF at h;cases e:k==g with
  |true=>rw[e]at h;cases h;rw[beq_iff_eq]at e;subst e;simp
  |false=>rw[e]at h;exact arH _ (Ww h)
inductive D where
 |v (u:Value)
 |sl (xs:List (List D))
inductive iq where
 |d (x:D)
 |bP (c:List D) (off:Nat)
 |fn (f:FuncId) (cs:List iq)
inductive AV where
 |d (x:D)
 |agg (cs:List AV)
 |aX (cs:List AV)
 |ptr (n off:Nat)
 |bP (xs:List (List D)) (i off:Nat)
 |own (n:Nat) (xs:List (List D))
 |full (xs:List (List D))
 |row (n off len cap k:Nat)
 |fn (f:FuncId) (dF:List AV)
 |mp (n:Nat)
 |dc (n:Nat)
 |vec (n o len L k:Nat)
 |dx (n i j L k:Nat)
 |hid (c:iq)
 |dead
inductive LS where
 |ready
 |busy
 |done (c:Code)
def LS.st:LS->LoopState
 | .ready=> .ready
 | .busy=> .busy
 | .done _=> .done
def LS.pd:LS->asp Code
 | .done c=>some c
 |_=>none
inductive ao where
 |cells (cs:List AV)
 |front (e:TypeId) (k len:Nat)
 |vec (e:TypeId) (k:Nat) (cs:List (List AV))
 |map (kv:List (ByteArray×D))
 |lp (ls:LS) (p:Nat) (as bd:Code) (cs:List AV)
 |it (sn:Bool) (cs:List AV)
 |gone
structure Gh where
 N:Nat
 Z:Nat->Prop
 S:Nat->Nat->Prop
 bg:Nat->Nat
 sg:Nat->Value
 ow:Nat->Option Nat
 fl:Nat->Nat
 M:Nat
inductive dD(S:Nat->Nat->Prop)(w:World):Value->D->Prop
 |v (u:Value):dD S w u (.v u)
 |sl (A:Option Addr) (b o c k:Nat) (xs:List (List D)) (u:Nat->Nat->Value)
    (hA:xs≠ []->A=some ⟨b,o,none⟩) (hc:xs.length<=c) (hm:c<=maxLen)
    (hk:∀x∈xs,x.length=k)
    (hS:∀i j,i<xs.length->j<k->S b (o+i*k+j)/\w.cell? ⟨b,o+i*k+j,none⟩=some (u i j)/\(u i j).oneCell'=true)
    (hu:∀(i j:Nat)(x:List D)(d:D),xs[i]?=some x->x[j]?=some d->dD S w (u i j) d):dD S w (.slice A xs.length c) (.sl xs)
inductive pE(S:Nat->Nat->Prop)(w:World):Value->iq->Prop
 |d {u:Value} {x:D} (h:dD S w u x):pE S w u (.d x)
 |bP (c:List D) (off b o:Nat) (u:Nat->Value) (hS:∀j,j<c.length->S b (o+j)/\w.cell? ⟨b,o+j,none⟩=some (u j)) (hu:∀(j:Nat)(d:D),c[j]?=some d->dD S w (u j) d):pE S w (.pointer (some ⟨b,o+off,none⟩)) (.bP c off)
 |fn (f:FuncId) (vs:Array Value) (cs:List iq) (hl:vs.size=cs.length) (h:∀(i:Nat)(u:Value)(c:iq),vs[i]?=some u->cs[i]?=some c->pE S w u c):pE S w (.func (.func f) #[] vs) (.fn f cs)
structure Vi(s u:Value)(o len L k:Nat):Prop where
 ol:o+len<=L
 sl:∃A c,u= .slice A len c/\len<=c/\c<=maxLen/\L<=c+o/\(o<L->∃g cap,s= .slice (some ⟨g,0,none⟩) L cap/\A=some ⟨g,o*k,none⟩/\o+c=cap)
 all:o=0->len=L->u=s
structure Xo(s u:Value)(i j L k:Nat):Prop where
 il:i<L
 pt:∃g cap,s= .slice (some ⟨g,0,none⟩) L cap/\u= .pointer (some ⟨g,i*k+j,none⟩)
inductive aJ(G:Gh)(w:World):Value->AV->Prop
 |d {u:Value} {x:D} (h:dD G.S w u x):aJ G w u (.d x)
 |agg (vs:Array Value) (cs:List AV) (hl:vs.size=cs.length) (h:∀(i:Nat)(u:Value)(c:AV),vs[i]?=some u->cs[i]?=some c->aJ G w u c):aJ G w (.agg vs) (.agg cs)
 |aX (vs:Array Value) (cs:List AV) (hl:vs.size=cs.length) (h:∀(i:Nat)(u:Value)(c:AV),vs[i]?=some u->cs[i]?=some c->aJ G w u c):aJ G w (.tuple vs) (.aX cs)
 |ptr (n off:Nat) (h:n<G.N):aJ G w (.pointer (some ⟨G.bg n,off,none⟩)) (.ptr n off)
 |bP (xs:List (List D)) (i off b o:Nat) (u:Nat->Value) (x:List D) (hx:xs[i]?=some x)
  (hS:∀j,j<x.length->G.S b (o+j)/\w.cell? ⟨b,o+j,none⟩=some (u j)) (hu:∀(j:Nat)(d:D),x[j]?=some d->dD G.S w (u j) d):aJ G w (.pointer (some ⟨b,o+off,none⟩)) (.bP xs i off)
 |own {u:Value} (n:Nat) (xs:List (List D)) (h:n<G.N) (hp:dD G.S w u (.sl xs)) (hle:xs.length<=G.fl n) (hf:xs.length=G.fl n->u=G.sg n):aJ G w u (.own n xs)
 |full {u:Value} (xs:List (List D)) (hp:dD G.S w u (.sl xs)) (hf:∃A,u= .slice A xs.length xs.length):aJ G w u (.full xs)
 |row (n off len cap k:Nat) (h:n<G.N) (hl:len<=cap) (hm:cap<=maxLen):aJ G w (.slice (some ⟨G.bg n,off,none⟩) len cap) (.row n off len cap k)
 |fn (f:FuncId) (vs:Array Value) (cs:List AV) (hl:vs.size=cs.length) (h:∀(i:Nat)(u:Value)(c:AV),vs[i]?=some u->cs[i]?=some c->aJ G w u c):aJ G w (.func (.func f) #[] vs) (.fn f cs)
 |mp (n:Nat) (h:n<G.N):aJ G w (.map (some (G.bg n))) (.mp n)
 |dc (n:Nat) (h:n<G.N):aJ G w (.func (.yield (G.bg n)) #[] #[]) (.dc n)
 |vec {u:Value} (n o len L k:Nat) (h:n<G.N) (hs:∃A l c,u= .slice A l c) (hL:L<=G.fl n) (hf:L=G.fl n->Vi (G.sg n) u o len L k):aJ G w u (.vec n o len L k)
 |dx {u:Value} (n i j L k:Nat) (h:n<G.N) (hs:∃b q,u= .pointer (some ⟨b,q,none⟩)) (hL:L<=G.fl n) (hf:L=G.fl n->Xo (G.sg n) u i j L k):aJ G w u (.dx n i j L k)
 |hid {u:Value} {c:iq} (h:pE G.S w u c) (h1:u.oneCell'=true):aJ G w u (.hid c)
 |dead (u:Value):aJ G w u .dead
def mf:asn (aso×D)->aso->asp D
 |[],_=>none
 |(k,d)::l,s=>bif bL k==bL s then some d else mf l s
structure yA(S:Nat->Nat->Prop)(w:World)(es:Array MapEntry)(clock:Nat)(kv:List (ByteArray×D)):Prop where
 size:es.size<=maxLen
 stamped:MapKept.Stamped es clock
 Al:∀e∈es.toList,∃s d,e.key= .string s/\mf kv s=some d/\dD S w e.val d
 all:∀s d,mf kv s=some d->∃e∈es.toList,e.key= .string s
 len:es.size<=kv.length
 born:∀(i:Nat)(e:MapEntry),es[i]?=some e->e.born=i
 HT:clock=es.size
def ao.dX(G:Gh)(n:Nat):ao->asp Nat
 | .cells _=>some (G.bg n)
 | .front _ _ _=>G.ow n
 | .vec _ _ _=>G.ow n
 | .map _=>some (G.bg n)
 | .lp _ _ _ _ _=>some (G.bg n)
 | .it _ _=>some (G.bg n)
 | .gone=>none
def cg(h:asn ao)(G:Gh)(n:Nat):asp Nat:=(h[n]?).bind (ao.dX G n)
theorem dP{h:asn ao}{G:Gh}{n:Nat}{B:ao}(e:h[n]?=some B):cg h G n=B.dX G n:=by unfold cg;rw[e];rfl
theorem AE{h:asn ao}{G:Gh}{n:Nat}(e:h[n]?=none):cg h G n=none:=by unfold cg;rw[e];rfl
theorem m7{h:asn ao}{G:Gh}{n b:Nat}(e:cg h G n=some b):∃B,h[n]?=some B/\B.dX G n=some b:=by
 unfold cg at e;cases hx:h[n]? with
 |none=>rw[hx]at e;cases e
 |some B=>rw[hx]at e;exact⟨B,rfl,e⟩
def eu(G:Gh)(w:ass)(n:Nat):ao->Prop
 | .cells cs=>¬G.Z (G.bg n)/\(∀o,¬G.S (G.bg n) o)/\∃(vs:Array asr)(T:TypeId),w.heap[G.bg n]?=some (.cells vs T (0,0))/\vs.size=cs.length/\∀(i:Nat)(u:asr)(c:AV),vs[i]?=some u->cs[i]?=some c->aJ G w u c
 | .front e k len=>G.fl n=len/\len<=maxLen/\((G.ow n=none/\∃A,G.sg n= .slice A len len)\/
  ∃(g cap:Nat)(cur:Array asr),G.ow n=some g/\G.sg n= .slice (some ⟨g,0,none⟩) len cap/\¬G.Z g/\w.heap[g]?=some (.cells cur e (0,0))/\len<=cap/\cap<=maxLen/\cur.size=cap*k/\∀o,len*k<=o->¬G.S g o)
 | .vec e k cs=>G.fl n=cs.length/\cs.length<=maxLen/\(∀c∈cs,c.length=k)/\((G.ow n=none/\cs=[]/\∃A,G.sg n= .slice A 0 0)\/
  ∃(g cap:Nat)(cur:Array asr),G.ow n=some g/\G.sg n= .slice (some ⟨g,0,none⟩) cs.length cap/\¬G.Z g/\w.heap[g]?=some (.cells cur e (0,0))/\cs.length<=cap/\cap<=maxLen/\cur.size=cap*k/\(∀o,¬G.S g o)/\
   ∀(i j:Nat)(c:asn AV)(x:AV)(u:asr),cs[i]?=some c->c[j]?=some x->cur[i*k+j]?=some u->aJ G w u x)
 | .map kv=>¬G.Z (G.bg n)/\(∀o,¬G.S (G.bg n) o)/\∃(es:Array MapEntry)(clock:Nat),w.heap[G.bg n]?=some (.map es clock)/\yA G.S w es clock kv
 | .lp ls p as bd cs=>¬G.Z (G.bg n)/\(∀o,¬G.S (G.bg n) o)/\∃(fn:FuncId)(tm:Array asr)(D:Nat),w.heap[G.bg n]?=some (.loop {state:=ls.st,pending:=ls.pd,fn:=fn,tmps:=tm,params:= #[p],assign:=as,body:=bd,defers:=D})/\tm.size=cs.length/\∀(i:Nat)(u:asr)(c:AV),tm[i]?=some u->cs[i]?=some c->aJ G w u c
 | .it sn cs=>¬G.Z (G.bg n)/\(∀o,¬G.S (G.bg n) o)/\∃(fn:Nat)(vs:Array asr)(_:Unit),w.heap[G.bg n]?=some (.mapIter (some fn) 1 (if sn then #[0]else #[]) 1)/\(vs.size=cs.length/\vs= #[.map (some fn)])/\∀(i:Nat)(u:asr)(c:AV),vs[i]?=some u->cs[i]?=some c->aJ G w u c
 | .gone=>True
def KA(G:Gh)(w:ass):Prop:=(∀(g:Nat)(l:asn asr),(g,l)∈Bo->∀(j:Nat)(v:asr),l[j]?=some v->G.S g j/\w.cell? ⟨g,j,none⟩=some v)/\G.M<=w.heap.size
structure b9(G:Gh)(w:World)(h:List ao):Prop where
 len:h.length=G.N
 z:∀b,G.Z b->b<w.heap.size
 S:∀b o,G.S b o->b<w.heap.size
 dv:∀(n:Nat)(B:ao),h[n]?=some B->eu G w n B
 inj:∀(m n b:Nat),cg h G m=some b->cg h G n=some b->m=n
 gl:KA G w
structure b7(N:Nat)(G:Gh)(w:World)(G':Gh)(w':World):Prop where
 size:w.heap.size<=w'.heap.size
 S:∀b o,G.S b o->G'.S b o
 cell:∀b o,G.S b o->w'.cell? ⟨b,o,none⟩=w.cell? ⟨b,o,none⟩
 bg:∀n,n<N->G'.bg n=G.bg n
 fr:∀n,n<N->(G'.fl n=G.fl n/\G'.sg n=G.sg n)\/G.fl n<G'.fl n
 Z:((∀b,G.Z b->G'.Z b)/\∀b,G'.Z b->G.Z b\/w.heap.size<=b)/\G'.M=G.M
 old:∀b,G.Z b->w'.heap[b]?=w.heap[b]?
 os:w'.os=w.os
 tape:w'.tape=w.tape
 output:w'.output=w.output
 new:∀b o,G'.S b o->G.S b o\/¬G.Z b
theorem zsame{Z Z':Nat->Prop}{m M M':Nat}(h:Z'=Z)(hM:M'=M:=by rfl):((∀b,Z b->Z' b)/\∀b,Z' b->Z b\/m<=b)/\M'=M:=⟨⟨λ_ k=>h▸k,λ_ k=> .inl (h▸k)⟩,hM⟩
theorem b7.refl(N:Nat)(G:Gh)(w:ass):b7 N G w G w:=
 ⟨arJ _,λ_ _ h=>h,λ_ _ _=>rfl,λ_ _=>rfl,λ_ _=> .inl ⟨rfl,rfl⟩,zsame rfl,λ_ _=>rfl,rfl,rfl,rfl,λ_ _ h=> .inl h⟩
theorem b7.trans{N:Nat}{G G1 G2:Gh}{w w1 w2:ass}(h:b7 N G w G1 w1)(k:b7 N G1 w1 G2 w2):b7 N G w G2 w2:=
 ⟨arQ h.size k.size,λb o hs=>k.S b o (h.S b o hs),λb o hs=>(k.cell b o (h.S b o hs)).trans (h.cell b o hs),λn hn=>(k.bg n hn).trans (h.bg n hn),
  λn hn=>by
   rcases h.fr n hn with⟨h1,h2⟩|h1<;>rcases k.fr n hn with⟨k1,k2⟩|k1
   ·exact .inl ⟨k1.trans h1,k2.trans h2⟩
   ·exact .inr (h1▸k1)
   ·exact .inr (k1▸h1)
   ·exact .inr (Nat.lt_trans h1 k1),
  ⟨⟨λb hb=>k.Z.1.1 b (h.Z.1.1 b hb),λb hb=>(k.Z.1.2 b hb).elim (h.Z.1.2 b) λhs=> .inr (arQ h.size hs)⟩,k.Z.2.trans h.Z.2⟩,λb hb=>(k.old b (h.Z.1.1 b hb)).trans (h.old b hb),k.os.trans h.os,k.tape.trans h.tape,k.output.trans h.output,λb o hs=>(k.new b o hs).elim (h.new b o) (λhn=> .inr λhz=>hn (h.Z.1.1 b hz))⟩
theorem b7.less{N M:Nat}{G G':Gh}{w w':ass}(h:b7 N G w G' w')(hM:M<=N):b7 M G w G' w':=
 ⟨h.size,h.S,h.cell,λn hn=>h.bg n (arW hn hM),λn hn=>h.fr n (arW hn hM),h.Z,h.old,h.os,h.tape,h.output,h.new⟩
theorem b7.mO{N:Nat}{G G':Gh}{w w':ass}(h:b7 N G w G' w'){b:Nat}(hb:b<w.heap.size)(hz:¬G.Z b):¬G'.Z b:=λk=>(h.Z.1.2 b k).elim hz λhs=>asc _ (arW hb hs)
def rV(G:Gh)(w:ass)(ds:asn Deferred):Prop:=∃l:asn Nat,l.Nodup/\ds=l.map (λD=>{target:= .collected D,args:= #[]})/\∀D∈l,G.M<=D/\G.Z D/\w.heap[D]?=some (.deferred (some []))
theorem rV.nil(G:Gh)(w:ass):rV G w []:=⟨[],List.nodup_nil,rfl,λ_ h=>absurd h ase⟩
theorem rV.bj{N:Nat}{G G':Gh}{w w':ass}{ds:asn Deferred}(h:rV G w ds)(hE:b7 N G w G' w'):rV G' w' ds:=
 let ⟨l,h1,h2,h3⟩:=h
 ⟨l,h1,h2,λD hD=>⟨hE.Z.2▸(h3 D hD).1,hE.Z.1.1 D (h3 D hD).2.1,(hE.old D (h3 D hD).2.1).trans (h3 D hD).2.2⟩⟩
theorem KA.bj{N:Nat}{G G':Gh}{w w':ass}(h:KA G w)(hE:b7 N G w G' w'):KA G' w':=⟨λg l hm j v hv=>
 ⟨hE.S _ _ (h.1 g l hm j v hv).1,(hE.cell _ _ (h.1 g l hm j v hv).1).trans (h.1 g l hm j v hv).2⟩,by rw[hE.Z.2];exact arQ h.2 hE.size⟩
theorem dD.bj{S S':Nat->Nat->Prop}{w w':ass}(hS:∀b o,S b o->S' b o)(hc:∀b o,S b o->w'.cell? ⟨b,o,none⟩=w.cell? ⟨b,o,none⟩){u:asr}{x:D}(h:dD S w u x):dD S' w' u x:=by
 induction h with
 |v u=>exact .v u
 |sl A b o c k xs u hA j6 hm hk rI _ ih=>
  exact .sl A b o c k xs u hA j6 hm hk (λi j hi hj=>⟨hS _ _ (rI i j hi hj).1,(hc _ _ (rI i j hi hj).1).trans (rI i j hi hj).2.1,(rI i j hi hj).2.2⟩) ih
theorem pE.bj{S S':Nat->Nat->Prop}{w w':ass}(hS:∀b o,S b o->S' b o)(hc:∀b o,S b o->w'.cell? ⟨b,o,none⟩=w.cell? ⟨b,o,none⟩){u:asr}{x:iq}(h:pE S w u x):pE S' w' u x:=by
 induction h with
 |d h=>exact .d (h.bj hS hc)
 |bP c off b o u h1 h2=>exact .bP c off b o u (λj hj=>⟨hS _ _ (h1 j hj).1,(hc _ _ (h1 j hj).1).trans (h1 j hj).2⟩) (λj d hd=>(h2 j d hd).bj hS hc)
 |fn f vs cs hl _ ih=>exact .fn f vs cs hl ih
theorem aJ.bj{G G':Gh}{w w':ass}(hE:b7 G.N G w G' w')(hN:G.N<=G'.N){u:asr}{x:AV}(h:aJ G w u x):aJ G' w' u x:=by
 induction h with
 |d h=>exact .d (h.bj hE.S hE.cell)
 |agg vs cs hl _ ih=>exact .agg vs cs hl ih
 |aX vs cs hl _ ih=>exact .aX vs cs hl ih
 |ptr n off h=>rw[<-hE.bg n h];exact .ptr n off (arW h hN)
 |bP xs i off b o u x hx hS hu=>exact .bP xs i off b o u x hx (λj hj=>⟨hE.S _ _ (hS j hj).1,(hE.cell _ _ (hS j hj).1).trans (hS j hj).2⟩) (λj d hd=>(hu j d hd).bj hE.S hE.cell)
 |own n xs h hp hle hf=>
  refine .own n xs (arW h hN) (hp.bj hE.S hE.cell) ?_ ?_
  ·rcases hE.fr n h with⟨h1,_⟩|h1
   ·omega
   ·omega
  ·intro e;rcases hE.fr n h with⟨h1,h2⟩|h1
   ·rw[h2];exact hf (e.trans h1)
   ·omega
 |full xs hp hf=>exact .full xs (hp.bj hE.S hE.cell) hf
 |row n off len cap k h hl hm=>rw[<-hE.bg n h];exact .row n off len cap k (arW h hN) hl hm
 |fn f vs cs hl _ ih=>exact .fn f vs cs hl ih
 |mp n h=>rw[<-hE.bg n h];exact .mp n (arW h hN)
 |dc n h=>rw[<-hE.bg n h];exact .dc n (arW h hN)
 |vec n o len L k h hs hL hf=>
  refine .vec n o len L k (arW h hN) hs ?_ ?_
  ·rcases hE.fr n h with⟨h1,_⟩|h1<;>omega
  ·intro e;rcases hE.fr n h with⟨h1,h2⟩|h1
   ·rw[h2];exact hf (e.trans h1)
   ·omega
 |dx n i j L k h hs hL hf=>
  refine .dx n i j L k (arW h hN) hs ?_ ?_
  ·rcases hE.fr n h with⟨h1,_⟩|h1<;>omega
  ·intro e;rcases hE.fr n h with⟨h1,h2⟩|h1
   ·rw[h2];exact hf (e.trans h1)
   ·omega
 |hid h h1=>exact .hid (h.bj hE.S hE.cell) h1
 |dead u=>exact .dead u
structure St where
 n:Nat
 t:List (Nat×AV)
 h:List ao
def bw:asn (Nat×AV)->Nat->AV
 |[],_=> .dead
 |(k,x)::l,i=>bif i==k then x else bw l i
theorem kY(k:Nat)(x:AV)(l:asn (Nat×AV))(i:Nat):bw ((k,x)::l) i=if i=k then x else bw l i:=by
 simp only[bw,cond_eq_ite,beq_iff_eq]
def fg(b:Bool)(p:Prop):Prop:=cond b p False
theorem b6{b:Bool}{p:Prop}:fg b p↔b=true/\p:=by cases b<;>simp [fg]
def cp(a b:Nat):Bool:=a-b==0
theorem dJ{a b:Nat}:cp a b=true↔a<=b:=by simp [cp];omega
def V7:IntKind->Nat
 | .i8=>0| .i16=>1| .i32=>2| .i64=>3| .u8=>4| .u16=>5| .u32=>6| .u64=>7
def zl(a b:IntKind):Bool:=V7 a==V7 b
theorem O3{a b:IntKind}:zl a b=true↔a=b:=by cases a<;>cases b<;>decide
def St.put(s:St)(dst:asp Nat)(x:AV):St:=
 match dst with
 |none=>s
 |some d=>bif s.n-d==0 then s else{s with t:=(d,x)::s.t}
theorem ru{s:St}{d:Nat}(h:d<s.n)(x:AV):s.put (some d) x={s with t:=(d,x)::s.t}:=by
 have:(s.n-d==0)=false:=by simp;omega
 simp only[St.put,this,cond_false]
theorem DA{s:St}{d:Nat}(h:¬d<s.n)(x:AV):s.put (some d) x=s:=by
 have:(s.n-d==0)=true:=by simp;omega
 simp only[St.put,this,cond_true]
def St.wh(s:St)(h:asn ao):St:={s with h:=h}
def TO:asr->AV
 | .agg vs=> .agg (vs.toList.map λu=> .d (.v u))
 | .tuple vs=> .aX (vs.toList.map λu=> .d (.v u))
 |u=> .d (.v u)
def ev(s:St):Operand->AV
 | .tmp t=>bw s.t t
 | .const v=>TO v
 | .func f=> .fn f []
 | .global g=>match AF Bo g with
   |some l=> .bP [l.map .v] 0 0
   |none=> .dead
def AV.kE:AV->Bool
 | .d (.v u)=>u.oneCell'
 | .d (.sl _)| .ptr .. | .bP .. | .own .. | .full _| .row .. | .fn .. | .mp _| .dc _| .hid _| .vec .. | .dx .. =>true
 | .agg _| .aX _| .dead=>false
def AV.cells:AV->asn AV
 | .agg cs=>cs
 |x=>[x]
def AV.jt:AV->Bool
 | .agg cs=>cs.all AV.kE
 |x=>x.kE
def D.A9:D->D
 | .v (.slice none 0 0)=> .sl []
 |x=>x
def AV.w8:AV->asp D
 | .d x=>some x.A9
 | .own _ xs=>some (.sl xs)
 | .full xs=>some (.sl xs)
 |_=>none
def AV.fe:AV->asp (asn (asn D))
 | .d (.sl xs)=>some xs
 | .own _ xs=>some xs
 | .full xs=>some xs
 | .d (.v (.slice none 0 0))=>some []
 |_=>none
def AV.int?:AV->asp Int
 | .d (.v (.int _ n))=>some n
 |_=>none
def iq.av:iq->AV
 | .d x=> .d x
 | .bP c off=> .bP [c] 0 off
 | .fn f cs=> .hid (.fn f cs)
def fQ(P:asq)(t:TypeId):asp Nat:=(P.info? t).map (·.size)
def mu(P:asq)(t:TypeId):asp Bool:=(P.underlying t).map fun| .struct _=>true| .array .. =>true|_=>false
def tv(P:asq)(t:TypeId)(i:Nat):asp (Nat×Nat×Bool):=
 match P.underlying t with
 |some (.struct fs)=>match fs[i]? with
  |some f=>match fQ P f.type,mu P f.type with
   |some (k+1),some g=>some (f.offset,k+1,g)
   |_,_=>none
  |none=>none
 |_=>none
def et(P:asq)(t:TypeId):asp (TypeId×Nat):=
 match P.underlying t with
 |some (.slice e)=>(fQ P e).map λk=>(e,k)
 |_=>none
def uX(P:asq)(t:TypeId):asp (Nat×TypeId×Nat):=
 match P.underlying t with
 |some (.array n e)=>(fQ P e).map λk=>(n,e,k)
 |_=>none
def hY(P:asq)(t:TypeId):Bool:=match P.underlying t with|some .string=>true|_=>false
def B3(P:asq)(t:TypeId):Bool:=match P.underlying t with|some .bool=>true|_=>false
def qC(P:asq)(t:TypeId):asp IntKind:=match P.underlying t with|some (.int k)=>some k|_=>none
def Ek(P:asq)(t:TypeId):Bool:=match P.underlying t with|some (.int .u8)=>true|_=>false
def iR(P:asq)(t:TypeId):asp asr:=(P.info? t).bind (·.zero)
def qX(P:asq)(t:TypeId):asp Nat:=(P.info? t).map (·.bytes)
def RZ(op:BinOp)(k:IntKind)(a b:Int):asp asr:=
 match op with
 | .add=>some (.int k (k.wrap (a+b)))
 | .sub=>some (.int k (k.wrap (a-b)))
 | .mul=>some (.int k (k.wrap (a*b)))
 | .eql=>some (.bool (a==b))
 | .neq=>some (.bool (a !=b))
 | .lss=>some (.bool (a<b))
 | .leq=>some (.bool (a<=b))
 | .gtr=>some (.bool (a>b))
 | .geq=>some (.bool (a>=b))
 | .and=>some (.int k (k.wrap (BitVec.ofInt k.bits a&&&BitVec.ofInt k.bits b).toNat))
 | .or=>some (.int k (k.wrap (BitVec.ofInt k.bits a|||BitVec.ofInt k.bits b).toNat))
 | .xor=>some (.int k (k.wrap (BitVec.ofInt k.bits a^^^BitVec.ofInt k.bits b).toNat))
 | .andNot=>some (.int k (k.wrap (BitVec.ofInt k.bits a&&& ~~~BitVec.ofInt k.bits b).toNat))
 |_=>none
def R6(op:BinOp)(a b:aso):asp asr:=
 match op with
 | .eql=>some (.bool (bL a==bL b))
 | .neq=>some (.bool (!(bL a==bL b)))
 | .lss=>some (.bool (Op.bytesLess (bL a) (bL b)))
 | .leq=>some (.bool (Op.bytesLess (bL a) (bL b)||bL a==bL b))
 | .gtr=>some (.bool (!(Op.bytesLess (bL a) (bL b)||bL a==bL b)))
 | .geq=>some (.bool (!Op.bytesLess (bL a) (bL b)))
 |_=>none
def TR(op:BinOp)(a b:Bool):asp asr:=
 match op with
 | .eql=>some (.bool (a==b))
 | .neq=>some (.bool (!(a==b)))
 |_=>none
def P3(op:BinOp)(k:IntKind)(a b:Int):asp asr:=
 match op with
 | .quo=>some (.int k (k.wrap (a.tdiv b)))
 | .rem=>some (.int k (a.tmod b))
 |_=>none
def Sm(op:BinOp)(k:IntKind)(a b:Int):asp asr:=
 match op with
 | .shl=>some (.int k (k.wrap (a*2^(min b.toNat k.bits))))
 | .shr=>some (.int k (a.fdiv (2^(min b.toNat k.bits))))
 |_=>none
def Ii(op:UnOp)(x:asr):asp asr:=
 match op,x with
 | .not, .bool b=>some (.bool (!b))
 | .neg, .int k n=>some (.int k (k.wrap (0-n)))
 | .xor, .int k n=>some (.int k (k.wrap (BitVec.ofInt k.bits (if k.signed then-1 else k.max)^^^BitVec.ofInt k.bits n).toNat))
 |_,_=>none
def ib(cs:asn AV)(off:Nat)(ys:asn AV):asn AV:=cs.take off++ys++cs.drop (off+ys.length)
def n8(k:Nat):Nat->asn D->asn (asn D)
 |0,_=>[]
 |n+1,l=>l.take k::n8 k n (l.drop k)
def pO(places:asn (Nat×Nat)):asn AV->asn (Nat×AV)->asp (asn AV)
 |cs,[]=>some cs
 |cs,(i,x)::r=>
  match places[i]? with
  |some (off,k)=>bif x.cells.length==k&&cp (off+k) cs.length then pO places (ib cs off x.cells) r else none
  |none=>none
def nL:asn AV->asp (asn D)
 |[]=>some []
 |x::r=>match x.w8,nL r with
  |some d,some l=>some (d::l)
  |_,_=>none
def Gr(P:asq)(fs:asn Field):asp (asn (Nat×Nat)):=fs.mapM λf=>(fQ P f.type).map λk=>(f.offset,k)
def I6(P:asq)(f:FuncId):Bool:=
 match P.funcs[f]? with
 |some fn=>fn.body.isSome&& !(fn.name== "runtime.NumGoroutine")
 |none=>false
def cG(P:asq)(f:FuncId)(args:asn AV)(h:asn ao)(K:AV->asn ao->Prop):Prop:=
 I6 P f=true/\∀(G:Gh)(w:ass)(vs:Array asr),b9 G w h->vs.size=args.length->(∀(i:Nat)(u:asr)(c:AV),vs[i]?=some u->args[i]?=some c->aJ G w u c)->
  Calls P f vs w λe w'=>∃v G' r h',e= .returned v/\b7 G.N G w G' w'/\G.N<=G'.N/\b9 G' w' h'/\aJ G' w' v r/\K r h'
theorem cG.mono{P:asq}{f:FuncId}{args:asn AV}{h:asn ao}{K K':AV->asn ao->Prop}(hc:cG P f args h K)(hk:∀r h',K r h'->K' r h'):cG P f args h K':=
 ⟨hc.1,λG w vs hi hl hr=>(hc.2 G w vs hi hl hr).mono λ_ _ ⟨v,G',r,h',e,x1,x2,x3,x4,x5⟩=>⟨v,G',r,h',e,x1,x2,x3,x4,hk _ _ x5⟩⟩
def sA(h:asn ao)(p:AV)(K:asn AV->Nat->Prop):Prop:=
 match p with
 | .ptr n off=>match h[n]? with
   |some (.cells cs)=>K cs off
   |_=>False
 | .bP xs i off=>match xs[i]? with
   |some cs=>K (cs.map .d) off
   |none=>False
 |_=>False
def oK(P:asq)(t:TypeId)(h:asn ao)(p:AV)(K:AV->Prop):Prop:=
 sA h p λcs off=>match mu P t,fQ P t with
  |some true,some k=>fg (cp (off+k) cs.length) (K (.agg ((cs.drop off).take k)))
  |some false,some _=>match cs[off]? with
   |some c=>K c
   |none=>False
  |_,_=>False
def zR(P:asq)(t:TypeId)(h:asn ao)(p x:AV)(K:asn ao->Prop):Prop:=
 match p with
 | .ptr n off=>match h[n]? with
   |some (.cells cs)=>match fQ P t with
    |some k=>fg (k==x.cells.length&&x.jt&&cp (off+x.cells.length) cs.length) (K (h.set n (.cells (ib cs off x.cells))))
    |none=>False
   |_=>False
 |_=>False
def sq(P:asq)(T:TypeId)(x i:AV)(K:AV->Prop):Prop:=
 match et P T with
 |some (_,k)=>
  match x with
  | .row n off len _ k'=>match i.int? with
    |some z=>fg (k'==k) (0<=z/\z<len/\K (.ptr n (off+z.toNat*k)))
    |none=>False
  |_=>match x.fe,i.int? with
   |some xs,some z=>0<=z/\(match xs[z.toNat]? with|some c=>c.length=k/\K (.bP [c] 0 0)|none=>False)
   |_,_=>False
 |none=>match uX P T,x,i.int? with
  |some (n,_,k), .ptr b off,some z=>0<=z/\z<n/\K (.ptr b (off+z.toNat*k))
  |some (n,_,k), .bP xs i off,some z=>fg (k==1) (0<=z/\z<n/\(match xs[i]? with|some c=>(match c[off+z.toNat]? with|some d=>K (.bP [[d]] 0 0)|none=>False)|none=>False))
  |_,_,_=>False
def tk(P:asq)(T:TypeId)(x:AV)(K:Nat->Prop):Prop:=
 match x with
 | .d (.v (.string s))=>fg (hY P T) (K s.size)
 | .row _ _ len _ _=>fg (et P T).isSome (K len)
 |x=>match x.fe with
  |some xs=>fg (et P T).isSome (K xs.length)
  |none=>False
def jH(ρ:Operand->AV)(x:asp Operand)(apW:Nat)(K:Nat->Prop):Prop:=
 match x with
 |none=>K apW
 |some y=>match (ρ y).int? with
  |some z=>0<=z/\K z.toNat
  |none=>False
def vS(P:asq)(T:TypeId)(ρ:Operand->AV)(x:AV)(lo hi mx:asp Operand)(K:AV->Prop):Prop:=
 match mx with
 |none=>
  match x with
  | .d (.v (.string b))=>fg (hY P T) (jH ρ hi b.size λh=>h<=b.size/\jH ρ lo 0 λl=>l<=h/\K (.d (.v (.string (b.extract l h)))))
  | .ptr n off=>match uX P T with
    |some (m,_,k)=>fg (cp m 4096) (jH ρ hi m λh=>fg (cp h m) (jH ρ lo 0 λl=>fg (cp l h&& !cp m l) (K (.row n (off+l*k) (h-l) (m-l) k))))
    |none=>False
  |x=>match x.fe,et P T with
   |some xs,some (_,k)=>(∀c∈xs,c.length=k)/\jH ρ hi xs.length λh=>h<=xs.length/\jH ρ lo 0 λl=>l<=h/\K (.d (.sl ((xs.take h).drop l)))
   |_,_=>False
 |some m=>match lo,hi with
  |none,some y=>match x.fe,et P T with
   |some xs,some (_,k)=>(∀c∈xs,c.length=k)/\jH ρ (some m) 0 λc=>c<=xs.length/\jH ρ (some y) 0 λh=>h=c/\K (.full (xs.take h))
   |_,_=>False
  |_,_=>False
def ux(h:asn ao)(k:Nat)(x:AV)(K:asn (asn D)->Prop):Prop:=
 match x with
 | .row n off len _ k'=>match h[n]? with
   |some (.cells cs)=>match nL ((cs.drop off).take (len*k))with
    |some ds=>fg (k'==k&&cp (off+len*k) cs.length&&((cs.drop off).take (len*k)).all AV.kE) (K (n8 k len ds))
    |none=>False
   |_=>False
 |x=>match x.fe with
  |some ys=>(∀c∈ys,c.length=k)/\K ys
  |none=>False
def uh(P:asq)(T:TypeId)(h:asn ao)(x y:AV)(K:AV->asn ao->Prop):Prop:=
 match et P T with
 |some (e,k)=>match iR P e,qX P e with
  |some z,some cE=>fg (cp 1 k&&z.cells.toList.length==k)<|ux h k y λys=>
   match x with
   | .own n xs=>match h[n]? with
     |some (.front e' k' len)=>fg (e'==e&&k'==k)<|len=xs.length/\(∀c∈xs,c.length=k)/\xs.length+ys.length<=maxLen/\(xs.length+ys.length)*cE<=140737488355328/\K (.own n (xs++ys)) (h.set n (.front e k (xs.length+ys.length)))
     |_=>False
   | .d (.v (.slice none 0 0))=>ys.length<=maxLen/\ys.length*cE<=140737488355328/\K (.own h.length ys) (h++[.front e k ys.length])
   | .full xs=>(∀c∈xs,c.length=k)/\xs.length+ys.length<=maxLen/\(xs.length+ys.length)*cE<=140737488355328/\K (.own h.length (xs++ys)) (h++[.front e k (xs.length+ys.length)])
   |_=>False
  |_,_=>False
 |none=>False
def Qo(P:asq)(T:TypeId):asp (asn (Nat×Nat)):=
 match P.underlying T with
 |some (.struct fs)=>Gr P fs.toList
 |_=>none
def yQ(P:asq)(T:TypeId)(ps:asn (Nat×AV))(K:AV->Prop):Prop:=
 match Qo P T,iR P T with
 |some places,some z=>match pO places (z.cells.toList.map λu=> .d (.v u)) ps with
  |some cs=>fg ((ps.all λp=>p.2.jt)&&z.cells.toList.all Value.oneCell') (K (.agg cs))
  |none=>False
 |_,_=>False
def wL(k:Nat):Nat->Nat->asn (Nat×Nat)
 |_,0=>[]
 |o,n+1=>(o,k)::wL k (o+k) n
def sN:Nat->asn AV->asn AV
 |0,_=>[]
 |n+1,l=>l++sN n l
def xo(P:asq)(T:TypeId)(len:Nat)(ps:asn (Nat×AV))(K:AV->Prop):Prop:=
 match et P T with
 |some (e,k)=>match iR P e with
  |some z=>match pO (wL k 0 len) (sN len (z.cells.toList.map λu=> .d (.v u))) ps with
   |some cs=>match nL cs with
    |some ds=>fg (cp 1 k&&cp (len*k) 16777216&&z.cells.toList.length==k&&z.cells.toList.all Value.oneCell'&&(ps.all λp=>p.2.jt)) (K (.full (n8 k len ds)))
    |none=>False
   |none=>False
  |none=>False
 |none=>False
def FP(P:asq)(t:TypeId)(x y:AV):asp Bool:=
 match x,y with
 | .d (.v (.int k a)), .d (.v (.int k' b))=>bif zl k k'&&(qC P t).isSome then some (a==b)else none
 | .d (.v (.string a)), .d (.v (.string b))=>bif hY P t then some (bL a==bL b)else none
 | .d (.v (.bool a)), .d (.v (.bool b))=>bif B3 P t then some (a==b)else none
 |_,_=>none
def AG(P:asq)(sub:TypeId->asn AV->asn AV->asp Bool):asn Field->asn AV->asn AV->asp Bool
 |[],_,_=>some true
 |f::fs,xs,ys=>bif f.name== "_" then none else
  match mu P f.type with
  |some false=>match xs[f.offset]?,ys[f.offset]? with
   |some x,some y=>match FP P f.type x y,AG P sub fs xs ys with
    |some a,some b=>some (a&&b)
    |_,_=>none
   |_,_=>none
  |some true=>match fQ P f.type with
   |some k=>bif cp (f.offset+k) xs.length&&cp (f.offset+k) ys.length then match sub f.type ((xs.drop f.offset).take k) ((ys.drop f.offset).take k),AG P sub fs xs ys with
    |some a,some b=>some (a&&b)
    |_,_=>none
    else none
   |none=>none
  |none=>none
def Kf(P:asq):Nat->TypeId->asn AV->asn AV->asp Bool
 |0=>λ_ _ _=>none
 |d+1=>λT xs ys=>match P.underlying T with
  |some (.struct fs)=>bif P.stoodInHeld T then none else AG P (Kf P d) fs.toList xs ys
  |_=>none
def JF(P:asq)(T:TypeId)(xs ys:asn AV):asp Bool:=
 match P.underlying T with
 |some (.struct fs)=>bif P.stoodInHeld T||P.eqGuardType P.depth T then none else AG P (Kf P 4) fs.toList xs ys
 |_=>none
def zg(op:BinOp)(b:Bool):asp asr:=
 match op with
 | .eql=>some (.bool b)
 | .neq=>some (.bool (!b))
 |_=>none
def xQ(P:asq)(T:TypeId)(op:BinOp)(x y:AV)(K:AV->Prop):Prop:=
 match x,y with
 | .d (.v (.int k a)), .d (.v (.int k' b))=>
   match P3 op k a b with
   |some v=>fg (zl k k') (b≠0/\K (.d (.v v)))
   |none=>match Sm op k a b with
    |some v=>0<=b/\K (.d (.v v))
    |none=>match RZ op k a b with
     |some v=>fg (zl k k') (K (.d (.v v)))
     |none=>False
 | .d (.v (.string a)), .d (.v (.string b))=>match R6 op a b with
   |some v=>K (.d (.v v))
   |none=>match op with
    | .add=>a.size+b.size<=maxLen/\K (.d (.v (.string (a++b))))
    |_=>False
 | .d (.v (.bool a)), .d (.v (.bool b))=>match TR op a b with
   |some v=>fg (B3 P T) (K (.d (.v v)))
   |none=>False
 | .agg xs, .agg ys=>match JF P T xs ys with
   |some b=>match zg op b with
    |some v=>K (.d (.v v))
    |none=>False
   |none=>False
 |_,_=>False
def yM(op:UnOp)(x:AV)(K:AV->Prop):Prop:=
 match x with
 | .d (.v u)=>match Ii op u with
   |some v=>K (.d (.v v))
   |none=>False
 |_=>False
def yK(P:asq)(src dst:TypeId)(x:AV)(K:AV->Prop):Prop:=
 match x with
 | .d (.v (.int _ n))=>match qC P src,qC P dst with
   |some _,some k=>K (.d (.v (.int k (k.wrap n))))
   |_,_=>False
 | .d (.v (.string b))=>fg (hY P src&&hY P dst) (K (.d (.v (.string b))))
 |x=>match x.fe,et P src with
  |some xs,some (e,_)=>fg (Ek P e&&hY P dst) (∃ns:asn Int,xs=ns.map (λn=>[.v (.int .u8 n)])/\K (.d (.v (.string ⟨(ns.map λn=>UInt8.ofNat n.toNat).toArray⟩))))
  |_,_=>False
def xX(P:asq)(T:TypeId)(x:AV)(f:Nat)(K:AV->Prop):Prop:=
 match tv P T f,x with
 |some (off,k,true), .agg cs=>fg (cp (off+k) cs.length) (K (.agg ((cs.drop off).take k)))
 |some (off,_,false), .agg cs=>match cs[off]? with
  |some c=>K c
  |none=>False
 |_,_=>False
def vR(P:asq)(T:TypeId):asp (TypeId×TypeId):=
 match P.underlying T with
 |some (.map k e)=>some (k,e)
 |_=>none
inductive Sd
 |no
 |lt (n:Nat)
def Sd.ok:Sd->Prop
 | .no=>True
 | .lt n=>n<maxLen
def yb(adV:Bool)(z:asr):asp D->AV
 |some d=>bif adV then .aX [.d d, .d (.v (.bool true))]else .d d
 |none=>bif adV then .aX [.d (.v z), .d (.v (.bool false))]else .d (.v z)
def pG(P:asq)(op:Op)(ρ:Operand->AV)(h:asn ao):asp (AV×asn ao×Sd):=
 match op with
 | .makeMap T none=>match vR P T with
   |some _=>some (.mp h.length,h++[.map []], .no)
   |none=>none
 | .lookup T m i ok=>match vR P T with
   |some (k,e)=>match iR P e with
    |some z=>match ρ m,ρ i with
     | .mp n, .d (.v (.string s))=>match h[n]? with
       |some (.map kv)=>bif hY P k&&z.oneCell' then some (yb ok z (mf kv s),h, .no)else none
       |_=>none
     |_,_=>none
    |none=>none
   |none=>none
 | .mapUpdate T m i x=>match vR P T with
   |some (k,_)=>match ρ m,ρ i,(ρ x).w8 with
    | .mp n, .d (.v (.string s)),some d=>match h[n]? with
      |some (.map kv)=>bif hY P k then some (.d (.v undef),h.set n (.map ((s,d)::kv)), .lt kv.length)else none
      |_=>none
    |_,_,_=>none
   |none=>none
 |_=>none
inductive VA
 |no
 |el (c:List AV)
 |st (c:List AV) (cs:List (List AV))
 |mk (cs:List (List AV)) (len m:Nat)
 |ap (cs ys:List (List AV)) (L len:Nat)
 |ix (i:Nat)
 |ol (o len:Nat)
def R1(P:asq)(t:TypeId)(c:asn AV)(j:Nat):asp AV:=
 match mu P t,fQ P t with
 |some true,some k=>bif cp (j+k) c.length then some (.agg ((c.drop j).take k))else none
 |some false,some _=>c[j]?
 |_,_=>none
def bn(xs:asn (asn D)):asn (asn AV):=xs.map λc=>c.map AV.d
def zS(h:asn ao)(k:Nat)(y:AV)(ys:asn (asn AV)):Prop:=
 (∃xs,y.fe=some xs/\(∀c∈xs,c.length=k)/\ys=bn xs)\/(∃n o len L e cs,y= .vec n o len L k/\h[n]?=some (.vec e k cs)/\cs.length=L/\ys=(cs.drop o).take len/\∀c∈ys,c.all AV.kE=true)
def uo(ρ:Operand->AV)(d:Int):asp Operand->asp Int
 |none=>some d
 |some y=>(ρ y).int?
def iS(P:asq)(op:Op)(ρ:Operand->AV)(h:asn ao)(a:VA):asp (AV×asn ao×Prop):=
 match op with
 | .indexAddr T x i=>match ρ x,(ρ i).int?,et P T,a with
   | .vec n o len L k,some z,some (_,k'), .ix i'=>match h[n]? with
     |some (.vec _ k2 cs)=>bif k'==k&&k2==k then some (.dx n i' 0 L k,h,cs.length=L/\0<=z/\z<len/\i'=o+z.toNat)else none
     |_=>none
   |_,_,_,_=>none
 | .fieldAddr S x f=>match ρ x,tv P S f with
   | .dx n i j L k,some (fo,_,_)=>some (.dx n i (j+fo) L k,h,True)
   |_,_=>none
 | .nilCheck x=>match ρ x with
   | .dx n i j L k=>some (.dx n i j L k,h,True)
   |_=>none
 | .load t p=>match ρ p,a with
   | .dx n i j L k, .el c=>match h[n]?,R1 P t c j with
     |some (.vec _ k' cs),some x=>bif k'==k then some (x,h,cs.length=L/\cs[i]?=some c)else none
     |_,_=>none
   |_,_=>none
 | .store t p x=>match ρ p,a with
   | .dx n i j L k, .st c cm=>match h[n]?,fQ P t with
     |some (.vec e k' cs),some q=>bif k'==k&&q==(ρ x).cells.length&&(ρ x).jt&&cp (j+(ρ x).cells.length) k&&cp 1 k then some (.d (.v undef),h.set n (.vec e k cm),cs.length=L/\cs[i]?=some c/\cm=cs.set i (ib c j (ρ x).cells))else none
     |_,_=>none
   |_,_=>none
 | .slice T x lo hi none=>match ρ x,et P T,a with
   | .vec n o len L k,some (_,k'), .ol o' gL=>match uo ρ 0 lo,uo ρ len hi with
     |some l,some u=>match h[n]? with
      |some (.vec _ k2 cs)=>bif k'==k&&k2==k then some (.vec n o' gL L k,h,cs.length=L/\0<=l/\l<=u/\u<=(L:Int)-o/\o'=o+l.toNat/\gL=u.toNat-l.toNat)else none
      |_=>none
     |_,_=>none
   |_,_,_=>none
 | .makeSlice T l c=>match et P T,(ρ l).int?,(ρ c).int?,a with
   |some (e,k),some l,some c, .mk cs len m=>match iR P e,qX P e with
    |some z,some cE=>bif cp 1 k&&z.cells.toList.length==k&&z.cells.toList.all Value.oneCell' then some (.vec h.length 0 len m k,h++[.vec e k cs],0<=l/\l<=c/\l.toNat=len/\c.toNat=m/\cs=List.replicate m (z.cells.toList.map λu=> .d (.v u))/\m<=maxLen/\cE*m<=281474976710656)else none
    |_,_=>none
   |_,_,_,_=>none
 | .call c=>match c.callee with
   | .builtin .len=>match c.args.toList,c.argTypes.toList with
     |[x],[T]=>match ρ x with
      | .vec n _ len L k=>match h[n]? with
        |some (.vec _ k2 cs)=>bif (et P T).isSome&&k2==k then some (.d (.v (.int .i64 len)),h,cs.length=L)else none
        |_=>none
      |_=>none
     |_,_=>none
   | .builtin .append=>match c.args.toList,c.argTypes.toList with
     |[x,y],[T,U]=>match et P T,et P U,a with
      |some (e,k),some _, .ap cm ys L' gL=>match iR P e,qX P e with
       |some z,some cE=>bif cp 1 k&&z.cells.toList.length==k then
        match ρ x with
        | .vec n o len L k1=>match h[n]? with
          |some (.vec e1 k2 cs)=>bif k1==k&&k2==k&&e1==e then some (.vec n o gL L' k,h.set n (.vec e k cm),cs.length=L/\zS h k (ρ y) ys/\gL=len+ys.length/\
           ((o+len+ys.length<=L/\L'=L/\cm=cs.take (o+len)++ys++cs.drop (o+len+ys.length))\/(o=0/\len=L/\L'=L+ys.length/\cm=cs++ys/\L'<=maxLen/\L'*cE<=140737488355328)))else none
          |_=>none
        | .d (.v (.slice none 0 0))=>some (.vec h.length 0 gL L' k,h++[.vec e k cm],zS h k (ρ y) ys/\cm=ys/\gL=ys.length/\L'=ys.length/\L'<=maxLen/\L'*cE<=140737488355328)
        | .full xs=>some (.vec h.length 0 gL L' k,h++[.vec e k cm],xs=[]/\zS h k (ρ y) ys/\cm=ys/\gL=ys.length/\L'=ys.length/\L'<=maxLen/\L'*cE<=140737488355328)
        |_=>none
       else none
       |_,_=>none
      |_,_,_=>none
     |_,_=>none
   |_=>none
 |_=>none
def MT(mx:Bool)(k:IntKind):Int->asn AV->asp (IntKind×Int)
 |a,[]=>some (k,a)
 |a, .d (.v (.int _ b))::l=>MT mx k (bif mx then(if b>a then b else a)else(if b<a then b else a)) l
 |_,_=>none
def CX(mx:Bool):asn AV->asp (IntKind×Int)
 | .d (.v (.int k a))::l=>MT mx k a l
 |_=>none
def cC(P:asq)(o:Oper)(ρ:Operand->AV)(h:asn ao)(C:AV->asn ao->Prop):Prop:=
 match o.op with
 | .move x| .assign x=>C (ρ x) h
 | .pick c a b=>match ρ c with
   | .d (.v (.bool t))=>(t=true->C (ρ a) h)/\(t=false->C (ρ b) h)
   |_=>False
 | .alloc e=>match iR P e with
   |some z=>C (.ptr h.length 0) (h++[ao.cells (z.cells.toList.map λu=> .d (.v u))])
   |none=>False
 | .box _ x=>fg (ρ x).jt<|C (.ptr h.length 0) (h++[ao.cells (ρ x).cells])
 | .load t a=>oK P t h (ρ a) λx=>C x h
 | .store t a x=>zR P t h (ρ a) (ρ x) λh'=>C (.d (.v undef)) h'
 | .nilCheck x=>match ρ x with
   | .ptr n off=>C (.ptr n off) h
   | .bP xs i off=>C (.bP xs i off) h
   | .fn f cs=>C (.fn f cs) h
   |_=>False
 | .fieldAddr S x f=>match tv P S f with
   |some (fo,_,_)=>match ρ x with
    | .ptr n off=>C (.ptr n (off+fo)) h
    | .bP xs i off=>C (.bP xs i (off+fo)) h
    |_=>False
   |none=>False
 | .field T x f=>xX P T (ρ x) f λy=>C y h
 | .indexAddr T x i=>sq P T (ρ x) (ρ i) λy=>C y h
 | .index T x i=>match ρ x,(ρ i).int? with
   | .d (.v (.string b)),some z=>fg (hY P T) (0<=z/\(match b[z.toNat]? with|some c=>C (.d (.v (.int .u8 c.toNat))) h|none=>False))
   |_,_=>False
 | .build T ps=>yQ P T (ps.toList.map λp=>(p.1,ρ p.2)) λy=>C y h
 | .buildSlice T len ps=>xo P T len (ps.toList.map λp=>(p.1,ρ p.2)) λy=>C y h
 | .slice T x lo hi mx=>vS P T ρ (ρ x) lo hi mx λy=>C y h
 | .extract x i=>match ρ x with
   | .aX cs=>match cs[i]? with
     |some c=>C c h
     |none=>False
   |_=>False
 | .makeFunc (.func f) first dF=>match first.toList with
   |[]=>C (.fn f (dF.toList.map ρ)) h
   |_=>False
 | .binOp op T x y _=>xQ P T op (ρ x) (ρ y) λv=>C v h
 | .unOp op _ x=>yM op (ρ x) λv=>C v h
 | .convert a b x=>yK P a b (ρ x) λv=>C v h
 | .call c=>match c.callee with
   | .builtin .len=>match c.args.toList,c.argTypes.toList with
     |[x],[T]=>tk P T (ρ x) λn=>C (.d (.v (.int .i64 n))) h
     |_,_=>False
   | .builtin .append=>match c.args.toList,c.argTypes.toList with
     |[x,y],[T,U]=>fg (et P U).isSome<|uh P T h (ρ x) (ρ y) λv h'=>C v h'
     |_,_=>False
   | .builtin .max=>match CX true (c.args.toList.map ρ)with
     |some (k,a)=>C (.d (.v (.int k a))) h
     |none=>False
   | .builtin .min=>match CX false (c.args.toList.map ρ)with
     |some (k,a)=>C (.d (.v (.int k a))) h
     |none=>False
   | .value f=>match ρ f with
     | .fn g dF=>cG P g (c.args.toList.map ρ++dF) h λr h'=>C r h'
     | .hid q=>∃g cs,q= .fn g cs/\cG P g (c.args.toList.map ρ++cs.map iq.av) h λr h'=>C r h'
     |_=>False
   |_=>False
 |op=>match pG P op ρ h with
  |some (x,h',p)=>p.ok/\C x h'
  |none=>False
def Hu(P:asq)(o:Oper)(K:St->Prop)(s:St):Prop:=
 match o.op with
 | .binOp op T x y _=>match (ev s x).fe,ev s y,et P T,zg op true,zg op false with
   |some xs, .d (.v (.slice none 0 0)),some _,some v1,some v2=>(xs=[]->K (s.put o.dst (.d (.v v1))))/\K (s.put o.dst (.d (.v v2)))
   |_,_,_,_,_=>False
 |_=>False
def JP(P:asq)(o:Oper)(K:St->Prop)(s:St):Prop:=∃a x h' p,iS P o.op (ev s) s.h a=some (x,h',p)/\p/\K ((s.wh h').put o.dst x)
def qH(P:asq)(o:Oper)(K:St->Prop)(s:St):Prop:=cC P o (ev s) s.h λx h=>K ((s.wh h).put o.dst x)
def agB(P:asq)(o:Oper)(K:St->Prop)(s:St):Prop:=JP P o K s\/Hu P o K s\/qH P o K s
theorem lH(b o n:Nat):(⟨b,o,none⟩:Addr).add n=⟨b,o+n,none⟩:=by unfold Addr.add;split<;>simp_all
structure cN(G:Gh)(w:World)(a:Act)(s:St):Prop where
 size:a.tmps.size=s.n
 tmp:∀i,aJ G w (a.tmps.getD i undef) (bw s.t i)
 inv:b9 G w s.h
 df:rV G w a.defers
theorem pE.av{G:Gh}{w:ass}{u:asr}{c:iq}(h:pE G.S w u c):aJ G w u c.av:=by
 cases h with
 |d h=>exact .d h
 |bP c off b o u h1 h2=>exact .bP [c] 0 off b o u c rfl h1 h2
 |fn f vs cs hl h=>exact .hid (.fn f vs cs hl h) rfl
theorem aJ.kE{G:Gh}{w:ass}{u:asr}{x:AV}(h:aJ G w u x)(hb:x.kE=true):u.oneCell'=true:=by
 cases h with
 |d hp=>cases hp with
  |v u=>exact hb
  |sl=>rfl
 |agg=>simp [AV.kE]at hb
 |aX=>simp [AV.kE]at hb
 |own n xs _ hp=>cases hp;rfl
 |vec n o len L k _ hs=>obtain⟨A,l,c,rfl⟩:=hs;rfl
 |dx n i j L k _ hs=>obtain⟨b,q,rfl⟩:=hs;rfl
 |full xs hp=>cases hp;rfl
 |hid h h1=>exact h1
 |dead=>simp [AV.kE]at hb
 |_=>rfl
theorem aJ.cells{G:Gh}{w:ass}{u:asr}{x:AV}(h:aJ G w u x)(hb:x.jt=true):
 u.cells.size=x.cells.length/\∀(i:Nat)(v:asr)(c:AV),u.cells[i]?=some v->x.cells[i]?=some c->aJ G w v c/\v.oneCell'=true:=by
 have one:x.kE=true->x.cells=[x]->u.cells.size=x.cells.length/\∀(i:Nat)(v:asr)(c:AV),u.cells[i]?=some v->x.cells[i]?=some c->aJ G w v c/\v.oneCell'=true:=by
  intro hc hx;have ho:=h.kE hc;have hu:u.cells= #[u]:=by cases u<;>simp_all [Value.cells,Value.oneCell']
  rw[hu,hx];refine⟨rfl,λi v c h1 h2=> ?_⟩
  match i with
  |0=>simp at h1 h2;subst h1;subst h2;exact⟨h,ho⟩
  |i+1=>simp at h2
 cases x with
 |agg cs=>
  cases h with
  |agg vs cs hl hr=>
   refine⟨hl,λi v c h1 h2=> ?_⟩;have hv:=hr i v c h1 h2;refine⟨hv,hv.kE ?_⟩;simp only[AV.jt,arY]at hb;exact hb c (arL h2)
 |aX cs=>simp [AV.jt,AV.kE]at hb
 |dead=>simp [AV.jt,AV.kE]at hb
 |_=>exact one hb rfl
theorem b9.lt{G:Gh}{w:ass}{h:asn ao}(hi:b9 G w h){n:Nat}{B:ao}(hb:h[n]?=some B):n<G.N:=by
 rw[<-hi.len];exact(ary.1 hb).1
theorem b9.jq{G:Gh}{w:ass}{h:asn ao}(hi:b9 G w h){n b:Nat}(hb:cg h G n=some b):b<w.heap.size:=by
 obtain⟨B,hB,hb⟩:=m7 hb;have hr:=hi.dv n B hB;cases B with
 |gone=>cases hb
 |cells cs=>
  obtain⟨_,_,vs,T,hh,_⟩:=hr;cases hb
  exact(arN.1 hh).1
 |lp ls p as bd cs=>
  obtain⟨_,_,fn,vs,T,hh,_⟩:=hr;cases hb
  exact(arN.1 hh).1
 |it sn cs=>
  obtain⟨_,_,fn,vs,T,hh,_⟩:=hr;cases hb
  exact(arN.1 hh).1
 |map kv=>
  obtain⟨_,_,es,c,hh,_⟩:=hr;cases hb
  exact(arN.1 hh).1
 |front e k len=>
  have hb:G.ow n=some b:=hb;obtain⟨_,_,h1|⟨g,cap,cur,h1,_,_,hh,_⟩⟩:=hr
  ·rw[h1.1]at hb;cases hb
  ·rw[h1]at hb;cases hb;exact(arN.1 hh).1
 |vec e k cs=>
  have hb:G.ow n=some b:=hb;obtain⟨_,_,_,h1|⟨g,cap,cur,h1,_,_,hh,_⟩⟩:=hr
  ·rw[h1.1]at hb;cases hb
  ·rw[h1]at hb;cases hb;exact(arN.1 hh).1
theorem eu.mO{G:Gh}{w:ass}{n b:Nat}{B:ao}(hr:eu G w n B)(hb:B.dX G n=some b):¬G.Z b:=by
 cases B with
 |gone=>cases hb
 |cells cs=>cases hb;exact hr.1
 |lp ls p as bd cs=>cases hb;exact hr.1
 |it sn cs=>cases hb;exact hr.1
 |map kv=>cases hb;exact hr.1
 |front e k len=>
  have hb:G.ow n=some b:=hb;obtain⟨_,_,h1|⟨g,cap,cur,h1,_,hz,_⟩⟩:=hr
  ·rw[h1.1]at hb;cases hb
  ·rw[h1]at hb;cases hb;exact hz
 |vec e k cs=>
  have hb:G.ow n=some b:=hb;obtain⟨_,_,_,h1|⟨g,cap,cur,h1,_,hz,_⟩⟩:=hr
  ·rw[h1.1]at hb;cases hb
  ·rw[h1]at hb;cases hb;exact hz
theorem yA.bj{S S':Nat->Nat->Prop}{w w':ass}{es:Array MapEntry}{c:Nat}{kv:asn (aso×D)}(h:yA S w es c kv)(hS:∀b o,S b o->S' b o)(hc:∀b o,S b o->w'.cell? ⟨b,o,none⟩=w.cell? ⟨b,o,none⟩):yA S' w' es c kv:=
 ⟨h.size,h.stamped,λe he=>let ⟨s,d,h1,h2,h3⟩:=h.Al e he;⟨s,d,h1,h2,h3.bj hS hc⟩,h.all,h.len,h.born,h.HT⟩
theorem eu.bj{G G':Gh}{w w':ass}{n:Nat}(hn:n<G.N)(hE:b7 G.N G w G' w')(hN:G.N<=G'.N){B:ao}
 (hg:G'.fl n=G.fl n/\G'.sg n=G.sg n/\G'.ow n=G.ow n)
 (ho:∀b,B.dX G n=some b->w'.heap[b]?=w.heap[b]?/\∀o,¬G.S b o->¬G'.S b o)
 (h:eu G w n B):eu G' w' n B:=by
 obtain⟨f1,f2,f3⟩:=hg;cases B with
 |gone=>trivial
 |cells cs=>
  obtain⟨h1,h2,vs,T,h3,h4,h5⟩:=h;obtain⟨c2,c1⟩:=ho _ rfl;refine⟨by rw[hE.bg n hn];exact hE.mO (arN.1 h3).1 h1,by rw[hE.bg n hn];exact λo=>c1 o (h2 o),vs,T,by rw[hE.bg n hn,c2];exact h3,h4,λi u c hu hc=>(h5 i u c hu hc).bj hE hN⟩
 |lp ls p as bd cs=>
  obtain⟨h1,h2,fn,vs,T,h3,h4,h5⟩:=h;obtain⟨c2,c1⟩:=ho _ rfl;refine⟨by rw[hE.bg n hn];exact hE.mO (arN.1 h3).1 h1,by rw[hE.bg n hn];exact λo=>c1 o (h2 o),fn,vs,T,by rw[hE.bg n hn,c2];exact h3,h4,λi u c hu hc=>(h5 i u c hu hc).bj hE hN⟩
 |it sn cs=>
  obtain⟨h1,h2,fn,vs,T,h3,h4,h5⟩:=h;obtain⟨c2,c1⟩:=ho _ rfl;refine⟨by rw[hE.bg n hn];exact hE.mO (arN.1 h3).1 h1,by rw[hE.bg n hn];exact λo=>c1 o (h2 o),fn,vs,T,by rw[hE.bg n hn,c2];exact h3,h4,λi u c hu hc=>(h5 i u c hu hc).bj hE hN⟩
 |map kv=>
  obtain⟨h1,h2,es,c,h3,h4⟩:=h;obtain⟨c2,c1⟩:=ho _ rfl;exact⟨by rw[hE.bg n hn];exact hE.mO (arN.1 h3).1 h1,by rw[hE.bg n hn];exact λo=>c1 o (h2 o),es,c,by rw[hE.bg n hn,c2];exact h3,h4.bj hE.S hE.cell⟩
 |front e k len=>
  obtain⟨h1,hm,h2⟩:=h;refine⟨f1.trans h1,hm,?_⟩;rcases h2 with⟨h2,A,h3⟩|⟨g,cap,cur,h2,h3,h4,h5,h6,h7,h8,h9⟩
  ·exact .inl ⟨f3.trans h2,A,f2.trans h3⟩
  ·obtain⟨f5,f6⟩:=ho g h2;exact .inr ⟨g,cap,cur,f3.trans h2,f2.trans h3,hE.mO (arN.1 h5).1 h4,f5.trans h5,h6,h7,h8,λo ho=>f6 o (h9 o ho)⟩
 |vec e k cs=>
  obtain⟨h1,hm,hk,h2⟩:=h;refine⟨f1.trans h1,hm,hk,?_⟩;rcases h2 with⟨h2,e2,A,h3⟩|⟨g,cap,cur,h2,h3,h4,h5,h6,h7,h8,h9,aK⟩
  ·exact .inl ⟨f3.trans h2,e2,A,f2.trans h3⟩
  ·obtain⟨f5,f6⟩:=ho g h2;exact .inr ⟨g,cap,cur,f3.trans h2,f2.trans h3,hE.mO (arN.1 h5).1 h4,f5.trans h5,h6,h7,h8,λo=>f6 o (h9 o),λi j c x u hc hx hu=>(aK i j c x u hc hx hu).bj hE hN⟩
theorem cN.put{G:Gh}{w:ass}{a:Act}{s:St}(h:cN G w a s){v:asr}{x:AV}(hv:aJ G w v x)(dst:asp Nat):cN G w (a.put dst v) (s.put dst x):=by
 cases dst with
 |none=>exact h
 |some d=>
  by_cases hd:d<s.n
  ·have e1:s.put (some d) x={s with t:=(d,x)::s.t}:=ru hd x;rw[e1];refine⟨by simp [Act.put,h.size],λi=> ?_,h.inv,h.df⟩;by_cases hi:i=d
   ·subst hi;have:(a.tmps.setIfInBounds i v).getD i undef=v:=by simp [Array.getD,h.size,hd]
    simp only[Act.put,this,kY,if_true];exact hv
   ·have:(a.tmps.setIfInBounds d v).getD i undef=a.tmps.getD i undef:=by simp [Array.getElem?_setIfInBounds_ne (Ne.symm hi)]
    simp only[Act.put,this,kY,if_neg hi];exact h.tmp i
  ·have e1:s.put (some d) x=s:=DA hd x;have e2:a.put (some d) v=a:=by
    have:a.tmps.setIfInBounds d v=a.tmps:=Array.setIfInBounds_eq_of_size_le (by rw[h.size];omega);simp [Act.put,this]
   rw[e1,e2];exact h
theorem cN.move{G G':Gh}{w w':ass}{a:Act}{s:St}(h:cN G w a s)(hE:b7 G.N G w G' w')(hN:G.N<=G'.N){h':asn ao}(hi:b9 G' w' h'):cN G' w' a {s with h:=h'}:=
 ⟨h.size,λi=>(h.tmp i).bj hE hN,hi,h.df.bj hE⟩
theorem cN.ev{G:Gh}{w:ass}{a:Act}{s:St}(h:cN G w a s)(x:Operand):aJ G w (a.eval x) (ev s x):=by
 cases x with
 |tmp t=>exact h.tmp t
 |const v=>
  show aJ G w v (TO v);unfold TO;split
  ·rename_i vs
   exact .agg vs _ (by simp) λi u c hu hc=>by
    simp only[arF,arV,hu,Option.map_some,Option.some.injEq]at hc;subst hc;exact .d (.v u)
  ·rename_i vs
   exact .aX vs _ (by simp) λi u c hu hc=>by
    simp only[arF,arV,hu,Option.map_some,Option.some.injEq]at hc;subst hc;exact .d (.v u)
  ·exact .d (.v v)
 |global g=>
  show aJ G w (.pointer (some ⟨g,0,none⟩)) (match AF Bo g with|some l=> .bP [l.map .v] 0 0|none=> .dead);split
  ·next l hl=>
   have hg:=h.inv.gl.1 g l (Ww hl);have:=aJ.bP (G:=G) (w:=w) [l.map .v] 0 0 g 0 (λj=>l.getD j undef) (l.map .v) rfl (λj hj=> ?_) (λj d hd=> ?_)
   ·exact this
   ·rw[arD]at hj;have e:l[j]?=some l[j]:=arC hj;rw[arS];refine⟨(hg j _ e).1,?_⟩;rw[(hg j _ e).2];simp [hj]
   ·rw[arF]at hd;cases e:l[j]? with
    |none=>rw[e]at hd;cases hd
    |some v=>
     rw[e]at hd;cases hd
     have:l.getD j undef=v:=by simp [List.getD,e]
     rw[this];exact .v v
  ·exact .dead _
 |func f=>exact .fn f #[] [] rfl λi u c hu=>by simp at hu
def Gh.dY(G:Gh)(b:Nat):Gh:={G with N:=G.N+1,bg:=λn=>if n=G.N then b else G.bg n}
theorem FF(G:Gh)(w:ass)(hz:∀b,G.Z b->b<w.heap.size)(hS:∀b o,G.S b o->b<w.heap.size)(o:Obj):b7 G.N G w (G.dY w.heap.size) (w.alloc o):=
 ⟨by simp,λ_ _ h=>h,λb _ h=>World.cell?_alloc_lt _ _ _ (hS _ _ h),λn hn=>by simp [Gh.dY,Nat.ne_of_lt hn],λ_ _=> .inl ⟨rfl,rfl⟩,zsame rfl,
  λb hb=>Below.heap_alloc w o b (hz b hb),rfl,rfl,rfl,λ_ _ h=> .inl h⟩
theorem U6{G:Gh}{w:ass}{h:asn ao}(hi:b9 G w h)(vs:Array asr)(T:TypeId)(cs:asn AV)(hl:vs.size=cs.length)
 (hr:∀(i:Nat)(u:asr)(c:AV),vs[i]?=some u->cs[i]?=some c->aJ G w u c):
 b9 (G.dY w.heap.size) (w.alloc (.cells vs T)) (h++[.cells cs])/\aJ (G.dY w.heap.size) (w.alloc (.cells vs T)) (.pointer (some ⟨w.heap.size,0,none⟩)) (.ptr h.length 0):=by
 have hE:=FF G w hi.z hi.S (.cells vs T);have hN:G.N<=(G.dY w.heap.size).N:=Nat.le_succ _;have jS:(G.dY w.heap.size).bg h.length=w.heap.size:=by simp [Gh.dY,hi.len]
 have nC:∀n(B:ao),n<G.N->B.dX (G.dY w.heap.size) n=B.dX G n:=λn B hn=>by
  cases B<;>simp [ao.dX,Gh.dY,Nat.ne_of_lt hn]
 have fX:∀n,n<G.N->cg (h++[.cells cs]) (G.dY w.heap.size) n=cg h G n:=λn hn=>by
  have aS:n<h.length:=by rw[hi.len];exact hn
  unfold cg;rw[arI aS,arC aS];exact nC n _ hn
 have EO:cg (h++[.cells cs]) (G.dY w.heap.size) h.length=some w.heap.size:=by
  rw[dP (B:= .cells cs) (by simp)];exact congrArg some jS
 refine⟨⟨by simp [Gh.dY,hi.len],λb hb=>arW (hi.z b hb) hE.size,λb o hs=>arW (hi.S b o hs) hE.size,λn B hB=> ?_,λm n b hm hn=> ?_,hi.gl.bj hE⟩,?_⟩
 ·by_cases hn:n<h.length
  ·rw[arI hn]at hB;have fB:n<G.N:=hi.len▸hn;exact eu.bj fB hE hN ⟨rfl,rfl,rfl⟩ (λb hb=>⟨Below.heap_alloc w _ _ (hi.jq (n:=n) ((dP hB).trans hb)),λo h=>h⟩) (hi.dv n B hB)
  ·have nA:n=h.length:=by
    have:=(ary.1 hB).1;simp at this;omega
   subst nA;simp at hB;subst hB;exact⟨by rw[jS];exact λhz=>asc _ (hi.z _ hz),λo hs=>by rw[jS]at hs;exact asc _ (hi.S _ _ hs),vs,T,by rw[jS];exact World.alloc_heap_new w _,hl,λi u c hu hc=>(hr i u c hu hc).bj hE hN⟩
 ·have key:∀n b,cg (h++[.cells cs]) (G.dY w.heap.size) n=some b->(n<G.N/\cg h G n=some b)\/(n=h.length/\b=w.heap.size):=λn b hn=>by
   by_cases aS:n<G.N
   ·exact .inl ⟨aS,by rw[<-fX n aS];exact hn⟩
   ·by_cases e:n=h.length
    ·subst e;rw[EO]at hn;cases hn;exact .inr ⟨rfl,rfl⟩
    ·rw[AE (ar4 (by simp;have:=hi.len;omega))]at hn;cases hn
  rcases key m b hm with⟨_,ma⟩|⟨rfl,rfl⟩<;>rcases key n _ hn with⟨_,fB⟩|⟨rfl,hb⟩
  ·exact hi.inj m n b ma fB
  ·have:=hi.jq ma;omega
  ·have:=hi.jq fB;omega
  ·rfl
 ·have:=aJ.ptr (G:=G.dY w.heap.size) (w:=w.alloc (.cells vs T)) h.length 0 (by simp [Gh.dY,hi.len])
  rwa [jS]at this
theorem N6(w:ass)(g:Nat)(cs:Array asr):(w.setRow g cs).heap.size=w.heap.size:=by simp [World.setRow]
theorem aiP(w:ass)(g:Nat)(cs:Array asr)(b o:Nat)(h:b≠g):(w.setRow g cs).cell? ⟨b,o,none⟩=w.cell? ⟨b,o,none⟩:=World.cell?_of_block (setRow_other w g b cs h)
theorem ahO{G:Gh}{w:ass}{g:Nat}(cs:Array asr)(hg:¬G.Z g)(hS:∀b o,G.S b o->(w.setRow g cs).cell? ⟨b,o,none⟩=w.cell? ⟨b,o,none⟩):b7 G.N G w G (w.setRow g cs):=
 ⟨by rw[N6];exact arJ _,λ_ _ h=>h,hS,λ_ _=>rfl,λ_ _=> .inl ⟨rfl,rfl⟩,zsame rfl,λb hb=>setRow_other w g b cs (λe=>hg (e▸hb)),rfl,rfl,rfl,λ_ _ h=> .inl h⟩
theorem Hy(cs ys:asn AV)(off:Nat)(h:off+ys.length<=cs.length):(ib cs off ys).length=cs.length:=by
 simp [ib];omega
theorem alK{R:asr->AV->Prop}(vs us:Array asr)(cs ys:asn AV)(off:Nat)(hl:vs.size=cs.length)(hu:us.size=ys.length)(hb:off+ys.length<=cs.length)
 (hr:∀(i:Nat)(u:asr)(c:AV),vs[i]?=some u->cs[i]?=some c->R u c) (nW:∀(i:Nat)(u:asr)(c:AV),us[i]?=some u->ys[i]?=some c->R u c):
 ∀(i:Nat)(u:asr)(c:AV),(vs.toList.take off++us.toList++vs.toList.drop (off+us.toList.length)).toArray[i]?=some u->(ib cs off ys)[i]?=some c->R u c:=by
 intro i u c h1 h2;have pe:us.toList.length=ys.length:=by rw[ar5,hu]
 rw[pe]at h1;rw[List.getElem?_toArray]at h1;unfold ib at h2;simp only[arP]at h1 h2;have xl:vs.toList.length=cs.length:=by rw[ar5,hl]
 by_cases h:i<off
 ·rw[arI (by simp;omega),List.getElem?_take_of_lt h]at h1;rw[arI (by simp;omega),List.getElem?_take_of_lt h]at h2;exact hr i u c (by rw[<-arV];exact h1) h2
 ·rw[arO (by simp;omega)]at h1 h2;simp only[List.length_take,xl]at h1 h2;rw[Nat.min_eq_left (by omega)]at h1 h2;by_cases h':i-off<ys.length
  ·rw[arI (by rw[pe];exact h')]at h1;rw[arI h']at h2;exact nW (i-off) u c (by rw[<-arV];exact h1) h2
  ·rw[arO (by rw[pe];omega),List.getElem?_drop]at h1;rw[arO (by omega),List.getElem?_drop]at h2;rw[pe]at h1;rw[show off+ys.length+(i-off-ys.length)=i by omega]at h1 h2;exact hr i u c (by rw[<-arV];exact h1) h2
theorem apy{P:asq}{G:Gh}{w:ass}{h:asn ao}(hi:b9 G w h){n off:Nat}{cs:asn AV}(hn:h[n]?=some (.cells cs)){t:TypeId}{v:asr}{x:AV}
 (hv:aJ G w v x) (hb:x.jt=true) (ht:fQ P t=some x.cells.length) (ho:off+x.cells.length<=cs.length):
 ∃w',(storeVar t ⟨G.bg n,off,none⟩ v).run P w= .ok () w'/\b7 G.N G w G w'/\b9 G w' (h.set n (.cells (ib cs off x.cells))):=by
 obtain⟨hz,hS,vs,T,hh,hl,hr⟩:=hi.dv n _ hn;obtain⟨AT,Xe⟩:=hv.cells hb;obtain⟨i,jD,kR⟩:∃i,P.info? t=some i/\i.size=x.cells.length:=by
  unfold fQ at ht;cases hq:P.info? t with
  |none=>rw[hq]at ht;cases ht
  |some i=>rw[hq]at ht;exact⟨i,rfl,by simpa using ht⟩
 have iB:=run_storeCells_at P (G.bg n) off T v.cells.toList 0 vs w hh (by rw[ar5,AT,hl];simpa using ho) (λu hu=>by
  obtain⟨j,hj⟩:=List.mem_iff_getElem?.1 hu;have jz:v.cells[j]?=some u:=by rw[<-arV];exact hj
  have Ar:j<x.cells.length:=by rw[<-AT];exact(arN.1 jz).1
  exact(Xe j u _ jz (arC Ar)).2)
 simp only[Nat.add_zero]at iB;obtain⟨w',eJ⟩:∃w',w'=w.setRow (G.bg n) (vs.toList.take off++v.cells.toList++vs.toList.drop (off+v.cells.toList.length)).toArray:=⟨_,rfl⟩;rw[<-eJ]at iB;have hE:b7 G.N G w G w':=by
  rw[eJ];exact ahO _ hz λb o hs=>aiP w _ _ b o (λe=>hS o (e▸hs))
 have eN:∀m,m≠n->(h.set n (.cells (ib cs off x.cells)))[m]?=h[m]?:=λm hm=>by rw[ar6 (Ne.symm hm)]
 have mi:(h.set n (.cells (ib cs off x.cells)))[n]?=some (.cells (ib cs off x.cells)):=by
  rw[ar1 (ary.1 hn).1]
 have dV:∀m,cg (h.set n (.cells (ib cs off x.cells))) G m=cg h G m:=λm=>by
  by_cases e:m=n
  ·subst e;rw[dP mi,dP hn];rfl
  ·unfold cg;rw[eN m e]
 have m5:cg h G n=some (G.bg n):=dP hn;refine⟨w',?_,hE,⟨by rw[List.length_set];exact hi.len,λb hb=>arW (hi.z b hb) hE.size,λb o hs=>arW (hi.S b o hs) hE.size,λm B hB=> ?_,λm m' b h1 h2=>hi.inj m m' b (by rw[<-dV];exact h1) (by rw[<-dV];exact h2),hi.gl.bj hE⟩⟩
 ·unfold storeVar;simp only[sizeOf,typeInfo,Sem.run_bind,AT];simp [jD,kR,iB]
 ·by_cases e:m=n
  ·subst e;rw[mi]at hB;cases hB
   refine⟨hz,hS,_,T,by rw[eJ];exact setRow_heap w _ vs _ T _ hh,?_,λi u c hu hc=> ?_⟩
   ·rw[Hy _ _ _ ho];have:v.cells.toList.length=x.cells.length:=by rw[ar5];exact AT
    simp only[List.size_toArray,arz,List.length_take,List.length_drop,ar5,hl,AT];omega
   ·exact(alK (R:=aJ G w) vs v.cells cs x.cells off hl AT ho hr (λi u c h1 h2=>(Xe i u c h1 h2).1) i u c hu hc).bj hE (arJ _)
  ·rw[eN m e]at hB;have cP:∀b,cg h G m=some b->b≠G.bg n:=λb hb eb=>e (hi.inj m n b hb (by rw[eb];exact m5));refine eu.bj (hi.lt hB) hE (arJ _) ⟨rfl,rfl,rfl⟩ (λb hb=>⟨?_,λo h=>h⟩) (hi.dv m B hB);rw[eJ];exact setRow_other w _ _ _ (cP _ ((dP hB).trans hb))
theorem dD.pJ{S:Nat->Nat->Prop}{w:ass}{v:asr}{xs:asn (asn D)}(h:dD S w v (.sl xs)):
 ∃(A:asp Addr)(b o c k:Nat)(u:Nat->Nat->asr),v= .slice A xs.length c/\(xs≠ []->A=some ⟨b,o,none⟩)/\xs.length<=c/\c<=maxLen/\(∀x∈xs,x.length=k)/\
  (∀i j,i<xs.length->j<k->S b (o+i*k+j)/\w.cell? ⟨b,o+i*k+j,none⟩=some (u i j)/\(u i j).oneCell'=true)/\
  (∀(i j:Nat)(x:asn D)(d:D),xs[i]?=some x->x[j]?=some d->dD S w (u i j) d):=by
 cases h with
 |sl A b o c k xs u hA hc hm hk hS hu=>exact⟨A,b,o,c,k,u,rfl,hA,hc,hm,hk,hS,hu⟩
structure Rd(S:Nat->Nat->Prop)(w:World)(k:Nat)(xs:List (List D))(us:List Value):Prop where
 len:us.length=xs.length*k
 wid:∀x∈xs,x.length=k
 one:∀u∈us,u.oneCell'=true
 rel:∀(i j:Nat)(x:List D)(d:D),xs[i]?=some x->x[j]?=some d->∃u,us[i*k+j]?=some u/\dD S w u d
theorem Rd.bj{S S':Nat->Nat->Prop}{w w':ass}{k:Nat}{xs:asn (asn D)}{us:asn asr}(h:Rd S w k xs us)(hS:∀b o,S b o->S' b o)(hc:∀b o,S b o->w'.cell? ⟨b,o,none⟩=w.cell? ⟨b,o,none⟩):Rd S' w' k xs us:=
 ⟨h.len,h.wid,h.one,λi j x d hx hd=>let ⟨u,h1,h2⟩:=h.rel i j x d hx hd;⟨u,h1,h2.bj hS hc⟩⟩
theorem Rd.append{S:Nat->Nat->Prop}{w:ass}{k:Nat}{xs ys:asn (asn D)}{us vs:asn asr}(h:Rd S w k xs us)(h':Rd S w k ys vs):Rd S w k (xs++ys) (us++vs):=by
 refine⟨by rw[arz,arz,h.len,h'.len,Nat.add_mul],λx hx=> ?_,λu hu=> ?_,λi j x d hx hd=> ?_⟩
 ·rcases asa.1 hx with hx|hx
  ·exact h.wid x hx
  ·exact h'.wid x hx
 ·rcases asa.1 hu with hu|hu
  ·exact h.one u hu
  ·exact h'.one u hu
 ·by_cases hi:i<xs.length
  ·rw[arI hi]at hx;obtain⟨u,h1,h2⟩:=h.rel i j x d hx hd;exact⟨u,by rw[arI (ary.1 h1).1];exact h1,h2⟩
  ·rw[arO (by omega)]at hx;obtain⟨u,h1,h2⟩:=h'.rel (i-xs.length) j x d hx hd;refine⟨u,?_,h2⟩;have e:i*k+j=xs.length*k+((i-xs.length)*k+j):=by rw[Nat.sub_mul];have:=Nat.mul_le_mul_right k (Nat.le_of_not_lt hi);omega
   rw[e,arO (by rw[h.len];omega),h.len,Nat.add_sub_cancel_left];exact h1
theorem Rd.Ir{S:Nat->Nat->Prop}{w:ass}{k:Nat}{xs:asn (asn D)}{us:asn asr}(h:Rd S w k xs us)(b c:Nat)(hc:xs.length<=c)(hm:c<=maxLen)
 (hS:∀o,o<xs.length*k->S b o) (iG:∀(o:Nat)(u:asr),us[o]?=some u->w.cell? ⟨b,o,none⟩=some u):dD S w (.slice (some ⟨b,0,none⟩) xs.length c) (.sl xs):=by
 refine .sl _ b 0 c k xs (λi j=>us.getD (i*k+j) undef) (λ_=>rfl) hc hm h.wid (λi j hi hj=> ?_) (λi j x d hx hd=> ?_)
 ·have aS:i*k+j<xs.length*k:=by
   have:(i+1)*k<=xs.length*k:=Nat.mul_le_mul_right k hi;rw[Nat.add_mul]at this;omega
  have hg:us[i*k+j]?=some (us[i*k+j]'(by rw[h.len];exact aS)):=arC (by rw[h.len];exact aS);rw[arS];refine⟨hS _ aS,?_,?_⟩
  ·rw[iG _ _ hg];simp [hg]
  ·simp only[List.getD_eq_getElem?_getD,hg,Option.getD_some];exact h.one _ (List.getElem_mem _)
 ·obtain⟨u,h1,h2⟩:=h.rel i j x d hx hd;simp only[List.getD_eq_getElem?_getD,h1,Option.getD_some];exact h2
theorem dD.rd{S:Nat->Nat->Prop}{w:ass}{v:asr}{xs:asn (asn D)}{k:Nat}(h:dD S w v (.sl xs))(gK:0<k)(hk:∀x∈xs,x.length=k):
 ∃us,Rd S w k xs us/\∃A c,v= .slice A xs.length c/\xs.length<=c/\c<=maxLen/\(xs≠ []->∃b o,A=some ⟨b,o,none⟩/\∀(j:Nat)(u:asr),us[j]?=some u->S b (o+j)/\w.cell? ⟨b,o+j,none⟩=some u):=by
 obtain⟨A,b,o,c,k',u,rfl,hA,hc,hm,jA,hS,hu⟩:=h.pJ;by_cases hx:xs=[]
 ·subst hx;exact⟨[],⟨by simp,(λ_ h=>by cases h),(λ_ h=>by cases h),λi j x d hx=>by simp at hx⟩,A,c,rfl,hc,hm,λh=>absurd rfl h⟩
 ·have ek:k'=k:=by
   obtain⟨x,ox⟩:=List.exists_mem_of_ne_nil xs hx;rw[<-jA x ox,hk x ox]
  subst ek;refine⟨(List.range (xs.length*k')).map λt=>u (t / k') (t%k'),⟨by simp,hk,λv hv=> ?_,λi j x d hx hd=> ?_⟩,A,c,rfl,hc,hm,λcP=>⟨b,o,hA cP,λj v hv=> ?_⟩⟩
  ·obtain⟨t,ht,rfl⟩:=List.mem_map.1 hv;have qP:=List.mem_range.1 ht;exact(hS (t / k') (t%k') (Nat.div_lt_of_lt_mul (by rw[Nat.mul_comm];exact qP)) (Nat.mod_lt _ gK)).2.2
  ·have hj:j<k':=by rw[<-hk x (arL hx)];exact(ary.1 hd).1
   have hi:i<xs.length:=(ary.1 hx).1;refine⟨u i j,?_,hu i j x d hx hd⟩;have aS:i*k'+j<xs.length*k':=by
    have:(i+1)*k'<=xs.length*k':=Nat.mul_le_mul_right k' hi;rw[Nat.add_mul]at this;omega
   rw[arF,List.getElem?_range aS];simp only[Option.map_some,Option.some.injEq];rw[show(i*k'+j)/ k'=i by rw[Nat.add_comm,Nat.add_mul_div_right _ _ gK,Nat.div_eq_of_lt hj,arS],show(i*k'+j)%k'=j by rw[Nat.add_comm,Nat.add_mul_mod_self_right,Nat.mod_eq_of_lt hj]]
  ·rw[arF]at hv;by_cases hj:j<xs.length*k'
   ·rw[List.getElem?_range hj]at hv;simp only[Option.map_some,Option.some.injEq]at hv;subst hv;have:=hS (j / k') (j%k') (Nat.div_lt_of_lt_mul (by rw[Nat.mul_comm];exact hj)) (Nat.mod_lt _ gK);have e:o+j / k'*k'+j%k'=o+j:=by have:=Nat.div_add_mod j k';rw[Nat.mul_comm]at this;omega
    rw[e]at this;exact⟨this.1,this.2.1⟩
   ·rw[ar4 (by simp;omega)]at hv;cases hv
theorem dD.src{P:asq}{S:Nat->Nat->Prop}{w:ass}{v:asr}{xs:asn (asn D)}{k:Nat}(h:dD S w v (.sl xs))(gK:0<k)(hk:∀x∈xs,x.length=k){tx e':TypeId}(ht:P.underlying tx=some (.slice e')):
 ∃us,Rd S w k xs us/\Src P k tx v xs.length us w:=by
 obtain⟨us,hr,A,c,rfl,_,_,hA⟩:=h.rd gK hk;refine⟨us,hr,?_⟩;by_cases hx:xs=[]
 ·subst hx;have ml:us=[]:=List.eq_nil_of_length_eq_zero (by rw[hr.len];simp);subst ml;cases A with
  |none=>exact Src.ofNil w ht c
  |some a=>exact Src.ofSlice w ht a 0 c [] (by simp) (λj u hu=>by simp at hu) (λu hu=>by cases hu)
 ·obtain⟨b,o,rfl,hc⟩:=hA hx;exact Src.ofSlice w ht _ _ c us hr.len (λj u hu=>by rw[lH];exact(hc j u hu).2) hr.one
def Gh.addF(G:Gh)(v:asr)(len:Nat):Gh:=
 {G with N:=G.N+1,sg:=λn=>if n=G.N then v else G.sg n,fl:=λn=>if n=G.N then len else G.fl n,ow:=λn=>if n=G.N then none else G.ow n}
theorem Ud{G:Gh}{w:ass}{h:asn ao}(hi:b9 G w h){v:asr}{xs:asn (asn D)}(hv:dD G.S w v (.sl xs))(hf:∃A,v= .slice A xs.length xs.length)(e:TypeId)(k:Nat):
 b7 G.N G w (G.addF v xs.length) w/\G.N<=(G.addF v xs.length).N/\b9 (G.addF v xs.length) w (h++[.front e k xs.length])/\aJ (G.addF v xs.length) w v (.own h.length xs):=by
 have cP:∀n,n<G.N->n≠G.N:=λn hn=>Nat.ne_of_lt hn;have hE:b7 G.N G w (G.addF v xs.length) w:=⟨arJ _,λ_ _ h=>h,λ_ _ _=>rfl,λ_ _=>rfl,λn hn=> .inl ⟨by simp [Gh.addF,cP n hn],by simp [Gh.addF,cP n hn]⟩,zsame rfl,λ_ _=>rfl,rfl,rfl,rfl,λ_ _ h=> .inl h⟩;have hN:G.N<=(G.addF v xs.length).N:=Nat.le_succ _;have Zc:xs.length<=maxLen:=by
  obtain⟨A,b,o,c,k',u,_,_,h1,h2,_⟩:=hv.pJ;exact arQ h1 h2
 have nC:∀n(B:ao),n<G.N->B.dX (G.addF v xs.length) n=B.dX G n:=λn B hn=>by
  cases B<;>simp [ao.dX,Gh.addF,Nat.ne_of_lt hn]
 have hold:∀n b,cg (h++[.front e k xs.length]) (G.addF v xs.length) n=some b->cg h G n=some b:=λn b hb=>by
  by_cases hn:n<h.length
  ·unfold cg at hb ⊢;rw[arI hn,arC hn]at hb;rw[arC hn];rw[<-hb];exact(nC n _ (hi.len▸hn)).symm
  ·by_cases en:n=h.length
   ·subst en;rw[dP (B:= .front e k xs.length) (by simp)]at hb;simp [ao.dX,Gh.addF,hi.len]at hb
   ·rw[AE (ar4 (by simp;omega))]at hb;cases hb
 refine⟨hE,hN,⟨by simp [Gh.addF,hi.len],hi.z,hi.S,λn B hB=> ?_,λm n b hm hn=>hi.inj m n b (hold m b hm) (hold n b hn),hi.gl.bj hE⟩,?_⟩
 ·by_cases hn:n<h.length
  ·rw[arI hn]at hB;have fB:n<G.N:=hi.len▸hn;exact eu.bj fB hE hN ⟨by simp [Gh.addF,cP n fB],by simp [Gh.addF,cP n fB],by simp [Gh.addF,cP n fB]⟩ (λb hb=>⟨rfl,λo h=>h⟩) (hi.dv n B hB)
  ·have nA:n=h.length:=by
    have:=(ary.1 hB).1;simp at this;omega
   subst nA;simp at hB;subst hB;obtain⟨A,hA⟩:=hf;exact⟨by simp [Gh.addF,hi.len],Zc, .inl ⟨by simp [Gh.addF,hi.len],A,by simp [Gh.addF,hi.len,hA]⟩⟩
 ·exact .own h.length xs (by simp [Gh.addF,hi.len]) hv (by simp [Gh.addF,hi.len]) (λ_=>by simp [Gh.addF,hi.len])
theorem SC{P:asq}{e k b:Nat}(hk:fQ P e=some k)(hb:qX P e=some b):∃i,P.info? e=some i/\i.size=k/\i.bytes=b:=by
 unfold fQ at hk;unfold qX at hb;cases hq:P.info? e with
 |none=>rw[hq]at hk;cases hk
 |some i=>rw[hq]at hk hb;exact⟨i,rfl,by simpa using hk,by simpa using hb⟩
def Gh.grow(G:Gh)(n:Nat)(S:Nat->Nat->Prop)(v:asr)(len:Nat)(ow:asp Nat):Gh:=
 {G with S:=S,sg:=λm=>if m=n then v else G.sg m,fl:=λm=>if m=n then len else G.fl m,ow:=λm=>if m=n then ow else G.ow m}
theorem abc{G:Gh}{w w':ass}{h:asn ao}(hi:b9 G w h){n e k len gL:Nat}(hn:h[n]?=some (.front e k len))(S:Nat->Nat->Prop)(v:asr)(g:Nat)
 (hE:b7 G.N G w (G.grow n S v gL (some g)) w') (hg:g=w.heap.size\/G.ow n=some g) (hgw:g<w'.heap.size)
 (hS:∀b o,S b o->G.S b o\/b=g) (iT:∀b,b<w.heap.size->b≠g->w'.heap[b]?=w.heap[b]?)
 (hB:eu (G.grow n S v gL (some g)) w' n (.front e k gL)):b9 (G.grow n S v gL (some g)) w' (h.set n (.front e k gL)):=by
 have eN:∀m,m≠n->(h.set n (.front e k gL))[m]?=h[m]?:=λm hm=>by rw[ar6 (Ne.symm hm)]
 have mi:(h.set n (.front e k gL))[n]?=some (.front e k gL):=by rw[ar1 (ary.1 hn).1]
 have nC:∀m(B:ao),m≠n->B.dX (G.grow n S v gL (some g)) m=B.dX G m:=λm B hm=>by
  cases B<;>simp [ao.dX,Gh.grow,hm]
 have dV:∀m,m≠n->cg (h.set n (.front e k gL)) (G.grow n S v gL (some g)) m=cg h G m:=λm hm=>by
  unfold cg;rw[eN m hm];cases h[m]? with
  |none=>rfl
  |some B=>exact nC m B hm
 have xk:∀m,m≠n->cg h G m≠some g:=λm hm hb=>by
  rcases hg with hg|hg
  ·have:=hi.jq hb;omega
  ·exact hm (hi.inj m n g hb ((dP hn).trans hg))
 refine⟨by rw[List.length_set];exact hi.len,λb hb=>arW (hi.z b hb) hE.size,λb o hs=> ?_,λm B hm=> ?_,λm m' b h1 h2=> ?_,hi.gl.bj hE⟩
 ·rcases hS b o hs with hs|hs
  ·exact arW (hi.S b o hs) hE.size
  ·rw[hs];exact hgw
 ·by_cases em:m=n
  ·subst em;rw[mi]at hm;cases hm;exact hB
  ·rw[eN m em]at hm;refine eu.bj (hi.lt hm) hE (arJ _) ⟨by simp [Gh.grow,em],by simp [Gh.grow,em],by simp [Gh.grow,em]⟩ (λb hb=> ?_) (hi.dv m B hm);have hr:cg h G m=some b:=(dP hm).trans hb;have cP:b≠g:=λe'=>xk m em (by rw[hr,e']);refine⟨iT _ (hi.jq hr) cP,λo k8 hs=> ?_⟩;rcases hS _ o hs with hs|hs
   ·exact k8 hs
   ·exact cP hs
 ·by_cases e1:m=n<;>by_cases e2:m'=n
  ·rw[e1,e2]
  ·subst e1;rw[dV m' e2]at h2;have:cg (h.set m (.front e k gL)) (G.grow m S v gL (some g)) m=some g:=by rw[dP mi];simp [ao.dX,Gh.grow]
   rw[this]at h1;cases h1;exact absurd h2 (xk m' e2)
  ·subst e2;rw[dV m e1]at h1;have:cg (h.set m' (.front e k gL)) (G.grow m' S v gL (some g)) m'=some g:=by rw[dP mi];simp [ao.dX,Gh.grow]
   rw[this]at h2;cases h2;exact absurd h1 (xk m e1)
  ·rw[dV m e1]at h1;rw[dV m' e2]at h2;exact hi.inj m m' b h1 h2
set_option maxHeartbeats 1000000 in
theorem aaO{P:asq}{G:Gh}{w:ass}{h:asn ao}(hi:b9 G w h){T tx ty e k cE:Nat}{i:TypeInfo}{z:asr}(hT:P.underlying T=some (.slice e))(lv:P.info? e=some i)(hz:i.zero=some z)(n7:i.size=k)(xZ:i.bytes=cE)(kf:z.cells.size=k)
 (gK:0<k) {n:Nat} {xs ys:asn (asn D)} (hn:h[n]?=some (.front e k xs.length)) {u v:asr} (hu:aJ G w u (.own n xs)) (nX:∀x∈xs,x.length=k)
 {us:asn asr} (hr:Rd G.S w k ys us) (hs:Src P k tx v ys.length us w) (wW:xs.length+ys.length<=maxLen) (pK:(xs.length+ys.length)*cE<=140737488355328):
 ∃r w' G',(Builtin.append_ #[T,tx] ty #[u,v]).run P w= .ok r w'/\b7 G.N G w G' w'/\G.N<=G'.N/\b9 G' w' (h.set n (.front e k (xs.length+ys.length)))/\aJ G' w' r (.own n (xs++ys)):=by
 subst n7;subst xZ;have oW:=hi.lt hn;obtain⟨mz,Zc,hbr⟩:=hi.dv n _ hn;obtain⟨hp,Yz⟩:dD G.S w u (.sl xs)/\u=G.sg n:=by
  cases hu with
  |own _ _ _ hp hle hf=>exact⟨hp,hf mz.symm⟩
 obtain⟨olds,BP,A,c,CN,la,su,hA⟩:=hp.rd gK nX;have To:h.set n (.front e i.size (xs.length+0))=h:=by
  rw[Nat.add_zero];refine List.ext_getElem? λm=> ?_;by_cases em:m=n
  ·subst em;rw[ar1 (ary.1 hn).1,hn]
  ·rw[ar6 (Ne.symm em)]
 by_cases hy:ys.length=0
 ·have jT:ys=[]:=List.eq_nil_of_length_eq_zero hy;subst jT;have ml:us=[]:=List.eq_nil_of_length_eq_zero (by rw[hr.len];simp);subst ml;have:=run_append_nothing (P:=P) w T tx ty e i hT lv A xs.length c la v hs;refine⟨u,w,G,by rw[CN];exact this,b7.refl _ _ _,arJ _,?_,by rw[arT];exact hu⟩;simp only[arK];rw[To];exact hi
 ·have hy0:0<ys.length:=Nat.pos_of_ne_zero hy;have PF:xs.length+ys.length<=9223372036854775807:=by simp only[maxLen]at wW;omega
  have Qh:Rd G.S w i.size (xs++ys) (olds++us):=BP.append hr;have grow:c<xs.length+ys.length->∃r w' G',(Builtin.append_ #[T,tx] ty #[u,v]).run P w= .ok r w'/\b7 G.N G w G' w'/\G.N<=G'.N/\b9 G' w' (h.set n (.front e i.size (xs.length+ys.length)))/\aJ G' w' r (.own n (xs++ys)):=by
   intro hg;have hold:(Builtin.firstCells i.size xs.length (.slice A xs.length c)).run P w.drew= .ok olds.toArray w.drew:=by
    by_cases hx:xs=[]
    ·subst hx;have:olds=[]:=List.eq_nil_of_length_eq_zero (by rw[BP.len];simp);subst this;cases A with
     |none=>exact run_firstCells_none _ _ _ _ _
     |some a=>exact run_firstCells_some _ _ _ _ _ _ [] (by simp) (λj u hu=>by simp at hu)
    ·obtain⟨b,o,rfl,hc⟩:=hA hx;exact run_firstCells_some _ _ _ _ _ _ olds BP.len (λj u hu=>by rw[lH];exact(hc j u hu).2)
   have dK:=run_append_grow_src (P:=P) w T tx ty e i z hT lv hz A xs.length c olds hold v ys.length us hs hg (by omega) (growslice_fits hg pK);obtain⟨cap,j0⟩:∃cap,cap=grownCap w (xs.length+ys.length) c e:=⟨_,rfl⟩;have kG:xs.length+ys.length<=cap:=by rw[j0];exact grownCap_ge _ _ _ _
   have hle:cap<=maxLen:=by rw[j0];exact grownCap_le_maxLen _ _ _ _ wW
   rw[<-j0]at dK;obtain⟨cur,kh⟩:∃cur,cur=(olds++us).toArray++Builtin.zeroCells z.cells (cap-(xs.length+ys.length)):=⟨_,rfl⟩;rw[<-kh]at dK;obtain⟨w',eJ⟩:∃w',w'=w.drew.alloc (.cells cur e):=⟨_,rfl⟩;rw[<-eJ]at dK;have gx:cur.size=cap*i.size:=by
     have:=size_zeroCells z.cells (cap-(xs.length+ys.length));rw[kh,Array.size_append,this,List.size_toArray,Qh.len,kf,arz,<-Nat.add_mul]
     congr 1
     omega
   have fX:w'.heap[w.heap.size]?=some (.cells cur e (0,0)):=by rw[eJ];exact World.alloc_heap_new w.drew _
   have RR:∀b,b<w.heap.size->w'.heap[b]?=w.heap[b]?:=λb hb=>by rw[eJ];exact Below.heap_alloc w.drew _ b hb
   have iw:w'.heap.size=w.heap.size+1:=by rw[eJ];simp
   obtain⟨S,hS⟩:∃S:Nat->Nat->Prop,S=λb o=>G.S b o\/(b=w.heap.size/\o<(xs.length+ys.length)*i.size):=⟨_,rfl⟩;have iG:∀b o,G.S b o->w'.cell? ⟨b,o,none⟩=w.cell? ⟨b,o,none⟩:=λb o hs=>World.cell?_of_block (RR b (hi.S b o hs));have hE:b7 G.N G w (G.grow n S (.slice (some ⟨w.heap.size,0,none⟩) (xs.length+ys.length) cap) (xs.length+ys.length) (some w.heap.size)) w':=
    ⟨by rw[iw];exact Nat.le_succ _,λb o h=>by show S b o;rw[hS];exact .inl h,iG,λ_ _=>rfl,
     λm _=>by
      by_cases em:m=n
      ·right;subst em;simp only[Gh.grow,if_true,mz];omega
      ·left;exact⟨by simp [Gh.grow,em],by simp [Gh.grow,em]⟩,
     zsame rfl,λb hb=>RR b (hi.z b hb),by rw[eJ];rfl,by rw[eJ];rfl,by rw[eJ];rfl,λb o hs=>by
      have ct:S b o:=hs;rw[hS]at ct;rcases ct with h|⟨rfl,_⟩
      ·exact .inl h
      ·exact .inr λhz=>asc _ (hi.z _ hz)⟩
   have hP:dD S w' (.slice (some ⟨w.heap.size,0,none⟩) (xs++ys).length cap) (.sl (xs++ys)):=by
    refine(Qh.bj (S':=S) (w':=w') (λb o h=>by rw[hS];exact .inl h) iG).Ir w.heap.size cap (by rw[arz];exact kG) hle (λo ho=>by rw[hS];exact .inr ⟨rfl,by rw[arz]at ho;exact ho⟩) (λo x ho=> ?_);rw[cell_of_row w' w.heap.size o cur e (0,0) fX,kh,Array.getElem?_append_left (by simp only[List.size_toArray];exact(ary.1 ho).1),List.getElem?_toArray];exact ho
   rw[arz]at hP;refine⟨_,w',_,by rw[CN];exact dK,hE,arJ _,abc hi hn S _ w.heap.size hE (.inl rfl) (by rw[iw];exact asl _) (λb o hs=> ?_) (λb hb _=>RR b hb) ?_,?_⟩
   ·rw[hS]at hs;exact hs.imp id And.left
   ·refine⟨by simp [Gh.grow],wW, .inr ⟨w.heap.size,cap,cur,by simp [Gh.grow],by simp [Gh.grow],λhz=>asc _ (hi.z _ hz),fX,kG,hle,gx,λo ho hs=> ?_⟩⟩;have ct:S w.heap.size o:=hs;rw[hS]at ct;rcases ct with ct|⟨_,ct⟩
    ·have:=hi.S _ _ ct;omega
    ·omega
   ·exact .own n (xs++ys) oW hP (by simp [Gh.grow]) (λ_=>by simp [Gh.grow])
  rcases hbr with⟨kp,A',lI⟩|⟨g,cap,cur,kp,lI,L9,qZ,OP,S0,hb7,Wd⟩
  ·refine grow ?_;rw[Yz,lI]at CN;cases CN
   omega
  ·have XB:=CN;rw[Yz,lI]at XB;injection XB with eA0 _ e1;have e2:=e1.symm;subst e2;subst eA0;by_cases rD:xs.length+ys.length<=c
   ·
    have mq:xs.length*i.size+us.length<=cur.size:=by rw[hr.len,hb7,<-Nat.add_mul];exact Nat.mul_le_mul_right _ rD
    have FT:∀o,w.cell? ⟨g,o,none⟩=cur[o]?:=λo=>cell_of_row w g o cur e (0,0) qZ;have AB:∀j,j<us.length->(w.cell? ⟨g,0+xs.length*i.size+j,none⟩).isSome=true:=λj hj=>by
     rw[FT,arS,arU (by omega)];rfl
    have dK:=run_append_room_src (P:=P) w T tx ty e i hT lv g 0 xs.length c v ys.length us hs rD AB
     (λj hj=>by unfold World.frozen?;rw[qZ];simp)
    rw[arS]at dK AB;obtain⟨w',eJ⟩:∃w',w'=w.setCells g (xs.length*i.size) us:=⟨_,rfl⟩;rw[<-eJ]at dK;have alX:g<w.heap.size:=(arN.1 qZ).1;have iB:=run_storeCells_at P g (xs.length*i.size) e us 0 cur w qZ (by simpa using mq) hs.one;have yO:=run_storeCells_cells (P:=P) g (xs.length*i.size) us 0 w (by simpa using AB) (λj hj=>by unfold World.frozen?;rw[qZ];simp) hs.one;simp only[Nat.add_zero]at iB yO;rw[iB]at yO;have zD:w'=w.setRow g (cur.toList.take (xs.length*i.size)++us++cur.toList.drop (xs.length*i.size+us.length)).toArray:=by
      rw[eJ];injection yO with _ e2;exact e2.symm
    obtain⟨qp,Rq⟩:∃qp:Array asr,qp=(cur.toList.take (xs.length*i.size)++us++cur.toList.drop (xs.length*i.size+us.length)).toArray:=⟨_,rfl⟩;rw[<-Rq]at zD;have oY:w'.heap[g]?=some (.cells qp e (0,0)):=by rw[zD];exact setRow_heap w g cur qp e _ qZ
    have iT:∀b,b≠g->w'.heap[b]?=w.heap[b]?:=λb hb=>by rw[zD];exact setRow_other w g b qp hb
    have iw:w'.heap.size=w.heap.size:=by rw[zD];exact N6 w g qp
    have j6:∀o,qp[o]?=if o<xs.length*i.size then cur[o]? else if o<xs.length*i.size+us.length then us[o-xs.length*i.size]? else cur[o]?:=λo=>by
     rw[Rq,List.getElem?_toArray,arP];have hl:cur.toList.length=cur.size:=ar5;by_cases h1:o<xs.length*i.size
     ·rw[if_pos h1,arI (by simp;omega),List.getElem?_take_of_lt h1,arV]
     ·rw[if_neg h1,arO (by simp;omega)];simp only[List.length_take,hl];rw[Nat.min_eq_left (by omega)];by_cases h2:o<xs.length*i.size+us.length
      ·rw[if_pos h2,arI (by omega)]
      ·rw[if_neg h2,arO (by omega),List.getElem?_drop,show xs.length*i.size+us.length+(o-xs.length*i.size-us.length)=o by omega,arV]
    have aid:qp.size=cur.size:=by
     rw[Rq];simp only[List.size_toArray,arz,List.length_take,List.length_drop,ar5];omega
    have iG:∀b o,G.S b o->w'.cell? ⟨b,o,none⟩=w.cell? ⟨b,o,none⟩:=λb o hs=>by
     by_cases eb:b=g
     ·subst eb;have ho:o<xs.length*i.size:=Nat.lt_of_not_le λhle=>Wd o hle hs;rw[FT,cell_of_row w' b o qp e (0,0) oY,j6,if_pos ho]
     ·exact World.cell?_of_block (iT b eb)
    obtain⟨S,hS⟩:∃S:Nat->Nat->Prop,S=λb o=>G.S b o\/(b=g/\o<(xs.length+ys.length)*i.size):=⟨_,rfl⟩;have hE:b7 G.N G w (G.grow n S (.slice (some ⟨g,0,none⟩) (xs.length+ys.length) c) (xs.length+ys.length) (some g)) w':=
     ⟨by rw[iw];exact arJ _,λb o h=>by show S b o;rw[hS];exact .inl h,iG,λ_ _=>rfl,
      λm _=>by
       by_cases em:m=n
       ·right;subst em;simp only[Gh.grow,if_true,mz];omega
       ·left;exact⟨by simp [Gh.grow,em],by simp [Gh.grow,em]⟩,
      zsame rfl,λb hb=>iT b (λe=>L9 (e▸hb)),by rw[zD];rfl,by rw[zD];rfl,by rw[zD];rfl,λb o hs=>by
       have ct:S b o:=hs;rw[hS]at ct;rcases ct with h|⟨rfl,_⟩
       ·exact .inl h
       ·exact .inr L9⟩
    have hP:dD S w' (.slice (some ⟨g,0,none⟩) (xs++ys).length c) (.sl (xs++ys)):=by
     refine(Qh.bj (S':=S) (w':=w') (λb o h=>by rw[hS];exact .inl h) iG).Ir g c (by rw[arz];exact rD) S0 (λo ho=>by rw[hS];exact .inr ⟨rfl,by rw[arz]at ho;exact ho⟩) (λo x ho=> ?_);rw[cell_of_row w' g o qp e (0,0) oY,j6];have iD:olds.length=xs.length*i.size:=BP.len;by_cases h1:o<xs.length*i.size
     ·rw[if_pos h1];rw[arI (by omega)]at ho;have hx:xs≠ []:=λe=>by subst e;simp at h1
      obtain⟨b,o',eA,hc⟩:=hA hx;cases eA
      have:=(hc o x ho).2;rw[arS,FT]at this;exact this
     ·rw[if_neg h1];rw[arO (by omega),iD]at ho;have:=(ary.1 ho).1;rw[if_pos (by omega)];exact ho
    rw[arz]at hP;refine⟨_,w',_,by rw[CN];exact dK,hE,arJ _,abc hi hn S _ g hE (.inr kp) (by rw[iw];exact alX) (λb o hs=> ?_) (λb _ hb=>iT b hb) ?_,?_⟩
    ·rw[hS]at hs;exact hs.imp id And.left
    ·refine⟨by simp [Gh.grow],wW, .inr ⟨g,c,qp,by simp [Gh.grow],by simp [Gh.grow],L9,oY,rD,S0,by rw[aid,hb7],λo ho hs=> ?_⟩⟩;have ct:S g o:=hs;rw[hS]at ct;rcases ct with ct|⟨_,ct⟩
     ·exact Wd o (arQ (Nat.mul_le_mul_right _ (asd _ _)) ho) ct
     ·omega
    ·exact .own n (xs++ys) oW hP (by simp [Gh.grow]) (λ_=>by simp [Gh.grow])
   ·exact grow (by omega)
def WF(r:asp Nat):Fence:={Fence.wide with round:=r}
def jv(N0:Nat)(G:Gh)(w:ass)(K:St->Prop)(a':Act)(w':ass):Prop:=∃G' s',b7 N0 G w G' w'/\N0<=G'.N/\cN G' w' a' s'/\K s'
section
variable {P:asq} {r:asp Nat} {n N0:Nat} {G:Gh} {w:ass} {a:Act} {s:St} {o:Oper} {K:St->Prop} {Q:Exit->Act->ass->Prop}
theorem pk(fJ:∀c,o.op≠ .defer c)(hs:cN G w a s)(cB:N0<=G.N){v:asr}{x:AV}{w':ass}{G':Gh}{h':asn ao}(hr:(execOp a.eval o).run P w= .ok (.value v) w')
 (hE:b7 G.N G w G' w') (hN:G.N<=G'.N) (hi:b9 G' w' h') (hv:aJ G' w' v x) (hK:K ((s.wh h').put o.dst x)):o.wpIn (WF r) n P a w (jv N0 G w K) Q:=by
 refine⟨λ_ _=>trivial,?_⟩;rw[Oper.semAt_eq _ _ _ fJ,hr];exact⟨G',_,hE.less cB,arQ cB hN,((hs.move hE hN hi).put hv o.dst),hK⟩
theorem fv(fJ:∀c,o.op≠ .defer c)(hs:cN G w a s)(cB:N0<=G.N){v:asr}{x:AV}(hr:(execOp a.eval o).run P w= .ok (.value v) w)(hv:aJ G w v x)(hK:K (s.put o.dst x)):
 o.wpIn (WF r) n P a w (jv N0 G w K) Q:=
 pk fJ hs cB hr (b7.refl _ _ _) (arJ _) hs.inv hv hK
theorem RI(fJ:∀c,o.op≠ .defer c)(hs:cN G w a s)(cB:N0<=G.N){w':ass}{G':Gh}{h':asn ao}(hr:(execOp a.eval o).run P w= .ok .skip w')
 (hE:b7 G.N G w G' w') (hN:G.N<=G'.N) (hi:b9 G' w' h') (hK:K ((s.wh h').put o.dst (.d (.v undef)))):o.wpIn (WF r) n P a w (jv N0 G w K) Q:=by
 refine⟨λ_ _=>trivial,?_⟩;rw[Oper.semAt_eq _ _ _ fJ,hr];exact⟨G',_,hE.less cB,arQ cB hN,((hs.move hE hN hi).put (.d (.v undef)) o.dst),hK⟩
theorem Vw{t k:Nat}(h:fQ P t=some k):∃i,P.info? t=some i/\i.size=k:=by
 unfold fQ at h;cases hq:P.info? t with
 |none=>rw[hq]at h;cases h
 |some i=>rw[hq]at h;exact⟨i,rfl,by simpa using h⟩
theorem MZ{t:Nat}{z:asr}(h:iR P t=some z):∃i,P.info? t=some i/\i.zero=some z:=by
 unfold iR at h;cases hq:P.info? t with
 |none=>rw[hq]at h;cases h
 |some i=>rw[hq]at h;exact⟨i,rfl,by simpa using h⟩
theorem Mp{t:Nat}{z:asr}(h:iR P t=some z)(w:ass):(zeroValue t).run P w= .ok z w:=by
 obtain⟨i,h1,h2⟩:=MZ h;simp [zeroValue,typeInfo,h1,h2]
theorem mn{t k:Nat}(h:fQ P t=some k)(w:ass):(sizeOf t).run P w= .ok k w:=by
 obtain⟨i,h1,h2⟩:=Vw h;simp [sizeOf,typeInfo,h1,h2]
theorem Gi{t:Nat}{g:Bool}(h:mu P t=some g)(w:ass):(isAgg t).run P w= .ok g w:=by
 unfold mu at h;cases hq:P.underlying t with
 |none=>rw[hq]at h;cases h
 |some d=>
  rw[hq]at h;unfold isAgg;rw[Sem.run_bind,run_underlying hq w];simp only[Option.map_some,Option.some.injEq]at h;subst h;cases d<;>rfl
theorem amx{t:Nat}(h:mu P t=some true):∃d,P.underlying t=some d/\d.isRow=true:=by
 unfold mu at h;cases hq:P.underlying t with
 |none=>rw[hq]at h;cases h
 |some d=>rw[hq]at h;refine⟨d,rfl,?_⟩;cases d<;>simp_all [TypeDesc.isRow]
theorem aa8{t:Nat}{C:AV->Prop}:∀(b o:Nat)(cs:asn AV)(off:Nat)(us:Nat->asr),(∀j,j<cs.length->w.cell? ⟨b,o+j,none⟩=some (us j))->(∀(j:Nat)(c:AV),cs[j]?=some c->aJ G w (us j) c)->
 (match mu P t,fQ P t with
  |some true,some k=>fg (cp (off+k) cs.length) (C (.agg ((cs.drop off).take k)))
  |some false,some _=>match cs[off]? with
   |some c=>C c
   |none=>False
  |_,_=>False)->∃u x,(loadVar t ⟨b,o+off,none⟩).run P w= .ok u w/\aJ G w u x/\C x:=by
 intro b o cs off us h1 h2 h3;split at h3
 ·rename_i k hg hk
  obtain⟨hlen,hC⟩:=b6.1 h3;rw[dJ]at hlen;obtain⟨d,El,nK⟩:=amx hg;have NM:((List.range k).map λj=>us (off+j)).length=k:=by simp
  have dK:=run_loadVar_mid (P:=P) w b (o+off) t ((List.range k).map λj=>us (off+j)) d (λj u hu=>by
   rw[arF]at hu;by_cases hj:j<k
   ·rw[List.getElem?_range hj]at hu;simp only[Option.map_some,Option.some.injEq]at hu;subst hu;have:=h1 (off+j) (by omega)
    rwa [<-Nat.add_assoc]at this
   ·rw[ar4 (by simp;omega)]at hu;cases hu) El nK (by rw[NM];exact hk)
  refine⟨_,_,dK, .agg _ _ (by simp;omega) λi u c hu hc=> ?_,hC⟩;rw[List.getElem?_toArray,arF]at hu;rw[List.getElem?_take]at hc;split at hc
  ·rename_i n7
   rw[List.getElem?_range n7]at hu;simp only[Option.map_some,Option.some.injEq]at hu;subst hu;rw[List.getElem?_drop]at hc;exact h2 (off+i) c hc
  ·cases hc
 ·rename_i k hg hk
  split at h3
  ·rename_i c hc
   refine⟨us off,c,?_,h2 off c hc,h3⟩;unfold loadVar;rw[Sem.run_bind,Gi hg w];simp only[Result.andThen_ok,Bool.false_eq_true,if_false];unfold load;simp only[Sem.run,h1 off (ary.1 hc).1]
  ·exact h3.elim
 ·exact h3.elim
theorem adT{t:Nat}{p:AV}{v:asr}{C:AV->Prop}(hi:b9 G w s.h)(hv:aJ G w v p)(h:oK P t s.h p C):∃u x,(Instr.loadAt t v).run P w= .ok u w/\aJ G w u x/\C x:=by
 have key:=aa8 (P:=P) (G:=G) (w:=w) (t:=t) (C:=C);unfold oK sA at h;cases p with
 |ptr m off=>
  simp only at h;split at h
  ·rename_i cs hm
   obtain⟨_,_,vs,T,hh,hl,hr⟩:=hi.dv m _ hm;cases hv with
   |ptr _ _ xy=>
    obtain⟨u,x,h1,h2,h3⟩:=key (G.bg m) 0 cs off (λj=>vs.getD j undef) (λj hj=>by
     have jz:j<vs.size:=by rw[hl];exact hj
     rw[arS,cell_of_row w (G.bg m) j vs T (0,0) hh];simp [Array.getD,jz]) (λj c hc=>by
     have jz:j<vs.size:=by rw[hl];exact(ary.1 hc).1
     exact hr j _ c (by simp [Array.getD,jz]) hc) h
    rw[arS]at h1;exact⟨u,x,by simp [Instr.loadAt,Instr.sureAddr,h1],h2,h3⟩
  ·exact h.elim
 |bP xs i off=>
  simp only at h;split at h
  ·rename_i cs gx
   cases hv with
   |bP _ _ _ b o us x hx hS hu=>
    rw[hx]at gx;cases gx
    obtain⟨u,y,h1,h2,h3⟩:=key b o (cs.map .d) off us (λj hj=>(hS j (by simpa using hj)).2) (λj c hc=>by
     rw[arF]at hc;cases hd:cs[j]? with
     |none=>rw[hd]at hc;cases hc
     |some d=>rw[hd]at hc;cases hc;exact .d (hu j d hd)) h
    exact⟨u,y,by simp [Instr.loadAt,Instr.sureAddr,h1],h2,h3⟩
  ·exact h.elim
 |_=>exact h.elim
theorem aJ.list{u:asr}{x:AV}{xs:asn (asn D)}(h:aJ G w u x)(hx:x.fe=some xs):dD G.S w u (.sl xs):=by
 unfold AV.fe at hx;split at hx
 ·cases hx;cases h with|d h=>exact h
 ·cases hx;cases h with|own _ _ _ h=>exact h
 ·cases hx;cases h with|full _ h=>exact h
 ·cases hx
  cases h with
  |d h=>
   cases h with
   |v=>exact .sl none 0 0 0 0 [] (λ_ _=>undef) (λh=>absurd rfl h) (arJ _) (by simp) (λ_ h=>by cases h) (λi j hi=>by simp at hi) (λi j x d hx=>by simp at hx)
 ·cases hx
theorem aJ.int{u:asr}{x:AV}{z:Int}(h:aJ G w u x)(hx:x.int?=some z):∃k,u= .int k z:=by
 unfold AV.int? at hx;split at hx
 ·rename_i k m
  cases hx
  cases h with
  |d h=>cases h with|v=>exact⟨k,rfl⟩
 ·cases hx
theorem aJ.bool{u:asr}{t:Bool}(h:aJ G w u (.d (.v (.bool t)))):u= .bool t:=by
 cases h with|d h=>cases h with|v=>rfl
theorem aJ.val{u v:asr}(h:aJ G w u (.d (.v v))):u=v:=by
 cases h with|d h=>cases h with|v=>rfl
theorem jM{T e k:Nat}(h:et P T=some (e,k)):P.underlying T=some (.slice e)/\fQ P e=some k:=by
 unfold et at h;split at h
 ·rename_i e' he
  cases hq:fQ P e' with
  |none=>rw[hq]at h;cases h
  |some k'=>rw[hq]at h;simp at h;obtain⟨rfl,rfl⟩:=h;exact⟨he,hq⟩
 ·cases h
theorem TY{T m e k:Nat}(h:uX P T=some (m,e,k)):P.underlying T=some (.array m e)/\fQ P e=some k:=by
 unfold uX at h;split at h
 ·rename_i m' e' he
  cases hq:fQ P e' with
  |none=>rw[hq]at h;cases h
  |some k'=>rw[hq]at h;simp at h;obtain⟨rfl,rfl,rfl⟩:=h;exact⟨he,hq⟩
 ·cases h
theorem amT{T:Nat}{x i:AV}{u v:asr}{C:AV->Prop}(hu:aJ G w u x)(hv:aJ G w v i)(h:sq P T x i C):∃p y,(Instr.indexAt T u v).run P w= .ok p w/\aJ G w p y/\C y:=by
 unfold sq at h;split at h
 ·rename_i e k hT
  obtain⟨fj,fK⟩:=jM hT;split at h
  ·rename_i m off len cap k'
   split at h
   ·rename_i z hz
    obtain⟨wj,h0,aS,hC⟩:=b6.1 h;rw[beq_iff_eq]at wj;subst wj;obtain⟨kz,rfl⟩:=hv.int hz;cases hu with
    |row _ _ _ _ _ hm hl pW=>
     have hN:(z.toNat:Int)=z:=Int.toNat_of_nonneg h0;refine⟨_,_,?_, .ptr m (off+z.toNat*k') hm,hC⟩;simp [Instr.indexAt,asIntOf,run_underlying fj,h0,aS,mn fK,lH]
   ·exact h.elim
  ·split at h
   ·rename_i xs z lK hz
    obtain⟨h0,h⟩:=h;obtain⟨kz,rfl⟩:=hv.int hz;split at h
    ·rename_i c hc
     obtain⟨hk,hC⟩:=h;obtain⟨A,b,o,cc,k',us,rfl,hA,la,su,jA,hS,ml⟩:=(hu.list lK).pJ;have aS:z.toNat<xs.length:=(ary.1 hc).1;have cP:xs≠ []:=λe=>by subst e;simp at aS
     have ek:k'=k:=by rw[<-jA c (arL hc),hk]
     subst ek;rw[hA cP];have Sb:z<(xs.length:Int):=by omega
     refine⟨_, .bP [c] 0 0,?_, .bP [c] 0 0 b (o+z.toNat*k') (us z.toNat) c rfl (λj hj=> ?_) (λj d hd=>ml _ _ _ _ hc hd),hC⟩
     ·simp [Instr.indexAt,asIntOf,run_underlying fj,h0,Sb,mn fK,lH]
     ·have:=hS z.toNat j aS (by rw[hk]at hj;exact hj);exact⟨this.1,this.2.1⟩
    ·exact h.elim
   ·exact h.elim
 ·split at h
  ·rename_i m e k b off z hT hz
   obtain⟨h0,aS,hC⟩:=h;obtain⟨fj,fK⟩:=TY hT;obtain⟨kz,rfl⟩:=hv.int hz;cases hu with
   |ptr _ _ hb=>
    refine⟨_,_,?_, .ptr b (off+z.toNat*k) hb,hC⟩;simp [Instr.indexAt,Instr.sureAddr,asIntOf,run_underlying fj,h0,aS,mn fK,lH]
  ·rename_i m e k xs i' off z hT hz
   obtain⟨tY,h0,aS,h9⟩:=b6.1 h;rw[beq_iff_eq]at tY;subst tY;obtain⟨fj,fK⟩:=TY hT;obtain⟨kz,rfl⟩:=hv.int hz;split at h9
   ·rename_i c hc
    split at h9
    ·rename_i d hd
     cases hu with
     |bP _ _ _ b o us c' j6 hS ml=>
      rw[hc]at j6;cases j6
      have ak9:=(ary.1 hd).1;refine⟨_, .bP [[d]] 0 0,?_, .bP [[d]] 0 0 b (o+(off+z.toNat)) (λ_=>us (off+z.toNat)) [d] rfl (λj hj=> ?_) (λj d' jI=> ?_),h9⟩
      ·simp [Instr.indexAt,Instr.sureAddr,asIntOf,run_underlying fj,h0,aS,mn fK,lH,Nat.add_assoc]
      ·simp at hj;subst hj;exact hS _ ak9
      ·match j with
       |0=>simp at jI;subst jI;exact ml _ _ hd
       |j+1=>simp at jI
    ·exact h9.elim
   ·exact h9.elim
  ·exact h.elim
theorem tu{T:Nat}(h:hY P T=true):P.underlying T=some .string:=by
 unfold hY at h;split at h
 ·assumption
 ·cases h
theorem afK{T:Nat}{x:AV}{u:asr}{ty:Nat}{C:Nat->Prop}(hu:aJ G w u x)(h:tk P T x C):∃m:Nat,(Builtin.len_ #[T] ty #[u]).run P w= .ok (.int .i64 m) w/\C m:=by
 have hsl:∀(A:asp Addr)(l c:Nat),(et P T).isSome=true->(Builtin.len_ #[T] ty #[.slice A l c]).run P w= .ok (.int .i64 l) w:=by
  intro A l c hT;obtain⟨⟨e,k⟩,hT⟩:=Option.isSome_iff_exists.1 hT;simp [Builtin.len_,run_underlying (jM hT).1,goInt]
 unfold tk at h;split at h
 ·rename_i b
  have:=hu.val;subst this;obtain⟨hT,hC⟩:=b6.1 h;exact⟨b.size,by simp [Builtin.len_,run_underlying (tu hT),goInt],hC⟩
 ·cases hu with
  |row=>exact⟨_,hsl _ _ _ (b6.1 h).1,(b6.1 h).2⟩
 ·split at h
  ·rename_i xs lK
   obtain⟨A,b,o,c,k,us,rfl,_⟩:=(hu.list lK).pJ;exact⟨_,hsl _ _ _ (b6.1 h).1,(b6.1 h).2⟩
  ·exact h.elim
def CW(a:Act)(x:asp Operand)(d m:Nat):Prop:=match x with|none=>m=d|some y=>∃k z,a.eval y= .int k z/\0<=z/\m=z.toNat
theorem ub{x:asp Operand}{d:Nat}{C:Nat->Prop}(hs:cN G w a s)(h:jH (ev s) x d C):∃m,C m/\CW a x d m:=by
 cases x with
 |none=>exact⟨_,h,rfl⟩
 |some y=>
  unfold jH at h;simp only at h;split at h
  ·rename_i z hz
   obtain⟨k,hk⟩:=(hs.ev y).int hz;exact⟨_,h.2,k,z,hk,h.1,rfl⟩
  ·exact h.elim
theorem Ci{k:IntKind}{z:Int}{y:Nat}{code:BoundsCode}(h0:0<=z)(h:z.toNat<=y)(w:ass):(Instr.sliceBound (.int k z) y code).run P w= .ok z.toNat w:=by
 have:z<=(y:Int):=by omega
 simp [Instr.sliceBound,asIntOf,h0,this]
theorem Ge{lo hi:asp Operand}{len cap l h:Nat}{AJ:Bool}(iD:CW a lo 0 l)(qI:CW a hi len h)(hl:l<=h)(hh:h<=cap)(w:ass):
 (Instr.sliceBounds AJ len cap (lo.map a.eval) (hi.map a.eval) none).run P w= .ok (l,h,cap) w:=by
 unfold CW at iD qI;cases lo with
 |none=>
  subst iD;cases hi with
  |none=>subst qI;simp [Instr.sliceBounds]
  |some y=>
   obtain⟨k,z,e,h0,rfl⟩:=qI;simp [Instr.sliceBounds,e,Ci h0 hh]
 |some x=>
  obtain⟨k',z',e',h0',rfl⟩:=iD;cases hi with
  |none=>subst qI;simp [Instr.sliceBounds,e',Ci h0' hl]
  |some y=>
   obtain⟨k,z,e,h0,rfl⟩:=qI;simp [Instr.sliceBounds,e,e',Ci h0 hh,Ci h0' hl]
theorem dD.part{S:Nat->Nat->Prop}{v:asr}{xs:asn (asn D)}{k:Nat}(hp:dD S w v (.sl xs))(hk:∀c∈xs,c.length=k){l h:Nat}(hl:l<=h)(hh:h<=xs.length):
 ∃A c,v= .slice A xs.length c/\xs.length<=c/\dD S w (.slice (if c=l then A else A.map (·.add (l*k))) (h-l) (c-l)) (.sl ((xs.take h).drop l)):=by
 obtain⟨A,b,o,c,k',us,rfl,hA,la,su,jA,hS,ml⟩:=hp.pJ;refine⟨A,c,rfl,la,?_⟩;have hlen:((xs.take h).drop l).length=h-l:=by simp;omega
 rw[<-hlen];by_cases hx:xs=[]
 ·subst hx;have e:((([]:asn (asn D)).take h).drop l)=[]:=by simp
  rw[e];exact .sl _ 0 0 (c-l) 0 [] (λ_ _=>undef) (λh=>absurd rfl h) (Nat.zero_le _) (by omega) (λ_ h=>by cases h) (λi j hi=>by simp at hi) (λi j x d hx=>by simp at hx)
 ·have ek:k'=k:=by
   obtain⟨x,ox⟩:=List.exists_mem_of_ne_nil xs hx;rw[<-jA x ox,hk x ox]
  subst ek;have eN:∀i,i<h-l->((xs.take h).drop l)[i]?=xs[l+i]?:=λi hi=>by
   rw[List.getElem?_drop,List.getElem?_take_of_lt (by omega)]
  refine .sl _ b (o+l*k') (c-l) k' _ (λi j=>us (l+i) j) (λcP=> ?_) (by rw[hlen];omega) (by omega) (λx hx=>hk x (List.mem_of_mem_take (List.mem_of_mem_drop hx))) (λi j hi hj=> ?_) (λi j x d hx hd=> ?_)
  ·have Sy:0<((xs.take h).drop l).length:=List.length_pos_iff.2 cP;rw[hlen]at Sy;rw[if_neg (by omega),hA hx];simp [lH]
  ·rw[hlen]at hi;have:=hS (l+i) j (by omega) hj;rw[Nat.add_mul,<-Nat.add_assoc]at this;exact this
  ·have hi:=(ary.1 hx).1;rw[hlen]at hi;rw[eN i hi]at hx;exact ml _ _ _ _ hx hd
theorem af2{T:Nat}{x:AV}{u:asr}{lo hi mx:asp Operand}{C:AV->Prop}(hs:cN G w a s)(hu:aJ G w u x)(h:vS P T (ev s) x lo hi mx C):
 ∃p y,(Instr.sliceAt T u (lo.map a.eval) (hi.map a.eval) (mx.map a.eval)).run P w= .ok p w/\aJ G w p y/\C y:=by
 unfold vS at h;split at h
 ·split at h
  ·rename_i b
   obtain⟨hT,h⟩:=b6.1 h;have hT:=tu hT;have:=hu.val;subst this;obtain⟨m,h,hm⟩:=ub hs h;obtain⟨xv,h⟩:=h;obtain⟨l,h,hl⟩:=ub hs h;obtain⟨ss,h⟩:=h;refine⟨_,_,?_, .d (.v _),h⟩;have hb:=Ge (P:=P) (AJ:=false) hl hm ss xv w;simp [Instr.sliceAt,Instr.slice,run_underlying hT,hb]
  ·rename_i m off
   split at h
   ·rename_i c e k hT
    rw[b6,dJ]at h;obtain⟨su,h⟩:=h;have su:c<=maxLen:=by unfold maxLen;omega
    obtain⟨fj,fK⟩:=TY hT;obtain⟨hh,h,hm⟩:=ub hs h;obtain⟨xv,h⟩:=b6.1 h;rw[dJ]at xv;obtain⟨l,h,hl⟩:=ub hs h;obtain⟨ss,h⟩:=b6.1 h;simp only[arA,dJ,Bool.not_eq_true',<-Bool.not_eq_true,Nat.not_le]at ss;obtain⟨ss,la⟩:=ss;have hb:=Ge (P:=P) (AJ:=false) hl hm ss xv w;cases hu with
    |ptr _ _ xy=>
     refine⟨_,_,?_, .row m (off+l*k) (hh-l) (c-l) k xy (by omega) (by omega),h⟩;simp [Instr.sliceAt,Instr.sureAddr,run_underlying fj,hb,mn fK,lH,Nat.ne_of_gt la]
   ·exact h.elim
  ·split at h
   ·rename_i xs e k lK hT
    obtain⟨hk,h⟩:=h;obtain⟨fj,fK⟩:=jM hT;obtain⟨hh,h,hm⟩:=ub hs h;obtain⟨xv,h⟩:=h;obtain⟨l,h,hl⟩:=ub hs h;obtain⟨ss,h⟩:=h;obtain⟨A,c,rfl,la,hp⟩:=(hu.list lK).part hk ss xv;have hb:=Ge (P:=P) (AJ:=true) hl hm ss (arQ xv la) w;refine⟨_,_,?_, .d hp,h⟩;simp [Instr.sliceAt,Instr.slice,run_underlying fj,hb,mn fK]
   ·exact h.elim
 ·rename_i y
  split at h
  case h_2=>exact h.elim
  rename_i yh
  split at h
  ·rename_i xs e k lK hT
   obtain⟨hk,h⟩:=h;obtain⟨fj,fK⟩:=jM hT;obtain⟨c',h3,hc⟩:=ub hs h;obtain⟨gO,h3⟩:=h3;obtain⟨hh,h4,hm⟩:=ub hs h3;obtain⟨rfl,h5⟩:=h4;clear h h3;obtain⟨k1,z1,e1,p1,q1⟩:=hc;obtain⟨k2,z2,e2,p2,q2⟩:=hm;obtain⟨A,c,rfl,la,hp⟩:=(hu.list lK).part hk (Nat.zero_le hh) gO;have hp':dD G.S w (.slice A hh hh) (.sl (xs.take hh)):=by
    have h1:(if c=0 then A else A.map (·.add (0*k)))=A:=by
     split
     ·rfl
     ·cases A<;>simp [Addr.add]
    rw[h1,ar7]at hp;obtain⟨A',b,o,c2,k',us,e,r1,r2,r3,r4,r5,r6⟩:=hp.pJ;have hl:(xs.take hh).length=hh:=by simp;omega
    injection e with eA e3 e4;subst eA;have:=dD.sl (S:=G.S) (w:=w) A b o hh k' (xs.take hh) us r1 (by omega) (by omega) r4 r5 r6
    rwa [hl]at this
   refine⟨.slice A hh hh, .full (xs.take hh),?_, .full _ hp' ⟨A,by simp;omega⟩,h5⟩;have b1:(Instr.sliceBound (.int k1 z1) c .slice3Acap).run P w= .ok hh w:=by rw[Ci p1 (by omega),q1]
   have b2:(Instr.sliceBound (.int k2 z2) hh .slice3B).run P w= .ok hh w:=by rw[Ci p2 (by omega),<-q2]
   simp only[Option.map_some,Option.map_none,e1,e2];have hA:A.map (·.add 0)=A:=by cases A<;>simp [Addr.add]
   simp [Instr.sliceAt,Instr.slice,Instr.sliceBounds,run_underlying fj,b1,b2,mn fK,hA]
  ·exact h.elim
theorem QH:∀{cs:asn AV}{ds:asn D},nL cs=some ds->ds.length=cs.length/\∀(i:Nat)(c:AV)(d:D),cs[i]?=some c->ds[i]?=some d->c.w8=some d
 |[],ds,h=>by simp [nL]at h;subst h;simp
 |c::cs,ds,h=>by
  unfold nL at h;split at h
  ·rename_i d l hd hl
   cases h
   obtain⟨h1,h2⟩:=QH hl;refine⟨by simp [h1],λi c' d' hc jI=> ?_⟩
   match i with
   |0=>simp at hc jI;subst hc;subst jI;exact hd
   |i+1=>exact h2 i c' d' (by simpa using hc) (by simpa using jI)
  ·cases h
theorem dD.A9{S:Nat->Nat->Prop}{w:ass}{u:asr}{x:D}(h:dD S w u x):dD S w u x.A9:=by
 unfold D.A9;split
 ·cases h with
  |v=>exact .sl none 0 0 0 0 [] (λ_ _=>undef) (λh=>absurd rfl h) (arJ _) (Nat.zero_le _) (λ_ h=>absurd h ase) (λi j hi=>absurd hi (ar0 _)) (λi j x d hx=>by simp at hx)
 ·exact h
theorem aJ.Qj{u:asr}{x:AV}{d:D}(h:aJ G w u x)(hx:x.w8=some d):dD G.S w u d:=by
 unfold AV.w8 at hx;split at hx
 ·cases hx;cases h with|d h=>exact h.A9
 ·cases hx;cases h with|own _ _ _ h=>exact h
 ·cases hx;cases h with|full _ h=>exact h
 ·cases hx
theorem rX(k:Nat):∀(m:Nat)(l:asn D),(n8 k m l).length=m
 |0,_=>rfl
 |m+1,l=>by simp [n8,rX k m]
theorem Uj(k:Nat):∀(m:Nat)(l:asn D)(i:Nat),i<m->(n8 k m l)[i]?=some ((l.drop (i*k)).take k)
 |0,_,_,h=>by omega
 |m+1,l,0,_=>by simp [n8]
 |m+1,l,i+1,h=>by
  have:=Uj k m (l.drop k) i (by omega);rw[n8,ar9,this,List.drop_drop,Nat.add_mul,Nat.one_mul,Nat.add_comm k]
theorem acD{k m:Nat}{us:asn asr}{ds:asn D}(hl:ds.length=m*k)(hu:us.length=m*k)(h1:∀u∈us,u.oneCell'=true)
 (hr:∀(i:Nat)(u:asr)(d:D),us[i]?=some u->ds[i]?=some d->dD G.S w u d):Rd G.S w k (n8 k m ds) us:=by
 have hb:∀i,i<m->(i+1)*k<=m*k:=λi hi=>Nat.mul_le_mul_right k hi;refine⟨by rw[rX,hu],λx hx=> ?_,h1,λi j x d hx hd=> ?_⟩
 ·obtain⟨i,hi⟩:=List.mem_iff_getElem?.1 hx;have Ka:i<m:=by have:=(ary.1 hi).1;rwa [rX]at this
  rw[Uj k m ds i Ka]at hi;cases hi
  have:=hb i Ka;rw[Nat.add_mul]at this;simp;omega
 ·have Ka:i<m:=by have:=(ary.1 hx).1;rwa [rX]at this
  rw[Uj k m ds i Ka]at hx;cases hx
  rw[List.getElem?_take]at hd;split at hd
  ·rw[List.getElem?_drop]at hd;have:=(ary.1 hd).1;have aS:i*k+j<us.length:=by omega
   exact⟨us[i*k+j],arC aS,hr _ _ _ (arC aS) hd⟩
  ·cases hd
theorem ahQ{k U e':Nat}{y:AV}{v:asr}{C:asn (asn D)->Prop}(hi:b9 G w s.h)(hv:aJ G w v y)(hk:0<k)(hU:P.underlying U=some (.slice e'))(h:ux s.h k y C):
 ∃ys us,Rd G.S w k ys us/\Src P k U v ys.length us w/\C ys:=by
 unfold ux at h;split at h
 ·rename_i m off len cap k'
  split at h
  ·rename_i cs hm
   split at h
   ·rename_i ds uw
    obtain⟨fq,hC⟩:=b6.1 h;simp only[arA,beq_iff_eq,dJ]at fq;obtain⟨⟨rfl,hlen⟩,hone⟩:=fq;obtain⟨h1,h2⟩:=QH uw;obtain⟨_,_,vs,T,hh,hl,hr⟩:=hi.dv m _ hm;cases hv with
    |row _ _ _ _ _ xy la pW=>
     have hdl:ds.length=len*k':=by rw[h1];simp;omega
     have pe:((vs.toList.drop off).take (len*k')).length=len*k':=by simp;omega
     have Aq:∀(i:Nat)(u:asr)(c:AV),((vs.toList.drop off).take (len*k'))[i]?=some u->((cs.drop off).take (len*k'))[i]?=some c->aJ G w u c:=λi u c hu hc=>by
      rw[List.getElem?_take]at hu hc;split at hu
      ·rename_i n7
       rw[if_pos n7]at hc;rw[List.getElem?_drop]at hu hc;exact hr _ u c (by rw[<-arV];exact hu) hc
      ·cases hu
     have gO:((cs.drop off).take (len*k')).length=len*k':=by simp;omega
     have XG:∀u∈(vs.toList.drop off).take (len*k'),u.oneCell'=true:=λu hu=>by
      obtain⟨i,hi⟩:=List.mem_iff_getElem?.1 hu;have jW:i<len*k':=by rw[<-pe];exact(ary.1 hi).1
      have GS:=arC (l:=(cs.drop off).take (len*k')) (i:=i) (by rw[gO];exact jW);exact(Aq i u _ hi GS).kE (arY.1 hone _ (arL GS))
     have Hn:=acD (G:=G) (w:=w) (k:=k') (m:=len) hdl pe XG (λi u d hu hd=>by
      have jW:i<len*k':=by rw[<-pe];exact(ary.1 hu).1
      have GS:=arC (l:=(cs.drop off).take (len*k')) (i:=i) (by rw[gO];exact jW);exact(Aq i u _ hu GS).Qj (h2 i _ d GS hd))
     refine⟨_,_,Hn,?_,hC⟩;rw[rX];refine Src.ofSlice w hU _ len cap _ pe (λj u hu=> ?_) XG;rw[List.getElem?_take]at hu;split at hu
     ·rw[List.getElem?_drop,arV]at hu;rw[lH,cell_of_row w _ _ vs T (0,0) hh];exact hu
     ·cases hu
   ·exact h.elim
  ·exact h.elim
 ·split at h
  ·rename_i ys jT
   obtain⟨us,h1,h2⟩:=(hv.list jT).src (P:=P) hk h.1 hU;exact⟨ys,us,h1,h2,h.2⟩
  ·exact h.elim
theorem Gf:dD G.S w (.slice none 0 0) (.sl []):=
 .sl none 0 0 0 0 [] (λ_ _=>undef) (λh=>absurd rfl h) (arJ _) (by simp) (λ_ h=>by cases h) (λi j hi=>by simp at hi) (λi j x d hx=>by simp at hx)
theorem amF(h:asn ao)(x y:ao):(h++[x]).set h.length y=h++[y]:=by simp
theorem apc{T U ty e':Nat}{x y:AV}{u v:asr}{C:AV->asn ao->Prop}(hi:b9 G w s.h)(hu:aJ G w u x)(hv:aJ G w v y)(hU:P.underlying U=some (.slice e'))(h:uh P T s.h x y C):
 ∃p w' G' q h',(Builtin.append_ #[T,U] ty #[u,v]).run P w= .ok p w'/\b7 G.N G w G' w'/\G.N<=G'.N/\b9 G' w' h'/\aJ G' w' p q/\C q h':=by
 unfold uh at h;split at h
 ·rename_i e k hT
  obtain⟨fj,fK⟩:=jM hT;split at h
  ·rename_i z cE hz pK
   obtain⟨fq,h⟩:=b6.1 h;simp only[arA,beq_iff_eq,dJ,ar5]at fq;obtain⟨hk,kf⟩:=fq;obtain⟨i,jD,kR,Lt⟩:=SC fK pK;have YO:i.zero=some z:=by
    obtain⟨i',h1,h2⟩:=MZ hz;rw[jD]at h1;cases h1;exact h2
   obtain⟨ys,us,hr,hs,h2⟩:=ahQ hi hv hk hU h;clear h;have fresh:∀(xs:asn (asn D)),dD G.S w u (.sl xs)->(∃A,u= .slice A xs.length xs.length)->(∀c∈xs,c.length=k)->xs.length+ys.length<=maxLen->(xs.length+ys.length)*cE<=140737488355328->
    C (.own s.h.length (xs++ys)) (s.h++[.front e k (xs.length+ys.length)])->
    ∃p w' G' q h',(Builtin.append_ #[T,U] ty #[u,v]).run P w= .ok p w'/\b7 G.N G w G' w'/\G.N<=G'.N/\b9 G' w' h'/\aJ G' w' p q/\C q h':=by
    intro xs hp hf nX hm hb hC;obtain⟨a1,a2,a3,a4⟩:=Ud hi hp hf e k;obtain⟨p,w',G',r1,r2,r3,r4,r5⟩:=aaO (P:=P) (ty:=ty) a3 fj jD YO kR Lt kf hk (n:=s.h.length) (xs:=xs) (ys:=ys) (by simp) a4 nX (hr.bj a1.S a1.cell) hs hm hb;rw[amF]at r4;exact⟨p,w',G',_,_,r1,a1.trans (r2.less a2),arQ a2 r3,r4,r5,hC⟩
   split at h2
   ·rename_i m xs
    split at h2
    ·rename_i e2 k2 len hm
     obtain⟨fq,rfl,nX,pW,hb,hC⟩:=b6.1 h2;simp only[arA,beq_iff_eq]at fq;obtain⟨rfl,rfl⟩:=fq;obtain⟨p,w',G',r1,r2,r3,r4,r5⟩:=aaO (P:=P) (ty:=ty) hi fj jD YO kR Lt kf hk hm hu nX hr hs pW hb;exact⟨p,w',G',_,_,r1,r2,r3,r4,r5,hC⟩
    ·exact h2.elim
   ·have:=hu.val;subst this;obtain⟨pW,hb,hC⟩:=h2;exact fresh [] Gf ⟨none,rfl⟩ (λ_ h=>by cases h) (by simpa using pW) (by simpa using hb) (by simpa using hC)
   ·rename_i xs
    obtain⟨nX,pW,hb,hC⟩:=h2;cases hu with
    |full _ hp hf=>exact fresh xs hp hf nX pW hb hC
   ·exact h2.elim
  ·exact h.elim
 ·exact h.elim
end
theorem acZ(off:Nat):∀(l:asn asr)(k:Nat)(cs:Array asr),((l.zipIdx k).foldl (λcs(p:asr×Nat)=>cs.setIfInBounds (off+p.2) p.1) cs).size=cs.size/\
 ∀i,off+k+l.length<=cs.size->((l.zipIdx k).foldl (λcs(p:asr×Nat)=>cs.setIfInBounds (off+p.2) p.1) cs)[i]?=if off+k<=i/\i<off+k+l.length then l[i-(off+k)]? else cs[i]?
 |[],k,cs=>⟨rfl,λi _=>by
    have h:¬(off+k<=i/\i<off+k+([]:asn asr).length):=by simp
    rw[if_neg h];rfl⟩
 |u::l,k,cs=>by
  obtain⟨h1,h2⟩:=acZ off l (k+1) (cs.setIfInBounds (off+k) u);simp only[List.zipIdx_cons,List.foldl_cons];refine⟨by rw[h1];simp,λi hi=> ?_⟩;simp only[arB]at hi ⊢;rw[h2 i (by simp;omega)];by_cases ha:off+(k+1)<=i/\i<off+(k+1)+l.length
  ·rw[if_pos ha,if_pos ⟨by omega,by omega⟩];rw[show i-(off+k)=i-(off+(k+1))+1 by omega,ar9]
  ·rw[if_neg ha];by_cases hb:i=off+k
   ·subst hb;rw[if_pos ⟨arJ _,by omega⟩,Nat.sub_self,List.getElem?_cons_zero,Array.getElem?_setIfInBounds_self_of_lt (by omega)]
   ·rw[if_neg (by omega),Array.getElem?_setIfInBounds_ne (Ne.symm hb)]
section
variable {P:asq} {G:Gh} {w:ass}
structure Row(G:Gh)(w:World)(vs:Array Value)(cs:List AV):Prop where
 len:vs.size=cs.length
 rel:∀(i:Nat)(u:Value)(c:AV),vs[i]?=some u->cs[i]?=some c->aJ G w u c
 one:∀(i:Nat)(u:Value),vs[i]?=some u->u.oneCell'=true
theorem ajR{vs us:Array asr}{cs ys:asn AV}(h:Row G w vs cs)(h':Row G w us ys){off:Nat}(hb:off+ys.length<=cs.length):
 Row G w (us.zipIdx.foldl (λcs(p:asr×Nat)=>cs.setIfInBounds (off+p.2) p.1) vs) (ib cs off ys):=by
 have e:us.zipIdx.foldl (λcs(p:asr×Nat)=>cs.setIfInBounds (off+p.2) p.1) vs=(us.toList.zipIdx 0).foldl (λcs(p:asr×Nat)=>cs.setIfInBounds (off+p.2) p.1) vs:=by
  rw[<-Array.foldl_toList,Array.toList_zipIdx]
 obtain⟨h1,h2⟩:=acZ off us.toList 0 vs;rw[<-e]at h1 h2;have hl:us.toList.length=ys.length:=by rw[ar5,h'.len]
 have hle:off+0+us.toList.length<=vs.size:=by rw[hl,h.len];omega
 have hs:∀i,(ib cs off ys)[i]?=if off+0<=i/\i<off+0+us.toList.length then ys[i-off]? else cs[i]?:=λi=>by
  unfold ib;rw[arP];by_cases ha:i<off
  ·rw[arI (by simp;omega),List.getElem?_take_of_lt ha,if_neg (by omega)]
  ·rw[arO (by simp;omega)];simp only[List.length_take];rw[Nat.min_eq_left (by omega)];by_cases hb:i-off<ys.length
   ·rw[arI hb,if_pos (by omega)]
   ·rw[arO (by omega),List.getElem?_drop,if_neg (by omega),show off+ys.length+(i-off-ys.length)=i by omega]
 refine⟨by rw[h1,Hy _ _ _ hb,h.len],λi u c hu hc=> ?_,λi u hu=> ?_⟩
 ·rw[h2 i hle]at hu;rw[hs]at hc;split at hu
  ·rename_i hp
   rw[if_pos hp]at hc;exact h'.rel _ _ _ (by rw[<-arV];exact hu) hc
  ·rename_i hp
   rw[if_neg hp]at hc;exact h.rel _ _ _ hu hc
 ·rw[h2 i hle]at hu;split at hu
  ·exact h'.one _ _ (by rw[<-arV];exact hu)
  ·exact h.one _ _ hu
theorem aJ.acp{u:asr}{x:AV}(h:aJ G w u x)(hb:x.jt=true):Row G w u.cells x.cells:=by
 obtain⟨h1,h2⟩:=h.cells hb;refine⟨h1,λi v c hv hc=>(h2 i v c hv hc).1,λi v hv=> ?_⟩;have aS:i<x.cells.length:=by rw[<-h1];exact(arN.1 hv).1
 exact(h2 i v _ hv (arC aS)).2
theorem Tx(place:Nat->asp (Nat×Nat))(places:asn (Nat×Nat))(hp:∀i pl,places[i]?=some pl->place i=some pl):∀(ps:asn (Nat×AV))(qs:asn (Nat×asr))(cs cm:asn AV)(vs:Array asr),Row G w vs cs->
 qs.length=ps.length->(∀(i:Nat)(p:Nat×AV)(q:Nat×asr),ps[i]?=some p->qs[i]?=some q->q.1=p.1/\aJ G w q.2 p.2)->(ps.all λp=>p.2.jt)=true->pO places cs ps=some cm->
 ∃gp,Instr.fill place vs qs=some gp/\Row G w gp cm
 |[],[],cs,cm,vs,h,_,_,_,hf=>by
  simp only[pO,Option.some.injEq]at hf;subst hf;exact⟨vs,rfl,h⟩
 |[],_::_,_,_,_,_,hl,_,_,_=>by simp at hl
 |_::_,[],_,_,_,_,hl,_,_,_=>by simp at hl
 |(j,x)::ps,(j',u)::qs,cs,cm,vs,h,hl,hr,hb,hf=>by
  obtain⟨e1,e2⟩:=hr 0 (j,x) (j',u) rfl rfl;simp only at e1 e2;subst e1;simp only[asi,arA]at hb;unfold pO at hf;split at hf
  ·rename_i off k Hb
   rw[cond_eq_ite]at hf;split at hf
   ·rename_i hc
    simp only[arA,beq_iff_eq,dJ]at hc;have oY:=e2.acp hb.1;obtain⟨gp,h1,h2⟩:=Tx place places hp ps qs _ cm _ (ajR h oY (by rw[hc.1];exact hc.2)) (by simpa using hl) (λi p q hp hq=>hr (i+1) p q (by simpa using hp) (by simpa using hq)) hb.2 hf;refine⟨gp,?_,h2⟩;unfold Instr.fill;rw[hp _ _ Hb];have h3:¬(u.cells.size≠k||decide (off+u.cells.size>vs.size))=true:=by
     rw[oY.len,hc.1,h.len];simp;exact hc.2
    simp only[h3];exact h1
   ·cases hf
  ·cases hf
theorem ad2{z:Array asr}(h:z.toList.all Value.oneCell'=true):z.all (·.oneCell')=true:=by
 rw[arY]at h;exact Array.all_eq_true_iff_forall_mem.2 λu hu=>h u (Array.mem_toList_iff.2 hu)
theorem alm(z:asr)(h:z.cells.all (·.oneCell')=true):Row G w z.cells (z.cells.toList.map λu=> .d (.v u)):=by
 refine⟨by simp,λi u c hu hc=> ?_,λi u hu=>Array.all_eq_true_iff_forall_mem.1 h u (Array.mem_of_getElem? hu)⟩;rw[arF,arV,hu]at hc;cases hc
 exact .d (.v u)
theorem abM:∀(fs:asn Field)(ps:asn (Nat×Nat))(w:ass),Gr P fs=some ps->(fs.mapM (m:=Sem) λf=>do pure (f.offset,<-sizeOf f.type)).run P w= .ok ps w
 |[],ps,w,h=>by simp [Gr]at h;subst h;simp
 |f::fs,ps,w,h=>by
  unfold Gr at h;simp only[List.mapM_cons,Option.bind_eq_bind,Option.bind_eq_some_iff,Option.map_eq_some_iff,Option.pure_def,Option.some.injEq]at h;obtain⟨p,⟨k,hk,rfl⟩,qs,hq,rfl⟩:=h;have ih:=abM fs qs w hq;simp only[List.mapM_cons,Sem.run_bind,mn hk,Sem.run_pure,Result.andThen_ok,ih]
theorem aqD{T:Nat}{ps:asn (Nat×AV)}{qs:Array (Nat×asr)}{C:AV->Prop}(hl:qs.toList.length=ps.length)
 (hr:∀(i:Nat)(p:Nat×AV)(q:Nat×asr),ps[i]?=some p->qs.toList[i]?=some q->q.1=p.1/\aJ G w q.2 p.2) (h:yQ P T ps C):∃u y,(Instr.build T qs).run P w= .ok u w/\aJ G w u y/\C y:=by
 unfold yQ at h;split at h
 ·rename_i places z HM hz
  obtain⟨fs,hT,Hb⟩:∃fs,P.underlying T=some (.struct fs)/\Gr P fs.toList=some places:=by
   unfold Qo at HM;split at HM
   ·exact⟨_,by assumption,HM⟩
   ·cases HM
  ·split at h
   ·rename_i cs hf
    obtain⟨fq,hC⟩:=b6.1 h;simp only[arA]at fq;obtain⟨hb,hone⟩:=fq;have hone:=ad2 hone;have mz:(fs.mapM (m:=Sem) λf=>do pure (f.offset,<-sizeOf f.type)).run P w= .ok places.toArray w:=by
     rw[Array.mapM_eq_mapM_toList];have:=abM fs.toList places w Hb;have e:(Functor.map List.toArray (fs.toList.mapM (m:=Sem) λf=>do pure (f.offset,<-sizeOf f.type)):Sem _)=(fs.toList.mapM (m:=Sem) λf=>do pure (f.offset,<-sizeOf f.type))>>=λl=>pure l.toArray:=rfl;rw[e,Sem.run_bind,this];rfl
    obtain⟨gp,h1,h2⟩:=Tx (λi=>places.toArray[i]?) places (λi pl h=>by simpa using h) ps qs.toList _ cs z.cells (alm (G:=G) (w:=w) z hone) hl hr hb hf;refine⟨.agg gp, .agg cs,?_, .agg gp cs h2.len h2.rel,hC⟩;unfold Instr.build;simp only[Sem.run_bind,Mp hz,Result.andThen_ok,run_underlying hT,mz,h1,Sem.run_pure]
   ·exact h.elim
 ·exact h.elim
theorem Wf{T:Nat}(h:B3 P T=true):P.underlying T=some .bool:=by
 unfold B3 at h;split at h
 ·assumption
 ·cases h
theorem M5{T:Nat}{k:IntKind}(h:qC P T=some k):P.underlying T=some (.int k):=by
 unfold qC at h;split at h
 ·cases h;assumption
 ·cases h
theorem aan{t off:Nat}{vs:Array asr}{u:asr}(ha:mu P t=some false)(hu:vs[off]?=some u):(part t vs off).run P w= .ok u w:=by
 unfold part;rw[Sem.run_bind,Gi ha w];simp [hu]
theorem al2{t:Nat}{u v:asr}{x y:AV}{b:Bool}(d:Nat)(hu:aJ G w u x)(hv:aJ G w v y)(h:FP P t x y=some b):(Op.equalIn (d+1) t u v).run P w= .ok b w:=by
 unfold FP at h;split at h
 ·have e1:=hu.val;have e2:=hv.val;subst e1;subst e2
  rename_i k a k' b'
  cases hc:zl k k'&&(qC P t).isSome with
  |false=>rw[hc]at h;cases h
  |true=>
   rw[hc]at h;cases h;rw[arA,O3]at hc;obtain⟨rfl,hc⟩:=hc;obtain⟨k2,hk⟩:=Option.isSome_iff_exists.1 hc;exact run_equalIn_int w d t k k2 a b' (M5 hk)
 ·have e1:=hu.val;have e2:=hv.val;subst e1;subst e2;cases hc:hY P t with
  |false=>rw[hc]at h;cases h
  |true=>rw[hc]at h;cases h;rw[<-Sv,<-Sv];exact run_equalIn_string w d t _ _ (tu hc)
 ·have e1:=hu.val;have e2:=hv.val;subst e1;subst e2;cases hc:B3 P t with
  |false=>rw[hc]at h;cases h
  |true=>rw[hc]at h;cases h;exact run_equalIn_bool w d t _ _ (Wf hc)
 ·cases h
theorem ajK{t off k:Nat}{vs:Array asr}(ha:mu P t=some true)(hk:fQ P t=some k):(part t vs off).run P w= .ok (.agg (vs.extract off (off+k))) w:=by
 unfold part;rw[Sem.run_bind,Gi ha w];simp [mn hk]
theorem abY{us:Array asr}{xs:asn AV}{off k:Nat}(hx:us.size=xs.length)(hb:off+k<=xs.length)(hu:∀(i:Nat)(u:asr)(c:AV),us[i]?=some u->xs[i]?=some c->aJ G w u c):
 (us.extract off (off+k)).size=((xs.drop off).take k).length/\∀(i:Nat)(u:asr)(c:AV),(us.extract off (off+k))[i]?=some u->((xs.drop off).take k)[i]?=some c->aJ G w u c:=by
 refine⟨by simp;omega,λi u c h1 h2=> ?_⟩;rw[List.getElem?_take]at h2;split at h2
 ·next hi=>
  rw[List.getElem?_drop]at h2;rw[Array.getElem?_extract]at h1;split at h1
  ·exact hu _ _ _ h1 h2
  ·cases h1
 ·cases h2
theorem LF{sub:TypeId->asn AV->asn AV->asp Bool}(d:Nat)
 (CZ:∀(T:Nat)(us vs:Array asr)(xs ys:asn AV)(b:Bool),us.size=xs.length->vs.size=ys.length->(∀(i:Nat)(u:asr)(c:AV),us[i]?=some u->xs[i]?=some c->aJ G w u c)->(∀(i:Nat)(u:asr)(c:AV),vs[i]?=some u->ys[i]?=some c->aJ G w u c)->sub T xs ys=some b->(Op.equalIn (d+1) T (.agg us) (.agg vs)).run P w= .ok b w)
 {us vs:Array asr} {xs ys:asn AV} (hx:us.size=xs.length) (hy:vs.size=ys.length)
 (hu:∀(i:Nat)(u:asr)(c:AV),us[i]?=some u->xs[i]?=some c->aJ G w u c) (hv:∀(i:Nat)(u:asr)(c:AV),vs[i]?=some u->ys[i]?=some c->aJ G w u c):
 ∀(fs:asn Field)(b:Bool),AG P sub fs xs ys=some b->(Op.eqFields (d+1) us vs fs).run P w= .ok b w
 |[],b,h=>by cases h;simp [Op.eqFields]
 |f::fs,b,h=>by
  unfold AG at h;cases hn:f.name== "_" with
  |true=>rw[hn]at h;cases h
  |false=>
   rw[hn]at h;simp only[cond_false]at h;have cP:f.name≠ "_" :=by simpa using hn
   split at h
   ·next e1=>
    split at h
    ·next x y e2 e3=>
     split at h
     ·next a c e4 e5=>
      cases h
      have l1:f.offset<us.size:=by rw[hx];exact(ary.1 e2).1
      have l2:f.offset<vs.size:=by rw[hy];exact(ary.1 e3).1
      have g1:=arU l1;have g2:=arU l2;simp only[Op.eqFields,if_pos cP,Sem.run_bind,aan (w:=w) e1 g1,aan (w:=w) e1 g2,Result.andThen_ok,al2 d (hu _ _ _ g1 e2) (hv _ _ _ g2 e3) e4];cases a with
      |true=>simp only[Bool.not_true,Bool.false_eq_true,if_false,Bool.true_and];exact LF d CZ hx hy hu hv fs c e5
      |false=>simp
     ·cases h
    ·cases h
   ·next e1=>
    split at h
    ·next k e2=>
     cases l8:cp (f.offset+k) xs.length&&cp (f.offset+k) ys.length with
     |false=>rw[l8]at h;cases h
     |true=>
      rw[l8]at h;rw[arA,dJ,dJ]at l8;simp only[cond_true]at h;split at h
      ·next a c e4 e5=>
       cases h
       obtain⟨p1,p2⟩:=abY hx l8.1 hu;obtain⟨q1,q2⟩:=abY hy l8.2 hv;simp only[Op.eqFields,if_pos cP,Sem.run_bind,ajK (w:=w) e1 e2,Result.andThen_ok,CZ _ _ _ _ _ a p1 q1 p2 q2 e4];cases a with
       |true=>simp only[Bool.not_true,Bool.false_eq_true,if_false,Bool.true_and];exact LF d CZ hx hy hu hv fs c e5
       |false=>simp
      ·cases h
    ·cases h
   ·cases h
theorem ZT:∀(n d:Nat)(T:Nat)(us vs:Array asr)(xs ys:asn AV)(b:Bool),us.size=xs.length->vs.size=ys.length->(∀(i:Nat)(u:asr)(c:AV),us[i]?=some u->xs[i]?=some c->aJ G w u c)->(∀(i:Nat)(u:asr)(c:AV),vs[i]?=some u->ys[i]?=some c->aJ G w u c)->Kf P n T xs ys=some b->(Op.equalIn (d+n+1) T (.agg us) (.agg vs)).run P w= .ok b w
 |0,_,_,_,_,_,_,_,_,_,_,_,h=>by cases h
 |n+1,d,T,us,vs,xs,ys,b,hx,hy,hu,hv,h=>by
  unfold Kf at h;split at h
  ·next fs hT=>
   cases hc:P.stoodInHeld T with
   |true=>rw[hc]at h;cases h
   |false=>
    rw[hc]at h;have hf:P.fieldsOf T=fs:=by unfold Program.fieldsOf;rw[hT]
    rw[show d+(n+1)+1=(d+n+1)+1 by omega,run_equalIn_struct w (d+n+1) T us vs (by rw[hf];exact hT) hc,hf];exact LF (d+n) (λT' Rk gp TX RB b'=>ZT n d T' Rk gp TX RB b') hx hy hu hv _ b h
  ·cases h
theorem agl{T:Nat}{us vs:Array asr}{xs ys:asn AV}{b:Bool}(hx:us.size=xs.length)(hy:vs.size=ys.length)
 (hu:∀(i:Nat)(u:asr)(c:AV),us[i]?=some u->xs[i]?=some c->aJ G w u c) (hv:∀(i:Nat)(u:asr)(c:AV),vs[i]?=some u->ys[i]?=some c->aJ G w u c) (h:JF P T xs ys=some b):
 P.eqGuardType P.depth T=false/\(Op.equalIn 10000 T (.agg us) (.agg vs)).run P w= .ok b w:=by
 unfold JF at h;split at h
 ·next fs hT=>
  cases hc:P.stoodInHeld T||P.eqGuardType P.depth T with
  |true=>rw[hc]at h;cases h
  |false=>
   rw[hc]at h;rw[asm]at hc;refine⟨hc.2,?_⟩;have hf:P.fieldsOf T=fs:=by unfold Program.fieldsOf;rw[hT]
   rw[run_equalIn_struct w 9999 T us vs (by rw[hf];exact hT) hc.1,hf];exact LF 9998 (λT' Rk gp TX RB b'=>ZT 4 9994 T' Rk gp TX RB b') hx hy hu hv _ b h
 ·cases h
theorem aof{op:BinOp}{x y:AV}{u v:asr}{T:Nat}{X Y:Operand}{C:AV->Prop}(hu:aJ G w u x)(hv:aJ G w v y)(h:xQ P T op x y C):
 ∃r z,(do eqGuard op T X Y u v;binOp op T u v:Sem asr).run P w= .ok r w/\aJ G w r z/\C z:=by
 unfold xQ at h;split at h
 ·rename_i k a k' b
  have e1:=hu.val;have e2:=hv.val;subst e1;subst e2;have hg:(eqGuard op T X Y (.int k a) (.int k' b)).run P w= .ok () w:=by unfold eqGuard;cases op<;>simp
  rw[Sem.run_bind,hg];simp only[Result.andThen_ok];split at h
  ·rename_i z hq
   obtain⟨wj,hp,hC⟩:=b6.1 h;rw[O3]at wj;subst wj;refine⟨z,_,?_, .d (.v z),hC⟩;cases op<;>simp [P3]at hq<;>subst hq<;>simp [binOp,Op.intDiv,hp]
  ·split at h
   ·rename_i z hq
    refine⟨z,_,?_, .d (.v z),h.2⟩;have hb:¬b<0:=by omega
    cases op<;>simp [Sm]at hq<;>subst hq<;>simp [binOp,Op.shift,hb]
   ·split at h
    ·rename_i z hq
     obtain⟨wj,hC⟩:=b6.1 h;rw[O3]at wj;subst wj;refine⟨z,_,?_, .d (.v z),hC⟩;cases op<;>simp [RZ]at hq<;>subst hq<;>simp [binOp,Op.intArith,Op.intCmp,Op.intBits]
    ·exact h.elim
 ·rename_i a b
  have e1:=hu.val;have e2:=hv.val;subst e1;subst e2;have hg:(eqGuard op T X Y (.string a) (.string b)).run P w= .ok () w:=by unfold eqGuard;cases op<;>simp
  rw[Sem.run_bind,hg];simp only[Result.andThen_ok];split at h
  ·rename_i z hq
   refine⟨z,_,?_, .d (.v z),h⟩;cases op<;>simp [R6]at hq<;>subst hq<;>simp [binOp,Op.stringOp,Sv]
  ·split at h
   ·refine⟨_,_,?_, .d (.v _),h.2⟩;have hm:¬(((a.size+b.size:Nat):Int)>IntKind.i64.max):=by
     have:=h.1;unfold maxLen at this;have e:IntKind.i64.max=9223372036854775807:=by decide
     rw[e];omega
    simp only[binOp,Op.stringOp];rw[if_neg hm];rfl
   ·exact h.elim
 ·rename_i a b
  have e1:=hu.val;have e2:=hv.val;subst e1;subst e2;have hg:(eqGuard op T X Y (.bool a) (.bool b)).run P w= .ok () w:=by unfold eqGuard;cases op<;>simp
  rw[Sem.run_bind,hg];simp only[Result.andThen_ok];split at h
  ·rename_i z hq
   obtain⟨hT,hC⟩:=b6.1 h;have hT:=Wf hT;refine⟨z,_,?_, .d (.v z),hC⟩;have hb:=run_equalIn_bool (P:=P) w 9999 T a b hT;cases op<;>simp [TR]at hq<;>subst hq<;>simp [binOp,Op.equal,Op.maxDepth,hb]
  ·exact h.elim
 ·rename_i xs ys
  cases hu with
  |agg us _ D4 uQ=>
   cases hv with
   |agg vs _ N2 Nk=>
    split at h
    ·next b hb=>
     obtain⟨hg,he⟩:=agl D4 N2 uQ Nk hb;rw[Sem.run_bind,run_eqGuard_agg w op T X Y us vs hg];simp only[Result.andThen_ok];split at h
     ·next z hz=>
      refine⟨z,_,?_, .d (.v z),h⟩;cases op<;>simp [zg]at hz<;>subst hz
      ·rw[run_eql_struct,he];rfl
      ·rw[run_neq_struct,he];rfl
     ·exact h.elim
    ·exact h.elim
 ·exact h.elim
theorem ajX{op:UnOp}{x:AV}{u:asr}{C:AV->Prop}(hu:aJ G w u x)(h:yM op x C):∃r z,(Op.unary op u).run P w= .ok r w/\aJ G w r z/\C z:=by
 unfold yM at h;split at h
 ·rename_i v
  have e:=hu.val;subst e;split at h
  ·rename_i z hq
   refine⟨z,_,?_, .d (.v z),h⟩;unfold Ii at hq;split at hq
   ·cases hq;simp [Op.unary]
   ·cases hq;simp [Op.unary,Op.intArith]
   ·cases hq;simp [Op.unary,Op.intBits]
   ·cases hq
  ·exact h.elim
 ·exact h.elim
theorem aqB{T:Nat}(h:Ek P T=true):P.underlying T=some (.int .u8):=by
 unfold Ek at h;split at h
 ·assumption
 ·cases h
theorem aoP{a b:Nat}{x:AV}{u:asr}{C:AV->Prop}(hu:aJ G w u x)(h:yK P a b x C):∃r z,(convert a b u).run P w= .ok r w/\aJ G w r z/\C z:=by
 unfold yK at h;split at h
 ·rename_i k2 m
  have e:=hu.val;subst e;split at h
  ·rename_i k1 k h1 h2
   refine⟨_,_,?_, .d (.v _),h⟩;simp [convert,run_underlying (M5 h1),run_underlying (M5 h2),Conv.intToInt]
  ·exact h.elim
 ·rename_i s
  have e:=hu.val;subst e;obtain⟨fq,hC⟩:=b6.1 h;rw[arA]at fq;refine⟨_,_,?_, .d (.v _),hC⟩;simp [convert,run_underlying (tu fq.1),run_underlying (tu fq.2)]
 ·split at h
  ·rename_i xs e k lK hT
   obtain⟨fq,ns,rfl,hC⟩:=b6.1 h;rw[arA]at fq;refine⟨_,_,?_, .d (.v _),hC⟩;obtain⟨A,bb,o,cc,k',us,rfl,hA,la,su,jA,hS,ml⟩:=(hu.list lK).pJ;rw[run_convert_bytes_string w a b e A _ cc (jM hT).1 (aqB fq.1) (tu fq.2)];simp only[arD]at hA la hS ⊢;cases ns with
   |nil=>
    cases A with
    |none=>rfl
    |some ad=>
     have hl:=run_loadCells_list (P:=P) w ad (([]:asn Int).map (Value.int .u8)) (λj v hj=>by simp at hj);simp only[List.map_nil,arK]at hl;have:=run_bytesToString (P:=P) w ad 0 cc [] (by simpa using hl);exact this
   |cons n0 ns=>
    have Lg:=hA (by simp);subst Lg;have tY:k'=1:=(jA [.v (.int .u8 n0)] (by simp)).symm;subst tY;have hl:=run_loadCells_list (P:=P) w ⟨bb,o,none⟩ ((n0::ns).map (Value.int .u8)) (λj v hj=>by
     have aS:=(ary.1 hj).1;rw[arD]at aS;have h1:=(hS j 0 aS (by omega)).2.1;rw[arF,arC aS]at hj;cases hj
     have h2:=ml j 0 [.v (.int .u8 ((n0::ns)[j]))] (.v (.int .u8 ((n0::ns)[j]))) (by rw[arF,arC aS];rfl) rfl;have h3:us j 0= .int .u8 ((n0::ns)[j]):=by
      generalize us j 0=q at h2;cases h2;rfl
     rw[lH];rw[h3]at h1
     simpa using h1)
    rw[arD]at hl;rw[run_bytesToString w _ _ cc _ hl];have key:∀(l:asn Int)(r:aso),l.foldl (λr n=>r.push (UInt8.ofNat n.toNat)) r=⟨r.data++(l.map λn=>UInt8.ofNat n.toNat).toArray⟩:=by
      intro l
      induction l with
      |nil=>intro r;simp
      |cons x l ih=>intro r;rw[List.foldl_cons,ih];simp [ByteArray.push]
    rw[key];have E8:ByteArray.empty.data= #[]:=rfl;rw[E8];simp
  ·exact h.elim
theorem Us{T f off k:Nat}{g:Bool}(h:tv P T f=some (off,k,g)):∃fs fd,P.underlying T=some (.struct fs)/\fs[f]?=some fd/\fQ P fd.type=some k/\0<k/\mu P fd.type=some g/\fd.offset=off:=by
 unfold tv at h;split at h
 ·rename_i fs hT
  split at h
  ·rename_i fd hf
   split at h
   ·rename_i k' g' h1 h2
    cases h
    exact⟨fs,fd,hT,hf,h1,Nat.succ_pos _,h2,rfl⟩
   ·cases h
  ·cases h
 ·cases h
theorem OQ{T f off k o b:Nat}{g:Bool}(h:tv P T f=some (off,k,g)):(Instr.fieldAt T (.pointer (some ⟨b,o,none⟩)) f).run P w= .ok (.pointer (some ⟨b,o+off,none⟩)) w:=by
 obtain⟨fs,fd,h1,h2,h3,h4,h5,rfl⟩:=Us h;simp [Instr.fieldAt,run_underlying h1,h2,Instr.sureAddr,fieldPlace,mn h3,Nat.ne_of_gt h4,lH]
theorem apG{T f:Nat}{x:AV}{u:asr}{C:AV->Prop}(hu:aJ G w u x)(h:xX P T x f C):∃r z,(Instr.field T u f).run P w= .ok r w/\aJ G w r z/\C z:=by
 unfold xX at h;split at h
 ·rename_i off k cs hT
  obtain⟨hl,hC⟩:=b6.1 h;rw[dJ]at hl;obtain⟨fs,fd,h1,h2,h3,h4,h5,rfl⟩:=Us hT;cases hu with
  |agg vs _ hlen hr=>
   refine⟨.agg (vs.extract fd.offset (fd.offset+k)),_,?_, .agg _ _ ?_ λi u c hu hc=> ?_,hC⟩
   ·simp [Instr.field,run_underlying h1,h2,asAgg,part,Gi h5,mn h3]
   ·simp;omega
   ·rw[Array.getElem?_extract]at hu;rw[List.getElem?_take]at hc;split at hc
    ·rw[List.getElem?_drop]at hc;split at hu
     ·exact hr _ u c hu hc
     ·cases hu
    ·cases hc
 ·rename_i off k cs hT
  obtain⟨fs,fd,h1,h2,h3,h4,h5,rfl⟩:=Us hT;split at h
  ·rename_i c hc
   cases hu with
   |agg vs _ hlen hr=>
    have aS:fd.offset<vs.size:=by rw[hlen];exact(ary.1 hc).1
    refine⟨vs[fd.offset],c,?_,hr _ _ c (arU aS) hc,h⟩;simp [Instr.field,run_underlying h1,h2,asAgg,part,Gi h5,arU aS]
  ·exact h.elim
 ·exact h.elim
end
def Gh.wm(G:Gh)(b m:Nat):Gh:={G with S:=λc o=>G.S c o\/(c=b/\o<m)}
theorem ZS{G:Gh}{w:ass}{h:asn ao}(hi:b9 G w h)(ob:Obj)(m:Nat):b7 G.N G w (G.wm w.heap.size m) (w.alloc ob)/\b9 (G.wm w.heap.size m) (w.alloc ob) h:=by
 have hE:b7 G.N G w (G.wm w.heap.size m) (w.alloc ob):=
  ⟨by simp,λ_ _ h=> .inl h,λb _ h=>World.cell?_alloc_lt _ _ _ (hi.S _ _ h),λ_ _=>rfl,λ_ _=> .inl ⟨rfl,rfl⟩,zsame rfl,λb hb=>Below.heap_alloc w ob b (hi.z b hb),rfl,rfl,rfl,λb o hs=>hs.imp id fun⟨e,_⟩ hz=>asc _ (hi.z _ (e▸hz))⟩
 refine⟨hE,hi.len,λb hb=>arW (hi.z b hb) hE.size,λb o hs=> ?_,λn B hB=> ?_,λm n b h1 h2=>hi.inj m n b h1 h2,hi.gl.bj hE⟩
 ·rcases hs with hs|⟨rfl,_⟩
  ·exact arW (hi.S b o hs) hE.size
  ·simp
 ·refine eu.bj (hi.lt hB) hE (arJ _) ⟨rfl,rfl,rfl⟩ (λb hb=> ?_) (hi.dv n B hB);have aS:=hi.jq (n:=n) (b:=b) ((dP hB).trans hb);refine⟨Below.heap_alloc w _ _ aS,λo k8 hs=> ?_⟩;rcases hs with hs|⟨e,_⟩
  ·exact k8 hs
  ·omega
theorem YX(k:Nat):∀(n o i:Nat)(pl:Nat×Nat),(wL k o n)[i]?=some pl->pl=(o+i*k,k)
 |0,_,_,_,h=>by simp [wL]at h
 |n+1,o,0,pl,h=>by simp [wL]at h;rw[<-h];simp
 |n+1,o,i+1,pl,h=>by
  have:=YX k n (o+k) i pl (by simpa [wL]using h);rw[this,Nat.add_mul];simp;omega
theorem WJ(l:asn AV):∀n,(sN n l).length=n*l.length
 |0=>by simp [sN]
 |n+1=>by rw[sN,arz,WJ l n,Nat.add_mul];omega
theorem adE(l:asn AV):∀(n i:Nat),i<n*l.length->(sN n l)[i]?=l[i%l.length]?
 |0,i,h=>by omega
 |n+1,i,h=>by
  rw[sN];by_cases hi:i<l.length
  ·rw[arI hi,Nat.mod_eq_of_lt hi]
  ·rw[arO (by omega),adE l n _ (by rw[Nat.add_mul]at h;omega),<-Nat.mod_eq_sub_mod (by omega)]
theorem air(z:asr){k:Nat}(hz:z.cells.size=k)(n:Nat):sN n (z.cells.toList.map λu=> .d (.v u))=(List.range (n*k)).map λi=> .d (.v (z.cells[i%z.cells.size]!)):=by
 have hl:(z.cells.toList.map λu=>AV.d (.v u)).length=k:=by simp [hz]
 refine List.ext_getElem? λi=> ?_;by_cases hi:i<n*k
 ·rw[adE _ _ _ (by rw[hl];exact hi),arF,arF,List.getElem?_range hi,hl,hz,arV];have hk:0<k:=Nat.pos_of_ne_zero λe=>by subst e;simp at hi
  have aS:i%k<z.cells.size:=by rw[hz];exact Nat.mod_lt _ hk
  rw[arU aS];simp only[Option.map_some];rw[getElem!_pos z.cells (i%k) aS]
 ·rw[ar4 (by rw[WJ,hl];omega),ar4 (by simp;omega)]
theorem Zs:∀{ps:asn (Nat×AV)}{places:asn (Nat×Nat)}{cs cm:asn AV},pO places cs ps=some cm->cm.length=cs.length
 |[],_,_,_,h=>by simp only[pO,Option.some.injEq]at h;rw[h]
 |(i,x)::ps,places,cs,cm,h=>by
  unfold pO at h;split at h
  ·rw[cond_eq_ite]at h;split at h
   ·rename_i hc
    simp only[arA,beq_iff_eq,dJ]at hc;rw[Zs h,Hy _ _ _ (by rw[hc.1];exact hc.2)]
   ·cases h
  ·cases h
section
variable {P:asq} {r:asp Nat} {n N0:Nat} {G:Gh} {w:ass} {a:Act} {s:St} {o:Oper} {K:St->Prop} {Q:Exit->Act->ass->Prop}
theorem agd{T len:Nat}{h:asn ao}{ps:asn (Nat×AV)}{qs:Array (Nat×asr)}{C:AV->Prop}(hi:b9 G w h)(hl:qs.toList.length=ps.length)
 (hr:∀(i:Nat)(p:Nat×AV)(q:Nat×asr),ps[i]?=some p->qs.toList[i]?=some q->q.1=p.1/\aJ G w q.2 p.2) (hC:xo P T len ps C):
 ∃u w' G' y,(Instr.buildSlice T len qs).run P w= .ok u w'/\b7 G.N G w G' w'/\G.N<=G'.N/\b9 G' w' h/\aJ G' w' u y/\C y:=by
 unfold xo at hC;split at hC
 ·rename_i e k hT
  obtain⟨fj,fK⟩:=jM hT;split at hC
  ·rename_i z hz
   split at hC
   ·rename_i cs hf
    split at hC
    ·rename_i ds uw
     obtain⟨fq,hC⟩:=b6.1 hC;simp only[arA,beq_iff_eq,dJ,ar5]at fq;obtain⟨⟨⟨⟨hk,hsm⟩,kf⟩,hone⟩,hb⟩:=fq;have hone:=ad2 hone;rw[air z kf]at hf;have Hb:=YX k;obtain⟨z0,yp⟩:∃z0:Array asr,z0=if len*k=0 then #[]else z.cells:=⟨_,rfl⟩
     obtain⟨zr,Fl⟩:∃zr:Array asr,zr=(Array.range (len*k)).map (z0[·%z0.size]!):=⟨_,rfl⟩;have oY:Row G w zr ((List.range (len*k)).map λi=> .d (.v (z.cells[i%z.cells.size]!))):=by
      have Ew:∀i,i<len*k->z0[i%z0.size]! =z.cells[i%z.cells.size]! :=λi hi=>by rw[yp,if_neg (by omega)]
      refine⟨by rw[Fl];simp,λi u c hu hc=> ?_,λi u hu=> ?_⟩
      ·rw[Fl,Array.getElem?_map]at hu;rw[arF]at hc;by_cases hi:i<len*k
       ·rw[List.getElem?_range hi]at hc;rw[Array.getElem?_range,if_pos hi]at hu;simp only[Option.map_some,Option.some.injEq]at hu hc;subst hu;subst hc;rw[Ew i hi];exact .d (.v _)
       ·rw[ar4 (by simp;omega)]at hc;cases hc
      ·rw[Fl,Array.getElem?_map]at hu;by_cases hi:i<len*k
       ·rw[Array.getElem?_range,if_pos hi]at hu;simp only[Option.map_some,Option.some.injEq]at hu;subst hu;rw[Ew i hi];have aS:i%z.cells.size<z.cells.size:=Nat.mod_lt _ (by omega);rw[getElem!_pos z.cells _ aS];exact Array.all_eq_true_iff_forall_mem.1 hone _ (Array.getElem_mem _)
       ·rw[Array.getElem?_eq_none (by simp;omega)]at hu;cases hu
     obtain⟨gp,h1,h2⟩:=Tx (λi=>some (i*k,k)) (wL k 0 len) (λi pl h=>by
      have:=Hb len 0 i pl h;rw[this];simp) ps qs.toList _ cs zr oY hl hr hb hf
     obtain⟨d1,d2⟩:=QH uw;have gO:cs.length=len*k:=by
      have:=Zs hf;rw[this];simp
     have xl:gp.size=len*k:=by rw[h2.len,gO]
     obtain⟨i1,i2⟩:=ZS hi (.cells gp e) (len*k);have Hn:Rd G.S w k (n8 k len ds) gp.toList:=acD (by rw[d1,gO]) (by rw[ar5,xl]) (λu hu=>by
      obtain⟨j,hj⟩:=List.mem_iff_getElem?.1 hu;exact h2.one j u (by rw[<-arV];exact hj)) (λi u d hu hd=>by
      have aS:i<cs.length:=by rw[<-d1];exact(ary.1 hd).1
      exact(h2.rel i u _ (by rw[<-arV];exact hu) (arC aS)).Qj (d2 i _ d (arC aS) hd))
     have hp:dD (G.wm w.heap.size (len*k)).S (w.alloc (.cells gp e)) (.slice (some ⟨w.heap.size,0,none⟩) len len) (.sl (n8 k len ds)):=by
      have:=(Hn.bj i1.S i1.cell).Ir w.heap.size len (by rw[rX];exact arJ _) (by have:=Nat.le_mul_of_pos_right len hk;simp only[maxLen];omega) (λo ho=> .inr ⟨rfl,by rw[rX]at ho;exact ho⟩) (λo u hu=>by
       rw[World.cell?_alloc_new];rw[<-arV];exact hu)
      rwa [rX]at this
     refine⟨_,_,_,_,?_,i1,arJ _,i2, .full _ hp ⟨some ⟨w.heap.size,0,none⟩,by rw[rX]⟩,hC⟩;have k8:¬(len*k>2^24):=by omega
     unfold Instr.buildSlice;simp only[Sem.run_bind,run_underlying fj,Result.andThen_ok,mn fK,k8,if_false];by_cases h0:len*k=0
     ·rw[if_pos h0]at yp;subst yp;subst Fl;simp [h0]at h1;simp [h0,h1,newRow]
     ·rw[if_neg h0]at yp;subst yp;subst Fl;simp [h0,Mp hz,h1,newRow]
    ·exact hC.elim
   ·exact hC.elim
  ·exact hC.elim
 ·exact hC.elim
end
section
variable {P:asq} {G:Gh} {w:ass} {h:asn ao}
theorem BV(k s:aso)(d:D)(l:asn (aso×D)):mf ((k,d)::l) s=if k=s then some d else mf l s:=by
 have e1:mf ((k,d)::l) s=bif bL k==bL s then some d else mf l s:=rfl;rw[e1];by_cases e:k=s
 ·subst e;rw[if_pos rfl];simp
 ·rw[if_neg e];have:(bL k==bL s)=false:=by rw[beq_eq_false_iff_ne];exact λhe=>e (Pw he)
  rw[this];rfl
theorem IK{T k e:TypeId}(h:vR P T=some (k,e)):P.underlying T=some (.map k e):=by
 unfold vR at h;split at h
 ·next k' e' hT=>cases h;exact hT
 ·cases h
theorem aiH(hi:b9 G w h):b7 G.N G w (G.dY w.heap.size) (w.alloc (.map #[] 0))/\b9 (G.dY w.heap.size) (w.alloc (.map #[] 0)) (h++[.map []])/\aJ (G.dY w.heap.size) (w.alloc (.map #[] 0)) (.map (some w.heap.size)) (.mp h.length):=by
 have hE:=FF G w hi.z hi.S (.map #[] 0);have hN:G.N<=(G.dY w.heap.size).N:=Nat.le_succ _;have jS:(G.dY w.heap.size).bg h.length=w.heap.size:=by simp [Gh.dY,hi.len]
 have nC:∀n(B:ao),n<G.N->B.dX (G.dY w.heap.size) n=B.dX G n:=λn B hn=>by
  cases B<;>simp [ao.dX,Gh.dY,Nat.ne_of_lt hn]
 have fX:∀n,n<G.N->cg (h++[.map []]) (G.dY w.heap.size) n=cg h G n:=λn hn=>by
  have aS:n<h.length:=by rw[hi.len];exact hn
  unfold cg;rw[arI aS,arC aS];exact nC n _ hn
 have EO:cg (h++[.map []]) (G.dY w.heap.size) h.length=some w.heap.size:=by
  rw[dP (B:= .map []) (by simp)];exact congrArg some jS
 refine⟨hE,⟨by simp [Gh.dY,hi.len],λb hb=>arW (hi.z b hb) hE.size,λb o hs=>arW (hi.S b o hs) hE.size,λn B hB=> ?_,λm n b hm hn=> ?_,hi.gl.bj hE⟩,?_⟩
 ·by_cases hn:n<h.length
  ·rw[arI hn]at hB;have fB:n<G.N:=hi.len▸hn;exact eu.bj fB hE hN ⟨rfl,rfl,rfl⟩ (λb hb=>⟨Below.heap_alloc w _ _ (hi.jq (n:=n) ((dP hB).trans hb)),λo h=>h⟩) (hi.dv n B hB)
  ·have nA:n=h.length:=by
    have:=(ary.1 hB).1;simp at this;omega
   subst nA;simp at hB;subst hB;exact⟨by rw[jS];exact λhz=>asc _ (hi.z _ hz),λo hs=>by rw[jS]at hs;exact asc _ (hi.S _ _ hs), #[],0,by rw[jS];exact World.alloc_heap_new w _,
    ⟨by simp,MapKept.stamped_empty 0,λe he=>(by simp at he),λs d hs=>(by cases hs),by simp,λi e he=>(by simp at he),rfl⟩⟩
 ·have key:∀n b,cg (h++[.map []]) (G.dY w.heap.size) n=some b->(n<G.N/\cg h G n=some b)\/(n=h.length/\b=w.heap.size):=λn b hn=>by
   by_cases aS:n<G.N
   ·exact .inl ⟨aS,by rw[<-fX n aS];exact hn⟩
   ·by_cases e:n=h.length
    ·subst e;rw[EO]at hn;cases hn;exact .inr ⟨rfl,rfl⟩
    ·rw[AE (ar4 (by simp;have:=hi.len;omega))]at hn;cases hn
  rcases key m b hm with⟨_,ma⟩|⟨rfl,rfl⟩<;>rcases key n _ hn with⟨_,fB⟩|⟨rfl,hb⟩
  ·exact hi.inj m n b ma fB
  ·have:=hi.jq ma;omega
  ·have:=hi.jq fB;omega
  ·rfl
 ·have:=aJ.mp (G:=G.dY w.heap.size) (w:=w.alloc (.map #[] 0)) h.length (by simp [Gh.dY,hi.len])
  rwa [jS]at this
theorem th{s:aso}:MapKept.IsKey .string (.string s):=trivial
theorem ajM{T k e:TypeId}{z:asr}{n:Nat}{kv:asn (aso×D)}{s:aso}{ok:Bool}(hi:b9 G w h)(hT:vR P T=some (k,e))(hz:iR P e=some z)(hk:hY P k=true)(hn:h[n]?=some (.map kv)):
 ∃v,(Instr.lookup T (.map (some (G.bg n))) (.string s) ok).run P w= .ok v w/\aJ G w v (yb ok z (mf kv s)):=by
 obtain⟨_,_,es,clock,hh,hm⟩:=hi.dv n _ hn;have GL:∀x∈es.toList,MapKept.IsKey .string x.key:=λx hx=>by
  obtain⟨s',d,h1,_⟩:=hm.Al x hx;rw[h1];exact th
 have tN:=tu hk;have one:∀(v:asr)(d:D)(b:Bool),dD G.S w v d->aJ G w (if ok then .tuple #[v, .bool b]else v) (bif ok then .aX [.d d, .d (.v (.bool b))]else .d d):=λv d b hp=>by
  cases ok with
  |false=>exact .d hp
  |true=>
   refine .aX #[v, .bool b] _ rfl λi u c hu hc=> ?_
   match i with
   |0=>simp at hu hc;subst hu;subst hc;exact .d hp
   |1=>simp at hu hc;subst hu;subst hc;exact .d (.v _)
   |i+2=>simp at hu
 rcases MapKept.findNow_spec (th (s:=s)) es.toList 0 GL with⟨h1,h2⟩|⟨j,e0,h1,h2,h3⟩
 ·have aeP:mf kv s=none:=by
   cases hq:mf kv s with
   |none=>rfl
   |some d=>
    obtain⟨x,hx,nX⟩:=hm.all s d hq;exact absurd nX (h2 x hx)
  refine⟨if ok then .tuple #[z, .bool false]else z,?_,?_⟩
  ·simp [Instr.lookup,run_underlying (IK hT),MapKept.run_getObj_map hh,MapKept.run_checkKey tN th,MapKept.run_findKey tN h1,Mp hz,Result.andThen]
  ·rw[aeP];have:=one z (.v z) false (.v z);unfold yb;exact this
 ·have lB:e0∈es.toList:=arL h2;obtain⟨s',d,k1,k2,k3⟩:=hm.Al e0 lB;rw[h3]at k1;cases k1
  refine⟨if ok then .tuple #[e0.val, .bool true]else e0.val,?_,?_⟩
  ·simp [Instr.lookup,run_underlying (IK hT),MapKept.run_getObj_map hh,MapKept.run_checkKey tN th,MapKept.run_findKey tN h1,Result.andThen]
  ·rw[k2];have:=one e0.val d true k3;unfold yb;exact this
theorem ajA{T k e:TypeId}{n:Nat}{kv:asn (aso×D)}{s:aso}{v:asr}{d:D}(hi:b9 G w h)(hT:vR P T=some (k,e))(hk:hY P k=true)(hn:h[n]?=some (.map kv))(hv:dD G.S w v d)(hlen:kv.length<maxLen):
 ∃w',(Instr.mapUpdate T (.map (some (G.bg n))) (.string s) v).run P w= .ok () w'/\b7 G.N G w G w'/\b9 G w' (h.set n (.map ((s,d)::kv))):=by
 obtain⟨hZ,hS,es,clock,hh,hm⟩:=hi.dv n _ hn;have GL:∀x∈es.toList,MapKept.IsKey .string x.key:=λx hx=>by
  obtain⟨s',d,h1,_⟩:=hm.Al x hx;rw[h1];exact th
 have tN:=tu hk;have fin:∀(yj:Array MapEntry)(FH:Nat)(w':ass),w'=ChangeMaps.setBlock w (G.bg n) (.map yj FH)->yA G.S w yj FH ((s,d)::kv)->b7 G.N G w G w'/\b9 G w' (h.set n (.map ((s,d)::kv))):=by
  intro yj FH w' eJ ma;have iT:∀b,b≠G.bg n->w'.heap[b]?=w.heap[b]?:=λb hb=>by rw[eJ];exact ChangeMaps.heap_setBlock_other hh _ hb
  have To:w'.heap[G.bg n]?=some (.map yj FH):=by rw[eJ];exact ChangeMaps.heap_setBlock_same hh _
  have iw:w'.heap.size=w.heap.size:=by rw[eJ];simp [ChangeMaps.setBlock]
  have iG:∀b o,G.S b o->w'.cell? ⟨b,o,none⟩=w.cell? ⟨b,o,none⟩:=λb o hs=>World.cell?_of_block (iT b (λe=>hS o (e▸hs)));have hE:b7 G.N G w G w':=⟨by rw[iw];exact arJ _,λ_ _ h=>h,iG,λ_ _=>rfl,λ_ _=> .inl ⟨rfl,rfl⟩,zsame rfl,λb hb=>iT b (λe=>hZ (e▸hb)),by rw[eJ];rfl,by rw[eJ];rfl,by rw[eJ];rfl,λ_ _ h=> .inl h⟩;refine⟨hE,?_⟩;have m5:cg h G n=some (G.bg n):=dP hn;have mi:(h.set n (.map ((s,d)::kv)))[n]?=some (.map ((s,d)::kv)):=by rw[ar1 (ary.1 hn).1]
  have eN:∀m,m≠n->(h.set n (.map ((s,d)::kv)))[m]?=h[m]?:=λm hm=>by rw[ar6 (Ne.symm hm)]
  have dV:∀m,cg (h.set n (.map ((s,d)::kv))) G m=cg h G m:=λm=>by
   by_cases e:m=n
   ·subst e;rw[dP mi,dP hn];rfl
   ·unfold cg;rw[eN m e]
  refine⟨by rw[List.length_set];exact hi.len,λb hb=>arW (hi.z b hb) hE.size,λb o hs=>arW (hi.S b o hs) hE.size,λm B hB=> ?_,λm m' b h1 h2=>hi.inj m m' b (by rw[<-dV];exact h1) (by rw[<-dV];exact h2),hi.gl.bj hE⟩;by_cases e:m=n
  ·subst e;rw[mi]at hB;cases hB
   exact⟨hZ,hS,yj,FH,To,ma.bj (λ_ _ h=>h) iG⟩
  ·rw[eN m e]at hB;have cP:∀b,cg h G m=some b->b≠G.bg n:=λb hb eb=>e (hi.inj m n b hb (by rw[eb];exact m5));exact eu.bj (hi.lt hB) hE (arJ _) ⟨rfl,rfl,rfl⟩ (λb hb=>⟨iT b (cP _ ((dP hB).trans hb)),λo h=>h⟩) (hi.dv m B hB)
 rcases MapKept.findNow_spec (th (s:=s)) es.toList 0 GL with⟨h1,h2⟩|⟨j,e0,h1,h2,h3⟩
 ·have ma:yA G.S w (es.push ⟨.string s,v,clock⟩) (clock+1) ((s,d)::kv):=by
   refine⟨by have:=hm.len;simp;omega,MapKept.stamped_push hm.stamped h2,λx hx=> ?_,λs' d' ct=> ?_,by have:=hm.len;simp;omega,λi e he=> ?_,by rw[hm.HT];simp⟩
   ·simp only[Array.toList_push,asa,List.mem_singleton]at hx;rcases hx with hx|rfl
    ·obtain⟨s',d',k1,k2,k3⟩:=hm.Al x hx;refine⟨s',d',k1,?_,k3⟩;rw[BV,if_neg (λe=>h2 x hx (by rw[k1,e]))];exact k2
    ·exact⟨s,d,rfl,by rw[BV,if_pos rfl],hv⟩
   ·rw[BV]at ct;simp only[Array.toList_push,asa,List.mem_singleton];split at ct
    ·next e=>subst e;exact⟨_, .inr rfl,rfl⟩
    ·obtain⟨x,hx,hk⟩:=hm.all s' d' ct;exact⟨x, .inl hx,hk⟩
   ·rw[Array.getElem?_push]at he;split at he
    ·next ei=>cases he;rw[ei];exact hm.HT
    ·exact hm.born i e he
  obtain⟨f1,f2⟩:=fin _ _ _ rfl ma;refine⟨_,?_,f1,f2⟩;simp [Instr.mapUpdate,run_underlying (IK hT),MapKept.run_getObj_map hh,MapKept.run_checkKey tN th,MapKept.run_findKey tN h1,MapKept.run_setObj_map _ hh,Result.andThen,ChangeMaps.setBlock]
 ·have hj:es[j]?=some e0:=by simpa using h2
  have Ar:j<es.toList.length:=(ary.1 h2).1;have akn:∀e',es[j]?=some e'->({e' with key:= .string s,val:=v}:MapEntry).key=e'.key:=λe' KQ=>by rw[hj]at KQ;cases KQ;exact h3.symm
  have NM:(es.modify j (λe'=>{e' with key:= .string s,val:=v})).toList=es.toList.set j {e0 with key:= .string s,val:=v}:=by
   rw[Array.toList_modify];exact ChangeMaps.modify_eq_set _ _ _ _ h2
  have lD:(es.toList.map (·.key)).Nodup:=hm.stamped.2.2;have ma:yA G.S w (es.modify j (λe'=>{e' with key:= .string s,val:=v})) clock ((s,d)::kv):=by
   refine⟨by simpa using hm.size,MapKept.stamped_modify hm.stamped _ _ (λ_ _=>rfl) (λe' _ KQ=>akn e' KQ),λx hx=> ?_,λs' d' ct=> ?_,by have:=hm.len;simp;omega,λi e he=> ?_,by rw[hm.HT];simp⟩
   ·rw[NM]at hx;obtain⟨i,dN,ex⟩:=List.getElem_of_mem hx;rw[List.getElem_set]at ex;split at ex
    ·rw[<-ex];exact⟨s,d,rfl,by rw[BV,if_pos rfl],hv⟩
    ·next cP=>
     have kR:i<es.toList.length:=by simpa using dN
     have ox:x∈es.toList:=by rw[<-ex];exact List.getElem_mem kR
     obtain⟨s',d',k1,k2,k3⟩:=hm.Al x ox;refine⟨s',d',k1,?_,k3⟩;rw[BV,if_neg ?_]
     ·exact k2
     ·intro yj;have a1:(es.toList.map (·.key))[i]?=some (.string s):=by rw[arF,arC kR,ex];simp [k1,yj]
      have a2:(es.toList.map (·.key))[j]?=some (.string s):=by rw[arF,h2];simp [h3]
      have hii:i<(es.toList.map (·.key)).length:=by simpa using kR
      exact cP ((List.getElem?_inj hii lD).1 (a1.trans a2.symm)).symm
   ·rw[NM];rw[BV]at ct;split at ct
    ·next e=>subst e;exact⟨_,List.mem_iff_getElem?.2 ⟨j,ar1 Ar⟩,rfl⟩
    ·next cP=>
     obtain⟨x,hx,hk⟩:=hm.all s' d' ct;obtain⟨i,dN,ex⟩:=List.getElem_of_mem hx;refine⟨x,List.mem_iff_getElem.2 ⟨i,by simpa using dN,?_⟩,hk⟩;rw[List.getElem_set];split
     ·next e=>
      subst e;exfalso;have:es.toList[j]?=some x:=by rw[arC dN,ex]
      rw[this]at h2;cases h2
      rw[h3]at hk;injection hk with hk;exact cP hk
     ·exact ex
   ·rw[Array.getElem?_modify]at he;split at he
    ·next ei=>
     subst ei;rw[hj]at he;cases he
     exact hm.born _ e0 hj
    ·exact hm.born i e he
  obtain⟨f1,f2⟩:=fin _ _ _ rfl ma;refine⟨_,?_,f1,f2⟩;simp [Instr.mapUpdate,run_underlying (IK hT),MapKept.run_getObj_map hh,MapKept.run_checkKey tN th,MapKept.run_findKey tN h1,hj,h3,MapKept.run_keyThatStays th,MapKept.run_setObj_map _ hh,Result.andThen,ChangeMaps.setBlock]
end
set_option linter.unusedVariables false
set_option linter.unusedSimpArgs false
section
variable {P:asq} {G:Gh} {w:ass} {h:asn ao}
theorem Lq{w':ass}(hi:b9 G w h){n:Nat}{B B':ao}(hn:h[n]?=some B)(wJ:∀G':Gh,B.dX G' n=G'.ow n)(Pp:∀G':Gh,B'.dX G' n=G'.ow n)(S:Nat->Nat->Prop)(v:asr)(len:Nat)(ow:asp Nat)
 (hE:b7 G.N G w (G.grow n S v len ow) w') (hg:∀g,ow=some g->(g=w.heap.size\/G.ow n=some g)/\g<w'.heap.size)
 (hS:∀b o,S b o->G.S b o\/ow=some b) (iT:∀b,b<w.heap.size->ow≠some b->w'.heap[b]?=w.heap[b]?)
 (hB:eu (G.grow n S v len ow) w' n B'):b9 (G.grow n S v len ow) w' (h.set n B'):=by
 have eN:∀m,m≠n->(h.set n B')[m]?=h[m]?:=λm hm=>by rw[ar6 (Ne.symm hm)]
 have mi:(h.set n B')[n]?=some B':=by rw[ar1 (ary.1 hn).1]
 have nC:∀m(C:ao),m≠n->C.dX (G.grow n S v len ow) m=C.dX G m:=λm C hm=>by
  cases C<;>simp [ao.dX,Gh.grow,hm]
 have dV:∀m,m≠n->cg (h.set n B') (G.grow n S v len ow) m=cg h G m:=λm hm=>by
  unfold cg;rw[eN m hm];cases h[m]? with
  |none=>rfl
  |some C=>exact nC m C hm
 have Da:cg (h.set n B') (G.grow n S v len ow) n=ow:=by rw[dP mi,Pp];simp [Gh.grow]
 have xk:∀m b,m≠n->ow=some b->cg h G m≠some b:=λm b hm ho hb=>by
  rcases (hg b ho).1 with hg|hg
  ·have:=hi.jq hb;omega
  ·exact hm (hi.inj m n b hb ((dP hn).trans ((wJ G).trans hg)))
 refine⟨by rw[List.length_set];exact hi.len,λb hb=>arW (hi.z b hb) hE.size,λb o hs=> ?_,λm C hm=> ?_,λm m' b h1 h2=> ?_,hi.gl.bj hE⟩
 ·rcases hS b o hs with hs|hs
  ·exact arW (hi.S b o hs) hE.size
  ·exact(hg b hs).2
 ·by_cases em:m=n
  ·subst em;rw[mi]at hm;cases hm;exact hB
  ·rw[eN m em]at hm;refine eu.bj (hi.lt hm) hE (arJ _) ⟨by simp [Gh.grow,em],by simp [Gh.grow,em],by simp [Gh.grow,em]⟩ (λb hb=> ?_) (hi.dv m C hm);have hr:cg h G m=some b:=(dP hm).trans hb;have cP:ow≠some b:=λe'=>xk m b em e' hr;refine⟨iT _ (hi.jq hr) cP,λo k8 hs=> ?_⟩;rcases hS _ o hs with hs|hs
   ·exact k8 hs
   ·exact cP hs
 ·by_cases e1:m=n<;>by_cases e2:m'=n
  ·rw[e1,e2]
  ·subst e1;rw[dV m' e2]at h2;rw[Da]at h1;exact absurd h2 (xk m' b e2 h1)
  ·subst e2;rw[dV m e1]at h1;rw[Da]at h2;exact absurd h1 (xk m b e1 h2)
  ·rw[dV m e1]at h1;rw[dV m' e2]at h2;exact hi.inj m m' b h1 h2
def Gh.eF(G:Gh)(v:asr)(len:Nat)(ow:asp Nat):Gh:=
 {G with N:=G.N+1,sg:=λn=>if n=G.N then v else G.sg n,fl:=λn=>if n=G.N then len else G.fl n,ow:=λn=>if n=G.N then ow else G.ow n}
theorem QS{w':ass}(hi:b9 G w h)(B:ao)(wJ:∀(G':Gh) n,B.dX G' n=G'.ow n)(v:asr)(len:Nat)(ow:asp Nat)(hw:(∀b,b<w.heap.size->w'.heap[b]?=w.heap[b]?)/\w.heap.size<=w'.heap.size/\w'.os=w.os/\w'.tape=w.tape/\w'.output=w.output)
 (how:∀g,ow=some g->w.heap.size<=g)
 (hB:eu (G.eF v len ow) w' G.N B):b7 G.N G w (G.eF v len ow) w'/\b9 (G.eF v len ow) w' (h++[B]):=by
 have cP:∀n,n<G.N->n≠G.N:=λn hn=>Nat.ne_of_lt hn;have hE:b7 G.N G w (G.eF v len ow) w':=⟨hw.2.1,λ_ _ h=>h,λb o hs=>World.cell?_of_block (hw.1 b (hi.S b o hs)),λ_ _=>rfl,λn hn=> .inl ⟨by simp [Gh.eF,cP n hn],by simp [Gh.eF,cP n hn]⟩,zsame rfl,λb hb=>hw.1 b (hi.z b hb),hw.2.2.1,hw.2.2.2.1,hw.2.2.2.2,λ_ _ h=> .inl h⟩;have hN:G.N<=(G.eF v len ow).N:=Nat.le_succ _;have nC:∀n(C:ao),n<G.N->C.dX (G.eF v len ow) n=C.dX G n:=λn C hn=>by
  cases C<;>simp [ao.dX,Gh.eF,Nat.ne_of_lt hn]
 have key:∀n b,cg (h++[B]) (G.eF v len ow) n=some b->(n<G.N/\cg h G n=some b)\/(n=G.N/\ow=some b):=λn b hb=>by
  by_cases hn:n<h.length
  ·unfold cg at hb;rw[arI hn,arC hn]at hb;exact .inl ⟨hi.len▸hn,by unfold cg;rw[arC hn,<-hb];exact(nC n _ (hi.len▸hn)).symm⟩
  ·by_cases en:n=h.length
   ·subst en;rw[dP (B:=B) (by simp),wJ]at hb;exact .inr ⟨hi.len,by simpa [Gh.eF,hi.len]using hb⟩
   ·rw[AE (ar4 (by simp;omega))]at hb;cases hb
 refine⟨hE,by simp [Gh.eF,hi.len],λb hb=>arW (hi.z b hb) hw.2.1,λb o hs=>arW (hi.S b o hs) hw.2.1,λn C hC=> ?_,λm n b h1 h2=> ?_,hi.gl.bj hE⟩
 ·by_cases hn:n<h.length
  ·rw[arI hn]at hC;have fB:n<G.N:=hi.len▸hn;exact eu.bj fB hE hN ⟨by simp [Gh.eF,cP n fB],by simp [Gh.eF,cP n fB],by simp [Gh.eF,cP n fB]⟩ (λb hb=>⟨hw.1 b (hi.jq ((dP hC).trans hb)),λo h=>h⟩) (hi.dv n C hC)
  ·have nA:n=h.length:=by
    have:=(ary.1 hC).1;simp at this;omega
   subst nA;simp at hC;subst hC;rw[hi.len];exact hB
 ·rcases key m b h1 with⟨_,a1⟩|⟨rfl,a1⟩<;>rcases key n b h2 with⟨_,b1⟩|⟨rfl,b1⟩
  ·exact hi.inj m n b a1 b1
  ·have:=hi.jq a1;have:=how b b1;omega
  ·have:=hi.jq b1;have:=how b a1;omega
  ·rfl
theorem aJ.xY{n o len L k:Nat}{e:TypeId}{cs:asn (asn AV)}{u:asr}(hi:b9 G w h)(hn:h[n]?=some (.vec e k cs))(hL:cs.length=L)(hv:aJ G w u (.vec n o len L k)):Vi (G.sg n) u o len L k:=by
 have hb:=(hi.dv n _ hn).1;cases hv with|vec _ _ _ _ _ h1 h2 h3 h4=>exact h4 (by rw[<-hL,hb])
theorem aJ.acW{n i j L k:Nat}{e:TypeId}{k':Nat}{cs:asn (asn AV)}{u:asr}(hi:b9 G w h)(hn:h[n]?=some (.vec e k' cs))(hL:cs.length=L)(hv:aJ G w u (.dx n i j L k)):Xo (G.sg n) u i j L k:=by
 have hb:=(hi.dv n _ hn).1;cases hv with|dx _ _ _ _ _ h1 h2 h3 h4=>exact h4 (by rw[<-hL,hb])
theorem Lu{n:Nat}{e k:Nat}{cs:asn (asn AV)}(hi:b9 G w h)(hn:h[n]?=some (.vec e k cs))(cP:cs≠ []):∃(g cap:Nat)(cur:Array asr),G.ow n=some g/\G.sg n= .slice (some ⟨g,0,none⟩) cs.length cap/\¬G.Z g/\w.heap[g]?=some (.cells cur e (0,0))/\cs.length<=cap/\cap<=maxLen/\cur.size=cap*k/\(∀o,¬G.S g o)/\
        ∀(i j:Nat)(c:asn AV)(x:AV)(u:asr),cs[i]?=some c->c[j]?=some x->cur[i*k+j]?=some u->aJ G w u x:=by
 obtain⟨_,_,_,h4|h4⟩:=hi.dv n _ hn
 ·exact absurd h4.2.1 cP
 ·exact h4
theorem FV{n:Nat}{e k:Nat}{cs:asn (asn AV)}(hi:b9 G w h)(hn:h[n]?=some (.vec e k cs)):∀c∈cs,c.length=k:=(hi.dv n _ hn).2.2.1
theorem mZ{i k L j:Nat}(hi:i<L)(hj:j<k):i*k+j<L*k:=by
 have:(i+1)*k<=L*k:=Nat.mul_le_mul_right k hi;rw[Nat.add_mul]at this;omega
theorem KT{i k j:Nat}(hj:j<k):(i*k+j)/ k=i/\(i*k+j)%k=j:=by
 have hk:0<k:=by omega
 exact⟨by rw[Nat.add_comm,Nat.add_mul_div_right _ _ hk,Nat.div_eq_of_lt hj,arS],by rw[Nat.add_comm,Nat.add_mul_mod_self_right,Nat.mod_eq_of_lt hj]⟩
theorem ahd{i i' j j' k:Nat}(hj:j<k)(jz:j'<k)(e:i*k+j=i'*k+j'):i=i'/\j=j':=by
 have h1:=KT (i:=i) hj;have h2:=KT (i:=i') jz;exact⟨by rw[<-h1.1,<-h2.1,e],by rw[<-h1.2,<-h2.2,e]⟩
theorem aoA{t n i j L k:Nat}{e:TypeId}{cs:asn (asn AV)}{c:asn AV}{x:AV}{v:asr}(hi:b9 G w h)(hn:h[n]?=some (.vec e k cs))(hL:cs.length=L)(hc:cs[i]?=some c)(hx:R1 P t c j=some x)(hv:aJ G w v (.dx n i j L k)):
 ∃u,(Instr.loadAt t v).run P w= .ok u w/\aJ G w u x:=by
 have jW:i<cs.length:=(ary.1 hc).1;have Yo:c.length=k:=FV hi hn c (arL hc);obtain⟨g,cap,cur,r1,r2,r3,r4,r5,r6,r7,r8,r9⟩:=Lu hi hn (λe=>by subst e;simp at jW);obtain⟨_,g',IC,p1,p2⟩:=hv.acW hi hn hL;rw[r2]at p1;cases p1
 have h1:∀q,q<c.length->w.cell? ⟨g,i*k+q,none⟩=some (cur.getD (i*k+q) undef):=λq hq=>by
  rw[cell_of_row w g _ cur e (0,0) r4];have:i*k+q<cur.size:=by
    rw[r7];exact arW (mZ jW (by omega)) (Nat.mul_le_mul_right k r5)
  simp [Array.getD,this]
 have h2:∀(q:Nat)(y:AV),c[q]?=some y->aJ G w (cur.getD (i*k+q) undef) y:=λq y hq=>by
  have Ra:=(ary.1 hq).1;have aS:i*k+q<cur.size:=by
   rw[r7];exact arW (mZ jW (by omega)) (Nat.mul_le_mul_right k r5)
  have e1:cur[i*k+q]?=some (cur.getD (i*k+q) undef):=by simp [Array.getD,aS]
  exact r9 i q c y _ hc hq e1
 have key:=aa8 (P:=P) (G:=G) (w:=w) (t:=t) (C:=(·=x)) g (i*k) c j (λq=>cur.getD (i*k+q) undef) h1 h2 (by
  unfold R1 at hx;revert hx;cases mu P t with
  |none=>intro hx;cases hx
  |some ag=>
   cases fQ P t with
   |none=>cases ag<;>(intro hx;cases hx)
   |some kk=>
    cases ag with
    |true=>
     simp only;intro hx;cases hb:cp (j+kk) c.length with
     |false=>rw[hb]at hx;cases hx
     |true=>rw[hb]at hx;cases hx;exact rfl
    |false=>
     simp only;intro hx;rw[hx])
 obtain⟨u,y,k1,k2,rfl⟩:=key;refine⟨u,?_,k2⟩;rw[p2];simp [Instr.loadAt,Instr.sureAddr,k1]
theorem aoY{t b off k:Nat}{T:TypeId}{v:asr}{vs:Array asr}(hh:w.heap[b]?=some (.cells vs T (0,0)))(ht:fQ P t=some k)(hk:v.cells.size=k)(hone:∀u∈v.cells.toList,u.oneCell'=true)(hb:off+k<=vs.size):
 (storeVar t ⟨b,off,none⟩ v).run P w= .ok () (w.setRow b (vs.toList.take off++v.cells.toList++vs.toList.drop (off+v.cells.toList.length)).toArray):=by
 obtain⟨i,jD,kR⟩:=Vw ht;have iB:=run_storeCells_at P b off T v.cells.toList 0 vs w hh (by rw[ar5,hk];simpa using hb) hone;simp only[Nat.add_zero]at iB;unfold storeVar;simp only[sizeOf,typeInfo,Sem.run_bind,hk];simp [jD,kR,iB]
theorem VF(vs:Array asr)(us:asn asr)(off q:Nat)(hb:off+us.length<=vs.size):(vs.toList.take off++us++vs.toList.drop (off+us.length)).toArray[q]?=if off<=q/\q<off+us.length then us[q-off]? else vs[q]?:=by
 rw[List.getElem?_toArray,arP];have xl:vs.toList.length=vs.size:=ar5;by_cases h1:q<off
 ·rw[arI (by simp;omega),List.getElem?_take_of_lt h1,if_neg (by omega),arV]
 ·rw[arO (by simp;omega)];simp only[List.length_take,xl];rw[Nat.min_eq_left (by omega)];by_cases h2:q<off+us.length
  ·rw[arI (by omega),if_pos (by omega)]
  ·rw[arO (by omega),List.getElem?_drop,if_neg (by omega),show off+us.length+(q-off-us.length)=q by omega,arV]
theorem Xs(vs:Array asr)(us:asn asr)(off:Nat)(hb:off+us.length<=vs.size):(vs.toList.take off++us++vs.toList.drop (off+us.length)).toArray.size=vs.size:=by
 simp only[List.size_toArray,arz,List.length_take,List.length_drop,ar5];omega
theorem ale(cs ys:asn AV)(off q:Nat)(hb:off+ys.length<=cs.length):(ib cs off ys)[q]?=if off<=q/\q<off+ys.length then ys[q-off]? else cs[q]?:=by
 unfold ib;rw[arP];by_cases h1:q<off
 ·rw[arI (by simp;omega),List.getElem?_take_of_lt h1,if_neg (by omega)]
 ·rw[arO (by simp;omega)];simp only[List.length_take];rw[Nat.min_eq_left (by omega)];by_cases h2:q<off+ys.length
  ·rw[arI (by omega),if_pos (by omega)]
  ·rw[arO (by omega),List.getElem?_drop,if_neg (by omega),show off+ys.length+(q-off-ys.length)=q by omega]
theorem Za{n e k g cap:Nat}{cs cm:asn (asn AV)}{cur:Array asr}{us:asn asr}{off:Nat}(hi:b9 G w h)(hn:h[n]?=some (.vec e k cs))(gK:0<k)(r1:G.ow n=some g)(r2:G.sg n= .slice (some ⟨g,0,none⟩) cs.length cap)(r3:¬G.Z g)(r4:w.heap[g]?=some (.cells cur e (0,0)))(r5:cs.length<=cap)(r6:cap<=maxLen)(r7:cur.size=cap*k)(r8:∀o,¬G.S g o)
 (hb:off+us.length<=cur.size) (hl:cm.length=cs.length) (jd:∀c∈cm,c.length=k)
 (Aq:∀(i j:Nat)(c:asn AV)(x:AV)(u:asr),cm[i]?=some c->c[j]?=some x->(if off<=i*k+j/\i*k+j<off+us.length then us[i*k+j-off]? else cur[i*k+j]?)=some u->aJ G w u x):
 ∃G',b7 G.N G w G' (w.setRow g (cur.toList.take off++us++cur.toList.drop (off+us.length)).toArray)/\G'.N=G.N/\b9 G' (w.setRow g (cur.toList.take off++us++cur.toList.drop (off+us.length)).toArray) (h.set n (.vec e k cm))/\(∀m,G'.sg m=G.sg m)/\(∀m,G'.fl m=G.fl m):=by
 obtain⟨w',eJ⟩:∃w',w'=w.setRow g (cur.toList.take off++us++cur.toList.drop (off+us.length)).toArray:=⟨_,rfl⟩;rw[<-eJ];have iT:∀b,b≠g->w'.heap[b]?=w.heap[b]?:=λb hb=>by rw[eJ];exact setRow_other w g b _ hb
 have oY:w'.heap[g]?=some (.cells (cur.toList.take off++us++cur.toList.drop (off+us.length)).toArray e (0,0)):=by rw[eJ];exact setRow_heap w g cur _ e _ r4
 have iw:w'.heap.size=w.heap.size:=by rw[eJ];exact N6 w g _
 obtain⟨G',gi⟩:∃G',G'=G.grow n G.S (G.sg n) (G.fl n) (some g):=⟨_,rfl⟩;have PI:∀m,G'.sg m=G.sg m:=λm=>by rw[gi];simp only[Gh.grow];split<;>simp_all
 have mz:∀m,G'.fl m=G.fl m:=λm=>by rw[gi];simp only[Gh.grow];split<;>simp_all
 have hE:b7 G.N G w G' w':=⟨by rw[iw];exact arJ _,λb o h=>by rw[gi];exact h,λb o hs=>World.cell?_of_block (iT b (λe=>r8 o (e▸hs))),λ_ _=>by rw[gi];rfl,λm _=> .inl ⟨mz m,PI m⟩,zsame (by rw[gi];rfl) (by rw[gi];rfl),λb hb=>iT b (λe=>r3 (e▸hb)),by rw[eJ];rfl,by rw[eJ];rfl,by rw[eJ];rfl,λb o hs=> .inl (by rw[gi]at hs;exact hs)⟩;have pc:=hi.dv n _ hn;refine⟨G',hE,by rw[gi];rfl,?_,PI,mz⟩;subst gi;refine Lq hi hn (λ_=>rfl) (λ_=>rfl) _ _ _ _ hE (λg' sW=> ?_) (λb o hs=> .inl hs) (λb _ fW=>iT b (λe=>fW (by rw[e]))) ?_
 ·cases sW;exact⟨.inr r1,by rw[iw];exact(arN.1 r4).1⟩
 ·refine⟨by rw[mz,hl];exact pc.1,by rw[hl];exact pc.2.1,jd, .inr ⟨g,cap,_,by simp [Gh.grow],by rw[PI,hl];exact r2,r3,oY,by rw[hl];exact r5,r6,by rw[Xs _ _ _ hb];exact r7,r8,λi j c x u hc hx hu=> ?_⟩⟩;rw[VF _ _ _ _ hb]at hu;exact(Aq i j c x u hc hx hu).bj hE (arJ _)
theorem akL{t n i j L k:Nat}{e:TypeId}{cs:asn (asn AV)}{c:asn AV}{x:AV}{v u:asr}(hi:b9 G w h)(hn:h[n]?=some (.vec e k cs))(hL:cs.length=L)(hc:cs[i]?=some c)(hv:aJ G w v (.dx n i j L k))(hx:aJ G w u x)(Rs:x.jt=true)(ht:fQ P t=some x.cells.length)(hj:j+x.cells.length<=k)(gK:0<k):
 ∃w' G',(Instr.storeAt t v u).run P w= .ok () w'/\b7 G.N G w G' w'/\G.N<=G'.N/\b9 G' w' (h.set n (.vec e k (cs.set i (ib c j x.cells)))):=by
 have jW:i<cs.length:=(ary.1 hc).1;have jd:=FV hi hn;have Yo:c.length=k:=jd c (arL hc);obtain⟨g,cap,cur,r1,r2,r3,r4,r5,r6,r7,r8,r9⟩:=Lu hi hn (λe=>by subst e;simp at jW);obtain⟨_,g',IC,p1,p2⟩:=hv.acW hi hn hL;rw[r2]at p1;cases p1
 obtain⟨c1,c2⟩:=hx.cells Rs;have pe:u.cells.toList.length=x.cells.length:=by rw[ar5,c1]
 have hone:∀y∈u.cells.toList,y.oneCell'=true:=λy hy=>by
  obtain⟨q,hq⟩:=List.mem_iff_getElem?.1 hy;have Ra:u.cells[q]?=some y:=by rw[<-arV];exact hq
  have hql:q<x.cells.length:=by rw[<-c1];exact(arN.1 Ra).1
  exact(c2 q y _ Ra (arC hql)).2
 have mq:i*k+j+x.cells.length<=cur.size:=by
  have h1:(i+1)*k<=cap*k:=Nat.mul_le_mul_right k (arW jW r5);rw[Nat.add_mul]at h1;rw[r7];omega
 have dK:=aoY (P:=P) (off:=i*k+j) r4 ht c1 hone mq;obtain⟨G',e1,e2,e3,_⟩:=Za (us:=u.cells.toList) (off:=i*k+j) (cm:=cs.set i (ib c j x.cells)) hi hn gK r1 r2 r3 r4 r5 r6 r7 r8 (by rw[pe];exact mq) (by rw[List.length_set]) (λd hd=>by
     obtain⟨q,hq⟩:=List.mem_iff_getElem?.1 hd;by_cases e:i=q
     ·subst e;rw[ar1 jW]at hq;cases hq
      rw[Hy _ _ _ (by omega)];exact Yo
     ·rw[ar6 e]at hq;exact jd d (arL hq)) (λa b d y z hd hy hz=>by
     have jf:b<k:=by
      by_cases e:i=a
      ·subst e;rw[ar1 jW]at hd;cases hd
       have:=(ary.1 hy).1;rw[Hy _ _ _ (by omega)]at this;omega
      ·rw[ar6 e]at hd;rw[<-jd d (arL hd)];exact(ary.1 hy).1
     rw[pe]at hz;by_cases e:i=a
     ·subst e;rw[ar1 jW]at hd;cases hd
      rw[ale _ _ _ _ (by omega)]at hy;by_cases hb:j<=b/\b<j+x.cells.length
      ·rw[if_pos hb]at hy;rw[if_pos (by omega),show i*k+b-(i*k+j)=b-j by omega,arV]at hz;exact(c2 _ _ _ hz hy).1
      ·rw[if_neg hb]at hy;rw[if_neg (by omega)]at hz;exact r9 i b c y z hc hy hz
     ·rw[ar6 e]at hd;rw[if_neg ?_]at hz
      ·exact r9 a b d y z hd hy hz
      ·intro hh;have:a*k+b=i*k+(a*k+b-i*k):=by omega
       exact e ((ahd (i:=a) (i':=i) (j:=b) (j':=a*k+b-i*k) jf (by omega) this).1.symm))
 refine⟨_,G',?_,e1,by rw[e2];exact arJ _,e3⟩;rw[p2];simp [Instr.storeAt,Instr.sureAddr,dK]
end
section
variable {P:asq} {G:Gh} {w:ass} {h:asn ao}
structure BG(G:Gh)(w:World)(k:Nat)(ys:List (List AV))(us:List Value):Prop where
 len:us.length=ys.length*k
 wid:∀c∈ys,c.length=k
 one:∀u∈us,u.oneCell'=true
 rel:∀(i j:Nat)(c:List AV)(x:AV)(u:Value),ys[i]?=some c->c[j]?=some x->us[i*k+j]?=some u->aJ G w u x
theorem Px{k tx e':Nat}{y:AV}{v:asr}{ys:asn (asn AV)}(hi:b9 G w h)(hv:aJ G w v y)(hs:zS h k y ys)(gK:0<k)(hT:P.underlying tx=some (.slice e')):
 ∃us,BG G w k ys us/\Src P k tx v ys.length us w:=by
 rcases hs with⟨xs,h1,h2,rfl⟩|⟨n,o,len,L,e,cs,rfl,h2,h3,h4,h5⟩
 ·obtain⟨us,hr,zk⟩:=(hv.list h1).src gK h2 hT;have hl:(bn xs).length=xs.length:=by unfold bn;rw[arD]
  refine⟨us,⟨by rw[hl];exact hr.len,λc hc=> ?_,hr.one,λi j c x u hc hx hu=> ?_⟩,by rw[hl];exact zk⟩
  ·unfold bn at hc;obtain⟨d,hd,rfl⟩:=List.mem_map.1 hc;rw[arD];exact h2 d hd
  ·unfold bn at hc;rw[arF]at hc;cases ox:xs[i]? with
   |none=>rw[ox]at hc;cases hc
   |some d=>
    rw[ox]at hc;cases hc
    rw[arF]at hx;cases hy:d[j]? with
    |none=>rw[hy]at hx;cases hx
    |some z=>
     rw[hy]at hx;cases hx
     obtain⟨u',a1,a2⟩:=hr.rel i j d z ox hy;rw[a1]at hu;cases hu
     exact .d a2
 ·have me:=hv.xY hi h2 h3;obtain⟨A,c,rfl,c1,c2,c3,c4⟩:=me.sl;have x9:ys.length=len:=by rw[h4,List.length_take,List.length_drop,h3];have:=me.ol;omega
  by_cases h0:len=0
  ·subst h0;have:ys=[]:=List.eq_nil_of_length_eq_zero x9;subst this;refine⟨[],⟨by simp,(λ_ h=>by cases h),(λ_ h=>by cases h),λi j c x u hc=>by simp at hc⟩,?_⟩;cases A with
   |none=>exact Src.ofNil w hT c
   |some a=>exact Src.ofSlice w hT a 0 c [] (by simp) (λj u hu=>by simp at hu) (λu hu=>by cases hu)
  ·have ho:o<L:=by have:=me.ol;omega
   obtain⟨g,cap,p1,rfl,p3⟩:=c4 ho;have cP:cs≠ []:=λe=>by subst e;simp at h3;omega
   obtain⟨g',IC,cur,r1,r2,r3,r4,r5,r6,r7,r8,r9⟩:=Lu hi h2 cP;rw[r2]at p1;cases p1
   have jd:=FV hi h2;have iG:∀q,q<len*k->o*k+q<cur.size:=λq hq=>by
    have h1:(o+len)*k<=cap*k:=Nat.mul_le_mul_right k (by have:=me.ol;omega);rw[Nat.add_mul]at h1;rw[r7];omega
   have jT:∀i,i<len->ys[i]?=cs[o+i]?:=λi dN=>by rw[h4,List.getElem?_take_of_lt dN,List.getElem?_drop]
   have hone:∀q,q<len*k->(cur.getD (o*k+q) undef).oneCell'=true:=λq hq=>by
    have UA:q / k<len:=Nat.div_lt_of_lt_mul (by rw[Nat.mul_comm];exact hq);have hkj:q%k<k:=Nat.mod_lt _ gK;obtain⟨d,gx⟩:∃d,cs[o+q / k]?=some d:=⟨_,arC (by have:=me.ol;omega)⟩;have FT:=jd _ (arL gx);obtain⟨x,hx⟩:∃x,d[q%k]?=some x:=⟨_,arC (by rw[FT];exact hkj)⟩;have e1:(o+q / k)*k+q%k=o*k+q:=by
     rw[Nat.add_mul];have:=Nat.div_add_mod q k;rw[Nat.mul_comm]at this;omega
    have hu':cur[(o+q / k)*k+q%k]?=some (cur.getD (o*k+q) undef):=by
     rw[e1];simp [Array.getD,iG q hq]
    refine(r9 _ _ _ _ _ gx hx hu').kE ?_;have lB:d∈ys:=arL ((jT _ UA).trans gx);have:=h5 _ lB;rw[arY]at this;exact this _ (arL hx)
   refine⟨(List.range (len*k)).map λq=>cur.getD (o*k+q) undef,⟨by rw[x9];simp,λc hc=>jd c ?_,λu hu=> ?_,λi j c x u hc hx hu=> ?_⟩,?_⟩
   ·rw[h4]at hc;exact List.mem_of_mem_drop (List.mem_of_mem_take hc)
   ·obtain⟨q,hq,rfl⟩:=List.mem_map.1 hu;exact hone q (List.mem_range.1 hq)
   ·have jW:i<len:=by rw[<-x9];exact(ary.1 hc).1
    rw[jT i jW]at hc;have Ib:j<k:=by rw[<-jd c (arL hc)];exact(ary.1 hx).1
    have aS:i*k+j<len*k:=mZ jW Ib;rw[arF,List.getElem?_range aS]at hu;simp only[Option.map_some,Option.some.injEq]at hu;refine r9 (o+i) j c x u hc hx ?_;rw[<-hu,show(o+i)*k+j=o*k+(i*k+j) by rw[Nat.add_mul];omega];simp [Array.getD,iG _ aS]
   ·rw[x9];refine Src.ofSlice w hT _ len c _ (by simp) (λj u hu=> ?_) (λu hu=> ?_)
    ·rw[lH,cell_of_row w g _ cur e (0,0) r4];rw[arF]at hu;by_cases hj:j<len*k
     ·rw[List.getElem?_range hj]at hu;simp only[Option.map_some,Option.some.injEq]at hu;rw[<-hu];simp [Array.getD,iG _ hj]
     ·rw[ar4 (by simp;omega)]at hu;cases hu
    ·obtain⟨q,hq,rfl⟩:=List.mem_map.1 hu;exact hone q (List.mem_range.1 hq)
theorem BG.bj{G':Gh}{w':ass}{k:Nat}{ys:asn (asn AV)}{us:asn asr}(h:BG G w k ys us)(hE:b7 G.N G w G' w')(hN:G.N<=G'.N):BG G' w' k ys us:=
 ⟨h.len,h.wid,h.one,λi j c x u h1 h2 h3=>(h.rel i j c x u h1 h2 h3).bj hE hN⟩
theorem aos{α:Type}{k:Nat}(l:asn α)(us:asn α)(m i j:Nat)(hl:l.length=m*k)(hj:j<k):(l++us)[i*k+j]?=if i<m then l[i*k+j]? else us[(i-m)*k+j]?:=by
 by_cases h:i<m
 ·rw[if_pos h,arI (by rw[hl];exact mZ h hj)]
 ·have h1:m*k<=i*k:=Nat.mul_le_mul_right k (by omega);rw[if_neg h,arO (by rw[hl];omega),hl,Nat.sub_mul,show i*k+j-m*k=i*k-m*k+j by omega]
theorem Tm{e k cap:Nat}{cs:asn (asn AV)}{cur:Array asr}(hi:b9 G w h)(h1:cs.length<=cap)(h2:cap<=maxLen)(h3:cur.size=cap*k)(jd:∀c∈cs,c.length=k)(w0:ass)(qM:w0.heap=w.heap/\w0.os=w.os/\w0.tape=w.tape/\w0.output=w.output)
 (Aq:∀(i j:Nat)(c:asn AV)(x:AV)(u:asr),cs[i]?=some c->c[j]?=some x->cur[i*k+j]?=some u->aJ G w u x):
 ∃G',b7 G.N G w G' (w0.alloc (.cells cur e))/\G.N<=G'.N/\b9 G' (w0.alloc (.cells cur e)) (h++[.vec e k cs])/\∀len,len<=cs.length->aJ G' (w0.alloc (.cells cur e)) (.slice (some ⟨w.heap.size,0,none⟩) len cap) (.vec h.length 0 len cs.length k):=by
 have iw:w0.heap.size=w.heap.size:=by rw[qM.1]
 have fX:(w0.alloc (.cells cur e)).heap[w.heap.size]?=some (.cells cur e (0,0)):=by rw[<-iw];exact World.alloc_heap_new w0 _
 have hold:∀b,b<w.heap.size->(w0.alloc (.cells cur e)).heap[b]?=w.heap[b]?:=λb hb=>by rw[Below.heap_alloc w0 _ b (by rw[iw];exact hb),qM.1]
 have hw:(∀b,b<w.heap.size->(w0.alloc (.cells cur e)).heap[b]?=w.heap[b]?)/\w.heap.size<=(w0.alloc (.cells cur e)).heap.size/\(w0.alloc (.cells cur e)).os=w.os/\(w0.alloc (.cells cur e)).tape=w.tape/\(w0.alloc (.cells cur e)).output=w.output:=
  ⟨hold,by simp [iw],qM.2.1,qM.2.2.1,qM.2.2.2⟩
 obtain⟨sv,mC⟩:∃sv,sv=Value.slice (some ⟨w.heap.size,0,none⟩) cs.length cap:=⟨_,rfl⟩;obtain⟨Df,_⟩:b7 G.N G w (G.eF sv cs.length (some w.heap.size)) (w0.alloc (.cells cur e))/\True:=by
  refine⟨⟨hw.2.1,λ_ _ h=>h,λb o hs=>World.cell?_of_block (hw.1 b (hi.S b o hs)),λ_ _=>rfl,λn hn=> .inl ⟨by simp [Gh.eF,Nat.ne_of_lt hn],by simp [Gh.eF,Nat.ne_of_lt hn]⟩,zsame rfl,λb hb=>hw.1 b (hi.z b hb),hw.2.2.1,hw.2.2.2.1,hw.2.2.2.2,λ_ _ h=> .inl h⟩,trivial⟩
 obtain⟨hE,hI⟩:=QS (w':=w0.alloc (.cells cur e)) hi (.vec e k cs) (λ_ _=>rfl) sv cs.length (some w.heap.size) hw (λg hg=>by cases hg;exact arJ _) (by
  refine⟨by simp [Gh.eF],arQ h1 h2,jd, .inr ⟨w.heap.size,cap,cur,by simp [Gh.eF],by simp [Gh.eF,mC],λhz=>asc _ (hi.z _ hz),fX,h1,h2,h3,λo hs=>asc _ (hi.S _ _ hs),λi j c x u hc hx hu=>(Aq i j c x u hc hx hu).bj Df (Nat.le_succ _)⟩⟩)
 refine⟨_,hE,Nat.le_succ _,hI,λlen hlen=> ?_⟩;rw[hi.len];refine .vec G.N 0 len cs.length k (by simp [Gh.eF]) ⟨_,_,_,rfl⟩ (by simp [Gh.eF]) λ_=>⟨by omega,⟨_,_,rfl,arQ hlen h1,h2,h1,λ_=>⟨w.heap.size,cap,by simp [Gh.eF,mC],by simp,by simp⟩⟩,λ_ e=>by subst e;simp [Gh.eF,mC]⟩
theorem aeM{T e k len m cE:Nat}{i:TypeInfo}{z:asr}{kl kc:IntKind}{l c:Int}(hi:b9 G w h)(hT:P.underlying T=some (.slice e))(lv:P.info? e=some i)(hz:i.zero=some z)(n7:i.size=k)(xZ:i.bytes=cE)(kf:z.cells.toList.length=k)(gK:0<k)
 (h0:0<=l) (la:l<=c) (hl:l.toNat=len) (hc:c.toNat=m) (hm:m<=maxLen) (hb:cE*m<=281474976710656):
 ∃u w' G',(Instr.makeSlice T (.int kl l) (.int kc c)).run P w= .ok u w'/\b7 G.N G w G' w'/\G.N<=G'.N/\b9 G' w' (h++[.vec e k (List.replicate m (z.cells.toList.map λu=> .d (.v u)))])/\aJ G' w' u (.vec h.length 0 len m k):=by
 subst n7;subst xZ;have fW:(i.bytes:Int)*c<=281474976710656:=by
  have:((i.bytes*m:Nat):Int)<=281474976710656:=by omega
  rw[Int.natCast_mul,<-hc,Int.toNat_of_nonneg (by omega)]at this;exact this
 have h63:c<=9223372036854775807:=by have h:=hm;simp [maxLen]at h;omega
 have dK:=run_make (P:=P) w T e i z hT lv hz kl kc l c h0 la fW h63;rw[hl,hc]at dK;have gO:(List.replicate m (z.cells.toList.map λu=>AV.d (.v u))).length=m:=ar8;obtain⟨G',g1,g2,g3,g4⟩:=Tm (e:=e) (k:=i.size) (cap:=m) (cs:=List.replicate m (z.cells.toList.map λu=>AV.d (.v u))) (cur:=madeCells z.cells (m*i.size)) hi (by rw[gO];exact arJ _) hm (size_madeCells _ _) (λc hc=>by
  rw[List.eq_of_mem_replicate hc,arD];exact kf) w ⟨rfl,rfl,rfl,rfl⟩ (λa b c x u hc hx hu=>by
  have:=List.eq_of_mem_replicate (arL hc);subst this;rw[arF]at hx;cases hq:z.cells.toList[b]? with
  |none=>rw[hq]at hx;cases hx
  |some y=>
   rw[hq]at hx;cases hx
   have jf:b<i.size:=by rw[<-kf];exact(ary.1 hq).1
   have SJ:a<m:=by have:=(ary.1 hc).1;rwa [gO]at this
   unfold madeCells at hu;have aS:a*i.size+b<m*i.size:=mZ SJ jf;rw[Array.getElem?_map,Array.getElem?_range,if_pos aS]at hu;simp only[Option.map_some,Option.some.injEq]at hu;have ju:z.cells.size=i.size:=by rw[<-ar5];exact kf
   rw[ju,(KT (i:=a) jf).2]at hu;have qv:z.cells[b]?=some y:=by rw[<-arV];exact hq
   rw[getElem!_pos z.cells b (by rw[ju];exact jf)]at hu;rw[arU (by rw[ju];exact jf)]at qv;cases qv
   subst hu;exact .d (.v _))
 rw[gO]at g4;refine⟨_,_,G',dK,g1,g2,g3,g4 len ?_⟩;rw[<-hl,<-hc];omega
theorem aoK{T tx ty e k cE n o len L:Nat}{i:TypeInfo}{z:asr}{u v:asr}{cs ys:asn (asn AV)}{us:asn asr}(hi:b9 G w h)(hT:P.underlying T=some (.slice e))(lv:P.info? e=some i)(hz:i.zero=some z)(n7:i.size=k)(xZ:i.bytes=cE)(kf:z.cells.size=k)(gK:0<k)
 (hn:h[n]?=some (.vec e k cs)) (hL:cs.length=L) (hu:aJ G w u (.vec n o len L k)) (hr:BG G w k ys us) (hs:Src P k tx v ys.length us w)
 {L':Nat} {cm:asn (asn AV)} (qR:(o+len+ys.length<=L/\L'=L/\cm=cs.take (o+len)++ys++cs.drop (o+len+ys.length))\/(o=0/\len=L/\L'=L+ys.length/\cm=cs++ys/\L'<=maxLen/\L'*cE<=140737488355328)):
 ∃r w' G',(Builtin.append_ #[T,tx] ty #[u,v]).run P w= .ok r w'/\b7 G.N G w G' w'/\G.N<=G'.N/\b9 G' w' (h.set n (.vec e k cm))/\aJ G' w' r (.vec n o (len+ys.length) L' k):=by
 subst n7;subst xZ;have oW:=hi.lt hn;have jd:=FV hi hn;have me:=hu.xY hi hn hL;have pc:=hi.dv n _ hn;have aro:=me;obtain⟨Dz,⟨A,c,rfl,c1,c2,c3,c4⟩,call⟩:=me;by_cases hy:ys.length=0
 ·have jT:ys=[]:=List.eq_nil_of_length_eq_zero hy;subst jT;have ml:us=[]:=List.eq_nil_of_length_eq_zero (by rw[hr.len];simp);subst ml;have dK:=run_append_nothing (P:=P) w T tx ty e i hT lv A len c c1 v hs;have e1:cm=cs:=by
   rcases qR with⟨_,_,e⟩|⟨_,_,_,e,_⟩
   ·rw[e];simp
   ·rw[e];simp
  have e2:L'=L:=by
   rcases qR with⟨_,e,_⟩|⟨_,_,e,_⟩
   ·exact e
   ·rw[e];simp
  subst e1;subst e2;refine⟨_,w,G,dK,b7.refl _ _ _,arJ _,?_,by simpa using hu⟩;have:h.set n (.vec e i.size cm)=h:=by
   refine List.ext_getElem? λm=> ?_;by_cases em:m=n
   ·subst em;rw[ar1 (ary.1 hn).1,hn]
   ·rw[ar6 (Ne.symm em)]
  rw[this];exact hi
 ·have hy0:0<ys.length:=Nat.pos_of_ne_zero hy;have room:len+ys.length<=c->∀g cap cur,G.ow n=some g->G.sg n= .slice (some ⟨g,0,none⟩) cs.length cap->¬G.Z g->w.heap[g]?=some (.cells cur e (0,0))->cs.length<=cap->cap<=maxLen->cur.size=cap*i.size->(∀o,¬G.S g o)->
      (∀(a b:Nat)(d:asn AV)(x:AV)(q:asr),cs[a]?=some d->d[b]?=some x->cur[a*i.size+b]?=some q->aJ G w q x)->A=some ⟨g,o*i.size,none⟩->o+c=cap->
      ∃r w' G',(Builtin.append_ #[T,tx] ty #[.slice A len c,v]).run P w= .ok r w'/\b7 G.N G w G' w'/\G.N<=G'.N/\b9 G' w' (h.set n (.vec e i.size cm))/\aJ G' w' r (.vec n o (len+ys.length) L' i.size):=by
   intro rD g cap cur r1 r2 r3 r4 r5 r6 r7 r8 r9 rA rc;have mq:(o+len)*i.size+us.length<=cur.size:=by
    rw[hr.len,r7,<-Nat.add_mul];exact Nat.mul_le_mul_right _ (by omega)
   have AB:∀j,j<us.length->(w.cell? ⟨g,o*i.size+len*i.size+j,none⟩).isSome=true:=λj hj=>by
    rw[cell_of_row w g _ cur e (0,0) r4,arU (by rw[Nat.add_mul]at mq;omega)];rfl
   have dK:=run_append_room_src (P:=P) w T tx ty e i hT lv g (o*i.size) len c v ys.length us hs rD AB (λj hj=>by unfold World.frozen?;rw[r4];simp);have iB:=run_storeCells_at P g (o*i.size+len*i.size) e us 0 cur w r4 (by rw[Nat.add_mul]at mq;simpa using mq) hr.one;have yO:=run_storeCells_cells (P:=P) g (o*i.size+len*i.size) us 0 w (by simpa using AB) (λj hj=>by unfold World.frozen?;rw[r4];simp) hr.one;simp only[Nat.add_zero]at iB yO;rw[iB]at yO;injection yO with _ e2;rw[<-e2,<-Nat.add_mul]at dK;rw[rA];have fX:∀(a b:Nat)(d:asn AV)(x:AV)(q:asr),cm[a]?=some d->d[b]?=some x->(if(o+len)*i.size<=a*i.size+b/\a*i.size+b<(o+len)*i.size+us.length then us[a*i.size+b-(o+len)*i.size]? else cur[a*i.size+b]?)=some q->aJ G w q x:=by
    intro a b d x q hd hx hq;have Uz:d.length=i.size:=by
     have hm:=arL hd;rcases qR with⟨_,_,e⟩|⟨_,_,_,e,_⟩
     ·rw[e]at hm;rcases asa.1 hm with hm|hm
      ·rcases asa.1 hm with hm|hm
       ·exact jd d (List.mem_of_mem_take hm)
       ·exact hr.wid d hm
      ·exact jd d (List.mem_of_mem_drop hm)
     ·rw[e]at hm;rcases asa.1 hm with hm|hm
      ·exact jd d hm
      ·exact hr.wid d hm
    have jf:b<i.size:=by rw[<-Uz];exact(ary.1 hx).1
    have LR:(a<o+len/\cs[a]?=some d)\/(o+len<=a/\a<o+len+ys.length/\ys[a-(o+len)]?=some d)\/(o+len+ys.length<=a/\cs[a]?=some d):=by
     rcases qR with⟨hf,_,e⟩|⟨e0,e1,_,e,_⟩
     ·rw[e]at hd;have Q8:(cs.take (o+len)).length=o+len:=by rw[List.length_take];omega
      by_cases h1:a<o+len
      ·rw[arP,arI (by rw[Q8];exact h1),List.getElem?_take_of_lt h1]at hd;exact .inl ⟨h1,hd⟩
      ·rw[arP,arO (by rw[Q8];omega),Q8]at hd;by_cases h2:a-(o+len)<ys.length
       ·rw[arI h2]at hd;exact .inr (.inl ⟨by omega,by omega,hd⟩)
       ·rw[arO (by omega),List.getElem?_drop,show o+len+ys.length+(a-(o+len)-ys.length)=a by omega]at hd;exact .inr (.inr ⟨by omega,hd⟩)
     ·rw[e]at hd;by_cases h1:a<cs.length
      ·rw[arI h1]at hd;exact .inl ⟨by omega,hd⟩
      ·rw[arO (by omega)]at hd;have:=(ary.1 hd).1;exact .inr (.inl ⟨by omega,by omega,by rw[show a-(o+len)=a-cs.length by omega];exact hd⟩)
    rcases LR with⟨h1,h2⟩|⟨h1,h2,h3⟩|⟨h1,h2⟩
    ·rw[if_neg (by have:=mZ h1 jf;omega)]at hq;exact r9 a b d x q h2 hx hq
    ·have hle:(o+len)*i.size<=a*i.size:=Nat.mul_le_mul_right _ h1;have aS:a*i.size+b<(o+len+ys.length)*i.size:=mZ h2 jf;rw[Nat.add_mul (o+len)]at aS;rw[if_pos ⟨by omega,by rw[hr.len];exact aS⟩]at hq;refine hr.rel (a-(o+len)) b d x q h3 hx ?_;rw[Nat.sub_mul,show a*i.size-(o+len)*i.size+b=a*i.size+b-(o+len)*i.size by omega];exact hq
    ·have hle:(o+len+ys.length)*i.size<=a*i.size:=Nat.mul_le_mul_right _ h1;rw[Nat.add_mul (o+len)]at hle;rw[if_neg (by rw[hr.len];omega)]at hq;exact r9 a b d x q h2 hx hq
   have aal:∀d∈cm,d.length=i.size:=λd hm=>by
    rcases qR with⟨_,_,e⟩|⟨_,_,_,e,_⟩
    ·rw[e]at hm;rcases asa.1 hm with hm|hm
     ·rcases asa.1 hm with hm|hm
      ·exact jd d (List.mem_of_mem_take hm)
      ·exact hr.wid d hm
     ·exact jd d (List.mem_of_mem_drop hm)
    ·rw[e]at hm;rcases asa.1 hm with hm|hm
     ·exact jd d hm
     ·exact hr.wid d hm
   rcases qR with⟨hf,eL,ec⟩|⟨e0,e1,eL,ec,kH,nj⟩
   ·have gO:cm.length=cs.length:=by rw[ec];simp;omega
    obtain⟨G',k1,k2,k3,k4,k5⟩:=Za (us:=us) (off:=(o+len)*i.size) (cm:=cm) hi hn gK r1 r2 r3 r4 r5 r6 r7 r8 mq gO aal fX;refine⟨_,_,G',dK,k1,by rw[k2];exact arJ _,k3,?_⟩;refine .vec n o (len+ys.length) L' i.size (by rw[k2];exact oW) ⟨_,_,_,rfl⟩ (by rw[k5,eL,pc.1,hL];exact arJ _) λ_=> ?_;rw[k4];refine⟨by omega,⟨_,_,rfl,rD,c2,by omega,λho=> ?_⟩,λho hl=> ?_⟩
    ·rw[eL]at ho ⊢;obtain⟨g2,Yc,q1,q2,q3⟩:=c4 ho;exact⟨g2,Yc,q1,by rw[<-q2,rA],q3⟩
    ·subst ho;rw[r2,hL,<-eL,<-hl];simp at rc;subst rc;simp
   ·subst e0;subst e1;simp only[arS,Nat.zero_mul]at*;subst rc;obtain⟨w',eJ⟩:∃w',w'=w.setRow g (cur.toList.take (len*i.size)++us++cur.toList.drop (len*i.size+us.length)).toArray:=⟨_,rfl⟩;rw[<-eJ]at dK;have iT:∀b,b≠g->w'.heap[b]?=w.heap[b]?:=λb hb=>by rw[eJ];exact setRow_other w g b _ hb
    have oY:w'.heap[g]?=some (.cells (cur.toList.take (len*i.size)++us++cur.toList.drop (len*i.size+us.length)).toArray e (0,0)):=by rw[eJ];exact setRow_heap w g cur _ e _ r4
    have iw:w'.heap.size=w.heap.size:=by rw[eJ];exact N6 w g _
    obtain⟨sv,mC⟩:∃sv,sv=Value.slice (some ⟨g,0,none⟩) L' c:=⟨_,rfl⟩;have gO:cm.length=L':=by rw[ec,arz,hL,eL]
    have mz:G.fl n=len:=by rw[pc.1,hL]
    have hE:b7 G.N G w (G.grow n G.S sv L' (some g)) w':=⟨by rw[iw];exact arJ _,λ_ _ h=>h,λb q hs=>World.cell?_of_block (iT b (λe=>r8 q (e▸hs))),λ_ _=>rfl,λm _=>by
        by_cases em:m=n
        ·right;subst em;simp only[Gh.grow,if_true,mz];omega
        ·left;exact⟨by simp [Gh.grow,em],by simp [Gh.grow,em]⟩,zsame rfl,λb hb=>iT b (λe=>r3 (e▸hb)),by rw[eJ];rfl,by rw[eJ];rfl,by rw[eJ];rfl,λb q hs=> .inl hs⟩
    refine⟨_,w',_,dK,hE,arJ _,Lq hi hn (λ_=>rfl) (λ_=>rfl) _ _ _ _ hE (λg' sW=>by cases sW;exact⟨.inr r1,by rw[iw];exact(arN.1 r4).1⟩) (λb q hs=> .inl hs) (λb _ fW=>iT b (λe=>fW (by rw[e]))) ?_,?_⟩
    ·refine⟨by simp [Gh.grow,gO],by rw[gO];exact kH,aal, .inr ⟨g,c,_,by simp [Gh.grow],by simp [Gh.grow,mC,gO],r3,oY,by rw[gO];omega,r6,by rw[Xs _ _ _ mq];exact r7,r8,λa b d x q hd hx hq=> ?_⟩⟩;rw[VF _ _ _ _ mq]at hq;exact(fX a b d x q hd hx hq).bj hE (arJ _)
    ·refine .vec n 0 (len+ys.length) L' i.size oW ⟨_,_,_,rfl⟩ (by simp [Gh.grow]) λ_=>⟨by omega,⟨_,_,rfl,rD,c2,by omega,λ_=>⟨g,c,by simp [Gh.grow,mC],by simp,by simp⟩⟩,λ_ e=> ?_⟩;simp [Gh.grow,mC,eL]
  rcases pc.2.2.2 with⟨b1,b2,A',b3⟩|⟨g,cap,cur,r1,r2,r3,r4,r5,r6,r7,r8,r9⟩
  ·
   subst b2;simp at hL;subst hL;have ho:o=0:=by omega
   have MD:len=0:=by omega
   subst ho;subst MD;have:=call rfl rfl;rw[b3]at this;injection this with q1 _ q2;subst q2;rcases qR with⟨hf,_,_⟩|⟨_,_,eL,ec,kH,nj⟩
   ·omega
   ·simp only[arS,List.nil_append]at eL ec;subst ec;rw[eL]at kH nj;have PF:cm.length<=9223372036854775807:=by simp only[maxLen]at kH;omega
    have hold:(Builtin.firstCells i.size 0 (.slice A 0 0)).run P w.drew= .ok ([]:asn asr).toArray w.drew:=by
     cases A with
     |none=>exact run_firstCells_none _ _ _ _ _
     |some a=>exact run_firstCells_some _ _ _ _ _ _ [] (by simp) (λj u hu=>by simp at hu)
    have dK:=run_append_grow_src (P:=P) w T tx ty e i z hT lv hz A 0 0 [] hold v cm.length us hs (by omega) (by omega) (growslice_fits (by omega) (by simpa using nj));simp only[arS,List.nil_append]at dK;obtain⟨cap,j0⟩:∃cap,cap=grownCap w cm.length 0 e:=⟨_,rfl⟩;have kG:cm.length<=cap:=by rw[j0];exact grownCap_ge _ _ _ _
    have hle:cap<=maxLen:=by rw[j0];exact grownCap_le_maxLen _ _ _ _ kH
    rw[<-j0]at dK;obtain⟨cur,kh⟩:∃cur,cur=us.toArray++Builtin.zeroCells z.cells (cap-cm.length):=⟨_,rfl⟩;rw[<-kh]at dK;have gx:cur.size=cap*i.size:=by
      have:=size_zeroCells z.cells (cap-cm.length);rw[kh,Array.size_append,this,List.size_toArray,hr.len,kf,<-Nat.add_mul]
      congr 1
      omega
    have fX:(w.drew.alloc (.cells cur e)).heap[w.heap.size]?=some (.cells cur e (0,0)):=World.alloc_heap_new w.drew _;have zo:∀b,b<w.heap.size->(w.drew.alloc (.cells cur e)).heap[b]?=w.heap[b]?:=λb hb=>Below.heap_alloc w.drew _ b hb;obtain⟨sv,mC⟩:∃sv,sv=Value.slice (some ⟨w.heap.size,0,none⟩) L' cap:=⟨_,rfl⟩;have mz:G.fl n=0:=by rw[pc.1];rfl
    have hE:b7 G.N G w (G.grow n G.S sv L' (some w.heap.size)) (w.drew.alloc (.cells cur e)):=⟨by simp,λ_ _ h=>h,λb q hs=>World.cell?_of_block (zo b (hi.S b q hs)),λ_ _=>rfl,λm _=>by
        by_cases em:m=n
        ·right;subst em;simp only[Gh.grow,if_true,mz];omega
        ·left;exact⟨by simp [Gh.grow,em],by simp [Gh.grow,em]⟩,zsame rfl,λb hb=>zo b (hi.z b hb),rfl,rfl,rfl,λb q hs=> .inl hs⟩
    refine⟨_,_,_,dK,hE,arJ _,Lq hi hn (λ_=>rfl) (λ_=>rfl) _ _ _ _ hE (λg' sW=>by cases sW;exact⟨.inl rfl,by simp⟩) (λb q hs=> .inl hs) (λb hb _=>zo b hb) ?_,?_⟩
    ·refine⟨by simp [Gh.grow,eL],kH,hr.wid, .inr ⟨w.heap.size,cap,cur,by simp [Gh.grow],by simp [Gh.grow,mC,eL],λhz=>asc _ (hi.z _ hz),fX,kG,hle,gx,λq hs=>asc _ (hi.S _ _ hs),λa b d x q hd hx hq=> ?_⟩⟩;have jf:b<i.size:=by rw[<-hr.wid d (arL hd)];exact(ary.1 hx).1
     have aS:a*i.size+b<us.length:=by rw[hr.len];exact mZ (ary.1 hd).1 jf
     rw[kh,Array.getElem?_append_left (by simpa using aS),List.getElem?_toArray]at hq;exact(hr.rel a b d x q hd hx hq).bj hE (arJ _)
    ·rw[arS];refine .vec n 0 cm.length L' i.size oW ⟨_,_,_,rfl⟩ (by simp [Gh.grow]) λ_=>⟨by omega,⟨_,_,rfl,kG,hle,by omega,λ_=>⟨w.heap.size,cap,by simp [Gh.grow,mC],by simp,by simp⟩⟩,λ_ e=> ?_⟩;simp [Gh.grow,mC,eL]
  ·
   rcases qR with⟨hf,eL,ec⟩|⟨e0,e1,eL,ec,kH,nj⟩
   ·obtain⟨g2,Yc,q1,q2,q3⟩:=c4 (by omega);rw[r2]at q1;injection q1 with q4 _ q5;cases q4
    subst q5;exact room (by omega) g cap cur r1 r2 r3 r4 r5 r6 r7 r8 r9 q2 q3
   ·have:=call e0 e1;rw[r2]at this;injection this with q2 _ q3;by_cases rD:len+ys.length<=c
    ·exact room rD g cap cur r1 r2 r3 r4 r5 r6 r7 r8 r9 (by rw[q2,e0];simp) (by omega)
    ·subst e0;subst q2;subst q3;rw[eL]at kH nj;have PF:L+ys.length<=9223372036854775807:=by simp only[maxLen]at kH;omega
     have IU:(cur.toList.take (len*i.size)).length=len*i.size:=by
      rw[List.length_take,ar5,r7];exact Nat.min_eq_left (Nat.mul_le_mul_right _ c1)
     have hold:(Builtin.firstCells i.size len (.slice (some ⟨g,0,none⟩) len c)).run P w.drew= .ok (cur.toList.take (len*i.size)).toArray w.drew:=
      run_firstCells_some _ _ _ _ _ _ _ IU (λj q hq=>by
       rw[lH,arS];show w.cell? ⟨g,j,none⟩=some q;rw[cell_of_row w g _ cur e (0,0) r4,<-arV];have Ar:=(ary.1 hq).1;rw[IU]at Ar;rw[List.getElem?_take_of_lt Ar]at hq;exact hq)
     have dK:=run_append_grow_src (P:=P) w T tx ty e i z hT lv hz (some ⟨g,0,none⟩) len c _ hold v ys.length us hs (by omega) (by omega) (growslice_fits (by omega) (by rw[e1];exact nj));obtain⟨cap,j0⟩:∃cap,cap=grownCap w (len+ys.length) c e:=⟨_,rfl⟩;have kG:len+ys.length<=cap:=by rw[j0];exact grownCap_ge _ _ _ _
     have hle:cap<=maxLen:=by rw[j0];exact grownCap_le_maxLen _ _ _ _ (by rw[e1];exact kH)
     rw[<-j0]at dK;obtain⟨vX,kh⟩:∃vX,vX=(cur.toList.take (len*i.size)++us).toArray++Builtin.zeroCells z.cells (cap-(len+ys.length)):=⟨_,rfl⟩;rw[<-kh]at dK;have N2:(cur.toList.take (len*i.size)++us).length=(len+ys.length)*i.size:=by rw[arz,IU,hr.len,<-Nat.add_mul]
     have gx:vX.size=cap*i.size:=by
      have:=size_zeroCells z.cells (cap-(len+ys.length));rw[kh,Array.size_append,this,List.size_toArray,N2,kf,<-Nat.add_mul]
      congr 1
      omega
     have fX:(w.drew.alloc (.cells vX e)).heap[w.heap.size]?=some (.cells vX e (0,0)):=World.alloc_heap_new w.drew _;have zo:∀b,b<w.heap.size->(w.drew.alloc (.cells vX e)).heap[b]?=w.heap[b]?:=λb hb=>Below.heap_alloc w.drew _ b hb;obtain⟨sv,mC⟩:∃sv,sv=Value.slice (some ⟨w.heap.size,0,none⟩) L' cap:=⟨_,rfl⟩;have mz:G.fl n=L:=by rw[pc.1,hL]
     have gO:cm.length=L':=by rw[ec,arz,hL,eL]
     have hE:b7 G.N G w (G.grow n G.S sv L' (some w.heap.size)) (w.drew.alloc (.cells vX e)):=⟨by simp,λ_ _ h=>h,λb q hs=>World.cell?_of_block (zo b (hi.S b q hs)),λ_ _=>rfl,λm _=>by
         by_cases em:m=n
         ·right;subst em;simp only[Gh.grow,if_true,mz];omega
         ·left;exact⟨by simp [Gh.grow,em],by simp [Gh.grow,em]⟩,zsame rfl,λb hb=>zo b (hi.z b hb),rfl,rfl,rfl,λb q hs=> .inl hs⟩
     refine⟨_,_,_,dK,hE,arJ _,Lq hi hn (λ_=>rfl) (λ_=>rfl) _ _ _ _ hE (λg' sW=>by cases sW;exact⟨.inl rfl,by simp⟩) (λb q hs=> .inl hs) (λb hb _=>zo b hb) ?_,?_⟩
     ·refine⟨by simp [Gh.grow,gO],by rw[gO,eL];exact kH,λd hd=> ?_, .inr ⟨w.heap.size,cap,vX,by simp [Gh.grow],by simp [Gh.grow,mC,gO],λhz=>asc _ (hi.z _ hz),fX,by rw[gO];omega,hle,gx,λq hs=>asc _ (hi.S _ _ hs),λa b d x q hd hx hq=> ?_⟩⟩
      ·rw[ec]at hd;rcases asa.1 hd with hd|hd
       ·exact jd d hd
       ·exact hr.wid d hd
      ·refine aJ.bj hE (arJ _) ?_;have Uz:d.length=i.size:=by
        have hm:=arL hd;rw[ec]at hm;rcases asa.1 hm with hm|hm
        ·exact jd d hm
        ·exact hr.wid d hm
       have jf:b<i.size:=by rw[<-Uz];exact(ary.1 hx).1
       have hal:a<len+ys.length:=by
        have:=(ary.1 hd).1;rw[gO,eL]at this;omega
       have aS:a*i.size+b<(cur.toList.take (len*i.size)++us).length:=by rw[N2];exact mZ hal jf
       rw[kh,Array.getElem?_append_left (by simpa using aS),List.getElem?_toArray,aos _ us len a b IU jf]at hq;rw[ec]at hd;by_cases h1:a<len
       ·rw[if_pos h1,List.getElem?_take_of_lt (mZ h1 jf),arV]at hq;rw[arI (by omega)]at hd;exact r9 a b d x q hd hx hq
       ·rw[if_neg h1]at hq;rw[arO (by omega)]at hd;exact hr.rel (a-len) b d x q (by rw[<-hd];congr 1;omega) hx hq
     ·refine .vec n 0 (len+ys.length) L' i.size oW ⟨_,_,_,rfl⟩ (by simp [Gh.grow]) λ_=>⟨by omega,⟨_,_,rfl,kG,hle,by omega,λ_=>⟨w.heap.size,cap,by simp [Gh.grow,mC],by simp,by simp⟩⟩,λ_ e=> ?_⟩;simp [Gh.grow,mC,eL,e1]
theorem Zm{T tx ty e k cE:Nat}{i:TypeInfo}{z:asr}{A:asp Addr}{v:asr}{ys:asn (asn AV)}{us:asn asr}(hi:b9 G w h)(hT:P.underlying T=some (.slice e))(lv:P.info? e=some i)(hz:i.zero=some z)(n7:i.size=k)(xZ:i.bytes=cE)(kf:z.cells.size=k)(gK:0<k)
 (hr:BG G w k ys us) (hs:Src P k tx v ys.length us w) (kH:ys.length<=maxLen) (nj:ys.length*cE<=140737488355328):
 ∃r w' G',(Builtin.append_ #[T,tx] ty #[.slice A 0 0,v]).run P w= .ok r w'/\b7 G.N G w G' w'/\G.N<=G'.N/\b9 G' w' (h++[.vec e k ys])/\aJ G' w' r (.vec h.length 0 ys.length ys.length k):=by
 subst n7;subst xZ;by_cases hy:ys.length=0
 ·have jT:ys=[]:=List.eq_nil_of_length_eq_zero hy;subst jT;have ml:us=[]:=List.eq_nil_of_length_eq_zero (by rw[hr.len];simp);subst ml;have dK:=run_append_nothing (P:=P) w T tx ty e i hT lv A 0 0 (arJ _) v hs;obtain⟨hE,hI⟩:=QS (w':=w) hi (.vec e i.size []) (λ_ _=>rfl) (.slice A 0 0) 0 none ⟨λ_ _=>rfl,arJ _,rfl,rfl,rfl⟩ (λg hg=>by cases hg) ⟨by simp [Gh.eF],by simp,(λ_ h=>by cases h), .inl ⟨by simp [Gh.eF],rfl,A,by simp [Gh.eF]⟩⟩;refine⟨_,w,_,dK,hE,Nat.le_succ _,hI,?_⟩;rw[hi.len];exact .vec G.N 0 0 0 i.size (by simp [Gh.eF]) ⟨_,_,_,rfl⟩ (by simp) λ_=>⟨by omega,⟨A,0,rfl,arJ _,Nat.zero_le _,by omega,λh=>by omega⟩,λ_ _=>by simp [Gh.eF]⟩
 ·have PF:ys.length<=9223372036854775807:=by simp only[maxLen]at kH;omega
  have hold:(Builtin.firstCells i.size 0 (.slice A 0 0)).run P w.drew= .ok ([]:asn asr).toArray w.drew:=by
   cases A with
   |none=>exact run_firstCells_none _ _ _ _ _
   |some a=>exact run_firstCells_some _ _ _ _ _ _ [] (by simp) (λj u hu=>by simp at hu)
  have dK:=run_append_grow_src (P:=P) w T tx ty e i z hT lv hz A 0 0 [] hold v ys.length us hs (by omega) (by omega) (growslice_fits (by omega) (by simpa using nj));simp only[arS,List.nil_append]at dK;obtain⟨cap,j0⟩:∃cap,cap=grownCap w ys.length 0 e:=⟨_,rfl⟩;have kG:ys.length<=cap:=by rw[j0];exact grownCap_ge _ _ _ _
  have hle:cap<=maxLen:=by rw[j0];exact grownCap_le_maxLen _ _ _ _ kH
  rw[<-j0]at dK;obtain⟨cur,kh⟩:∃cur,cur=us.toArray++Builtin.zeroCells z.cells (cap-ys.length):=⟨_,rfl⟩;rw[<-kh]at dK;have gx:cur.size=cap*i.size:=by
    have:=size_zeroCells z.cells (cap-ys.length);rw[kh,Array.size_append,this,List.size_toArray,hr.len,kf,<-Nat.add_mul]
    congr 1
    omega
  obtain⟨G',g1,g2,g3,g4⟩:=Tm (e:=e) (k:=i.size) (cap:=cap) (cs:=ys) (cur:=cur) hi kG hle gx hr.wid w.drew ⟨rfl,rfl,rfl,rfl⟩ (λa b d x q hd hx hq=>by
   have jf:b<i.size:=by rw[<-hr.wid d (arL hd)];exact(ary.1 hx).1
   have aS:a*i.size+b<us.length:=by rw[hr.len];exact mZ (ary.1 hd).1 jf
   rw[kh,Array.getElem?_append_left (by simpa using aS),List.getElem?_toArray]at hq;exact hr.rel a b d x q hd hx hq)
  exact⟨_,_,G',dK,g1,g2,g3,g4 _ (arJ _)⟩
end
section
variable {P:asq} {r:asp Nat} {n N0:Nat} {G:Gh} {w:ass} {a:Act} {s:St} {o:Oper} {K:St->Prop} {Q:Exit->Act->ass->Prop}
theorem FY(hs:cN G w a s)(l:Array Operand):(l.map a.eval).size=(l.toList.map (ev s)).length/\∀(i:Nat)(u:asr)(c:AV),(l.map a.eval)[i]?=some u->(l.toList.map (ev s))[i]?=some c->aJ G w u c:=by
 refine⟨by simp,λi u c hu hc=> ?_⟩;rw[Array.getElem?_map]at hu;rw[arF,arV]at hc;cases hx:l[i]? with
 |none=>rw[hx]at hu;cases hu
 |some x=>rw[hx]at hu hc;cases hu;cases hc;exact hs.ev x
theorem Vm(hs:cN G w a s)(l:Array (Nat×Operand)):(l.map λ(i,x)=>(i,a.eval x)).toList.length=(l.toList.map λp=>(p.1,ev s p.2)).length/\
 ∀(i:Nat)(p:Nat×AV)(q:Nat×asr),(l.toList.map λp=>(p.1,ev s p.2))[i]?=some p->(l.map λ(i,x)=>(i,a.eval x)).toList[i]?=some q->q.1=p.1/\aJ G w q.2 p.2:=by
 refine⟨by simp,λi p q hp hq=> ?_⟩;rw[arV,Array.getElem?_map]at hq;rw[arF,arV]at hp;cases hx:l[i]? with
 |none=>rw[hx]at hp;cases hp
 |some x=>rw[hx]at hp hq;cases hp;cases hq;exact⟨rfl,hs.ev x.2⟩
theorem Fh{x y:Operand}{T U:TypeId}(c:Call)(hc:c.callee= .builtin .append)(h1:c.args.toList=[x,y])(h2:c.argTypes.toList=[T,U])(ho:o.op= .call c):
 (execOp a.eval o).run P w=((Builtin.append_ #[T,U] o.type #[a.eval x,a.eval y]).run P w).andThen λv w'=> .ok (.value v) w':=by
 have e1:c.args= #[x,y]:=by rw[<-Array.toList_inj];exact h1
 have e2:c.argTypes= #[T,U]:=by rw[<-Array.toList_inj];exact h2
 unfold execOp;simp only[ho,resolve,hc,e1,e2,invoke,builtin,Sem.run_bind,Sem.run_pure,Result.andThen_ok,List.map_toArray,arX,List.map_nil]
theorem Yn{x:Operand}{T:TypeId}(c:Call)(hc:c.callee= .builtin .len)(h1:c.args.toList=[x])(h2:c.argTypes.toList=[T])(ho:o.op= .call c):
 (execOp a.eval o).run P w=((Builtin.len_ #[T] o.type #[a.eval x]).run P w).andThen λv w'=> .ok (.value v) w':=by
 have e1:c.args= #[x]:=by rw[<-Array.toList_inj];exact h1
 have e2:c.argTypes= #[T]:=by rw[<-Array.toList_inj];exact h2
 unfold execOp;simp only[ho,resolve,hc,e1,e2,invoke,builtin,Sem.run_bind,Sem.run_pure,Result.andThen_ok,List.map_toArray,arX,List.map_nil]
theorem aqO(c:Call)(hc:c.callee= .builtin .max)(ho:o.op= .call c):
 (execOp a.eval o).run P w=((Builtin.max_ c.argTypes o.type (c.args.map a.eval)).run P w).andThen λv w'=> .ok (.value v) w':=by
 unfold execOp;simp only[ho,resolve,hc,invoke,builtin,Sem.run_bind,Sem.run_pure,Result.andThen_ok]
theorem am5(c:Call)(hc:c.callee= .builtin .min)(ho:o.op= .call c):
 (execOp a.eval o).run P w=((Builtin.min_ c.argTypes o.type (c.args.map a.eval)).run P w).andThen λv w'=> .ok (.value v) w':=by
 unfold execOp;simp only[ho,resolve,hc,invoke,builtin,Sem.run_bind,Sem.run_pure,Result.andThen_ok]
theorem abH{mx:Bool}{k k':IntKind}{z:Int}:∀(l:asn AV)(vs:asn asr)(x:Int),vs.length=l.length->(∀(i:Nat)(u:asr)(c:AV),vs[i]?=some u->l[i]?=some c->aJ G w u c)->MT mx k x l=some (k',z)->
 (vs.foldlM (if mx then Builtin.max2 else Builtin.min2) (.int k x)).run P w= .ok (.int k' z) w
 |[],[],x,_,_,h=>by cases h;simp
 |[],_::_,_,hl,_,_=>by simp at hl
 |_::_,[],_,hl,_,_=>by simp at hl
 |y::l,u::vs,x,hl,hr,h=>by
  unfold MT at h;split at h
  ·next e=>cases e
  ·next k2 b l' e=>
   cases e
   have e1:=(hr 0 u _ rfl rfl).val;subst e1;have ih:=abH l vs _ (by simpa using hl) (λi u c hu hc=>hr (i+1) u c (by simpa using hu) (by simpa using hc)) h;rw[List.foldlM_cons,Sem.run_bind];cases mx with
   |true=>simp only[if_true,cond_true]at ih ⊢;simp only[Builtin.max2,Sem.run_pure,Result.andThen_ok];exact ih
   |false=>simp only[Bool.false_eq_true,if_false,cond_false]at ih ⊢;simp only[Builtin.min2,Sem.run_pure,Result.andThen_ok];exact ih
  ·cases h
theorem XJ{mx:Bool}{k:IntKind}{z:Int}{l:asn AV}{vs:Array asr}(hl:vs.size=l.length)(hr:∀(i:Nat)(u:asr)(c:AV),vs[i]?=some u->l[i]?=some c->aJ G w u c)(h:CX mx l=some (k,z)):
 ∃u us,vs.toList=u::us/\(us.foldlM (if mx then Builtin.max2 else Builtin.min2) u).run P w= .ok (.int k z) w:=by
 unfold CX at h;split at h
 ·next k2 x l'=>
  cases hv:vs.toList with
  |nil=>rw[<-ar5,hv]at hl;simp at hl
  |cons u us=>
   refine⟨u,us,rfl,?_⟩;have nW:∀(i:Nat)(v:asr)(c:AV),(u::us)[i]?=some v->(AV.d (.v (.int k2 x))::l')[i]?=some c->aJ G w v c:=λi v c h1 h2=>hr i v c (by rw[<-arV,hv];exact h1) h2;have e1:=(nW 0 u _ rfl rfl).val;subst e1;refine abH l' us x ?_ (λi v c h1 h2=>nW (i+1) v c (by simpa using h1) (by simpa using h2)) h;rw[<-ar5,hv]at hl;simpa using hl
 ·cases h
theorem acG{f:FuncId}(h:I6 P f=true)(args:Array asr)(w:ass):(callFunc f args).run P w= .ok (.enter f args) w:=by
 unfold I6 at h;cases hq:P.funcs[f]? with
 |none=>rw[hq]at h;simp at h
 |some fn=>
  rw[hq]at h;simp only[arA,Bool.not_eq_true']at h;obtain⟨h1,h2⟩:=h;have h3:fn.body≠none:=by intro e;rw[e]at h1;cases h1
  have h4:fn.name≠ "runtime.NumGoroutine" :=by simpa using h2
  simp [callFunc,hq,h4,h3]
theorem alj(hs:cN G w a s)(cB:N0<=G.N){x:AV}{h':asn ao}{p:Sd}(hx:pG P o.op (ev s) s.h=some (x,h',p))(hp:p.ok)(hK:K ((s.wh h').put o.dst x)):o.wpIn (WF r) n P a w (jv N0 G w K) Q:=by
 have dA:=hs.ev;unfold pG at hx;split at hx
 next T ho=>
  split at hx
  ·next q hT=>
   cases hx
   obtain⟨i1,i2,i3⟩:=aiH hs.inv;exact pk (by rw[ho];simp) hs cB (v:= .map (some w.heap.size)) (by unfold execOp;simp [ho,run_makeMap,Result.andThen]) i1 (Nat.le_succ _) i2 i3 hK
  ·cases hx
 next T m i ok ho=>
  split at hx
  ·next k e hT=>
   split at hx
   ·next z hz=>
    split at hx
    ·next b s' hm hi=>
     split at hx
     ·next kv hn=>
      cases hc:hY P k&&z.oneCell' with
      |false=>rw[hc]at hx;cases hx
      |true=>
       rw[hc]at hx;cases hx
       rw[arA]at hc;obtain⟨v,r1,r2⟩:=ajM (ok:=ok) (s:=s') hs.inv hT hz hc.1 hn;have e1:=dA m;rw[hm]at e1;have e2:=dA i;rw[hi]at e2;have e2:=e2.val;have QV:a.eval m= .map (some (G.bg b)):=by
         generalize a.eval m=u at e1;cases e1 with|mp _ _=>rfl
       exact fv (by rw[ho];simp) hs cB (by unfold execOp;simp [ho,QV,e2,r1,Result.andThen]) r2 hK
     ·cases hx
    ·cases hx
   ·cases hx
  ·cases hx
 next T m i y ho=>
  split at hx
  ·next k e hT=>
   split at hx
   ·next b s' d hm hi hd=>
    split at hx
    ·next kv hn=>
     cases hc:hY P k with
     |false=>rw[hc]at hx;cases hx
     |true=>
      rw[hc]at hx;cases hx
      obtain⟨w',r1,r2,r3⟩:=ajA (s:=s') hs.inv hT hc hn ((dA y).Qj hd) hp;have e1:=dA m;rw[hm]at e1;have e2:=dA i;rw[hi]at e2;have e2:=e2.val;have QV:a.eval m= .map (some (G.bg b)):=by
       generalize a.eval m=u at e1;cases e1 with|mp _ _=>rfl
      exact RI (by rw[ho];simp) hs cB (by unfold execOp;simp [ho,QV,e2,r1,Result.andThen]) r2 (arJ _) r3 hK
    ·cases hx
   ·cases hx
  ·cases hx
 next=>cases hx
theorem adJ(hs:cN G w a s)(cB:N0<=G.N)(h:qH P o K s):o.wpIn (WF r) n P a w (jv N0 G w K) Q:=by
 have dA:=hs.ev;unfold qH cC at h;split at h
 next x ho=>exact fv (by rw[ho];simp) hs cB (v:=a.eval x) (by unfold execOp;rw[ho];rfl) (dA x) h
 next x ho=>exact fv (by rw[ho];simp) hs cB (v:=a.eval x) (by unfold execOp;rw[ho];rfl) (dA x) h
 next c x y ho=>
  split at h
  next t hc=>
   have hb:=dA c;rw[hc]at hb;have e:=hb.bool;cases t with
   |true=>exact fv (by rw[ho];simp) hs cB (v:=a.eval x) (by unfold execOp;simp [ho,e,asBool]) (dA x) (h.1 rfl)
   |false=>exact fv (by rw[ho];simp) hs cB (v:=a.eval y) (by unfold execOp;simp [ho,e,asBool]) (dA y) (h.2 rfl)
  next=>exact h.elim
 next e ho=>
  split at h
  next z hz=>
   obtain⟨i1,i2⟩:=U6 hs.inv z.cells e (z.cells.toList.map λu=> .d (.v u)) (by simp) (λi u c hu hc=>by
    rw[arF,arV,hu]at hc;cases hc;exact .d (.v u))
   exact pk (by rw[ho];simp) hs cB (by unfold execOp;simp [ho,Instr.alloc,Mp hz,newVar,newRow]) (FF G w hs.inv.z hs.inv.S _) (Nat.le_succ _) i1 i2 h
  next=>exact h.elim
 next e x ho=>
  obtain⟨hb,hK⟩:=b6.1 h;have hr:=(dA x).acp hb;obtain⟨i1,i2⟩:=U6 hs.inv (a.eval x).cells e (ev s x).cells hr.len hr.rel;exact pk (by rw[ho];simp) hs cB (by unfold execOp;simp [ho,Instr.box,newVar,newRow]) (FF G w hs.inv.z hs.inv.S _) (Nat.le_succ _) i1 i2 hK
 next t x ho=>
  obtain⟨u,y,h1,h2,h3⟩:=adT hs.inv (dA x) h;exact fv (by rw[ho];simp) hs cB (by unfold execOp;simp [ho,h1]) h2 h3
 next t x y ho=>
  unfold zR at h;split at h
  next m off hm=>
   split at h
   next cs gx=>
    split at h
    case h_2=>exact h.elim
    rename_i k hk
    obtain⟨fq,h4⟩:=b6.1 h;simp only[arA,beq_iff_eq,dJ]at fq;obtain⟨⟨rfl,h2⟩,h3⟩:=fq;have h1:=hk;have hx:=dA x;rw[hm]at hx;obtain⟨w',r1,r2,r3⟩:=apy (P:=P) hs.inv gx (dA y) h2 h1 h3;have ex:a.eval x= .pointer (some ⟨G.bg m,off,none⟩):=by
     generalize a.eval x=u at hx;cases hx with
     |ptr=>rfl
    exact RI (by rw[ho];simp) hs cB (by unfold execOp;simp [ho,Instr.storeAt,Instr.sureAddr,ex,r1]) r2 (arJ _) r3 h4
   next=>exact h.elim
  next=>exact h.elim
 next x ho=>
  have hx:=dA x;split at h
  next m off hm=>
   rw[hm]at hx;generalize ea:a.eval x=u at hx;cases hx with
   |ptr _ _ xy=>exact fv (by rw[ho];simp) hs cB (by unfold execOp;simp [ho,ea]) (.ptr m off xy) h
  next xs i off hm=>
   rw[hm]at hx;generalize ea:a.eval x=u at hx;have oy:=hx;cases hx with
   |bP=>exact fv (by rw[ho];simp) hs cB (by unfold execOp;simp [ho,ea]) oy h
  next f cs hm=>
   rw[hm]at hx;generalize ea:a.eval x=u at hx;have oy:=hx;cases hx with
   |fn=>exact fv (by rw[ho];simp) hs cB (by unfold execOp;simp [ho,ea]) oy h
  next=>exact h.elim
 next T x f ho=>
  split at h
  next fo k g hT=>
   have hx:=dA x;split at h
   next m off hm=>
    rw[hm]at hx;generalize ea:a.eval x=u at hx;cases hx with
    |ptr _ _ xy=>exact fv (by rw[ho];simp) hs cB (by unfold execOp;simp [ho,ea,OQ hT]) (.ptr m (off+fo) xy) h
   next xs i off hm=>
    rw[hm]at hx;generalize ea:a.eval x=u at hx;cases hx with
    |bP _ _ _ b oo us c hx hS hu=>exact fv (by rw[ho];simp) hs cB (by unfold execOp;simp [ho,ea,OQ hT];rfl) (by rw[Nat.add_assoc];exact .bP xs i (off+fo) b oo us c hx hS hu) h
   next=>exact h.elim
  next=>exact h.elim
 next T x f ho=>
  obtain⟨u,y,h1,h2,h3⟩:=apG (dA x) h;exact fv (by rw[ho];simp) hs cB (by unfold execOp;simp [ho,h1]) h2 h3
 next T x i ho=>
  obtain⟨u,y,h1,h2,h3⟩:=amT (dA x) (dA i) h;exact fv (by rw[ho];simp) hs cB (by unfold execOp;simp [ho,h1]) h2 h3
 next T x i ho=>
  split at h
  next b z hb hz=>
   obtain⟨hT,h0,h⟩:=b6.1 h;have hT:=tu hT;have hx:=dA x;rw[hb]at hx;have ex:=hx.val;obtain⟨k,ei⟩:=(dA i).int hz;split at h
   next c hc=>
    refine fv (by rw[ho];simp) hs cB (v:= .int .u8 c.toNat) ?_ (.d (.v _)) h;unfold execOp;simp [ho,Instr.index,ex,ei,asIntOf,run_underlying hT,h0,hc]
   next=>exact h.elim
  next=>exact h.elim
 next T ps ho=>
  obtain⟨p1,p2⟩:=Vm hs ps;obtain⟨u,y,h1,h2,h3⟩:=aqD p1 p2 h;exact fv (by rw[ho];simp) hs cB (by unfold execOp;simp only[ho,Sem.run_bind,h1];rfl) h2 h3
 next T len ps ho=>
  obtain⟨p1,p2⟩:=Vm hs ps;obtain⟨u,w',G',y,h1,h2,h3,h4,h5,h6⟩:=agd (T:=T) hs.inv p1 p2 h;exact pk (by rw[ho];simp) hs cB (by unfold execOp;simp only[ho,Sem.run_bind,h1];rfl) h2 h3 h4 h5 h6
 next T x lo hi mx ho=>
  obtain⟨u,y,h1,h2,h3⟩:=af2 hs (dA x) h;exact fv (by rw[ho];simp) hs cB (by unfold execOp;simp [ho,h1]) h2 h3
 next x i ho=>
  have hx:=dA x;split at h
  next cs gx=>
   rw[gx]at hx;generalize ea:a.eval x=u at hx;split at h
   next c hc=>
    cases hx with
    |aX vs _ hl hr=>
     have aS:i<vs.size:=by rw[hl];exact(ary.1 hc).1
     exact fv (by rw[ho];simp) hs cB (v:=vs[i]) (by unfold execOp;simp [ho,ea,Instr.extract,aS]) (hr i _ c (arU aS) hc) h
   next=>exact h.elim
  next=>exact h.elim
 next f first dF ho=>
  split at h
  case h_2=>exact h.elim
  rename_i Q7
  have Q7:first= #[]:=by rw[<-Array.toList_inj];exact Q7
  subst Q7;obtain⟨p1,p2⟩:=FY hs dF;exact fv (by rw[ho];simp) hs cB (v:= .func (.func f) #[] (dF.map a.eval)) (by unfold execOp;simp [ho,Instr.makeFunc]) (.fn f _ _ p1 p2) h
 next op T x y U ho=>
  obtain⟨u,z,h1,h2,h3⟩:=aof (X:=x) (Y:=y) (dA x) (dA y) h;refine fv (by rw[ho];simp) hs cB ?_ h2 h3;unfold execOp;simp only[ho];rw[Sem.run_bind,h1];rfl
 next op T x ho=>
  obtain⟨u,z,h1,h2,h3⟩:=ajX (P:=P) (dA x) h;exact fv (by rw[ho];simp) hs cB (by unfold execOp;simp [ho,h1]) h2 h3
 next t u x ho=>
  obtain⟨u,z,h1,h2,h3⟩:=aoP (dA x) h;exact fv (by rw[ho];simp) hs cB (by unfold execOp;simp [ho,h1]) h2 h3
 next c ho=>
  have lD:∀c,o.op≠ .defer c:=by rw[ho];simp
  split at h
  next hc=>
   split at h
   next x T h1 h2=>
    obtain⟨m,r1,r2⟩:=afK (ty:=o.type) (dA x) h;exact fv lD hs cB (by rw[Yn c hc h1 h2 ho,r1];rfl) (.d (.v _)) r2
   next=>exact h.elim
  next hc=>
   split at h
   next x y T U h1 h2=>
    obtain⟨hU,h⟩:=b6.1 h;obtain⟨⟨e',k'⟩,hU⟩:=Option.isSome_iff_exists.1 hU;obtain⟨p,w',G',q,h',r1,r2,r3,r4,r5,r6⟩:=apc (ty:=o.type) hs.inv (dA x) (dA y) (jM hU).1 h;exact pk lD hs cB (by rw[Fh c hc h1 h2 ho,r1];rfl) r2 r3 r4 r5 r6
   next=>exact h.elim
  next hc=>
   split at h
   next k z hf=>
    obtain⟨p1,p2⟩:=FY hs c.args;obtain⟨u,us,e1,e2⟩:=XJ (P:=P) p1 p2 hf;refine fv lD hs cB (v:= .int k z) ?_ (.d (.v _)) h;rw[aqO c hc ho];unfold Builtin.max_;rw[e1];simp only[if_true]at e2;rw[e2];rfl
   next=>exact h.elim
  next hc=>
   split at h
   next k z hf=>
    obtain⟨p1,p2⟩:=FY hs c.args;obtain⟨u,us,e1,e2⟩:=XJ (P:=P) p1 p2 hf;refine fv lD hs cB (v:= .int k z) ?_ (.d (.v _)) h;rw[am5 c hc ho];unfold Builtin.min_;rw[e1];simp only[Bool.false_eq_true,if_false]at e2;rw[e2];rfl
   next=>exact h.elim
  next f hc=>
   have call:∀(g:FuncId)(dF:asn AV)(vs:Array asr),a.eval f= .func (.func g) #[] vs->vs.size=dF.length->(∀(i:Nat)(u:asr)(c:AV),vs[i]?=some u->dF[i]?=some c->aJ G w u c)->
       cG P g (c.args.toList.map (ev s)++dF) s.h (λr h'=>K ((s.wh h').put o.dst r))->o.wpIn (WF r) n P a w (jv N0 G w K) Q:=by
       intro g dF vs ea hl hr h;obtain⟨p1,p2⟩:=FY hs c.args;obtain⟨S3,ku⟩:=h;have xE:=ku G w (c.args.map a.eval++vs) hs.inv (by rw[Array.size_append,arz,p1,hl]) (λi u x hu hx=>by
        by_cases hi:i<(c.args.map a.eval).size
        ·rw[Array.getElem?_append_left hi]at hu;rw[arI (by rw[<-p1];exact hi)]at hx;exact p2 i u x hu hx
        ·rw[Array.getElem?_append_right (by omega)]at hu;rw[arO (by rw[<-p1];omega)]at hx;rw[p1]at hu;exact hr _ u x hu hx)
       refine⟨λ_ _=>trivial,?_⟩;have dK:(o.semAt (WF r).round a.eval).run P w= .ok (.enter g (c.args.map a.eval++vs)) w:=by
        rw[Oper.semAt_eq _ _ _ lD];unfold execOp;simp only[ho,resolve,hc,ea];simp [Deferred.ofValue,invoke,acG S3]
       rw[dK];refine⟨λh=>(by simp [WF,Fence.wide]at h),?_⟩;have h2:=callsIn_wide (n:=n-1).2 xE;refine CallsIn.mono (F:=WF r) h2 ?_;rintro e w' ⟨v,G',x,h',rfl,x1,x2,x3,x4,x5⟩;exact⟨G',_,x1.less cB,arQ cB x2,(hs.move x1 x2 x3).put x4 o.dst,x5⟩
   split at h
   next g dF hg=>
    have hf:=dA f;rw[hg]at hf;generalize ea:a.eval f=u at hf;cases hf with
    |fn _ vs _ hl hr=>exact call g dF vs ea hl hr h
   next q hg=>
    obtain⟨g,cs,rfl,h⟩:=h;have hf:=dA f;rw[hg]at hf;generalize ea:a.eval f=u at hf;cases hf with
    |hid hq h1=>
     cases hq with
     |fn _ vs _ hl hr=>exact call g (cs.map iq.av) vs ea (by rw[arD];exact hl) (λi u c hu hc=>by
        rw[arF]at hc;cases hx:cs[i]? with
        |none=>rw[hx]at hc;cases hc
        |some d=>rw[hx]at hc;cases hc;exact(hr i u d hu hx).av) h
   next=>exact h.elim
  next=>exact h.elim
 next op _=>
  split at h
  next x h' p hx=>exact alj hs cB hx h.1 h.2
  next=>exact h.elim
theorem RL(hs:cN G w a s){x:asp Operand}{d:Nat}{z:Int}(h:uo (ev s) d x=some z)(h0:0<=z):CW a x d z.toNat:=by
 cases x with
 |none=>
  simp only[uo,Option.some.injEq]at h;subst h;show _=d;exact arZ d
 |some y=>
  simp only[uo]at h;obtain⟨k,e⟩:=(hs.ev y).int h;exact⟨k,z,e,h0,rfl⟩
theorem mF{α:Type}{b:Bool}{x y:α}(h:(bif b then some x else none)=some y):b=true/\x=y:=by
 cases b with
 |true=>exact⟨rfl,arR h⟩
 |false=>cases h
theorem anb{α:Type}{b:Bool}{x:asp α}{y:α}(h:(bif b then x else none)=some y):b=true/\x=some y:=by
 cases b with
 |true=>exact⟨rfl,h⟩
 |false=>cases h
theorem ZM(hs:cN G w a s)(cB:N0<=G.N)(h:JP P o K s):o.wpIn (WF r) n P a w (jv N0 G w K) Q:=by
 obtain⟨va,x,h',p,hx,hp,hK⟩:=h;have dA:=hs.ev;unfold iS at hx;split at hx
 next T y i ho=>
  split at hx
  ·next n' o' len L k z e k' i' e1 e2 e3=>
   split at hx
   ·next e4 k2 cs hn=>
    obtain⟨hb,he⟩:=mF hx;cases he
    rw[arA,beq_iff_eq,beq_iff_eq]at hb;obtain⟨rfl,rfl⟩:=hb;obtain⟨hL,h0,aS,rfl⟩:=hp;obtain⟨fj,fK⟩:=jM e3;obtain⟨kz,ez⟩:=(dA i).int e2;have hv:=dA y;rw[e1]at hv;have me:=hv.xY hs.inv hn hL;obtain⟨Dz,⟨A,c,q1,q2,q3,q4,q5⟩,_⟩:=me;obtain⟨g,cap,s1,rfl,s3⟩:=q5 (by omega);have Sb:z<(len:Int):=aS;refine fv (by rw[ho];simp) hs cB (v:= .pointer (some ⟨g,o'*k2+z.toNat*k2,none⟩)) ?_ (.dx n' (o'+z.toNat) 0 L k2 (hs.inv.lt hn) ⟨_,_,rfl⟩ (by rw[(hs.inv.dv n' _ hn).1,hL];exact arJ _) λ_=>⟨by omega,g,cap,s1,?_⟩) hK
    ·unfold execOp;simp [ho,q1,ez,Instr.indexAt,asIntOf,run_underlying fj,h0,Sb,mn fK,lH]
    ·rw[Nat.add_mul];rfl
   ·cases hx
  ·cases hx
 next T y f ho=>
  split at hx
  ·next n' i j L k fo q g e1 hT=>
   cases hx
   have hv:=dA y;rw[e1]at hv;generalize ea:a.eval y=u at hv;cases hv with
   |dx _ _ _ _ _ oW Su hL hf=>
    obtain⟨pb,pq,rfl⟩:=Su;refine fv (by rw[ho];simp) hs cB (v:= .pointer (some ⟨pb,pq+fo,none⟩)) (by unfold execOp;simp [ho,ea,OQ hT]) (.dx n' i (j+fo) L k oW ⟨_,_,rfl⟩ hL λe=> ?_) hK;obtain⟨a1,g2,cap,a2,a3⟩:=hf e;refine⟨a1,g2,cap,a2,?_⟩;injection a3 with a3;injection a3 with a3;injection a3 with a4 a5;subst a4;subst a5;rw[Nat.add_assoc]
  ·cases hx
 next y ho=>
  split at hx
  ·next n' i j L k e1=>
   cases hx
   have hv:=dA y;rw[e1]at hv;have VG:=hv;generalize ea:a.eval y=u at hv VG;cases hv with
   |dx _ _ _ _ _ oW Su hL hf=>
    obtain⟨pb,pq,rfl⟩:=Su;exact fv (by rw[ho];simp) hs cB (by unfold execOp;simp [ho,ea]) VG hK
  ·cases hx
 next t y ho=>
  split at hx
  ·next n' i j L k c e1=>
   split at hx
   ·next e k' cs z hn hz=>
    obtain⟨hb,he⟩:=mF hx;cases he
    rw[beq_iff_eq]at hb;subst hb;have hv:=dA y;rw[e1]at hv;obtain⟨u,r1,r2⟩:=aoA hs.inv hn hp.1 hp.2 hz hv;exact fv (by rw[ho];simp) hs cB (by unfold execOp;simp [ho,r1]) r2 hK
   ·cases hx
  ·cases hx
 next t y z ho=>
  split at hx
  ·next n' i j L k c cm e1=>
   split at hx
   ·next e k' cs q hn hq=>
    obtain⟨hb,he⟩:=mF hx;cases he
    simp only[arA,beq_iff_eq,dJ]at hb;obtain⟨⟨⟨⟨rfl,rfl⟩,Rs⟩,hj⟩,gK⟩:=hb;obtain⟨hL,hc,rfl⟩:=hp;have hv:=dA y;rw[e1]at hv;obtain⟨w',G',r1,r2,r3,r4⟩:=akL hs.inv hn hL hc hv (dA z) Rs hq hj gK;exact RI (by rw[ho];simp) hs cB (by unfold execOp;simp [ho,r1]) r2 r3 r4 hK
   ·cases hx
  ·cases hx
 next T y lo hi ho=>
  split at hx
  ·next n' o' len L k e k' oo ll e1 hT=>
   split at hx
   ·next l u hl hu=>
    split at hx
    ·next e4 k2 cs hn=>
     obtain⟨hb,he⟩:=mF hx;cases he
     rw[arA,beq_iff_eq,beq_iff_eq]at hb;obtain⟨rfl,rfl⟩:=hb;obtain⟨hL,h0,hlu,huL,rfl,rfl⟩:=hp;obtain⟨fj,fK⟩:=jM hT;have hv:=dA y;rw[e1]at hv;have me:=hv.xY hs.inv hn hL;obtain⟨Dz,⟨A,c,q1,q2,q3,q4,q5⟩,_⟩:=me;have hb:=Ge (P:=P) (AJ:=true) (RL hs hl h0) (RL hs hu (by omega)) (by omega) (show u.toNat<=c by omega) w;refine fv (by rw[ho];simp) hs cB (v:= .slice (if c=l.toNat then A else A.map (·.add (l.toNat*k2))) (u.toNat-l.toNat) (c-l.toNat)) ?_ (.vec n' (o'+l.toNat) (u.toNat-l.toNat) L k2 (hs.inv.lt hn) ⟨_,_,_,rfl⟩ (by rw[(hs.inv.dv n' _ hn).1,hL];exact arJ _) λ_=>⟨by omega,⟨_,_,rfl,by omega,by omega,by omega,λvp=> ?_⟩,λh1 h2=> ?_⟩) hK
     ·unfold execOp;simp [ho,q1,Instr.sliceAt,Instr.slice,run_underlying fj,hb,mn fK]
     ·obtain⟨g,cap,s1,rfl,s3⟩:=q5 (by omega);refine⟨g,cap,s1,?_,by omega⟩;rw[if_neg (by omega)];simp [lH,Nat.add_mul]
     ·have ho0:o'=0:=by omega
      have MD:l.toNat=0:=by omega
      subst ho0;rw[MD];rw[MD]at h2;simp only[Nat.sub_zero]at h2 ⊢;by_cases xV:L=0
      ·subst xV;have:len=0:=by omega
       subst this
       rename_i fq
       rw[<-fq rfl rfl,q1,h2];split
       ·rfl
       ·cases A<;>simp [Addr.add]
      ·obtain⟨g,cap,s1,rfl,s3⟩:=q5 (by omega);rw[s1,h2];have:c=cap:=by omega
       subst this;split<;>simp [lH]
    ·cases hx
   ·cases hx
  ·cases hx
 next T l c ho=>
  split at hx
  ·next e k z1 z2 cs len m hT e1 e2=>
   split at hx
   ·next z cE hz pK=>
    obtain⟨hb,he⟩:=mF hx;cases he
    simp only[arA,beq_iff_eq,dJ]at hb;obtain⟨⟨gK,kf⟩,_⟩:=hb;obtain⟨h0,la,hl,hc,rfl,hm,l8⟩:=hp;obtain⟨fj,fK⟩:=jM hT;obtain⟨inf,i1,i2,i3⟩:=SC fK pK;have Ev:inf.zero=some z:=by
     obtain⟨i',j1,j2⟩:=MZ hz;rw[i1]at j1;cases j1;exact j2
    obtain⟨k1,ez1⟩:=(dA l).int e1;obtain⟨k2,ez2⟩:=(dA c).int e2;obtain⟨u,w',G',r1,r2,r3,r4,r5⟩:=aeM (kl:=k1) (kc:=k2) hs.inv fj i1 Ev i2 i3 kf gK h0 la hl hc hm l8;exact pk (by rw[ho];simp) hs cB (by unfold execOp;simp [ho,ez1,ez2,r1]) r2 r3 r4 r5 hK
   ·cases hx
  ·cases hx
 next c ho=>
  have lD:∀c,o.op≠ .defer c:=by rw[ho];simp
  split at hx
  next hc=>
   split at hx
   ·next y T h1 h2=>
    split at hx
    ·next n' oo len L k e1=>
     split at hx
     ·next e4 k2 cs hn=>
      obtain⟨hb,he⟩:=mF hx;cases he
      rw[arA,beq_iff_eq]at hb;obtain⟨hT,rfl⟩:=hb;obtain⟨⟨e,q⟩,hT⟩:=Option.isSome_iff_exists.1 hT;have hv:=dA y;rw[e1]at hv;have me:=hv.xY hs.inv hn hp;obtain⟨Dz,⟨A,cc,q1,q2,q3,q4,q5⟩,_⟩:=me;exact fv lD hs cB (v:= .int .i64 len) (by rw[Yn c hc h1 h2 ho,q1];simp [Builtin.len_,run_underlying (jM hT).1,goInt]) (.d (.v _)) hK
     ·cases hx
    ·cases hx
   ·cases hx
  next hc=>
   split at hx
   ·next y z T U h1 h2=>
    split at hx
    ·next e k pU cm ys L' gL hT hU=>
     split at hx
     ·next z0 cE hz pK=>
      obtain⟨hb,hx⟩:=anb hx;rw[arA,beq_iff_eq,dJ]at hb;obtain⟨gK,kf⟩:=hb;obtain⟨fj,fK⟩:=jM hT;obtain⟨inf,i1,i2,i3⟩:=SC fK pK;have Ev:inf.zero=some z0:=by
       obtain⟨i',j1,j2⟩:=MZ hz;rw[i1]at j1;cases j1;exact j2
      have ju:z0.cells.size=k:=by rw[<-ar5];exact kf
      obtain⟨eU,kU⟩:=pU;split at hx
      ·next n' oo len L k1 e1=>
       split at hx
       ·next e4 k2 cs hn=>
        obtain⟨hb,he⟩:=mF hx;cases he
        simp only[arA,beq_iff_eq]at hb;obtain⟨⟨rfl,rfl⟩,rfl⟩:=hb;obtain⟨hL,zk,rfl,qR⟩:=hp;obtain⟨us,hr,FC⟩:=Px (tx:=U) hs.inv (dA z) zk gK (jM hU).1;have hv:=dA y;rw[e1]at hv;obtain⟨u,w',G',r1,r2,r3,r4,r5⟩:=aoK (ty:=o.type) hs.inv fj i1 Ev i2 i3 ju gK hn hL hv hr FC qR;exact pk lD hs cB (by rw[Fh c hc h1 h2 ho,r1];rfl) r2 r3 r4 r5 hK
       ·cases hx
      ·next e1=>
       cases hx
       obtain⟨zk,rfl,rfl,rfl,kH,nj⟩:=hp;obtain⟨us,hr,FC⟩:=Px (tx:=U) hs.inv (dA z) zk gK (jM hU).1;have hv:=dA y;rw[e1]at hv;have ev:=hv.val;obtain⟨u,w',G',r1,r2,r3,r4,r5⟩:=Zm (ty:=o.type) (A:=none) hs.inv fj i1 Ev i2 i3 ju gK hr FC kH nj;exact pk lD hs cB (by rw[Fh c hc h1 h2 ho,ev,r1];rfl) r2 r3 r4 r5 hK
      ·next xs e1=>
       cases hx
       obtain⟨rfl,zk,rfl,rfl,rfl,kH,nj⟩:=hp;obtain⟨us,hr,FC⟩:=Px (tx:=U) hs.inv (dA z) zk gK (jM hU).1;have hv:=dA y;rw[e1]at hv;obtain⟨A,eA⟩:∃A,a.eval y= .slice A 0 0:=by
        generalize a.eval y=u at hv;cases hv with|full _ _ hf=>exact hf
       obtain⟨u,w',G',r1,r2,r3,r4,r5⟩:=Zm (ty:=o.type) (A:=A) hs.inv fj i1 Ev i2 i3 ju gK hr FC kH nj;exact pk lD hs cB (by rw[Fh c hc h1 h2 ho,eA,r1];rfl) r2 r3 r4 r5 hK
      ·cases hx
     ·cases hx
    ·cases hx
   ·cases hx
  next=>cases hx
 next=>cases hx
theorem aoJ(hs:cN G w a s)(cB:N0<=G.N)(h:Hu P o K s):o.wpIn (WF r) n P a w (jv N0 G w K) Q:=by
 have dA:=hs.ev;unfold Hu at h;split at h
 ·next op T x y U ho=>
  split at h
  ·next xs pT v1 v2 hx hy hT h1 h2=>
   obtain⟨e,k⟩:=pT;have fj:=(jM hT).1;have hv:=dA y;rw[hy]at hv;have ey:=hv.val;obtain⟨A,b,oo,c,k',u,ex,hA,_,_,_,_,_⟩:=((dA x).list hx).pJ;have hg:(eqGuard op T x y (a.eval x) (a.eval y)).run P w= .ok () w:=by rw[ex,ey];unfold eqGuard;cases op<;>simp
   have dK:(binOp op T (a.eval x) (a.eval y)).run P w= .ok (if A.isNone then v1 else v2) w:=by
    rw[ex,ey];have hq:=run_equal_slice_nil (P:=P) (w:=w) T e A xs.length c fj;cases op<;>simp [zg]at h1 h2<;>subst h1<;>subst h2<;>simp [binOp,hq]<;>cases A<;>rfl
   have hex:(execOp a.eval o).run P w= .ok (.value (if A.isNone then v1 else v2)) w:=by
    unfold execOp;simp only[ho];rw[Sem.run_bind,Sem.run_bind,hg];simp only[Result.andThen_ok];rw[dK];rfl
   cases A with
   |none=>
    have lK:xs=[]:=Classical.byContradiction λcP=>by have:=hA cP;cases this
    exact fv (by rw[ho];simp) hs cB hex (.d (.v _)) (h.1 lK)
   |some ad=>exact fv (by rw[ho];simp) hs cB hex (.d (.v _)) h.2
  ·exact h.elim
 ·exact h.elim
theorem SE(hs:cN G w a s)(cB:N0<=G.N)(h:agB P o K s):o.wpIn (WF r) n P a w (jv N0 G w K) Q:=by
 rcases h with h|h|h
 ·exact ZM hs cB h
 ·exact aoJ hs cB h
 ·exact adJ hs cB h
end
theorem aJ.zm{G:Gh}{w:ass}{u:asr}{x:AV}(Z:Nat->Prop)(M:Nat)(h:aJ G w u x):aJ {G with Z:=Z,M:=M} w u x:=by
 induction h with
 |agg vs cs hl _ ih=>exact .agg vs cs hl ih
 |aX vs cs hl _ ih=>exact .aX vs cs hl ih
 |fn f vs cs hl _ ih=>exact .fn f vs cs hl ih
 |own n xs h hp hle hf=>exact .own n xs h hp hle hf
 |ptr n off h=>exact .ptr (G:={G with Z:=Z,M:=M}) n off h
 |row n off len cap k h hl hm=>exact .row (G:={G with Z:=Z,M:=M}) n off len cap k h hl hm
 |mp n h=>exact .mp (G:={G with Z:=Z,M:=M}) n h
 |dc n h=>exact .dc (G:={G with Z:=Z,M:=M}) n h
 |vec n o len L k h hs hL hf=>exact .vec (G:={G with Z:=Z,M:=M}) n o len L k h hs hL hf
 |dx n i j L k h hs hL hf=>exact .dx (G:={G with Z:=Z,M:=M}) n i j L k h hs hL hf
 |hid h h1=>exact .hid h h1
 |d h=>exact .d h
 |bP xs i off b o u x hx hS hu=>exact .bP xs i off b o u x hx hS hu
 |full xs hp hf=>exact .full xs hp hf
 |dead u=>exact .dead u
theorem eu.zm{G:Gh}{w:ass}{n:Nat}{B:ao}(Z:Nat->Prop)(M:Nat)(hz:∀b,Z b->G.Z b)(h:eu G w n B):eu {G with Z:=Z,M:=M} w n B:=by
 cases B with
 |gone=>trivial
 |cells cs=>
  obtain⟨h1,h2,vs,T,h3,h4,h5⟩:=h;exact⟨λk=>h1 (hz _ k),h2,vs,T,h3,h4,λi u c hu hc=>(h5 i u c hu hc).zm Z M⟩
 |lp ls p as bd cs=>
  obtain⟨h1,h2,fn,vs,T,h3,h4,h5⟩:=h;exact⟨λk=>h1 (hz _ k),h2,fn,vs,T,h3,h4,λi u c hu hc=>(h5 i u c hu hc).zm Z M⟩
 |it sn cs=>
  obtain⟨h1,h2,fn,vs,T,h3,h4,h5⟩:=h;exact⟨λk=>h1 (hz _ k),h2,fn,vs,T,h3,h4,λi u c hu hc=>(h5 i u c hu hc).zm Z M⟩
 |map kv=>
  obtain⟨h1,h2,es,c,h3,h4⟩:=h;exact⟨λk=>h1 (hz _ k),h2,es,c,h3,h4⟩
 |front e k len=>
  obtain⟨h1,hm,h2⟩:=h;refine⟨h1,hm,?_⟩;rcases h2 with h2|⟨g,cap,cur,h2,h3,h4,h5⟩
  ·exact .inl h2
  ·exact .inr ⟨g,cap,cur,h2,h3,λk=>h4 (hz _ k),h5⟩
 |vec e k cs=>
  obtain⟨h1,hm,hk,h2⟩:=h;refine⟨h1,hm,hk,?_⟩;rcases h2 with h2|⟨g,cap,cur,h2,h3,h4,h5,h6,h7,h8,h9,aK⟩
  ·exact .inl h2
  ·exact .inr ⟨g,cap,cur,h2,h3,λk=>h4 (hz _ k),h5,h6,h7,h8,h9,λi j c x u hc hx hu=>(aK i j c x u hc hx hu).zm Z M⟩
theorem NW{h:asn ao}{G:Gh}{n:Nat}(Z:Nat->Prop)(M:Nat):cg h {G with Z:=Z,M:=M} n=cg h G n:=by
 unfold cg;cases h[n]? with
 |none=>rfl
 |some B=>cases B<;>rfl
theorem b9.zm{G:Gh}{w:ass}{h:asn ao}(hi:b9 G w h)(Z:Nat->Prop)(M:Nat)(hz:∀b,Z b->G.Z b)(hM:M<=w.heap.size):b9 {G with Z:=Z,M:=M} w h:=
 ⟨hi.len,λb hb=>hi.z b (hz b hb),hi.S,λn B hB=>(hi.dv n B hB).zm Z M hz,λm n b h1 h2=>hi.inj m n b (by rw[<-NW Z M];exact h1) (by rw[<-NW Z M];exact h2),⟨hi.gl.1,hM⟩⟩
def qz(l:asn Nat)(w:ass):ass:=l.foldl (λw D=>w.putObj D (.deferred none)) w
theorem adu:∀(l:asn Nat)(w:ass),(∀D∈l,w.heap[D]?=some (.deferred (some [])))->l.Nodup->
 (qz l w).heap.size=w.heap.size/\(∀b,b ∉ l->(qz l w).heap[b]?=w.heap[b]?)/\(∀b o,(qz l w).cell? ⟨b,o,none⟩=w.cell? ⟨b,o,none⟩)/\(qz l w).os=w.os/\(qz l w).tape=w.tape/\(qz l w).output=w.output
 |[],w,_,_=>⟨rfl,λ_ _=>rfl,λ_ _=>rfl,rfl,rfl,rfl⟩
 |D::l,w,hd,hn=>by
  rw[List.nodup_cons]at hn;have hD:=hd D arE;have aS:=(arN.1 hD).1;obtain⟨h1,h2,h3,h4,h5,h6⟩:=adu l (w.putObj D (.deferred none)) (λE hE=>by
    have cP:E≠D:=λe=>hn.1 (e▸hE);rw[World.putObj_heap_other cP];exact hd E (arH _ hE)) hn.2
  refine⟨h1.trans (by simp),λb hb=> ?_,λb o=> ?_,h4,h5,h6⟩
  ·exact(h2 b λh=>hb (arH _ h)).trans (World.putObj_heap_other λe=>hb (e▸arE))
  ·refine(h3 b o).trans ?_;by_cases e:b=D
   ·subst e;unfold World.cell?;simp only[World.putObj_heap_same aS,hD]
   ·exact World.cell?_of_block (World.putObj_heap_other e)
theorem YZ{F:Fence}{n:Nat}{P:asq}{fn:Func}{tmps:Array asr}{R:Ending->ass->Prop}:∀(l:asn Nat)(w:ass),(∀D∈l,w.heap[D]?=some (.deferred (some [])))->l.Nodup->
 LeavesIn F n P fn tmps R [] .returning (qz l w)->LeavesInM F n P fn tmps R (l.map λD=>{target:= .collected D,args:= #[]}) .returning w
 |[],w,_,_,h=>h
 |D::l,w,hd,hn,h=>by
  rw[List.nodup_cons]at hn;exact⟨by simp, .inl ⟨D,_,rfl,run_takeDeferred (hd D arE),YZ l _ (λE hE=>by
    have cP:E≠D:=λe=>hn.1 (e▸hE);rw[World.putObj_heap_other cP];exact hd E (arH _ hE)) hn.2 h⟩⟩
theorem ag7{N0:Nat}{G G1:Gh}{w w':ass}{a':Act}{s1:St}(hE:b7 N0 {G with M:=w.heap.size} w G1 w')(hN:N0<=G1.N)(hz:∀b,G.Z b->b<w.heap.size)(hMw:G.M<=w.heap.size)(hs:cN G1 w' a' s1):
 ∃(w2:ass)(G2:Gh),(∀(F:Fence)(n:Nat)(P:asq)(fn:Func)(R:Ending->ass->Prop),(∃v,(results fn a'.tmps).run P w2= .ok v w2/\R (.returned v) w2)->LeavesInM F n P fn a'.tmps R a'.defers .returning w')/\
  b7 N0 G w G2 w2/\G2.N=G1.N/\cN G2 w2 {a' with defers:=[]} s1:=by
 obtain⟨l,l1,l2,l3⟩:=hs.df;have hd:∀D∈l,w'.heap[D]?=some (.deferred (some [])):=λD hD=>(l3 D hD).2.2;obtain⟨h1,h2,h3,h4,h5,h6⟩:=adu l w' hd l1;have hM:G1.M=w.heap.size:=hE.Z.2;have ju:∀b,G.Z b->b ∉ l:=λb hb hl=>by
  have:=(l3 b hl).1;have:=hz b hb;omega
 obtain⟨G2,iz⟩:∃G2:Gh,G2={G1 with Z:=G.Z,M:=G.M}:=⟨_,rfl⟩;have CZ:∀b,G.Z b->G1.Z b:=hE.Z.1.1;have kR:b9 G2 w' s1.h:=by rw[iz];exact hs.inv.zm _ _ CZ (arQ hMw hE.size)
 have j9:b7 N0 G w G2 w':=by
  rw[iz];exact⟨hE.size,hE.S,hE.cell,hE.bg,hE.fr,zsame rfl,hE.old,hE.os,hE.tape,hE.output,hE.new⟩
 have kA:b7 G2.N G2 w' G2 (qz l w'):=⟨by rw[h1];exact arJ _,λ_ _ h=>h,λb o _=>h3 b o,λ_ _=>rfl,λ_ _=> .inl ⟨rfl,rfl⟩,zsame rfl,λb hb=>h2 b (ju b (by rw[iz]at hb;exact hb)),h4,h5,h6,λ_ _ h=> .inl h⟩;have Lt:b9 G2 (qz l w') s1.h:=⟨kR.len,λb hb=>by rw[h1];exact kR.z b hb,λb o hb=>by rw[h1];exact kR.S b o hb,λn B hB=>eu.bj (kR.lt hB) kA (arJ _) ⟨rfl,rfl,rfl⟩ (λb hb=>⟨h2 b λhl=>(hs.inv.dv n B hB).mO (by rw[iz]at hb;cases B<;>exact hb) (l3 b hl).2.1,λ_ h=>h⟩) (kR.dv n B hB),kR.inj,kR.gl.bj kA⟩;refine⟨qz l w',G2,λF n P fn R h=> ?_,j9.trans (kA.less (by rw[iz];exact hN)),by rw[iz],⟨hs.size,λi=>aJ.bj kA (arJ _) (by rw[iz];exact(hs.tmp i).zm _ _),Lt,rV.nil _ _⟩⟩;rw[l2];exact YZ l w' hd l1 h
section
variable {G:Gh} {w:ass} {h:asn ao}
theorem ak5(hi:b9 G w h)(fn:FuncId)(tm:Array asr)(D p:Nat)(as bd:Code)(cs:asn AV)(hl:tm.size=cs.length)(hr:∀(i:Nat)(u:asr)(c:AV),tm[i]?=some u->cs[i]?=some c->aJ G w u c):b7 G.N G w (G.dY w.heap.size) (w.alloc (.loop {state:= .ready,pending:=none,fn:=fn,tmps:=tm,params:= #[p],assign:=as,body:=bd,defers:=D}))/\b9 (G.dY w.heap.size) (w.alloc (.loop {state:= .ready,pending:=none,fn:=fn,tmps:=tm,params:= #[p],assign:=as,body:=bd,defers:=D})) (h++[.lp .ready p as bd cs])/\aJ (G.dY w.heap.size) (w.alloc (.loop {state:= .ready,pending:=none,fn:=fn,tmps:=tm,params:= #[p],assign:=as,body:=bd,defers:=D})) (.func (.yield w.heap.size) #[] #[]) (.dc h.length):=by
 have hE:=FF G w hi.z hi.S (.loop {state:= .ready,pending:=none,fn:=fn,tmps:=tm,params:= #[p],assign:=as,body:=bd,defers:=D});have hN:G.N<=(G.dY w.heap.size).N:=Nat.le_succ _;have jS:(G.dY w.heap.size).bg h.length=w.heap.size:=by simp [Gh.dY,hi.len]
 have nC:∀n(B:ao),n<G.N->B.dX (G.dY w.heap.size) n=B.dX G n:=λn B hn=>by
  cases B<;>simp [ao.dX,Gh.dY,Nat.ne_of_lt hn]
 have fX:∀n,n<G.N->cg (h++[.lp .ready p as bd cs]) (G.dY w.heap.size) n=cg h G n:=λn hn=>by
  have aS:n<h.length:=by rw[hi.len];exact hn
  unfold cg;rw[arI aS,arC aS];exact nC n _ hn
 have EO:cg (h++[.lp .ready p as bd cs]) (G.dY w.heap.size) h.length=some w.heap.size:=by
  rw[dP (B:= .lp .ready p as bd cs) (by simp)];exact congrArg some jS
 refine⟨hE,⟨by simp [Gh.dY,hi.len],λb hb=>arW (hi.z b hb) hE.size,λb o hs=>arW (hi.S b o hs) hE.size,λn B hB=> ?_,λm n b hm hn=> ?_,hi.gl.bj hE⟩,?_⟩
 ·by_cases hn:n<h.length
  ·rw[arI hn]at hB;have fB:n<G.N:=hi.len▸hn;exact eu.bj fB hE hN ⟨rfl,rfl,rfl⟩ (λb hb=>⟨Below.heap_alloc w _ _ (hi.jq (n:=n) ((dP hB).trans hb)),λo h=>h⟩) (hi.dv n B hB)
  ·have nA:n=h.length:=by
    have:=(ary.1 hB).1;simp at this;omega
   subst nA;simp at hB;subst hB;exact⟨by rw[jS];exact λhz=>asc _ (hi.z _ hz),λo hs=>by rw[jS]at hs;exact asc _ (hi.S _ _ hs),fn,tm,D,by rw[jS];exact World.alloc_heap_new w _,hl,λi u c hu hc=>(hr i u c hu hc).bj hE hN⟩
 ·have key:∀n b,cg (h++[.lp .ready p as bd cs]) (G.dY w.heap.size) n=some b->(n<G.N/\cg h G n=some b)\/(n=h.length/\b=w.heap.size):=λn b hn=>by
   by_cases aS:n<G.N
   ·exact .inl ⟨aS,by rw[<-fX n aS];exact hn⟩
   ·by_cases e:n=h.length
    ·subst e;rw[EO]at hn;cases hn;exact .inr ⟨rfl,rfl⟩
    ·rw[AE (ar4 (by simp;have:=hi.len;omega))]at hn;cases hn
  rcases key m b hm with⟨_,ma⟩|⟨rfl,rfl⟩<;>rcases key n _ hn with⟨_,fB⟩|⟨rfl,hb⟩
  ·exact hi.inj m n b ma fB
  ·have:=hi.jq ma;omega
  ·have:=hi.jq fB;omega
  ·rfl
 ·have:=aJ.dc (G:=G.dY w.heap.size) (w:=w.alloc (.loop {state:= .ready,pending:=none,fn:=fn,tmps:=tm,params:= #[p],assign:=as,body:=bd,defers:=D})) h.length (by simp [Gh.dY,hi.len])
  rwa [jS]at this
theorem Yj{k:Nat}{B B':ao}{ob Bz:Obj}(hi:b9 G w h)(hk:h[k]?=some B)(wJ:B.dX G k=some (G.bg k))(hS:∀o,¬G.S (G.bg k) o)(oC:w.heap[G.bg k]?=some ob)(hn:B'= .gone\/B'.dX G k=some (G.bg k))
 (hB:∀w',(∀b o,G.S b o->w'.cell? ⟨b,o,none⟩=w.cell? ⟨b,o,none⟩)->w'.heap[G.bg k]?=some Bz->b7 G.N G w G w'->eu G w' k B'):b7 G.N G w G (w.putObj (G.bg k) Bz)/\b9 G (w.putObj (G.bg k) Bz) (h.set k B'):=by
 have aS:=(arN.1 oC).1;have hZ:¬G.Z (G.bg k):=(hi.dv k B hk).mO wJ;have iT:∀b,b≠G.bg k->(w.putObj (G.bg k) Bz).heap[b]?=w.heap[b]?:=λb hb=>World.putObj_heap_other hb;have iG:∀b o,G.S b o->(w.putObj (G.bg k) Bz).cell? ⟨b,o,none⟩=w.cell? ⟨b,o,none⟩:=λb o hs=>World.cell?_of_block (iT b (λe=>hS o (e▸hs)));have hE:b7 G.N G w G (w.putObj (G.bg k) Bz):=⟨by simp,λ_ _ h=>h,iG,λ_ _=>rfl,λ_ _=> .inl ⟨rfl,rfl⟩,zsame rfl,λb hb=>iT b (λe=>hZ (e▸hb)),rfl,rfl,rfl,λ_ _ h=> .inl h⟩;refine⟨hE,?_⟩;have hkl:=(ary.1 hk).1;have mi:(h.set k B')[k]?=some B':=by rw[ar1 hkl]
 have eN:∀m,m≠k->(h.set k B')[m]?=h[m]?:=λm hm=>by rw[ar6 (Ne.symm hm)]
 have m5:cg h G k=some (G.bg k):=(dP hk).trans wJ;have dV:∀m b,cg (h.set k B') G m=some b->cg h G m=some b:=λm b hb=>by
  by_cases e:m=k
  ·subst e;rw[dP mi]at hb;rcases hn with rfl|hn
   ·cases hb
   ·rw[hn]at hb;cases hb;exact m5
  ·unfold cg at hb ⊢;rw[eN m e]at hb;exact hb
 refine⟨by rw[List.length_set];exact hi.len,λb hb=>arW (hi.z b hb) hE.size,λb o hs=>arW (hi.S b o hs) hE.size,λm C hC=> ?_,λm m' b h1 h2=>hi.inj m m' b (dV m b h1) (dV m' b h2),hi.gl.bj hE⟩;by_cases e:m=k
 ·subst e;rw[mi]at hC;cases hC
  exact hB _ iG (World.putObj_heap_same aS) hE
 ·rw[eN m e]at hC;have cP:∀b,cg h G m=some b->b≠G.bg k:=λb hb eb=>e (hi.inj m k b hb (by rw[eb];exact m5));exact eu.bj (hi.lt hC) hE (arJ _) ⟨rfl,rfl,rfl⟩ (λb hb=>⟨iT b (cP _ ((dP hC).trans hb)),λo h=>h⟩) (hi.dv m C hC)
theorem H3{k:Nat}{ls:LS}{p:Nat}{as bd:Code}{cs:asn AV}(hi:b9 G w h)(hk:h[k]?=some (.lp ls p as bd cs)):
 (∀o,¬G.S (G.bg k) o)/\∃(fn:FuncId)(tm:Array asr)(D:Nat),w.heap[G.bg k]?=some (.loop {state:=ls.st,pending:=ls.pd,fn:=fn,tmps:=tm,params:= #[p],assign:=as,body:=bd,defers:=D})/\tm.size=cs.length/\(∀(i:Nat)(u:asr)(c:AV),tm[i]?=some u->cs[i]?=some c->aJ G w u c)/\
   ∀(Ct:LS),b7 G.N G w G (w.putObj (G.bg k) (.loop {state:=Ct.st,pending:=Ct.pd,fn:=fn,tmps:=tm,params:= #[p],assign:=as,body:=bd,defers:=D}))/\b9 G (w.putObj (G.bg k) (.loop {state:=Ct.st,pending:=Ct.pd,fn:=fn,tmps:=tm,params:= #[p],assign:=as,body:=bd,defers:=D})) (h.set k (.lp Ct p as bd cs)):=by
 obtain⟨h1,h2,fn,tm,D,h3,h4,h5⟩:=hi.dv k _ hk;refine⟨h2,fn,tm,D,h3,h4,h5,λCt=>Yj hi hk rfl h2 h3 (.inr rfl) λw' hc eJ hE=>⟨h1,h2,fn,tm,D,eJ,h4,λi u c hu j6=>(h5 i u c hu j6).bj hE (arJ _)⟩⟩
theorem aiN{k:Nat}{ls:LS}{p:Nat}{as bd:Code}{cs:asn AV}(hi:b9 G w h)(hk:h[k]?=some (.lp ls p as bd cs))(ob:Obj):b7 G.N G w G (w.putObj (G.bg k) ob)/\b9 G (w.putObj (G.bg k) ob) (h.set k .gone):=by
 obtain⟨h1,h2,fn,tm,D,h3,h4,h5⟩:=hi.dv k _ hk;exact Yj hi hk rfl h2 h3 (.inl rfl) λ_ _ _ _=>trivial
theorem aqk(hi:b9 G w h):b7 G.N G w {G with Z:=λb=>G.Z b\/b=w.heap.size} (w.alloc (.deferred (some [])))/\b9 {G with Z:=λb=>G.Z b\/b=w.heap.size} (w.alloc (.deferred (some []))) h:=by
 have hE:b7 G.N G w {G with Z:=λb=>G.Z b\/b=w.heap.size} (w.alloc (.deferred (some []))):=
  ⟨by simp,λ_ _ h=>h,λb _ h=>World.cell?_alloc_lt _ _ _ (hi.S _ _ h),λ_ _=>rfl,λ_ _=> .inl ⟨rfl,rfl⟩,⟨⟨λ_ h=> .inl h,λb h=>h.imp id λe=>Nat.le_of_eq e.symm⟩,rfl⟩,λb hb=>Below.heap_alloc w _ b (hi.z b hb),rfl,rfl,rfl,λ_ _ h=> .inl h⟩
 refine⟨hE,hi.len,λb hb=> ?_,λb o hs=>arW (hi.S b o hs) hE.size,λn B hB=> ?_,λm n b h1 h2=>hi.inj m n b (by rw[<-NW (λb=>G.Z b\/b=w.heap.size) G.M];exact h1) (by rw[<-NW (λb=>G.Z b\/b=w.heap.size) G.M];exact h2),hi.gl.bj hE⟩
 ·rcases hb with hb|rfl
  ·exact arW (hi.z b hb) hE.size
  ·simp
 ·exact eu.bj (hi.lt hB) hE (arJ _) ⟨rfl,rfl,rfl⟩ (λb hb=>⟨Below.heap_alloc w _ _ (hi.jq (n:=n) ((dP hB).trans hb)),λo h=>h⟩) (hi.dv n B hB)
end
end Go.Proofs.YtdchibpnjpnkoaaGreatDoor
