/-
  Part 1 of the proof: AbsGlob, AbsCore, AbsOps, AbsHeap, AbsStore, AbsApp, AbsOp, AbsOp2, AbsOp3, AbsMap, AbsVec, AbsVec2, AbsOp4, AbsLeave, AbsLoop.
-/
import Derived.WalkKit
import Derived.Laws.Strings
import Derived.Lib.Hide
import Derived.OrdersIn
import Derived.RangeFuncIn
import Derived.RangeFuncCalls
import Derived.RangeFuncLeaves
import Derived.RangeFuncFrom
import Derived.Deep.MidRow
import Derived.Laws.AppendOwn
import Derived.Maps.OwnOps
import Derived.KernelRfl
import Derived.Deep.AppendSrc
import Derived.Deep.Upon
import Derived.Laws.BytesString
import Derived.Laws.StructEq
import Derived.Laws.MakeOwn
import Derived.Laws.Cover3
namespace Go.Proofs.YtphmhnabilhbgaaGreatDoor
open Go.RowKit
abbrev ahO:=@Option.bind_some
abbrev ahP:=@List.getElem?_eq_some_iff
abbrev ahQ:=@List.length_append
abbrev ahR:=@Bool.and_eq_true
abbrev ahS:=@List.length_cons
abbrev ahT:=@List.getElem?_eq_getElem
abbrev ahU:=@List.length_map
abbrev ahV:=@List.mem_cons_self
abbrev ahW:=@List.getElem?_map
abbrev ahX:=@Nat.le_of_ble_eq_true
abbrev ahY:=@List.mem_cons_of_mem
abbrev ahZ:=@List.getElem?_append_left
abbrev ah0:=@Nat.le_refl
abbrev ah1:=@List.length_nil
abbrev ah2:=@List.mem_of_getElem?
abbrev ah3:=@Nat.eq_of_beq_eq_true
abbrev ah4:=@Array.getElem?_eq_some_iff
abbrev ah5:=@List.getElem?_append_right
abbrev ah6:=@List.append_assoc
abbrev ah7:=@Nat.le_trans
abbrev ah8:=@Option.some.inj
abbrev ah9:=@Nat.zero_add
abbrev aia:=@List.append_nil
abbrev aib:=@Array.getElem?_eq_getElem
abbrev aic:=@Array.getElem?_toList
abbrev aid:=@Nat.lt_of_lt_of_le
abbrev aie:=@List.map_cons
abbrev aif:=@List.all_eq_true
abbrev aih:=@Int.toNat_natCast
abbrev aii:=@Nat.not_lt_zero
abbrev aij:=@List.getElem?_set_self
abbrev aik:=@List.mem_cons
abbrev ail:=@List.map_congr_left
abbrev aim:=@List.getElem?_eq_none
abbrev ain:=@Array.length_toList
abbrev aio:=@List.getElem?_set_ne
abbrev aip:=@List.drop_zero
abbrev aiq:=@List.length_replicate
abbrev air:=@List.getElem?_cons_succ
abbrev ais:=@List.mem_append
abbrev ait:=@List.take_append_drop
abbrev aiu:=@Nat.lt_irrefl
abbrev aiv:=@Nat.le_add_right
abbrev aiw:=@List.not_mem_nil
abbrev aix:=@decide_eq_true
abbrev aiy:=@decide_eq_false
abbrev aiz:=@beq_self_eq_true
abbrev aiA:=@List.all_cons
abbrev aiB:=@List.any_cons
abbrev aiC:=@Nat.lt_succ_self
abbrev aiD:=@Bool.or_eq_false_iff
abbrev aiE:Type→Type:=List
abbrev aiF:=ByteArray
abbrev aiG:Type→Type:=Option
abbrev aiH:=Program
abbrev aiI:=Value
abbrev aiJ:=World
def bL(a:aiF):aiE UInt8:=a.data.toList
theorem MQ(a:aiF):a.toList=bL a:=ByteArray.toList_eq a
theorem KB{a b:aiF}(h:bL a=bL b):a=b:=by cases a;cases b;simp only[bL,Array.toList_inj]at h;rw[h]
def xb(l:aiE Nat):aiE aiI:=l.map fun n=>Value.int .u8 (Int.ofNat n)
def Dy:aiE Nat:=(List.range 256).map fun n=>bif (Nat.ble 9 n&&Nat.ble n 13)||n==32 then 1 else 0
def yg:aiE (Nat×aiE aiI):=
 (0,xb Dy)::
  []
def Ab:aiE (Nat×aiE aiI)→Nat→aiG (aiE aiI)
 |[],_=>none
 |(k,l)::r,g=>bif k==g then some l else Ab r g
theorem Qk:∀{t:aiE (Nat×aiE aiI)}{g:Nat}{l:aiE aiI},Ab t g=some l→(g,l)∈t
 |[],g,l,h=>by cases h
 |(k,l')::r,g,l,h=>by
  unfold Ab at h;cases e:k==g with
  |true=>rw[e]at h;cases h;rw[beq_iff_eq]at e;subst e;simp
  |false=>rw[e]at h;exact ahY _ (Qk h)
inductive D where
 |v (u:Value)
 |sl (xs:List (List D))
inductive gV where
 |d (x:D)
 |bt (c:List D) (off:Nat)
 |fn (f:FuncId) (cs:List gV)
inductive AV where
 |d (x:D)
 |agg (cs:List AV)
 |cb (cs:List AV)
 |ptr (n off:Nat)
 |bt (xs:List (List D)) (i off:Nat)
 |own (n:Nat) (xs:List (List D))
 |full (xs:List (List D))
 |row (n off len cap k:Nat)
 |fn (f:FuncId) (dO:List AV)
 |mp (n:Nat)
 |dp (n:Nat)
 |vec (n o len L k:Nat)
 |dw (n i j L k:Nat)
 |hid (c:gV)
 |dead
inductive LS where
 |ready
 |busy
 |done (c:Code)
def LS.st:LS→LoopState
 | .ready=> .ready
 | .busy=> .busy
 | .done _=> .done
def LS.pd:LS→aiG Code
 | .done c=>some c
 |_=>none
inductive an where
 |cells (cs:List AV)
 |front (e:TypeId) (k len:Nat)
 |vec (e:TypeId) (k:Nat) (cs:List (List AV))
 |map (kv:List (ByteArray×D))
 |lp (ls:LS) (p:Nat) (as bd:Code) (cs:List AV)
 |it (sn:Bool) (cs:List AV)
 |gone
structure Gh where
 N:Nat
 Z:Nat→Prop
 S:Nat→Nat→Prop
 bA:Nat→Nat
 sg:Nat→Value
 ow:Nat→Option Nat
 fl:Nat→Nat
 M:Nat
inductive dG(S:Nat→Nat→Prop)(w:World):Value→D→Prop
 |v (u:Value):dG S w u (.v u)
 |sl (A:Option Addr) (b o c k:Nat) (xs:List (List D)) (u:Nat→Nat→Value)
    (hA:xs≠ []→A=some ⟨b,o,none⟩) (hc:xs.length≤c) (hm:c≤maxLen)
    (hk:∀x∈xs,x.length=k)
    (hS:∀i j,i<xs.length→j<k→S b (o+i*k+j)∧w.cell? ⟨b,o+i*k+j,none⟩=some (u i j)∧(u i j).oneCell'=true)
    (hu:∀(i j:Nat)(x:List D)(d:D),xs[i]?=some x→x[j]?=some d→dG S w (u i j) d):dG S w (.slice A xs.length c) (.sl xs)
inductive ny(S:Nat→Nat→Prop)(w:World):Value→gV→Prop
 |d {u:Value} {x:D} (h:dG S w u x):ny S w u (.d x)
 |bt (c:List D) (off b o:Nat) (u:Nat→Value) (hS:∀j,j<c.length→S b (o+j)∧w.cell? ⟨b,o+j,none⟩=some (u j)) (hu:∀(j:Nat)(d:D),c[j]?=some d→dG S w (u j) d):ny S w (.pointer (some ⟨b,o+off,none⟩)) (.bt c off)
 |fn (f:FuncId) (vs:Array Value) (cs:List gV) (hl:vs.size=cs.length) (h:∀(i:Nat)(u:Value)(c:gV),vs[i]?=some u→cs[i]?=some c→ny S w u c):ny S w (.func (.func f) #[] vs) (.fn f cs)
structure Q5(s u:Value)(o len L k:Nat):Prop where
 ol:o+len≤L
 sl:∃A c,u= .slice A len c∧len≤c∧c≤maxLen∧L≤c+o∧(o<L→∃g cap,s= .slice (some ⟨g,0,none⟩) L cap∧A=some ⟨g,o*k,none⟩∧o+c=cap)
 all:o=0→len=L→u=s
structure UK(s u:Value)(i j L k:Nat):Prop where
 il:i<L
 pt:∃g cap,s= .slice (some ⟨g,0,none⟩) L cap∧u= .pointer (some ⟨g,i*k+j,none⟩)
inductive aL(G:Gh)(w:World):Value→AV→Prop
 |d {u:Value} {x:D} (h:dG G.S w u x):aL G w u (.d x)
 |agg (vs:Array Value) (cs:List AV) (hl:vs.size=cs.length) (h:∀(i:Nat)(u:Value)(c:AV),vs[i]?=some u→cs[i]?=some c→aL G w u c):aL G w (.agg vs) (.agg cs)
 |cb (vs:Array Value) (cs:List AV) (hl:vs.size=cs.length) (h:∀(i:Nat)(u:Value)(c:AV),vs[i]?=some u→cs[i]?=some c→aL G w u c):aL G w (.tuple vs) (.cb cs)
 |ptr (n off:Nat) (h:n<G.N):aL G w (.pointer (some ⟨G.bA n,off,none⟩)) (.ptr n off)
 |bt (xs:List (List D)) (i off b o:Nat) (u:Nat→Value) (x:List D) (hx:xs[i]?=some x)
  (hS:∀j,j<x.length→G.S b (o+j)∧w.cell? ⟨b,o+j,none⟩=some (u j)) (hu:∀(j:Nat)(d:D),x[j]?=some d→dG G.S w (u j) d):aL G w (.pointer (some ⟨b,o+off,none⟩)) (.bt xs i off)
 |own {u:Value} (n:Nat) (xs:List (List D)) (h:n<G.N) (hp:dG G.S w u (.sl xs)) (hle:xs.length≤G.fl n) (hf:xs.length=G.fl n→u=G.sg n):aL G w u (.own n xs)
 |full {u:Value} (xs:List (List D)) (hp:dG G.S w u (.sl xs)) (hf:∃A,u= .slice A xs.length xs.length):aL G w u (.full xs)
 |row (n off len cap k:Nat) (h:n<G.N) (hl:len≤cap) (hm:cap≤maxLen):aL G w (.slice (some ⟨G.bA n,off,none⟩) len cap) (.row n off len cap k)
 |fn (f:FuncId) (vs:Array Value) (cs:List AV) (hl:vs.size=cs.length) (h:∀(i:Nat)(u:Value)(c:AV),vs[i]?=some u→cs[i]?=some c→aL G w u c):aL G w (.func (.func f) #[] vs) (.fn f cs)
 |mp (n:Nat) (h:n<G.N):aL G w (.map (some (G.bA n))) (.mp n)
 |dp (n:Nat) (h:n<G.N):aL G w (.func (.yield (G.bA n)) #[] #[]) (.dp n)
 |vec {u:Value} (n o len L k:Nat) (h:n<G.N) (hs:∃A l c,u= .slice A l c) (hL:L≤G.fl n) (hf:L=G.fl n→Q5 (G.sg n) u o len L k):aL G w u (.vec n o len L k)
 |dw {u:Value} (n i j L k:Nat) (h:n<G.N) (hs:∃b q,u= .pointer (some ⟨b,q,none⟩)) (hL:L≤G.fl n) (hf:L=G.fl n→UK (G.sg n) u i j L k):aL G w u (.dw n i j L k)
 |hid {u:Value} {c:gV} (h:ny G.S w u c) (h1:u.oneCell'=true):aL G w u (.hid c)
 |dead (u:Value):aL G w u .dead
def kO:aiE (aiF×D)→aiF→aiG D
 |[],_=>none
 |(k,d)::l,s=>bif bL k==bL s then some d else kO l s
structure vZ(S:Nat→Nat→Prop)(w:World)(es:Array MapEntry)(clock:Nat)(kv:List (ByteArray×D)):Prop where
 size:es.size≤maxLen
 stamped:MapKept.Stamped es clock
 zn:∀e∈es.toList,∃s d,e.key= .string s∧kO kv s=some d∧dG S w e.val d
 all:∀s d,kO kv s=some d→∃e∈es.toList,e.key= .string s
 len:es.size≤kv.length
 born:∀(i:Nat)(e:MapEntry),es[i]?=some e→e.born=i
 GX:clock=es.size
def an.eo(G:Gh)(n:Nat):an→aiG Nat
 | .cells _=>some (G.bA n)
 | .front _ _ _=>G.ow n
 | .vec _ _ _=>G.ow n
 | .map _=>some (G.bA n)
 | .lp _ _ _ _ _=>some (G.bA n)
 | .it _ _=>some (G.bA n)
 | .gone=>none
def cA(h:aiE an)(G:Gh)(n:Nat):aiG Nat:=(h[n]?).bind (an.eo G n)
theorem dV{h:aiE an}{G:Gh}{n:Nat}{B:an}(e:h[n]?=some B):cA h G n=B.eo G n:=by unfold cA;rw[e];rfl
theorem zP{h:aiE an}{G:Gh}{n:Nat}(e:h[n]?=none):cA h G n=none:=by unfold cA;rw[e];rfl
theorem kQ{h:aiE an}{G:Gh}{n b:Nat}(e:cA h G n=some b):∃B,h[n]?=some B∧B.eo G n=some b:=by
 unfold cA at e;cases hx:h[n]? with
 |none=>rw[hx]at e;cases e
 |some B=>rw[hx]at e;exact⟨B,rfl,e⟩
def eF(G:Gh)(w:aiJ)(n:Nat):an→Prop
 | .cells cs=>¬G.Z (G.bA n)∧(∀o,¬G.S (G.bA n) o)∧∃(vs:Array aiI)(T:TypeId),w.heap[G.bA n]?=some (.cells vs T (0,0))∧vs.size=cs.length∧∀(i:Nat)(u:aiI)(c:AV),vs[i]?=some u→cs[i]?=some c→aL G w u c
 | .front e k len=>G.fl n=len∧len≤maxLen∧((G.ow n=none∧∃A,G.sg n= .slice A len len)∨
  ∃(g cap:Nat)(cur:Array aiI),G.ow n=some g∧G.sg n= .slice (some ⟨g,0,none⟩) len cap∧¬G.Z g∧w.heap[g]?=some (.cells cur e (0,0))∧len≤cap∧cap≤maxLen∧cur.size=cap*k∧∀o,len*k≤o→¬G.S g o)
 | .vec e k cs=>G.fl n=cs.length∧cs.length≤maxLen∧(∀c∈cs,c.length=k)∧((G.ow n=none∧cs=[]∧∃A,G.sg n= .slice A 0 0)∨
  ∃(g cap:Nat)(cur:Array aiI),G.ow n=some g∧G.sg n= .slice (some ⟨g,0,none⟩) cs.length cap∧¬G.Z g∧w.heap[g]?=some (.cells cur e (0,0))∧cs.length≤cap∧cap≤maxLen∧cur.size=cap*k∧(∀o,¬G.S g o)∧
   ∀(i j:Nat)(c:aiE AV)(x:AV)(u:aiI),cs[i]?=some c→c[j]?=some x→cur[i*k+j]?=some u→aL G w u x)
 | .map kv=>¬G.Z (G.bA n)∧(∀o,¬G.S (G.bA n) o)∧∃(es:Array MapEntry)(clock:Nat),w.heap[G.bA n]?=some (.map es clock)∧vZ G.S w es clock kv
 | .lp ls p as bd cs=>¬G.Z (G.bA n)∧(∀o,¬G.S (G.bA n) o)∧∃(fn:FuncId)(tm:Array aiI)(D:Nat),w.heap[G.bA n]?=some (.loop {state:=ls.st,pending:=ls.pd,fn:=fn,tmps:=tm,params:= #[p],assign:=as,body:=bd,defers:=D})∧tm.size=cs.length∧∀(i:Nat)(u:aiI)(c:AV),tm[i]?=some u→cs[i]?=some c→aL G w u c
 | .it sn cs=>¬G.Z (G.bA n)∧(∀o,¬G.S (G.bA n) o)∧∃(fn:Nat)(vs:Array aiI)(_:Unit),w.heap[G.bA n]?=some (.mapIter (some fn) 1 (if sn then #[0]else #[]) 1)∧(vs.size=cs.length∧vs= #[.map (some fn)])∧∀(i:Nat)(u:aiI)(c:AV),vs[i]?=some u→cs[i]?=some c→aL G w u c
 | .gone=>True
def G8(G:Gh)(w:aiJ):Prop:=(∀(g:Nat)(l:aiE aiI),(g,l)∈yg→∀(j:Nat)(v:aiI),l[j]?=some v→G.S g j∧w.cell? ⟨g,j,none⟩=some v)∧G.M≤w.heap.size
structure cw(G:Gh)(w:World)(h:List an):Prop where
 len:h.length=G.N
 z:∀b,G.Z b→b<w.heap.size
 S:∀b o,G.S b o→b<w.heap.size
 dz:∀(n:Nat)(B:an),h[n]?=some B→eF G w n B
 inj:∀(m n b:Nat),cA h G m=some b→cA h G n=some b→m=n
 gl:G8 G w
structure cp(N:Nat)(G:Gh)(w:World)(G':Gh)(w':World):Prop where
 size:w.heap.size≤w'.heap.size
 S:∀b o,G.S b o→G'.S b o
 cell:∀b o,G.S b o→w'.cell? ⟨b,o,none⟩=w.cell? ⟨b,o,none⟩
 bA:∀n,n<N→G'.bA n=G.bA n
 fr:∀n,n<N→(G'.fl n=G.fl n∧G'.sg n=G.sg n)∨G.fl n<G'.fl n
 Z:((∀b,G.Z b→G'.Z b)∧∀b,G'.Z b→G.Z b∨w.heap.size≤b)∧G'.M=G.M
 old:∀b,G.Z b→w'.heap[b]?=w.heap[b]?
 os:w'.os=w.os
 tape:w'.tape=w.tape
 output:w'.output=w.output
 new:∀b o,G'.S b o→G.S b o∨¬G.Z b
theorem gB{Z Z':Nat→Prop}{m M M':Nat}(h:Z'=Z)(hM:M'=M:=by rfl):((∀b,Z b→Z' b)∧∀b,Z' b→Z b∨m≤b)∧M'=M:=⟨⟨fun _ k=>h▸k,fun _ k=> .inl (h▸k)⟩,hM⟩
theorem cp.refl(N:Nat)(G:Gh)(w:aiJ):cp N G w G w:=
 ⟨ah0 _,fun _ _ h=>h,fun _ _ _=>rfl,fun _ _=>rfl,fun _ _=> .inl ⟨rfl,rfl⟩,gB rfl,fun _ _=>rfl,rfl,rfl,rfl,fun _ _ h=> .inl h⟩
theorem cp.trans{N:Nat}{G G1 G2:Gh}{w w1 w2:aiJ}(h:cp N G w G1 w1)(k:cp N G1 w1 G2 w2):cp N G w G2 w2:=
 ⟨ah7 h.size k.size,fun b o hs=>k.S b o (h.S b o hs),fun b o hs=>(k.cell b o (h.S b o hs)).trans (h.cell b o hs),fun n hn=>(k.bA n hn).trans (h.bA n hn),
  fun n hn=>by
   rcases h.fr n hn with⟨h1,h2⟩|h1<;>rcases k.fr n hn with⟨k1,k2⟩|k1
   ·exact .inl ⟨k1.trans h1,k2.trans h2⟩
   ·exact .inr (h1▸k1)
   ·exact .inr (k1▸h1)
   ·exact .inr (Nat.lt_trans h1 k1),
  ⟨⟨fun b hb=>k.Z.1.1 b (h.Z.1.1 b hb),fun b hb=>(k.Z.1.2 b hb).elim (h.Z.1.2 b) fun hs=> .inr (ah7 h.size hs)⟩,k.Z.2.trans h.Z.2⟩,fun b hb=>(k.old b (h.Z.1.1 b hb)).trans (h.old b hb),k.os.trans h.os,k.tape.trans h.tape,k.output.trans h.output,fun b o hs=>(k.new b o hs).elim (h.new b o) (fun hn=> .inr fun hz=>hn (h.Z.1.1 b hz))⟩
theorem cp.less{N M:Nat}{G G':Gh}{w w':aiJ}(h:cp N G w G' w')(hM:M≤N):cp M G w G' w':=
 ⟨h.size,h.S,h.cell,fun n hn=>h.bA n (aid hn hM),fun n hn=>h.fr n (aid hn hM),h.Z,h.old,h.os,h.tape,h.output,h.new⟩
theorem cp.lz{N:Nat}{G G':Gh}{w w':aiJ}(h:cp N G w G' w'){b:Nat}(hb:b<w.heap.size)(hz:¬G.Z b):¬G'.Z b:=fun k=>(h.Z.1.2 b k).elim hz fun hs=>aiu _ (aid hb hs)
def pJ(G:Gh)(w:aiJ)(ds:aiE Deferred):Prop:=∃l:aiE Nat,l.Nodup∧ds=l.map (fun D=>{target:= .collected D,args:= #[]})∧∀D∈l,G.M≤D∧G.Z D∧w.heap[D]?=some (.deferred (some []))
theorem pJ.nil(G:Gh)(w:aiJ):pJ G w []:=⟨[],List.nodup_nil,rfl,fun _ h=>absurd h aiw⟩
theorem pJ.bq{N:Nat}{G G':Gh}{w w':aiJ}{ds:aiE Deferred}(h:pJ G w ds)(hE:cp N G w G' w'):pJ G' w' ds:=
 let ⟨l,h1,h2,h3⟩:=h
 ⟨l,h1,h2,fun D hD=>⟨hE.Z.2▸(h3 D hD).1,hE.Z.1.1 D (h3 D hD).2.1,(hE.old D (h3 D hD).2.1).trans (h3 D hD).2.2⟩⟩
theorem G8.bq{N:Nat}{G G':Gh}{w w':aiJ}(h:G8 G w)(hE:cp N G w G' w'):G8 G' w':=⟨fun g l hm j v hv=>
 ⟨hE.S _ _ (h.1 g l hm j v hv).1,(hE.cell _ _ (h.1 g l hm j v hv).1).trans (h.1 g l hm j v hv).2⟩,by rw[hE.Z.2];exact ah7 h.2 hE.size⟩
theorem dG.bq{S S':Nat→Nat→Prop}{w w':aiJ}(hS:∀b o,S b o→S' b o)(hc:∀b o,S b o→w'.cell? ⟨b,o,none⟩=w.cell? ⟨b,o,none⟩){u:aiI}{x:D}(h:dG S w u x):dG S' w' u x:=by
 induction h with
 |v u=>exact .v u
 |sl A b o c k xs u hA jC hm hk pA _ ih=>
  exact .sl A b o c k xs u hA jC hm hk (fun i j hi hj=>⟨hS _ _ (pA i j hi hj).1,(hc _ _ (pA i j hi hj).1).trans (pA i j hi hj).2.1,(pA i j hi hj).2.2⟩) ih
theorem ny.bq{S S':Nat→Nat→Prop}{w w':aiJ}(hS:∀b o,S b o→S' b o)(hc:∀b o,S b o→w'.cell? ⟨b,o,none⟩=w.cell? ⟨b,o,none⟩){u:aiI}{x:gV}(h:ny S w u x):ny S' w' u x:=by
 induction h with
 |d h=>exact .d (h.bq hS hc)
 |bt c off b o u h1 h2=>exact .bt c off b o u (fun j hj=>⟨hS _ _ (h1 j hj).1,(hc _ _ (h1 j hj).1).trans (h1 j hj).2⟩) (fun j d hd=>(h2 j d hd).bq hS hc)
 |fn f vs cs hl _ ih=>exact .fn f vs cs hl ih
theorem aL.bq{G G':Gh}{w w':aiJ}(hE:cp G.N G w G' w')(hN:G.N≤G'.N){u:aiI}{x:AV}(h:aL G w u x):aL G' w' u x:=by
 induction h with
 |d h=>exact .d (h.bq hE.S hE.cell)
 |agg vs cs hl _ ih=>exact .agg vs cs hl ih
 |cb vs cs hl _ ih=>exact .cb vs cs hl ih
 |ptr n off h=>rw[←hE.bA n h];exact .ptr n off (aid h hN)
 |bt xs i off b o u x hx hS hu=>exact .bt xs i off b o u x hx (fun j hj=>⟨hE.S _ _ (hS j hj).1,(hE.cell _ _ (hS j hj).1).trans (hS j hj).2⟩) (fun j d hd=>(hu j d hd).bq hE.S hE.cell)
 |own n xs h hp hle hf=>
  refine .own n xs (aid h hN) (hp.bq hE.S hE.cell) ?_ ?_
  ·rcases hE.fr n h with⟨h1,_⟩|h1
   ·omega
   ·omega
  ·intro e;rcases hE.fr n h with⟨h1,h2⟩|h1
   ·rw[h2];exact hf (e.trans h1)
   ·omega
 |full xs hp hf=>exact .full xs (hp.bq hE.S hE.cell) hf
 |row n off len cap k h hl hm=>rw[←hE.bA n h];exact .row n off len cap k (aid h hN) hl hm
 |fn f vs cs hl _ ih=>exact .fn f vs cs hl ih
 |mp n h=>rw[←hE.bA n h];exact .mp n (aid h hN)
 |dp n h=>rw[←hE.bA n h];exact .dp n (aid h hN)
 |vec n o len L k h hs hL hf=>
  refine .vec n o len L k (aid h hN) hs ?_ ?_
  ·rcases hE.fr n h with⟨h1,_⟩|h1<;>omega
  ·intro e;rcases hE.fr n h with⟨h1,h2⟩|h1
   ·rw[h2];exact hf (e.trans h1)
   ·omega
 |dw n i j L k h hs hL hf=>
  refine .dw n i j L k (aid h hN) hs ?_ ?_
  ·rcases hE.fr n h with⟨h1,_⟩|h1<;>omega
  ·intro e;rcases hE.fr n h with⟨h1,h2⟩|h1
   ·rw[h2];exact hf (e.trans h1)
   ·omega
 |hid h h1=>exact .hid (h.bq hE.S hE.cell) h1
 |dead u=>exact .dead u
structure St where
 n:Nat
 t:List (Nat×AV)
 h:List an
def bH:aiE (Nat×AV)→Nat→AV
 |[],_=> .dead
 |(k,x)::l,i=>bif i==k then x else bH l i
theorem lu(k:Nat)(x:AV)(l:aiE (Nat×AV))(i:Nat):bH ((k,x)::l) i=if i=k then x else bH l i:=by
 simp only[bH,cond_eq_ite,beq_iff_eq]
def gj(b:Bool)(p:Prop):Prop:=cond b p False
theorem cr{b:Bool}{p:Prop}:gj b p↔b=true∧p:=by cases b<;>simp [gj]
def cN(a b:Nat):Bool:=a-b==0
theorem dQ{a b:Nat}:cN a b=true↔a≤b:=by simp [cN];omega
def Ou:IntKind→Nat
 | .i8=>0| .i16=>1| .i32=>2| .i64=>3| .u8=>4| .u16=>5| .u32=>6| .u64=>7
def wx(a b:IntKind):Bool:=Ou a==Ou b
theorem Mm{a b:IntKind}:wx a b=true↔a=b:=by cases a<;>cases b<;>decide
def St.put(s:St)(dst:aiG Nat)(x:AV):St:=
 match dst with
 |none=>s
 |some d=>bif s.n-d==0 then s else{s with t:=(d,x)::s.t}
theorem oH{s:St}{d:Nat}(h:d<s.n)(x:AV):s.put (some d) x={s with t:=(d,x)::s.t}:=by
 have:(s.n-d==0)=false:=by simp;omega
 simp only[St.put,this,cond_false]
theorem Ei{s:St}{d:Nat}(h:¬d<s.n)(x:AV):s.put (some d) x=s:=by
 have:(s.n-d==0)=true:=by simp;omega
 simp only[St.put,this,cond_true]
def St.wh(s:St)(h:aiE an):St:={s with h:=h}
def Mz:aiI→AV
 | .agg vs=> .agg (vs.toList.map fun u=> .d (.v u))
 | .tuple vs=> .cb (vs.toList.map fun u=> .d (.v u))
 |u=> .d (.v u)
def ev(s:St):Operand→AV
 | .tmp t=>bH s.t t
 | .const v=>Mz v
 | .func f=> .fn f []
 | .global g=>match Ab yg g with
   |some l=> .bt [l.map .v] 0 0
   |none=> .dead
def AV.jm:AV→Bool
 | .d (.v u)=>u.oneCell'
 | .d (.sl _)| .ptr .. | .bt .. | .own .. | .full _| .row .. | .fn .. | .mp _| .dp _| .hid _| .vec .. | .dw .. =>true
 | .agg _| .cb _| .dead=>false
def AV.cells:AV→aiE AV
 | .agg cs=>cs
 |x=>[x]
def AV.iS:AV→Bool
 | .agg cs=>cs.all AV.jm
 |x=>x.jm
def D.zk:D→D
 | .v (.slice none 0 0)=> .sl []
 |x=>x
def AV.w5:AV→aiG D
 | .d x=>some x.zk
 | .own _ xs=>some (.sl xs)
 | .full xs=>some (.sl xs)
 |_=>none
def AV.fY:AV→aiG (aiE (aiE D))
 | .d (.sl xs)=>some xs
 | .own _ xs=>some xs
 | .full xs=>some xs
 | .d (.v (.slice none 0 0))=>some []
 |_=>none
def AV.int?:AV→aiG Int
 | .d (.v (.int _ n))=>some n
 |_=>none
def gV.av:gV→AV
 | .d x=> .d x
 | .bt c off=> .bt [c] 0 off
 | .fn f cs=> .hid (.fn f cs)
def fO(P:aiH)(t:TypeId):aiG Nat:=(P.info? t).map (·.size)
def lr(P:aiH)(t:TypeId):aiG Bool:=(P.underlying t).map fun| .struct _=>true| .array .. =>true|_=>false
def q6(P:aiH)(t:TypeId)(i:Nat):aiG (Nat×Nat×Bool):=
 match P.underlying t with
 |some (.struct fs)=>match fs[i]? with
  |some f=>match fO P f.type,lr P f.type with
   |some (k+1),some g=>some (f.offset,k+1,g)
   |_,_=>none
  |none=>none
 |_=>none
def eE(P:aiH)(t:TypeId):aiG (TypeId×Nat):=
 match P.underlying t with
 |some (.slice e)=>(fO P e).map fun k=>(e,k)
 |_=>none
def sP(P:aiH)(t:TypeId):aiG (Nat×TypeId×Nat):=
 match P.underlying t with
 |some (.array n e)=>(fO P e).map fun k=>(n,e,k)
 |_=>none
def gK(P:aiH)(t:TypeId):Bool:=match P.underlying t with|some .string=>true|_=>false
def Aj(P:aiH)(t:TypeId):Bool:=match P.underlying t with|some .bool=>true|_=>false
def o6(P:aiH)(t:TypeId):aiG IntKind:=match P.underlying t with|some (.int k)=>some k|_=>none
def EI(P:aiH)(t:TypeId):Bool:=match P.underlying t with|some (.int .u8)=>true|_=>false
def ib(P:aiH)(t:TypeId):aiG aiI:=(P.info? t).bind (·.zero)
def ou(P:aiH)(t:TypeId):aiG Nat:=(P.info? t).map (·.bytes)
def Ni(op:BinOp)(k:IntKind)(a b:Int):aiG aiI:=
 match op with
 | .add=>some (.int k (k.wrap (a+b)))
 | .sub=>some (.int k (k.wrap (a-b)))
 | .mul=>some (.int k (k.wrap (a*b)))
 | .eql=>some (.bool (a==b))
 | .neq=>some (.bool (a !=b))
 | .lss=>some (.bool (a<b))
 | .leq=>some (.bool (a≤b))
 | .gtr=>some (.bool (a>b))
 | .geq=>some (.bool (a≥b))
 | .and=>some (.int k (k.wrap (BitVec.ofInt k.bits a&&&BitVec.ofInt k.bits b).toNat))
 | .or=>some (.int k (k.wrap (BitVec.ofInt k.bits a|||BitVec.ofInt k.bits b).toNat))
 | .xor=>some (.int k (k.wrap (BitVec.ofInt k.bits a^^^BitVec.ofInt k.bits b).toNat))
 | .andNot=>some (.int k (k.wrap (BitVec.ofInt k.bits a&&& ~~~BitVec.ofInt k.bits b).toNat))
 |_=>none
def Mq(op:BinOp)(a b:aiF):aiG aiI:=
 match op with
 | .eql=>some (.bool (bL a==bL b))
 | .neq=>some (.bool (!(bL a==bL b)))
 | .lss=>some (.bool (Op.bytesLess (bL a) (bL b)))
 | .leq=>some (.bool (Op.bytesLess (bL a) (bL b)||bL a==bL b))
 | .gtr=>some (.bool (!(Op.bytesLess (bL a) (bL b)||bL a==bL b)))
 | .geq=>some (.bool (!Op.bytesLess (bL a) (bL b)))
 |_=>none
def KO(op:BinOp)(a b:Bool):aiG aiI:=
 match op with
 | .eql=>some (.bool (a==b))
 | .neq=>some (.bool (!(a==b)))
 |_=>none
def Mb(op:BinOp)(k:IntKind)(a b:Int):aiG aiI:=
 match op with
 | .quo=>some (.int k (k.wrap (a.tdiv b)))
 | .rem=>some (.int k (a.tmod b))
 |_=>none
def L7(op:BinOp)(k:IntKind)(a b:Int):aiG aiI:=
 match op with
 | .shl=>some (.int k (k.wrap (a*2^(min b.toNat k.bits))))
 | .shr=>some (.int k (a.fdiv (2^(min b.toNat k.bits))))
 |_=>none
def Ge(op:UnOp)(x:aiI):aiG aiI:=
 match op,x with
 | .not, .bool b=>some (.bool (!b))
 | .neg, .int k n=>some (.int k (k.wrap (0-n)))
 | .xor, .int k n=>some (.int k (k.wrap (BitVec.ofInt k.bits (if k.signed then-1 else k.max)^^^BitVec.ofInt k.bits n).toNat))
 |_,_=>none
def gO(cs:aiE AV)(off:Nat)(ys:aiE AV):aiE AV:=cs.take off++ys++cs.drop (off+ys.length)
def my(k:Nat):Nat→aiE D→aiE (aiE D)
 |0,_=>[]
 |n+1,l=>l.take k::my k n (l.drop k)
def np(places:aiE (Nat×Nat)):aiE AV→aiE (Nat×AV)→aiG (aiE AV)
 |cs,[]=>some cs
 |cs,(i,x)::r=>
  match places[i]? with
  |some (off,k)=>bif x.cells.length==k&&cN (off+k) cs.length then np places (gO cs off x.cells) r else none
  |none=>none
def mf:aiE AV→aiG (aiE D)
 |[]=>some []
 |x::r=>match x.w5,mf r with
  |some d,some l=>some (d::l)
  |_,_=>none
def AX(P:aiH)(fs:aiE Field):aiG (aiE (Nat×Nat)):=fs.mapM fun f=>(fO P f.type).map fun k=>(f.offset,k)
def Cr(P:aiH)(f:FuncId):Bool:=
 match P.funcs[f]? with
 |some fn=>fn.body.isSome&& !(fn.name== "runtime.NumGoroutine")
 |none=>false
def bY(P:aiH)(f:FuncId)(args:aiE AV)(h:aiE an)(K:AV→aiE an→Prop):Prop:=
 Cr P f=true∧∀(G:Gh)(w:aiJ)(vs:Array aiI),cw G w h→vs.size=args.length→(∀(i:Nat)(u:aiI)(c:AV),vs[i]?=some u→args[i]?=some c→aL G w u c)→
  Calls P f vs w fun e w'=>∃v G' r h',e= .returned v∧cp G.N G w G' w'∧G.N≤G'.N∧cw G' w' h'∧aL G' w' v r∧K r h'
theorem bY.mono{P:aiH}{f:FuncId}{args:aiE AV}{h:aiE an}{K K':AV→aiE an→Prop}(hc:bY P f args h K)(hk:∀r h',K r h'→K' r h'):bY P f args h K':=
 ⟨hc.1,fun G w vs hi hl hr=>(hc.2 G w vs hi hl hr).mono fun _ _ ⟨v,G',r,h',e,x1,x2,x3,x4,x5⟩=>⟨v,G',r,h',e,x1,x2,x3,x4,hk _ _ x5⟩⟩
def qx(h:aiE an)(p:AV)(K:aiE AV→Nat→Prop):Prop:=
 match p with
 | .ptr n off=>match h[n]? with
   |some (.cells cs)=>K cs off
   |_=>False
 | .bt xs i off=>match xs[i]? with
   |some cs=>K (cs.map .d) off
   |none=>False
 |_=>False
def mH(P:aiH)(t:TypeId)(h:aiE an)(p:AV)(K:AV→Prop):Prop:=
 qx h p fun cs off=>match lr P t,fO P t with
  |some true,some k=>gj (cN (off+k) cs.length) (K (.agg ((cs.drop off).take k)))
  |some false,some _=>match cs[off]? with
   |some c=>K c
   |none=>False
  |_,_=>False
def vB(P:aiH)(t:TypeId)(h:aiE an)(p x:AV)(K:aiE an→Prop):Prop:=
 match p with
 | .ptr n off=>match h[n]? with
   |some (.cells cs)=>match fO P t with
    |some k=>gj (k==x.cells.length&&x.iS&&cN (off+x.cells.length) cs.length) (K (h.set n (.cells (gO cs off x.cells))))
    |none=>False
   |_=>False
 |_=>False
def p5(P:aiH)(T:TypeId)(x i:AV)(K:AV→Prop):Prop:=
 match eE P T with
 |some (_,k)=>
  match x with
  | .row n off len _ k'=>match i.int? with
    |some z=>gj (k'==k) (0≤z∧z<len∧K (.ptr n (off+z.toNat*k)))
    |none=>False
  |_=>match x.fY,i.int? with
   |some xs,some z=>0≤z∧(match xs[z.toNat]? with|some c=>c.length=k∧K (.bt [c] 0 0)|none=>False)
   |_,_=>False
 |none=>match sP P T,x,i.int? with
  |some (n,_,k), .ptr b off,some z=>0≤z∧z<n∧K (.ptr b (off+z.toNat*k))
  |some (n,_,k), .bt xs i off,some z=>gj (k==1) (0≤z∧z<n∧(match xs[i]? with|some c=>(match c[off+z.toNat]? with|some d=>K (.bt [[d]] 0 0)|none=>False)|none=>False))
  |_,_,_=>False
def qD(P:aiH)(T:TypeId)(x:AV)(K:Nat→Prop):Prop:=
 match x with
 | .d (.v (.string s))=>gj (gK P T) (K s.size)
 | .row _ _ len _ _=>gj (eE P T).isSome (K len)
 |x=>match x.fY with
  |some xs=>gj (eE P T).isSome (K xs.length)
  |none=>False
def jn(ρ:Operand→AV)(x:aiG Operand)(afE:Nat)(K:Nat→Prop):Prop:=
 match x with
 |none=>K afE
 |some y=>match (ρ y).int? with
  |some z=>0≤z∧K z.toNat
  |none=>False
def sq(P:aiH)(T:TypeId)(ρ:Operand→AV)(x:AV)(lo hi mx:aiG Operand)(K:AV→Prop):Prop:=
 match mx with
 |none=>
  match x with
  | .d (.v (.string b))=>gj (gK P T) (jn ρ hi b.size fun h=>h≤b.size∧jn ρ lo 0 fun l=>l≤h∧K (.d (.v (.string (b.extract l h)))))
  | .ptr n off=>match sP P T with
    |some (m,_,k)=>gj (cN m 4096) (jn ρ hi m fun h=>gj (cN h m) (jn ρ lo 0 fun l=>gj (cN l h&& !cN m l) (K (.row n (off+l*k) (h-l) (m-l) k))))
    |none=>False
  |x=>match x.fY,eE P T with
   |some xs,some (_,k)=>(∀c∈xs,c.length=k)∧jn ρ hi xs.length fun h=>h≤xs.length∧jn ρ lo 0 fun l=>l≤h∧K (.d (.sl ((xs.take h).drop l)))
   |_,_=>False
 |some m=>match lo,hi with
  |none,some y=>match x.fY,eE P T with
   |some xs,some (_,k)=>(∀c∈xs,c.length=k)∧jn ρ (some m) 0 fun c=>c≤xs.length∧jn ρ (some y) 0 fun h=>h=c∧K (.full (xs.take h))
   |_,_=>False
  |_,_=>False
def s5(h:aiE an)(k:Nat)(x:AV)(K:aiE (aiE D)→Prop):Prop:=
 match x with
 | .row n off len _ k'=>match h[n]? with
   |some (.cells cs)=>match mf ((cs.drop off).take (len*k))with
    |some ds=>gj (k'==k&&cN (off+len*k) cs.length&&((cs.drop off).take (len*k)).all AV.jm) (K (my k len ds))
    |none=>False
   |_=>False
 |x=>match x.fY with
  |some ys=>(∀c∈ys,c.length=k)∧K ys
  |none=>False
def tL(P:aiH)(T:TypeId)(h:aiE an)(x y:AV)(K:AV→aiE an→Prop):Prop:=
 match eE P T with
 |some (e,k)=>match ib P e,ou P e with
  |some z,some dx=>gj (cN 1 k&&z.cells.toList.length==k)<|s5 h k y fun ys=>
   match x with
   | .own n xs=>match h[n]? with
     |some (.front e' k' len)=>gj (e'==e&&k'==k)<|len=xs.length∧(∀c∈xs,c.length=k)∧xs.length+ys.length≤maxLen∧(xs.length+ys.length)*dx≤140737488355328∧K (.own n (xs++ys)) (h.set n (.front e k (xs.length+ys.length)))
     |_=>False
   | .d (.v (.slice none 0 0))=>ys.length≤maxLen∧ys.length*dx≤140737488355328∧K (.own h.length ys) (h++[.front e k ys.length])
   | .full xs=>(∀c∈xs,c.length=k)∧xs.length+ys.length≤maxLen∧(xs.length+ys.length)*dx≤140737488355328∧K (.own h.length (xs++ys)) (h++[.front e k (xs.length+ys.length)])
   |_=>False
  |_,_=>False
 |none=>False
def JC(P:aiH)(T:TypeId):aiG (aiE (Nat×Nat)):=
 match P.underlying T with
 |some (.struct fs)=>AX P fs.toList
 |_=>none
def vR(P:aiH)(T:TypeId)(ps:aiE (Nat×AV))(K:AV→Prop):Prop:=
 match JC P T,ib P T with
 |some places,some z=>match np places (z.cells.toList.map fun u=> .d (.v u)) ps with
  |some cs=>gj ((ps.all fun p=>p.2.iS)&&z.cells.toList.all Value.oneCell') (K (.agg cs))
  |none=>False
 |_,_=>False
def tG(k:Nat):Nat→Nat→aiE (Nat×Nat)
 |_,0=>[]
 |o,n+1=>(o,k)::tG k (o+k) n
def pO:Nat→aiE AV→aiE AV
 |0,_=>[]
 |n+1,l=>l++pO n l
def vE(P:aiH)(T:TypeId)(len:Nat)(ps:aiE (Nat×AV))(K:AV→Prop):Prop:=
 match eE P T with
 |some (e,k)=>match ib P e with
  |some z=>match np (tG k 0 len) (pO len (z.cells.toList.map fun u=> .d (.v u))) ps with
   |some cs=>match mf cs with
    |some ds=>gj (cN 1 k&&cN (len*k) 16777216&&z.cells.toList.length==k&&z.cells.toList.all Value.oneCell'&&(ps.all fun p=>p.2.iS)) (K (.full (my k len ds)))
    |none=>False
   |none=>False
  |none=>False
 |none=>False
def BY(P:aiH)(t:TypeId)(x y:AV):aiG Bool:=
 match x,y with
 | .d (.v (.int k a)), .d (.v (.int k' b))=>bif wx k k'&&(o6 P t).isSome then some (a==b)else none
 | .d (.v (.string a)), .d (.v (.string b))=>bif gK P t then some (bL a==bL b)else none
 | .d (.v (.bool a)), .d (.v (.bool b))=>bif Aj P t then some (a==b)else none
 |_,_=>none
def AB(P:aiH)(sub:TypeId→aiE AV→aiE AV→aiG Bool):aiE Field→aiE AV→aiE AV→aiG Bool
 |[],_,_=>some true
 |f::fs,xs,ys=>bif f.name== "_" then none else
  match lr P f.type with
  |some false=>match xs[f.offset]?,ys[f.offset]? with
   |some x,some y=>match BY P f.type x y,AB P sub fs xs ys with
    |some a,some b=>some (a&&b)
    |_,_=>none
   |_,_=>none
  |some true=>match fO P f.type with
   |some k=>bif cN (f.offset+k) xs.length&&cN (f.offset+k) ys.length then match sub f.type ((xs.drop f.offset).take k) ((ys.drop f.offset).take k),AB P sub fs xs ys with
    |some a,some b=>some (a&&b)
    |_,_=>none
    else none
   |none=>none
  |none=>none
def Hp(P:aiH):Nat→TypeId→aiE AV→aiE AV→aiG Bool
 |0=>fun _ _ _=>none
 |d+1=>fun T xs ys=>match P.underlying T with
  |some (.struct fs)=>bif P.stoodInHeld T then none else AB P (Hp P d) fs.toList xs ys
  |_=>none
def E1(P:aiH)(T:TypeId)(xs ys:aiE AV):aiG Bool:=
 match P.underlying T with
 |some (.struct fs)=>bif P.stoodInHeld T||P.eqGuardType P.depth T then none else AB P (Hp P 4) fs.toList xs ys
 |_=>none
def uQ(op:BinOp)(b:Bool):aiG aiI:=
 match op with
 | .eql=>some (.bool b)
 | .neq=>some (.bool (!b))
 |_=>none
def wq(P:aiH)(T:TypeId)(op:BinOp)(x y:AV)(K:AV→Prop):Prop:=
 match x,y with
 | .d (.v (.int k a)), .d (.v (.int k' b))=>
   match Mb op k a b with
   |some v=>gj (wx k k') (b≠0∧K (.d (.v v)))
   |none=>match L7 op k a b with
    |some v=>0≤b∧K (.d (.v v))
    |none=>match Ni op k a b with
     |some v=>gj (wx k k') (K (.d (.v v)))
     |none=>False
 | .d (.v (.string a)), .d (.v (.string b))=>match Mq op a b with
   |some v=>K (.d (.v v))
   |none=>match op with
    | .add=>a.size+b.size≤maxLen∧K (.d (.v (.string (a++b))))
    |_=>False
 | .d (.v (.bool a)), .d (.v (.bool b))=>match KO op a b with
   |some v=>gj (Aj P T) (K (.d (.v v)))
   |none=>False
 | .agg xs, .agg ys=>match E1 P T xs ys with
   |some b=>match uQ op b with
    |some v=>K (.d (.v v))
    |none=>False
   |none=>False
 |_,_=>False
def xr(op:UnOp)(x:AV)(K:AV→Prop):Prop:=
 match x with
 | .d (.v u)=>match Ge op u with
   |some v=>K (.d (.v v))
   |none=>False
 |_=>False
def xG(P:aiH)(src dst:TypeId)(x:AV)(K:AV→Prop):Prop:=
 match x with
 | .d (.v (.int _ n))=>match o6 P src,o6 P dst with
   |some _,some k=>K (.d (.v (.int k (k.wrap n))))
   |_,_=>False
 | .d (.v (.string b))=>gj (gK P src&&gK P dst) (K (.d (.v (.string b))))
 |x=>match x.fY,eE P src with
  |some xs,some (e,_)=>gj (EI P e&&gK P dst) (∃ns:aiE Int,xs=ns.map (fun n=>[.v (.int .u8 n)])∧K (.d (.v (.string ⟨(ns.map fun n=>UInt8.ofNat n.toNat).toArray⟩))))
  |_,_=>False
def wR(P:aiH)(T:TypeId)(x:AV)(f:Nat)(K:AV→Prop):Prop:=
 match q6 P T f,x with
 |some (off,k,true), .agg cs=>gj (cN (off+k) cs.length) (K (.agg ((cs.drop off).take k)))
 |some (off,_,false), .agg cs=>match cs[off]? with
  |some c=>K c
  |none=>False
 |_,_=>False
def ua(P:aiH)(T:TypeId):aiG (TypeId×TypeId):=
 match P.underlying T with
 |some (.map k e)=>some (k,e)
 |_=>none
inductive Sd
 |no
 |lt (n:Nat)
def Sd.ok:Sd→Prop
 | .no=>True
 | .lt n=>n<maxLen
def ve(TM:Bool)(z:aiI):aiG D→AV
 |some d=>bif TM then .cb [.d d, .d (.v (.bool true))]else .d d
 |none=>bif TM then .cb [.d (.v z), .d (.v (.bool false))]else .d (.v z)
def nt(P:aiH)(op:Op)(ρ:Operand→AV)(h:aiE an):aiG (AV×aiE an×Sd):=
 match op with
 | .makeMap T none=>match ua P T with
   |some _=>some (.mp h.length,h++[.map []], .no)
   |none=>none
 | .lookup T m i ok=>match ua P T with
   |some (k,e)=>match ib P e with
    |some z=>match ρ m,ρ i with
     | .mp n, .d (.v (.string s))=>match h[n]? with
       |some (.map kv)=>bif gK P k&&z.oneCell' then some (ve ok z (kO kv s),h, .no)else none
       |_=>none
     |_,_=>none
    |none=>none
   |none=>none
 | .mapUpdate T m i x=>match ua P T with
   |some (k,_)=>match ρ m,ρ i,(ρ x).w5 with
    | .mp n, .d (.v (.string s)),some d=>match h[n]? with
      |some (.map kv)=>bif gK P k then some (.d (.v undef),h.set n (.map ((s,d)::kv)), .lt kv.length)else none
      |_=>none
    |_,_,_=>none
   |none=>none
 |_=>none
inductive VA
 |no
 |el (c:List AV)
 |st (c:List AV) (cs:List (List AV))
 |mk (cs:List (List AV)) (len m:Nat)
 |ap (cs ys:List (List AV)) (L len:Nat)
 |ix (i:Nat)
 |ol (o len:Nat)
def Kv(P:aiH)(t:TypeId)(c:aiE AV)(j:Nat):aiG AV:=
 match lr P t,fO P t with
 |some true,some k=>bif cN (j+k) c.length then some (.agg ((c.drop j).take k))else none
 |some false,some _=>c[j]?
 |_,_=>none
def aO(xs:aiE (aiE D)):aiE (aiE AV):=xs.map fun c=>c.map AV.d
def z7(h:aiE an)(k:Nat)(y:AV)(ys:aiE (aiE AV)):Prop:=
 (∃xs,y.fY=some xs∧(∀c∈xs,c.length=k)∧ys=aO xs)∨(∃n o len L e cs,y= .vec n o len L k∧h[n]?=some (.vec e k cs)∧cs.length=L∧ys=(cs.drop o).take len∧∀c∈ys,c.all AV.jm=true)
def sT(ρ:Operand→AV)(d:Int):aiG Operand→aiG Int
 |none=>some d
 |some y=>(ρ y).int?
def ij(P:aiH)(op:Op)(ρ:Operand→AV)(h:aiE an)(a:VA):aiG (AV×aiE an×Prop):=
 match op with
 | .indexAddr T x i=>match ρ x,(ρ i).int?,eE P T,a with
   | .vec n o len L k,some z,some (_,k'), .ix i'=>match h[n]? with
     |some (.vec _ k2 cs)=>bif k'==k&&k2==k then some (.dw n i' 0 L k,h,cs.length=L∧0≤z∧z<len∧i'=o+z.toNat)else none
     |_=>none
   |_,_,_,_=>none
 | .fieldAddr S x f=>match ρ x,q6 P S f with
   | .dw n i j L k,some (fo,_,_)=>some (.dw n i (j+fo) L k,h,True)
   |_,_=>none
 | .nilCheck x=>match ρ x with
   | .dw n i j L k=>some (.dw n i j L k,h,True)
   |_=>none
 | .load t p=>match ρ p,a with
   | .dw n i j L k, .el c=>match h[n]?,Kv P t c j with
     |some (.vec _ k' cs),some x=>bif k'==k then some (x,h,cs.length=L∧cs[i]?=some c)else none
     |_,_=>none
   |_,_=>none
 | .store t p x=>match ρ p,a with
   | .dw n i j L k, .st c cB=>match h[n]?,fO P t with
     |some (.vec e k' cs),some q=>bif k'==k&&q==(ρ x).cells.length&&(ρ x).iS&&cN (j+(ρ x).cells.length) k&&cN 1 k then some (.d (.v undef),h.set n (.vec e k cB),cs.length=L∧cs[i]?=some c∧cB=cs.set i (gO c j (ρ x).cells))else none
     |_,_=>none
   |_,_=>none
 | .slice T x lo hi none=>match ρ x,eE P T,a with
   | .vec n o len L k,some (_,k'), .ol o' gu=>match sT ρ 0 lo,sT ρ len hi with
     |some l,some u=>match h[n]? with
      |some (.vec _ k2 cs)=>bif k'==k&&k2==k then some (.vec n o' gu L k,h,cs.length=L∧0≤l∧l≤u∧u≤(L:Int)-o∧o'=o+l.toNat∧gu=u.toNat-l.toNat)else none
      |_=>none
     |_,_=>none
   |_,_,_=>none
 | .makeSlice T l c=>match eE P T,(ρ l).int?,(ρ c).int?,a with
   |some (e,k),some l,some c, .mk cs len m=>match ib P e,ou P e with
    |some z,some dx=>bif cN 1 k&&z.cells.toList.length==k&&z.cells.toList.all Value.oneCell' then some (.vec h.length 0 len m k,h++[.vec e k cs],0≤l∧l≤c∧l.toNat=len∧c.toNat=m∧cs=List.replicate m (z.cells.toList.map fun u=> .d (.v u))∧m≤maxLen∧dx*m≤281474976710656)else none
    |_,_=>none
   |_,_,_,_=>none
 | .call c=>match c.callee with
   | .builtin .len=>match c.args.toList,c.argTypes.toList with
     |[x],[T]=>match ρ x with
      | .vec n _ len L k=>match h[n]? with
        |some (.vec _ k2 cs)=>bif (eE P T).isSome&&k2==k then some (.d (.v (.int .i64 len)),h,cs.length=L)else none
        |_=>none
      |_=>none
     |_,_=>none
   | .builtin .append=>match c.args.toList,c.argTypes.toList with
     |[x,y],[T,U]=>match eE P T,eE P U,a with
      |some (e,k),some _, .ap cB ys L' gu=>match ib P e,ou P e with
       |some z,some dx=>bif cN 1 k&&z.cells.toList.length==k then
        match ρ x with
        | .vec n o len L k1=>match h[n]? with
          |some (.vec e1 k2 cs)=>bif k1==k&&k2==k&&e1==e then some (.vec n o gu L' k,h.set n (.vec e k cB),cs.length=L∧z7 h k (ρ y) ys∧gu=len+ys.length∧
           ((o+len+ys.length≤L∧L'=L∧cB=cs.take (o+len)++ys++cs.drop (o+len+ys.length))∨(o=0∧len=L∧L'=L+ys.length∧cB=cs++ys∧L'≤maxLen∧L'*dx≤140737488355328)))else none
          |_=>none
        | .d (.v (.slice none 0 0))=>some (.vec h.length 0 gu L' k,h++[.vec e k cB],z7 h k (ρ y) ys∧cB=ys∧gu=ys.length∧L'=ys.length∧L'≤maxLen∧L'*dx≤140737488355328)
        | .full xs=>some (.vec h.length 0 gu L' k,h++[.vec e k cB],xs=[]∧z7 h k (ρ y) ys∧cB=ys∧gu=ys.length∧L'=ys.length∧L'≤maxLen∧L'*dx≤140737488355328)
        |_=>none
       else none
       |_,_=>none
      |_,_,_=>none
     |_,_=>none
   |_=>none
 |_=>none
def GB(mx:Bool)(k:IntKind):Int→aiE AV→aiG (IntKind×Int)
 |a,[]=>some (k,a)
 |a, .d (.v (.int _ b))::l=>GB mx k (bif mx then(if b>a then b else a)else(if b<a then b else a)) l
 |_,_=>none
def AJ(mx:Bool):aiE AV→aiG (IntKind×Int)
 | .d (.v (.int k a))::l=>GB mx k a l
 |_=>none
def dc(P:aiH)(o:Oper)(ρ:Operand→AV)(h:aiE an)(C:AV→aiE an→Prop):Prop:=
 match o.op with
 | .move x| .assign x=>C (ρ x) h
 | .pick c a b=>match ρ c with
   | .d (.v (.bool t))=>(t=true→C (ρ a) h)∧(t=false→C (ρ b) h)
   |_=>False
 | .alloc e=>match ib P e with
   |some z=>C (.ptr h.length 0) (h++[an.cells (z.cells.toList.map fun u=> .d (.v u))])
   |none=>False
 | .box _ x=>gj (ρ x).iS<|C (.ptr h.length 0) (h++[an.cells (ρ x).cells])
 | .load t a=>mH P t h (ρ a) fun x=>C x h
 | .store t a x=>vB P t h (ρ a) (ρ x) fun h'=>C (.d (.v undef)) h'
 | .nilCheck x=>match ρ x with
   | .ptr n off=>C (.ptr n off) h
   | .bt xs i off=>C (.bt xs i off) h
   | .fn f cs=>C (.fn f cs) h
   |_=>False
 | .fieldAddr S x f=>match q6 P S f with
   |some (fo,_,_)=>match ρ x with
    | .ptr n off=>C (.ptr n (off+fo)) h
    | .bt xs i off=>C (.bt xs i (off+fo)) h
    |_=>False
   |none=>False
 | .field T x f=>wR P T (ρ x) f fun y=>C y h
 | .indexAddr T x i=>p5 P T (ρ x) (ρ i) fun y=>C y h
 | .index T x i=>match ρ x,(ρ i).int? with
   | .d (.v (.string b)),some z=>gj (gK P T) (0≤z∧(match b[z.toNat]? with|some c=>C (.d (.v (.int .u8 c.toNat))) h|none=>False))
   |_,_=>False
 | .build T ps=>vR P T (ps.toList.map fun p=>(p.1,ρ p.2)) fun y=>C y h
 | .buildSlice T len ps=>vE P T len (ps.toList.map fun p=>(p.1,ρ p.2)) fun y=>C y h
 | .slice T x lo hi mx=>sq P T ρ (ρ x) lo hi mx fun y=>C y h
 | .extract x i=>match ρ x with
   | .cb cs=>match cs[i]? with
     |some c=>C c h
     |none=>False
   |_=>False
 | .makeFunc (.func f) first dO=>match first.toList with
   |[]=>C (.fn f (dO.toList.map ρ)) h
   |_=>False
 | .binOp op T x y _=>wq P T op (ρ x) (ρ y) fun v=>C v h
 | .unOp op _ x=>xr op (ρ x) fun v=>C v h
 | .convert a b x=>xG P a b (ρ x) fun v=>C v h
 | .call c=>match c.callee with
   | .builtin .len=>match c.args.toList,c.argTypes.toList with
     |[x],[T]=>qD P T (ρ x) fun n=>C (.d (.v (.int .i64 n))) h
     |_,_=>False
   | .builtin .append=>match c.args.toList,c.argTypes.toList with
     |[x,y],[T,U]=>gj (eE P U).isSome<|tL P T h (ρ x) (ρ y) fun v h'=>C v h'
     |_,_=>False
   | .builtin .max=>match AJ true (c.args.toList.map ρ)with
     |some (k,a)=>C (.d (.v (.int k a))) h
     |none=>False
   | .builtin .min=>match AJ false (c.args.toList.map ρ)with
     |some (k,a)=>C (.d (.v (.int k a))) h
     |none=>False
   | .value f=>match ρ f with
     | .fn g dO=>bY P g (c.args.toList.map ρ++dO) h fun r h'=>C r h'
     | .hid q=>∃g cs,q= .fn g cs∧bY P g (c.args.toList.map ρ++cs.map gV.av) h fun r h'=>C r h'
     |_=>False
   |_=>False
 |op=>match nt P op ρ h with
  |some (x,h',p)=>p.ok∧C x h'
  |none=>False
def B4(P:aiH)(o:Oper)(K:St→Prop)(s:St):Prop:=
 match o.op with
 | .binOp op T x y _=>match (ev s x).fY,ev s y,eE P T,uQ op true,uQ op false with
   |some xs, .d (.v (.slice none 0 0)),some _,some v1,some v2=>(xs=[]→K (s.put o.dst (.d (.v v1))))∧K (s.put o.dst (.d (.v v2)))
   |_,_,_,_,_=>False
 |_=>False
def FM(P:aiH)(o:Oper)(K:St→Prop)(s:St):Prop:=∃a x h' p,ij P o.op (ev s) s.h a=some (x,h',p)∧p∧K ((s.wh h').put o.dst x)
def po(P:aiH)(o:Oper)(K:St→Prop)(s:St):Prop:=dc P o (ev s) s.h fun x h=>K ((s.wh h).put o.dst x)
def agV(P:aiH)(o:Oper)(K:St→Prop)(s:St):Prop:=FM P o K s∨B4 P o K s∨po P o K s
theorem kJ(b o n:Nat):(⟨b,o,none⟩:Addr).add n=⟨b,o+n,none⟩:=by unfold Addr.add;split<;>simp_all
structure dk(G:Gh)(w:World)(a:Act)(s:St):Prop where
 size:a.tmps.size=s.n
 tmp:∀i,aL G w (a.tmps.getD i undef) (bH s.t i)
 inv:cw G w s.h
 df:pJ G w a.defers
theorem ny.av{G:Gh}{w:aiJ}{u:aiI}{c:gV}(h:ny G.S w u c):aL G w u c.av:=by
 cases h with
 |d h=>exact .d h
 |bt c off b o u h1 h2=>exact .bt [c] 0 off b o u c rfl h1 h2
 |fn f vs cs hl h=>exact .hid (.fn f vs cs hl h) rfl
theorem aL.jm{G:Gh}{w:aiJ}{u:aiI}{x:AV}(h:aL G w u x)(hb:x.jm=true):u.oneCell'=true:=by
 cases h with
 |d hp=>cases hp with
  |v u=>exact hb
  |sl=>rfl
 |agg=>simp [AV.jm]at hb
 |cb=>simp [AV.jm]at hb
 |own n xs _ hp=>cases hp;rfl
 |vec n o len L k _ hs=>obtain⟨A,l,c,rfl⟩:=hs;rfl
 |dw n i j L k _ hs=>obtain⟨b,q,rfl⟩:=hs;rfl
 |full xs hp=>cases hp;rfl
 |hid h h1=>exact h1
 |dead=>simp [AV.jm]at hb
 |_=>rfl
theorem aL.cells{G:Gh}{w:aiJ}{u:aiI}{x:AV}(h:aL G w u x)(hb:x.iS=true):
 u.cells.size=x.cells.length∧∀(i:Nat)(v:aiI)(c:AV),u.cells[i]?=some v→x.cells[i]?=some c→aL G w v c∧v.oneCell'=true:=by
 have one:x.jm=true→x.cells=[x]→u.cells.size=x.cells.length∧∀(i:Nat)(v:aiI)(c:AV),u.cells[i]?=some v→x.cells[i]?=some c→aL G w v c∧v.oneCell'=true:=by
  intro hc hx;have ho:=h.jm hc;have hu:u.cells= #[u]:=by cases u<;>simp_all [Value.cells,Value.oneCell']
  rw[hu,hx];refine⟨rfl,fun i v c h1 h2=> ?_⟩
  match i with
  |0=>simp at h1 h2;subst h1;subst h2;exact⟨h,ho⟩
  |i+1=>simp at h2
 cases x with
 |agg cs=>
  cases h with
  |agg vs cs hl hr=>
   refine⟨hl,fun i v c h1 h2=> ?_⟩;have hv:=hr i v c h1 h2;refine⟨hv,hv.jm ?_⟩;simp only[AV.iS,aif]at hb;exact hb c (ah2 h2)
 |cb cs=>simp [AV.iS,AV.jm]at hb
 |dead=>simp [AV.iS,AV.jm]at hb
 |_=>exact one hb rfl
theorem cw.lt{G:Gh}{w:aiJ}{h:aiE an}(hi:cw G w h){n:Nat}{B:an}(hb:h[n]?=some B):n<G.N:=by
 rw[←hi.len];exact(ahP.1 hb).1
theorem cw.iL{G:Gh}{w:aiJ}{h:aiE an}(hi:cw G w h){n b:Nat}(hb:cA h G n=some b):b<w.heap.size:=by
 obtain⟨B,hB,hb⟩:=kQ hb;have hr:=hi.dz n B hB;cases B with
 |gone=>cases hb
 |cells cs=>
  obtain⟨_,_,vs,T,hh,_⟩:=hr;cases hb
  exact(ah4.1 hh).1
 |lp ls p as bd cs=>
  obtain⟨_,_,fn,vs,T,hh,_⟩:=hr;cases hb
  exact(ah4.1 hh).1
 |it sn cs=>
  obtain⟨_,_,fn,vs,T,hh,_⟩:=hr;cases hb
  exact(ah4.1 hh).1
 |map kv=>
  obtain⟨_,_,es,c,hh,_⟩:=hr;cases hb
  exact(ah4.1 hh).1
 |front e k len=>
  have hb:G.ow n=some b:=hb;obtain⟨_,_,h1|⟨g,cap,cur,h1,_,_,hh,_⟩⟩:=hr
  ·rw[h1.1]at hb;cases hb
  ·rw[h1]at hb;cases hb;exact(ah4.1 hh).1
 |vec e k cs=>
  have hb:G.ow n=some b:=hb;obtain⟨_,_,_,h1|⟨g,cap,cur,h1,_,_,hh,_⟩⟩:=hr
  ·rw[h1.1]at hb;cases hb
  ·rw[h1]at hb;cases hb;exact(ah4.1 hh).1
theorem eF.lz{G:Gh}{w:aiJ}{n b:Nat}{B:an}(hr:eF G w n B)(hb:B.eo G n=some b):¬G.Z b:=by
 cases B with
 |gone=>cases hb
 |cells cs=>cases hb;exact hr.1
 |lp ls p as bd cs=>cases hb;exact hr.1
 |it sn cs=>cases hb;exact hr.1
 |map kv=>cases hb;exact hr.1
 |front e k len=>
  have hb:G.ow n=some b:=hb;obtain⟨_,_,h1|⟨g,cap,cur,h1,_,hz,_⟩⟩:=hr
  ·rw[h1.1]at hb;cases hb
  ·rw[h1]at hb;cases hb;exact hz
 |vec e k cs=>
  have hb:G.ow n=some b:=hb;obtain⟨_,_,_,h1|⟨g,cap,cur,h1,_,hz,_⟩⟩:=hr
  ·rw[h1.1]at hb;cases hb
  ·rw[h1]at hb;cases hb;exact hz
theorem vZ.bq{S S':Nat→Nat→Prop}{w w':aiJ}{es:Array MapEntry}{c:Nat}{kv:aiE (aiF×D)}(h:vZ S w es c kv)(hS:∀b o,S b o→S' b o)(hc:∀b o,S b o→w'.cell? ⟨b,o,none⟩=w.cell? ⟨b,o,none⟩):vZ S' w' es c kv:=
 ⟨h.size,h.stamped,fun e he=>let ⟨s,d,h1,h2,h3⟩:=h.zn e he;⟨s,d,h1,h2,h3.bq hS hc⟩,h.all,h.len,h.born,h.GX⟩
theorem eF.bq{G G':Gh}{w w':aiJ}{n:Nat}(hn:n<G.N)(hE:cp G.N G w G' w')(hN:G.N≤G'.N){B:an}
 (hg:G'.fl n=G.fl n∧G'.sg n=G.sg n∧G'.ow n=G.ow n)
 (ho:∀b,B.eo G n=some b→w'.heap[b]?=w.heap[b]?∧∀o,¬G.S b o→¬G'.S b o)
 (h:eF G w n B):eF G' w' n B:=by
 obtain⟨f1,f2,f3⟩:=hg;cases B with
 |gone=>trivial
 |cells cs=>
  obtain⟨h1,h2,vs,T,h3,h4,h5⟩:=h;obtain⟨c2,c1⟩:=ho _ rfl;refine⟨by rw[hE.bA n hn];exact hE.lz (ah4.1 h3).1 h1,by rw[hE.bA n hn];exact fun o=>c1 o (h2 o),vs,T,by rw[hE.bA n hn,c2];exact h3,h4,fun i u c hu hc=>(h5 i u c hu hc).bq hE hN⟩
 |lp ls p as bd cs=>
  obtain⟨h1,h2,fn,vs,T,h3,h4,h5⟩:=h;obtain⟨c2,c1⟩:=ho _ rfl;refine⟨by rw[hE.bA n hn];exact hE.lz (ah4.1 h3).1 h1,by rw[hE.bA n hn];exact fun o=>c1 o (h2 o),fn,vs,T,by rw[hE.bA n hn,c2];exact h3,h4,fun i u c hu hc=>(h5 i u c hu hc).bq hE hN⟩
 |it sn cs=>
  obtain⟨h1,h2,fn,vs,T,h3,h4,h5⟩:=h;obtain⟨c2,c1⟩:=ho _ rfl;refine⟨by rw[hE.bA n hn];exact hE.lz (ah4.1 h3).1 h1,by rw[hE.bA n hn];exact fun o=>c1 o (h2 o),fn,vs,T,by rw[hE.bA n hn,c2];exact h3,h4,fun i u c hu hc=>(h5 i u c hu hc).bq hE hN⟩
 |map kv=>
  obtain⟨h1,h2,es,c,h3,h4⟩:=h;obtain⟨c2,c1⟩:=ho _ rfl;exact⟨by rw[hE.bA n hn];exact hE.lz (ah4.1 h3).1 h1,by rw[hE.bA n hn];exact fun o=>c1 o (h2 o),es,c,by rw[hE.bA n hn,c2];exact h3,h4.bq hE.S hE.cell⟩
 |front e k len=>
  obtain⟨h1,hm,h2⟩:=h;refine⟨f1.trans h1,hm,?_⟩;rcases h2 with⟨h2,A,h3⟩|⟨g,cap,cur,h2,h3,h4,h5,h6,h7,h8,h9⟩
  ·exact .inl ⟨f3.trans h2,A,f2.trans h3⟩
  ·obtain⟨f5,f6⟩:=ho g h2;exact .inr ⟨g,cap,cur,f3.trans h2,f2.trans h3,hE.lz (ah4.1 h5).1 h4,f5.trans h5,h6,h7,h8,fun o ho=>f6 o (h9 o ho)⟩
 |vec e k cs=>
  obtain⟨h1,hm,hk,h2⟩:=h;refine⟨f1.trans h1,hm,hk,?_⟩;rcases h2 with⟨h2,e2,A,h3⟩|⟨g,cap,cur,h2,h3,h4,h5,h6,h7,h8,h9,aA⟩
  ·exact .inl ⟨f3.trans h2,e2,A,f2.trans h3⟩
  ·obtain⟨f5,f6⟩:=ho g h2;exact .inr ⟨g,cap,cur,f3.trans h2,f2.trans h3,hE.lz (ah4.1 h5).1 h4,f5.trans h5,h6,h7,h8,fun o=>f6 o (h9 o),fun i j c x u hc hx hu=>(aA i j c x u hc hx hu).bq hE hN⟩
theorem dk.put{G:Gh}{w:aiJ}{a:Act}{s:St}(h:dk G w a s){v:aiI}{x:AV}(hv:aL G w v x)(dst:aiG Nat):dk G w (a.put dst v) (s.put dst x):=by
 cases dst with
 |none=>exact h
 |some d=>
  by_cases hd:d<s.n
  ·have e1:s.put (some d) x={s with t:=(d,x)::s.t}:=oH hd x;rw[e1];refine⟨by simp [Act.put,h.size],fun i=> ?_,h.inv,h.df⟩;by_cases hi:i=d
   ·subst hi;have:(a.tmps.setIfInBounds i v).getD i undef=v:=by simp [Array.getD,h.size,hd]
    simp only[Act.put,this,lu,if_true];exact hv
   ·have:(a.tmps.setIfInBounds d v).getD i undef=a.tmps.getD i undef:=by simp [Array.getElem?_setIfInBounds_ne (Ne.symm hi)]
    simp only[Act.put,this,lu,if_neg hi];exact h.tmp i
  ·have e1:s.put (some d) x=s:=Ei hd x;have e2:a.put (some d) v=a:=by
    have:a.tmps.setIfInBounds d v=a.tmps:=Array.setIfInBounds_eq_of_size_le (by rw[h.size];omega);simp [Act.put,this]
   rw[e1,e2];exact h
theorem dk.move{G G':Gh}{w w':aiJ}{a:Act}{s:St}(h:dk G w a s)(hE:cp G.N G w G' w')(hN:G.N≤G'.N){h':aiE an}(hi:cw G' w' h'):dk G' w' a {s with h:=h'}:=
 ⟨h.size,fun i=>(h.tmp i).bq hE hN,hi,h.df.bq hE⟩
theorem dk.ev{G:Gh}{w:aiJ}{a:Act}{s:St}(h:dk G w a s)(x:Operand):aL G w (a.eval x) (ev s x):=by
 cases x with
 |tmp t=>exact h.tmp t
 |const v=>
  show aL G w v (Mz v);unfold Mz;split
  ·rename_i vs
   exact .agg vs _ (by simp) fun i u c hu hc=>by
    simp only[ahW,aic,hu,Option.map_some,Option.some.injEq]at hc;subst hc;exact .d (.v u)
  ·rename_i vs
   exact .cb vs _ (by simp) fun i u c hu hc=>by
    simp only[ahW,aic,hu,Option.map_some,Option.some.injEq]at hc;subst hc;exact .d (.v u)
  ·exact .d (.v v)
 |global g=>
  show aL G w (.pointer (some ⟨g,0,none⟩)) (match Ab yg g with|some l=> .bt [l.map .v] 0 0|none=> .dead);split
  ·next l hl=>
   have hg:=h.inv.gl.1 g l (Qk hl);have:=aL.bt (G:=G) (w:=w) [l.map .v] 0 0 g 0 (fun j=>l.getD j undef) (l.map .v) rfl (fun j hj=> ?_) (fun j d hd=> ?_)
   ·exact this
   ·rw[ahU]at hj;have e:l[j]?=some l[j]:=ahT hj;rw[ah9];refine⟨(hg j _ e).1,?_⟩;rw[(hg j _ e).2];simp [hj]
   ·rw[ahW]at hd;cases e:l[j]? with
    |none=>rw[e]at hd;cases hd
    |some v=>
     rw[e]at hd;cases hd
     have:l.getD j undef=v:=by simp [List.getD,e]
     rw[this];exact .v v
  ·exact .dead _
 |func f=>exact .fn f #[] [] rfl fun i u c hu=>by simp at hu
def Gh.ep(G:Gh)(b:Nat):Gh:={G with N:=G.N+1,bA:=fun n=>if n=G.N then b else G.bA n}
theorem Dc(G:Gh)(w:aiJ)(hz:∀b,G.Z b→b<w.heap.size)(hS:∀b o,G.S b o→b<w.heap.size)(o:Obj):cp G.N G w (G.ep w.heap.size) (w.alloc o):=
 ⟨by simp,fun _ _ h=>h,fun b _ h=>World.cell?_alloc_lt _ _ _ (hS _ _ h),fun n hn=>by simp [Gh.ep,Nat.ne_of_lt hn],fun _ _=> .inl ⟨rfl,rfl⟩,gB rfl,
  fun b hb=>Below.heap_alloc w o b (hz b hb),rfl,rfl,rfl,fun _ _ h=> .inl h⟩
theorem R5{G:Gh}{w:aiJ}{h:aiE an}(hi:cw G w h)(vs:Array aiI)(T:TypeId)(cs:aiE AV)(hl:vs.size=cs.length)
 (hr:∀(i:Nat)(u:aiI)(c:AV),vs[i]?=some u→cs[i]?=some c→aL G w u c):
 cw (G.ep w.heap.size) (w.alloc (.cells vs T)) (h++[.cells cs])∧aL (G.ep w.heap.size) (w.alloc (.cells vs T)) (.pointer (some ⟨w.heap.size,0,none⟩)) (.ptr h.length 0):=by
 have hE:=Dc G w hi.z hi.S (.cells vs T);have hN:G.N≤(G.ep w.heap.size).N:=Nat.le_succ _;have jd:(G.ep w.heap.size).bA h.length=w.heap.size:=by simp [Gh.ep,hi.len]
 have mw:∀n(B:an),n<G.N→B.eo (G.ep w.heap.size) n=B.eo G n:=fun n B hn=>by
  cases B<;>simp [an.eo,Gh.ep,Nat.ne_of_lt hn]
 have fX:∀n,n<G.N→cA (h++[.cells cs]) (G.ep w.heap.size) n=cA h G n:=fun n hn=>by
  have aZ:n<h.length:=by rw[hi.len];exact hn
  unfold cA;rw[ahZ aZ,ahT aZ];exact mw n _ hn
 have Co:cA (h++[.cells cs]) (G.ep w.heap.size) h.length=some w.heap.size:=by
  rw[dV (B:= .cells cs) (by simp)];exact congrArg some jd
 refine⟨⟨by simp [Gh.ep,hi.len],fun b hb=>aid (hi.z b hb) hE.size,fun b o hs=>aid (hi.S b o hs) hE.size,fun n B hB=> ?_,fun m n b hm hn=> ?_,hi.gl.bq hE⟩,?_⟩
 ·by_cases hn:n<h.length
  ·rw[ahZ hn]at hB;have fJ:n<G.N:=hi.len▸hn;exact eF.bq fJ hE hN ⟨rfl,rfl,rfl⟩ (fun b hb=>⟨Below.heap_alloc w _ _ (hi.iL (n:=n) ((dV hB).trans hb)),fun o h=>h⟩) (hi.dz n B hB)
  ·have mj:n=h.length:=by
    have:=(ahP.1 hB).1;simp at this;omega
   subst mj;simp at hB;subst hB;exact⟨by rw[jd];exact fun hz=>aiu _ (hi.z _ hz),fun o hs=>by rw[jd]at hs;exact aiu _ (hi.S _ _ hs),vs,T,by rw[jd];exact World.alloc_heap_new w _,hl,fun i u c hu hc=>(hr i u c hu hc).bq hE hN⟩
 ·have key:∀n b,cA (h++[.cells cs]) (G.ep w.heap.size) n=some b→(n<G.N∧cA h G n=some b)∨(n=h.length∧b=w.heap.size):=fun n b hn=>by
   by_cases aZ:n<G.N
   ·exact .inl ⟨aZ,by rw[←fX n aZ];exact hn⟩
   ·by_cases e:n=h.length
    ·subst e;rw[Co]at hn;cases hn;exact .inr ⟨rfl,rfl⟩
    ·rw[zP (aim (by simp;have:=hi.len;omega))]at hn;cases hn
  rcases key m b hm with⟨_,kW⟩|⟨rfl,rfl⟩<;>rcases key n _ hn with⟨_,fJ⟩|⟨rfl,hb⟩
  ·exact hi.inj m n b kW fJ
  ·have:=hi.iL kW;omega
  ·have:=hi.iL fJ;omega
  ·rfl
 ·have:=aL.ptr (G:=G.ep w.heap.size) (w:=w.alloc (.cells vs T)) h.length 0 (by simp [Gh.ep,hi.len])
  rwa [jd]at this
theorem IC(w:aiJ)(g:Nat)(cs:Array aiI):(w.setRow g cs).heap.size=w.heap.size:=by simp [World.setRow]
theorem adv(w:aiJ)(g:Nat)(cs:Array aiI)(b o:Nat)(h:b≠g):(w.setRow g cs).cell? ⟨b,o,none⟩=w.cell? ⟨b,o,none⟩:=World.cell?_of_block (setRow_other w g b cs h)
theorem agr{G:Gh}{w:aiJ}{g:Nat}(cs:Array aiI)(hg:¬G.Z g)(hS:∀b o,G.S b o→(w.setRow g cs).cell? ⟨b,o,none⟩=w.cell? ⟨b,o,none⟩):cp G.N G w G (w.setRow g cs):=
 ⟨by rw[IC];exact ah0 _,fun _ _ h=>h,hS,fun _ _=>rfl,fun _ _=> .inl ⟨rfl,rfl⟩,gB rfl,fun b hb=>setRow_other w g b cs (fun e=>hg (e▸hb)),rfl,rfl,rfl,fun _ _ h=> .inl h⟩
theorem BE(cs ys:aiE AV)(off:Nat)(h:off+ys.length≤cs.length):(gO cs off ys).length=cs.length:=by
 simp [gO];omega
theorem Xr{R:aiI→AV→Prop}(vs us:Array aiI)(cs ys:aiE AV)(off:Nat)(hl:vs.size=cs.length)(hu:us.size=ys.length)(hb:off+ys.length≤cs.length)
 (hr:∀(i:Nat)(u:aiI)(c:AV),vs[i]?=some u→cs[i]?=some c→R u c) (nW:∀(i:Nat)(u:aiI)(c:AV),us[i]?=some u→ys[i]?=some c→R u c):
 ∀(i:Nat)(u:aiI)(c:AV),(vs.toList.take off++us.toList++vs.toList.drop (off+us.toList.length)).toArray[i]?=some u→(gO cs off ys)[i]?=some c→R u c:=by
 intro i u c h1 h2;have mD:us.toList.length=ys.length:=by rw[ain,hu]
 rw[mD]at h1;rw[List.getElem?_toArray]at h1;unfold gO at h2;simp only[ah6]at h1 h2;have x9:vs.toList.length=cs.length:=by rw[ain,hl]
 by_cases h:i<off
 ·rw[ahZ (by simp;omega),List.getElem?_take_of_lt h]at h1;rw[ahZ (by simp;omega),List.getElem?_take_of_lt h]at h2;exact hr i u c (by rw[←aic];exact h1) h2
 ·rw[ah5 (by simp;omega)]at h1 h2;simp only[List.length_take,x9]at h1 h2;rw[Nat.min_eq_left (by omega)]at h1 h2;by_cases h':i-off<ys.length
  ·rw[ahZ (by rw[mD];exact h')]at h1;rw[ahZ h']at h2;exact nW (i-off) u c (by rw[←aic];exact h1) h2
  ·rw[ah5 (by rw[mD];omega),List.getElem?_drop]at h1;rw[ah5 (by omega),List.getElem?_drop]at h2;rw[mD]at h1;rw[show off+ys.length+(i-off-ys.length)=i by omega]at h1 h2;exact hr i u c (by rw[←aic];exact h1) h2
theorem ad0{P:aiH}{G:Gh}{w:aiJ}{h:aiE an}(hi:cw G w h){n off:Nat}{cs:aiE AV}(hn:h[n]?=some (.cells cs)){t:TypeId}{v:aiI}{x:AV}
 (hv:aL G w v x) (hb:x.iS=true) (ht:fO P t=some x.cells.length) (ho:off+x.cells.length≤cs.length):
 ∃w',(storeVar t ⟨G.bA n,off,none⟩ v).run P w= .ok () w'∧cp G.N G w G w'∧cw G w' (h.set n (.cells (gO cs off x.cells))):=by
 obtain⟨hz,hS,vs,T,hh,hl,hr⟩:=hi.dz n _ hn;obtain⟨y9,PF⟩:=hv.cells hb;obtain⟨i,iH,jO⟩:∃i,P.info? t=some i∧i.size=x.cells.length:=by
  unfold fO at ht;cases hq:P.info? t with
  |none=>rw[hq]at ht;cases ht
  |some i=>rw[hq]at ht;exact⟨i,rfl,by simpa using ht⟩
 have jz:=run_storeCells_at P (G.bA n) off T v.cells.toList 0 vs w hh (by rw[ain,y9,hl];simpa using ho) (fun u hu=>by
  obtain⟨j,hj⟩:=List.mem_iff_getElem?.1 hu;have iF:v.cells[j]?=some u:=by rw[←aic];exact hj
  have rX:j<x.cells.length:=by rw[←y9];exact(ah4.1 iF).1
  exact(PF j u _ iF (ahT rX)).2)
 simp only[Nat.add_zero]at jz;obtain⟨w',eR⟩:∃w',w'=w.setRow (G.bA n) (vs.toList.take off++v.cells.toList++vs.toList.drop (off+v.cells.toList.length)).toArray:=⟨_,rfl⟩;rw[←eR]at jz;have hE:cp G.N G w G w':=by
  rw[eR];exact agr _ hz fun b o hs=>adv w _ _ b o (fun e=>hS o (e▸hs))
 have ff:∀m,m≠n→(h.set n (.cells (gO cs off x.cells)))[m]?=h[m]?:=fun m hm=>by rw[aio (Ne.symm hm)]
 have lg:(h.set n (.cells (gO cs off x.cells)))[n]?=some (.cells (gO cs off x.cells)):=by
  rw[aij (ahP.1 hn).1]
 have eg:∀m,cA (h.set n (.cells (gO cs off x.cells))) G m=cA h G m:=fun m=>by
  by_cases e:m=n
  ·subst e;rw[dV lg,dV hn];rfl
  ·unfold cA;rw[ff m e]
 have lV:cA h G n=some (G.bA n):=dV hn;refine⟨w',?_,hE,⟨by rw[List.length_set];exact hi.len,fun b hb=>aid (hi.z b hb) hE.size,fun b o hs=>aid (hi.S b o hs) hE.size,fun m B hB=> ?_,fun m m' b h1 h2=>hi.inj m m' b (by rw[←eg];exact h1) (by rw[←eg];exact h2),hi.gl.bq hE⟩⟩
 ·unfold storeVar;simp only[sizeOf,typeInfo,Sem.run_bind,y9];simp [iH,jO,jz]
 ·by_cases e:m=n
  ·subst e;rw[lg]at hB;cases hB
   refine⟨hz,hS,_,T,by rw[eR];exact setRow_heap w _ vs _ T _ hh,?_,fun i u c hu hc=> ?_⟩
   ·rw[BE _ _ _ ho];have:v.cells.toList.length=x.cells.length:=by rw[ain];exact y9
    simp only[List.size_toArray,ahQ,List.length_take,List.length_drop,ain,hl,y9];omega
   ·exact(Xr (R:=aL G w) vs v.cells cs x.cells off hl y9 ho hr (fun i u c h1 h2=>(PF i u c h1 h2).1) i u c hu hc).bq hE (ah0 _)
  ·rw[ff m e]at hB;have dj:∀b,cA h G m=some b→b≠G.bA n:=fun b hb eb=>e (hi.inj m n b hb (by rw[eb];exact lV));refine eF.bq (hi.lt hB) hE (ah0 _) ⟨rfl,rfl,rfl⟩ (fun b hb=>⟨?_,fun o h=>h⟩) (hi.dz m B hB);rw[eR];exact setRow_other w _ _ _ (dj _ ((dV hB).trans hb))
theorem dG.nR{S:Nat→Nat→Prop}{w:aiJ}{v:aiI}{xs:aiE (aiE D)}(h:dG S w v (.sl xs)):
 ∃(A:aiG Addr)(b o c k:Nat)(u:Nat→Nat→aiI),v= .slice A xs.length c∧(xs≠ []→A=some ⟨b,o,none⟩)∧xs.length≤c∧c≤maxLen∧(∀x∈xs,x.length=k)∧
  (∀i j,i<xs.length→j<k→S b (o+i*k+j)∧w.cell? ⟨b,o+i*k+j,none⟩=some (u i j)∧(u i j).oneCell'=true)∧
  (∀(i j:Nat)(x:aiE D)(d:D),xs[i]?=some x→x[j]?=some d→dG S w (u i j) d):=by
 cases h with
 |sl A b o c k xs u hA hc hm hk hS hu=>exact⟨A,b,o,c,k,u,rfl,hA,hc,hm,hk,hS,hu⟩
structure Rd(S:Nat→Nat→Prop)(w:World)(k:Nat)(xs:List (List D))(us:List Value):Prop where
 len:us.length=xs.length*k
 wid:∀x∈xs,x.length=k
 one:∀u∈us,u.oneCell'=true
 rel:∀(i j:Nat)(x:List D)(d:D),xs[i]?=some x→x[j]?=some d→∃u,us[i*k+j]?=some u∧dG S w u d
theorem Rd.bq{S S':Nat→Nat→Prop}{w w':aiJ}{k:Nat}{xs:aiE (aiE D)}{us:aiE aiI}(h:Rd S w k xs us)(hS:∀b o,S b o→S' b o)(hc:∀b o,S b o→w'.cell? ⟨b,o,none⟩=w.cell? ⟨b,o,none⟩):Rd S' w' k xs us:=
 ⟨h.len,h.wid,h.one,fun i j x d hx hd=>let ⟨u,h1,h2⟩:=h.rel i j x d hx hd;⟨u,h1,h2.bq hS hc⟩⟩
theorem Rd.append{S:Nat→Nat→Prop}{w:aiJ}{k:Nat}{xs ys:aiE (aiE D)}{us vs:aiE aiI}(h:Rd S w k xs us)(h':Rd S w k ys vs):Rd S w k (xs++ys) (us++vs):=by
 refine⟨by rw[ahQ,ahQ,h.len,h'.len,Nat.add_mul],fun x hx=> ?_,fun u hu=> ?_,fun i j x d hx hd=> ?_⟩
 ·rcases ais.1 hx with hx|hx
  ·exact h.wid x hx
  ·exact h'.wid x hx
 ·rcases ais.1 hu with hu|hu
  ·exact h.one u hu
  ·exact h'.one u hu
 ·by_cases hi:i<xs.length
  ·rw[ahZ hi]at hx;obtain⟨u,h1,h2⟩:=h.rel i j x d hx hd;exact⟨u,by rw[ahZ (ahP.1 h1).1];exact h1,h2⟩
  ·rw[ah5 (by omega)]at hx;obtain⟨u,h1,h2⟩:=h'.rel (i-xs.length) j x d hx hd;refine⟨u,?_,h2⟩;have e:i*k+j=xs.length*k+((i-xs.length)*k+j):=by rw[Nat.sub_mul];have:=Nat.mul_le_mul_right k (Nat.le_of_not_lt hi);omega
   rw[e,ah5 (by rw[h.len];omega),h.len,Nat.add_sub_cancel_left];exact h1
theorem Rd.Gf{S:Nat→Nat→Prop}{w:aiJ}{k:Nat}{xs:aiE (aiE D)}{us:aiE aiI}(h:Rd S w k xs us)(b c:Nat)(hc:xs.length≤c)(hm:c≤maxLen)
 (hS:∀o,o<xs.length*k→S b o) (gb:∀(o:Nat)(u:aiI),us[o]?=some u→w.cell? ⟨b,o,none⟩=some u):dG S w (.slice (some ⟨b,0,none⟩) xs.length c) (.sl xs):=by
 refine .sl _ b 0 c k xs (fun i j=>us.getD (i*k+j) undef) (fun _=>rfl) hc hm h.wid (fun i j hi hj=> ?_) (fun i j x d hx hd=> ?_)
 ·have aZ:i*k+j<xs.length*k:=by
   have:(i+1)*k≤xs.length*k:=Nat.mul_le_mul_right k hi;rw[Nat.add_mul]at this;omega
  have hg:us[i*k+j]?=some (us[i*k+j]'(by rw[h.len];exact aZ)):=ahT (by rw[h.len];exact aZ);rw[ah9];refine⟨hS _ aZ,?_,?_⟩
  ·rw[gb _ _ hg];simp [hg]
  ·simp only[List.getD_eq_getElem?_getD,hg,Option.getD_some];exact h.one _ (List.getElem_mem _)
 ·obtain⟨u,h1,h2⟩:=h.rel i j x d hx hd;simp only[List.getD_eq_getElem?_getD,h1,Option.getD_some];exact h2
theorem dG.rd{S:Nat→Nat→Prop}{w:aiJ}{v:aiI}{xs:aiE (aiE D)}{k:Nat}(h:dG S w v (.sl xs))(gr:0<k)(hk:∀x∈xs,x.length=k):
 ∃us,Rd S w k xs us∧∃A c,v= .slice A xs.length c∧xs.length≤c∧c≤maxLen∧(xs≠ []→∃b o,A=some ⟨b,o,none⟩∧∀(j:Nat)(u:aiI),us[j]?=some u→S b (o+j)∧w.cell? ⟨b,o+j,none⟩=some u):=by
 obtain⟨A,b,o,c,k',u,rfl,hA,hc,hm,k9,hS,hu⟩:=h.nR;by_cases hx:xs=[]
 ·subst hx;exact⟨[],⟨by simp,(fun _ h=>by cases h),(fun _ h=>by cases h),fun i j x d hx=>by simp at hx⟩,A,c,rfl,hc,hm,fun h=>absurd rfl h⟩
 ·have ek:k'=k:=by
   obtain⟨x,kd⟩:=List.exists_mem_of_ne_nil xs hx;rw[←k9 x kd,hk x kd]
  subst ek;refine⟨(List.range (xs.length*k')).map fun t=>u (t / k') (t%k'),⟨by simp,hk,fun v hv=> ?_,fun i j x d hx hd=> ?_⟩,A,c,rfl,hc,hm,fun dj=>⟨b,o,hA dj,fun j v hv=> ?_⟩⟩
  ·obtain⟨t,ht,rfl⟩:=List.mem_map.1 hv;have pg:=List.mem_range.1 ht;exact(hS (t / k') (t%k') (Nat.div_lt_of_lt_mul (by rw[Nat.mul_comm];exact pg)) (Nat.mod_lt _ gr)).2.2
  ·have hj:j<k':=by rw[←hk x (ah2 hx)];exact(ahP.1 hd).1
   have hi:i<xs.length:=(ahP.1 hx).1;refine⟨u i j,?_,hu i j x d hx hd⟩;have aZ:i*k'+j<xs.length*k':=by
    have:(i+1)*k'≤xs.length*k':=Nat.mul_le_mul_right k' hi;rw[Nat.add_mul]at this;omega
   rw[ahW,List.getElem?_range aZ];simp only[Option.map_some,Option.some.injEq];rw[show(i*k'+j)/ k'=i by rw[Nat.add_comm,Nat.add_mul_div_right _ _ gr,Nat.div_eq_of_lt hj,ah9],show(i*k'+j)%k'=j by rw[Nat.add_comm,Nat.add_mul_mod_self_right,Nat.mod_eq_of_lt hj]]
  ·rw[ahW]at hv;by_cases hj:j<xs.length*k'
   ·rw[List.getElem?_range hj]at hv;simp only[Option.map_some,Option.some.injEq]at hv;subst hv;have:=hS (j / k') (j%k') (Nat.div_lt_of_lt_mul (by rw[Nat.mul_comm];exact hj)) (Nat.mod_lt _ gr);have e:o+j / k'*k'+j%k'=o+j:=by have:=Nat.div_add_mod j k';rw[Nat.mul_comm]at this;omega
    rw[e]at this;exact⟨this.1,this.2.1⟩
   ·rw[aim (by simp;omega)]at hv;cases hv
theorem dG.src{P:aiH}{S:Nat→Nat→Prop}{w:aiJ}{v:aiI}{xs:aiE (aiE D)}{k:Nat}(h:dG S w v (.sl xs))(gr:0<k)(hk:∀x∈xs,x.length=k){tx e':TypeId}(ht:P.underlying tx=some (.slice e')):
 ∃us,Rd S w k xs us∧Src P k tx v xs.length us w:=by
 obtain⟨us,hr,A,c,rfl,_,_,hA⟩:=h.rd gr hk;refine⟨us,hr,?_⟩;by_cases hx:xs=[]
 ·subst hx;have kG:us=[]:=List.eq_nil_of_length_eq_zero (by rw[hr.len];simp);subst kG;cases A with
  |none=>exact Src.ofNil w ht c
  |some a=>exact Src.ofSlice w ht a 0 c [] (by simp) (fun j u hu=>by simp at hu) (fun u hu=>by cases hu)
 ·obtain⟨b,o,rfl,hc⟩:=hA hx;exact Src.ofSlice w ht _ _ c us hr.len (fun j u hu=>by rw[kJ];exact(hc j u hu).2) hr.one
def Gh.gM(G:Gh)(v:aiI)(len:Nat):Gh:=
 {G with N:=G.N+1,sg:=fun n=>if n=G.N then v else G.sg n,fl:=fun n=>if n=G.N then len else G.fl n,ow:=fun n=>if n=G.N then none else G.ow n}
theorem IL{G:Gh}{w:aiJ}{h:aiE an}(hi:cw G w h){v:aiI}{xs:aiE (aiE D)}(hv:dG G.S w v (.sl xs))(hf:∃A,v= .slice A xs.length xs.length)(e:TypeId)(k:Nat):
 cp G.N G w (G.gM v xs.length) w∧G.N≤(G.gM v xs.length).N∧cw (G.gM v xs.length) w (h++[.front e k xs.length])∧aL (G.gM v xs.length) w v (.own h.length xs):=by
 have dj:∀n,n<G.N→n≠G.N:=fun n hn=>Nat.ne_of_lt hn;have hE:cp G.N G w (G.gM v xs.length) w:=⟨ah0 _,fun _ _ h=>h,fun _ _ _=>rfl,fun _ _=>rfl,fun n hn=> .inl ⟨by simp [Gh.gM,dj n hn],by simp [Gh.gM,dj n hn]⟩,gB rfl,fun _ _=>rfl,rfl,rfl,rfl,fun _ _ h=> .inl h⟩;have hN:G.N≤(G.gM v xs.length).N:=Nat.le_succ _;have PI:xs.length≤maxLen:=by
  obtain⟨A,b,o,c,k',u,_,_,h1,h2,_⟩:=hv.nR;exact ah7 h1 h2
 have mw:∀n(B:an),n<G.N→B.eo (G.gM v xs.length) n=B.eo G n:=fun n B hn=>by
  cases B<;>simp [an.eo,Gh.gM,Nat.ne_of_lt hn]
 have hold:∀n b,cA (h++[.front e k xs.length]) (G.gM v xs.length) n=some b→cA h G n=some b:=fun n b hb=>by
  by_cases hn:n<h.length
  ·unfold cA at hb ⊢;rw[ahZ hn,ahT hn]at hb;rw[ahT hn];rw[←hb];exact(mw n _ (hi.len▸hn)).symm
  ·by_cases en:n=h.length
   ·subst en;rw[dV (B:= .front e k xs.length) (by simp)]at hb;simp [an.eo,Gh.gM,hi.len]at hb
   ·rw[zP (aim (by simp;omega))]at hb;cases hb
 refine⟨hE,hN,⟨by simp [Gh.gM,hi.len],hi.z,hi.S,fun n B hB=> ?_,fun m n b hm hn=>hi.inj m n b (hold m b hm) (hold n b hn),hi.gl.bq hE⟩,?_⟩
 ·by_cases hn:n<h.length
  ·rw[ahZ hn]at hB;have fJ:n<G.N:=hi.len▸hn;exact eF.bq fJ hE hN ⟨by simp [Gh.gM,dj n fJ],by simp [Gh.gM,dj n fJ],by simp [Gh.gM,dj n fJ]⟩ (fun b hb=>⟨rfl,fun o h=>h⟩) (hi.dz n B hB)
  ·have mj:n=h.length:=by
    have:=(ahP.1 hB).1;simp at this;omega
   subst mj;simp at hB;subst hB;obtain⟨A,hA⟩:=hf;exact⟨by simp [Gh.gM,hi.len],PI, .inl ⟨by simp [Gh.gM,hi.len],A,by simp [Gh.gM,hi.len,hA]⟩⟩
 ·exact .own h.length xs (by simp [Gh.gM,hi.len]) hv (by simp [Gh.gM,hi.len]) (fun _=>by simp [Gh.gM,hi.len])
theorem ML{P:aiH}{e k b:Nat}(hk:fO P e=some k)(hb:ou P e=some b):∃i,P.info? e=some i∧i.size=k∧i.bytes=b:=by
 unfold fO at hk;unfold ou at hb;cases hq:P.info? e with
 |none=>rw[hq]at hk;cases hk
 |some i=>rw[hq]at hk hb;exact⟨i,rfl,by simpa using hk,by simpa using hb⟩
def Gh.grow(G:Gh)(n:Nat)(S:Nat→Nat→Prop)(v:aiI)(len:Nat)(ow:aiG Nat):Gh:=
 {G with S:=S,sg:=fun m=>if m=n then v else G.sg m,fl:=fun m=>if m=n then len else G.fl m,ow:=fun m=>if m=n then ow else G.ow m}
theorem U8{G:Gh}{w w':aiJ}{h:aiE an}(hi:cw G w h){n e k len gu:Nat}(hn:h[n]?=some (.front e k len))(S:Nat→Nat→Prop)(v:aiI)(g:Nat)
 (hE:cp G.N G w (G.grow n S v gu (some g)) w') (hg:g=w.heap.size∨G.ow n=some g) (YL:g<w'.heap.size)
 (hS:∀b o,S b o→G.S b o∨b=g) (hoth:∀b,b<w.heap.size→b≠g→w'.heap[b]?=w.heap[b]?)
 (hB:eF (G.grow n S v gu (some g)) w' n (.front e k gu)):cw (G.grow n S v gu (some g)) w' (h.set n (.front e k gu)):=by
 have ff:∀m,m≠n→(h.set n (.front e k gu))[m]?=h[m]?:=fun m hm=>by rw[aio (Ne.symm hm)]
 have lg:(h.set n (.front e k gu))[n]?=some (.front e k gu):=by rw[aij (ahP.1 hn).1]
 have mw:∀m(B:an),m≠n→B.eo (G.grow n S v gu (some g)) m=B.eo G m:=fun m B hm=>by
  cases B<;>simp [an.eo,Gh.grow,hm]
 have eg:∀m,m≠n→cA (h.set n (.front e k gu)) (G.grow n S v gu (some g)) m=cA h G m:=fun m hm=>by
  unfold cA;rw[ff m hm];cases h[m]? with
  |none=>rfl
  |some B=>exact mw m B hm
 have ox:∀m,m≠n→cA h G m≠some g:=fun m hm hb=>by
  rcases hg with hg|hg
  ·have:=hi.iL hb;omega
  ·exact hm (hi.inj m n g hb ((dV hn).trans hg))
 refine⟨by rw[List.length_set];exact hi.len,fun b hb=>aid (hi.z b hb) hE.size,fun b o hs=> ?_,fun m B hm=> ?_,fun m m' b h1 h2=> ?_,hi.gl.bq hE⟩
 ·rcases hS b o hs with hs|hs
  ·exact aid (hi.S b o hs) hE.size
  ·rw[hs];exact YL
 ·by_cases em:m=n
  ·subst em;rw[lg]at hm;cases hm;exact hB
  ·rw[ff m em]at hm;refine eF.bq (hi.lt hm) hE (ah0 _) ⟨by simp [Gh.grow,em],by simp [Gh.grow,em],by simp [Gh.grow,em]⟩ (fun b hb=> ?_) (hi.dz m B hm);have hr:cA h G m=some b:=(dV hm).trans hb;have dj:b≠g:=fun e'=>ox m em (by rw[hr,e']);refine⟨hoth _ (hi.iL hr) dj,fun o kj hs=> ?_⟩;rcases hS _ o hs with hs|hs
   ·exact kj hs
   ·exact dj hs
 ·by_cases e1:m=n<;>by_cases e2:m'=n
  ·rw[e1,e2]
  ·subst e1;rw[eg m' e2]at h2;have:cA (h.set m (.front e k gu)) (G.grow m S v gu (some g)) m=some g:=by rw[dV lg];simp [an.eo,Gh.grow]
   rw[this]at h1;cases h1;exact absurd h2 (ox m' e2)
  ·subst e2;rw[eg m e1]at h1;have:cA (h.set m' (.front e k gu)) (G.grow m' S v gu (some g)) m'=some g:=by rw[dV lg];simp [an.eo,Gh.grow]
   rw[this]at h2;cases h2;exact absurd h1 (ox m e1)
  ·rw[eg m e1]at h1;rw[eg m' e2]at h2;exact hi.inj m m' b h1 h2
set_option maxHeartbeats 1000000 in
theorem Ud{P:aiH}{G:Gh}{w:aiJ}{h:aiE an}(hi:cw G w h){T tx ty e k dx:Nat}{i:TypeInfo}{z:aiI}(hT:P.underlying T=some (.slice e))(ko:P.info? e=some i)(hz:i.zero=some z)(mv:i.size=k)(wz:i.bytes=dx)(iZ:z.cells.size=k)
 (gr:0<k) {n:Nat} {xs ys:aiE (aiE D)} (hn:h[n]?=some (.front e k xs.length)) {u v:aiI} (hu:aL G w u (.own n xs)) (iq:∀x∈xs,x.length=k)
 {us:aiE aiI} (hr:Rd G.S w k ys us) (hs:Src P k tx v ys.length us w) (vr:xs.length+ys.length≤maxLen) (nM:(xs.length+ys.length)*dx≤140737488355328):
 ∃r w' G',(Builtin.append_ #[T,tx] ty #[u,v]).run P w= .ok r w'∧cp G.N G w G' w'∧G.N≤G'.N∧cw G' w' (h.set n (.front e k (xs.length+ys.length)))∧aL G' w' r (.own n (xs++ys)):=by
 subst mv;subst wz;have mV:=hi.lt hn;obtain⟨kf,PI,WW⟩:=hi.dz n _ hn;obtain⟨hp,N5⟩:dG G.S w u (.sl xs)∧u=G.sg n:=by
  cases hu with
  |own _ _ _ hp hle hf=>exact⟨hp,hf kf.symm⟩
 obtain⟨olds,yo,A,c,yy,ki,qJ,hA⟩:=hp.rd gr iq;have Nl:h.set n (.front e i.size (xs.length+0))=h:=by
  rw[Nat.add_zero];refine List.ext_getElem? fun m=> ?_;by_cases em:m=n
  ·subst em;rw[aij (ahP.1 hn).1,hn]
  ·rw[aio (Ne.symm em)]
 by_cases hy:ys.length=0
 ·have iC:ys=[]:=List.eq_nil_of_length_eq_zero hy;subst iC;have kG:us=[]:=List.eq_nil_of_length_eq_zero (by rw[hr.len];simp);subst kG;have:=run_append_nothing (P:=P) w T tx ty e i hT ko A xs.length c ki v hs;refine⟨u,w,G,by rw[yy];exact this,cp.refl _ _ _,ah0 _,?_,by rw[aia];exact hu⟩;simp only[ah1];rw[Nl];exact hi
 ·have hy0:0<ys.length:=Nat.pos_of_ne_zero hy;have JV:xs.length+ys.length≤9223372036854775807:=by simp only[maxLen]at vr;omega
  have Kn:Rd G.S w i.size (xs++ys) (olds++us):=yo.append hr;have grow:c<xs.length+ys.length→∃r w' G',(Builtin.append_ #[T,tx] ty #[u,v]).run P w= .ok r w'∧cp G.N G w G' w'∧G.N≤G'.N∧cw G' w' (h.set n (.front e i.size (xs.length+ys.length)))∧aL G' w' r (.own n (xs++ys)):=by
   intro hg;have hold:(Builtin.firstCells i.size xs.length (.slice A xs.length c)).run P w.drew= .ok olds.toArray w.drew:=by
    by_cases hx:xs=[]
    ·subst hx;have:olds=[]:=List.eq_nil_of_length_eq_zero (by rw[yo.len];simp);subst this;cases A with
     |none=>exact run_firstCells_none _ _ _ _ _
     |some a=>exact run_firstCells_some _ _ _ _ _ _ [] (by simp) (fun j u hu=>by simp at hu)
    ·obtain⟨b,o,rfl,hc⟩:=hA hx;exact run_firstCells_some _ _ _ _ _ _ olds yo.len (fun j u hu=>by rw[kJ];exact(hc j u hu).2)
   have dK:=run_append_grow_src (P:=P) w T tx ty e i z hT ko hz A xs.length c olds hold v ys.length us hs hg (by omega) (growslice_fits hg nM);obtain⟨cap,jb⟩:∃cap,cap=grownCap w (xs.length+ys.length) c e:=⟨_,rfl⟩;have js:xs.length+ys.length≤cap:=by rw[jb];exact grownCap_ge _ _ _ _
   have hle:cap≤maxLen:=by rw[jb];exact grownCap_le_maxLen _ _ _ _ vr
   rw[←jb]at dK;obtain⟨cur,jI⟩:∃cur,cur=(olds++us).toArray++Builtin.zeroCells z.cells (cap-(xs.length+ys.length)):=⟨_,rfl⟩;rw[←jI]at dK;obtain⟨w',eR⟩:∃w',w'=w.drew.alloc (.cells cur e):=⟨_,rfl⟩;rw[←eR]at dK;have fP:cur.size=cap*i.size:=by
     have:=size_zeroCells z.cells (cap-(xs.length+ys.length));rw[jI,Array.size_append,this,List.size_toArray,Kn.len,iZ,ahQ,←Nat.add_mul]
     congr 1
     omega
   have fX:w'.heap[w.heap.size]?=some (.cells cur e (0,0)):=by rw[eR];exact World.alloc_heap_new w.drew _
   have JS:∀b,b<w.heap.size→w'.heap[b]?=w.heap[b]?:=fun b hb=>by rw[eR];exact Below.heap_alloc w.drew _ b hb
   have gp:w'.heap.size=w.heap.size+1:=by rw[eR];simp
   obtain⟨S,hS⟩:∃S:Nat→Nat→Prop,S=fun b o=>G.S b o∨(b=w.heap.size∧o<(xs.length+ys.length)*i.size):=⟨_,rfl⟩;have gb:∀b o,G.S b o→w'.cell? ⟨b,o,none⟩=w.cell? ⟨b,o,none⟩:=fun b o hs=>World.cell?_of_block (JS b (hi.S b o hs));have hE:cp G.N G w (G.grow n S (.slice (some ⟨w.heap.size,0,none⟩) (xs.length+ys.length) cap) (xs.length+ys.length) (some w.heap.size)) w':=
    ⟨by rw[gp];exact Nat.le_succ _,fun b o h=>by show S b o;rw[hS];exact .inl h,gb,fun _ _=>rfl,
     fun m _=>by
      by_cases em:m=n
      ·right;subst em;simp only[Gh.grow,if_true,kf];omega
      ·left;exact⟨by simp [Gh.grow,em],by simp [Gh.grow,em]⟩,
     gB rfl,fun b hb=>JS b (hi.z b hb),by rw[eR];rfl,by rw[eR];rfl,by rw[eR];rfl,fun b o hs=>by
      have cY:S b o:=hs;rw[hS]at cY;rcases cY with h|⟨rfl,_⟩
      ·exact .inl h
      ·exact .inr fun hz=>aiu _ (hi.z _ hz)⟩
   have hP:dG S w' (.slice (some ⟨w.heap.size,0,none⟩) (xs++ys).length cap) (.sl (xs++ys)):=by
    refine(Kn.bq (S':=S) (w':=w') (fun b o h=>by rw[hS];exact .inl h) gb).Gf w.heap.size cap (by rw[ahQ];exact js) hle (fun o ho=>by rw[hS];exact .inr ⟨rfl,by rw[ahQ]at ho;exact ho⟩) (fun o x ho=> ?_);rw[cell_of_row w' w.heap.size o cur e (0,0) fX,jI,Array.getElem?_append_left (by simp only[List.size_toArray];exact(ahP.1 ho).1),List.getElem?_toArray];exact ho
   rw[ahQ]at hP;refine⟨_,w',_,by rw[yy];exact dK,hE,ah0 _,U8 hi hn S _ w.heap.size hE (.inl rfl) (by rw[gp];exact aiC _) (fun b o hs=> ?_) (fun b hb _=>JS b hb) ?_,?_⟩
   ·rw[hS]at hs;exact hs.imp id And.left
   ·refine⟨by simp [Gh.grow],vr, .inr ⟨w.heap.size,cap,cur,by simp [Gh.grow],by simp [Gh.grow],fun hz=>aiu _ (hi.z _ hz),fX,js,hle,fP,fun o ho hs=> ?_⟩⟩;have cY:S w.heap.size o:=hs;rw[hS]at cY;rcases cY with cY|⟨_,cY⟩
    ·have:=hi.S _ _ cY;omega
    ·omega
   ·exact .own n (xs++ys) mV hP (by simp [Gh.grow]) (fun _=>by simp [Gh.grow])
  rcases WW with⟨jo,A',kX⟩|⟨g,cap,cur,jo,kX,CM,nU,Gs,K4,QH,OD⟩
  ·refine grow ?_;rw[N5,kX]at yy;cases yy
   omega
  ·have VH:=yy;rw[N5,kX]at VH;injection VH with eA0 _ e1;have e2:=e1.symm;subst e2;subst eA0;by_cases mU:xs.length+ys.length≤c
   ·
    have jA:xs.length*i.size+us.length≤cur.size:=by rw[hr.len,QH,←Nat.add_mul];exact Nat.mul_le_mul_right _ mU
    have CZ:∀o,w.cell? ⟨g,o,none⟩=cur[o]?:=fun o=>cell_of_row w g o cur e (0,0) nU;have Ap:∀j,j<us.length→(w.cell? ⟨g,0+xs.length*i.size+j,none⟩).isSome=true:=fun j hj=>by
     rw[CZ,ah9,aib (by omega)];rfl
    have dK:=run_append_room_src (P:=P) w T tx ty e i hT ko g 0 xs.length c v ys.length us hs mU Ap
     (fun j hj=>by unfold World.frozen?;rw[nU];simp)
    rw[ah9]at dK Ap;obtain⟨w',eR⟩:∃w',w'=w.setCells g (xs.length*i.size) us:=⟨_,rfl⟩;rw[←eR]at dK;have acX:g<w.heap.size:=(ah4.1 nU).1;have jz:=run_storeCells_at P g (xs.length*i.size) e us 0 cur w nU (by simpa using jA) hs.one;have wN:=run_storeCells_cells (P:=P) g (xs.length*i.size) us 0 w (by simpa using Ap) (fun j hj=>by unfold World.frozen?;rw[nU];simp) hs.one;simp only[Nat.add_zero]at jz wN;rw[jz]at wN;have xZ:w'=w.setRow g (cur.toList.take (xs.length*i.size)++us++cur.toList.drop (xs.length*i.size+us.length)).toArray:=by
      rw[eR];injection wN with _ e2;exact e2.symm
    obtain⟨n3,Kt⟩:∃n3:Array aiI,n3=(cur.toList.take (xs.length*i.size)++us++cur.toList.drop (xs.length*i.size+us.length)).toArray:=⟨_,rfl⟩;rw[←Kt]at xZ;have mZ:w'.heap[g]?=some (.cells n3 e (0,0)):=by rw[xZ];exact setRow_heap w g cur n3 e _ nU
    have hoth:∀b,b≠g→w'.heap[b]?=w.heap[b]?:=fun b hb=>by rw[xZ];exact setRow_other w g b n3 hb
    have gp:w'.heap.size=w.heap.size:=by rw[xZ];exact IC w g n3
    have jC:∀o,n3[o]?=if o<xs.length*i.size then cur[o]? else if o<xs.length*i.size+us.length then us[o-xs.length*i.size]? else cur[o]?:=fun o=>by
     rw[Kt,List.getElem?_toArray,ah6];have hl:cur.toList.length=cur.size:=ain;by_cases h1:o<xs.length*i.size
     ·rw[if_pos h1,ahZ (by simp;omega),List.getElem?_take_of_lt h1,aic]
     ·rw[if_neg h1,ah5 (by simp;omega)];simp only[List.length_take,hl];rw[Nat.min_eq_left (by omega)];by_cases h2:o<xs.length*i.size+us.length
      ·rw[if_pos h2,ahZ (by omega)]
      ·rw[if_neg h2,ah5 (by omega),List.getElem?_drop,show xs.length*i.size+us.length+(o-xs.length*i.size-us.length)=o by omega,aic]
    have Zx:n3.size=cur.size:=by
     rw[Kt];simp only[List.size_toArray,ahQ,List.length_take,List.length_drop,ain];omega
    have gb:∀b o,G.S b o→w'.cell? ⟨b,o,none⟩=w.cell? ⟨b,o,none⟩:=fun b o hs=>by
     by_cases eb:b=g
     ·subst eb;have ho:o<xs.length*i.size:=Nat.lt_of_not_le fun hle=>OD o hle hs;rw[CZ,cell_of_row w' b o n3 e (0,0) mZ,jC,if_pos ho]
     ·exact World.cell?_of_block (hoth b eb)
    obtain⟨S,hS⟩:∃S:Nat→Nat→Prop,S=fun b o=>G.S b o∨(b=g∧o<(xs.length+ys.length)*i.size):=⟨_,rfl⟩;have hE:cp G.N G w (G.grow n S (.slice (some ⟨g,0,none⟩) (xs.length+ys.length) c) (xs.length+ys.length) (some g)) w':=
     ⟨by rw[gp];exact ah0 _,fun b o h=>by show S b o;rw[hS];exact .inl h,gb,fun _ _=>rfl,
      fun m _=>by
       by_cases em:m=n
       ·right;subst em;simp only[Gh.grow,if_true,kf];omega
       ·left;exact⟨by simp [Gh.grow,em],by simp [Gh.grow,em]⟩,
      gB rfl,fun b hb=>hoth b (fun e=>CM (e▸hb)),by rw[xZ];rfl,by rw[xZ];rfl,by rw[xZ];rfl,fun b o hs=>by
       have cY:S b o:=hs;rw[hS]at cY;rcases cY with h|⟨rfl,_⟩
       ·exact .inl h
       ·exact .inr CM⟩
    have hP:dG S w' (.slice (some ⟨g,0,none⟩) (xs++ys).length c) (.sl (xs++ys)):=by
     refine(Kn.bq (S':=S) (w':=w') (fun b o h=>by rw[hS];exact .inl h) gb).Gf g c (by rw[ahQ];exact mU) K4 (fun o ho=>by rw[hS];exact .inr ⟨rfl,by rw[ahQ]at ho;exact ho⟩) (fun o x ho=> ?_);rw[cell_of_row w' g o n3 e (0,0) mZ,jC];have hlo:olds.length=xs.length*i.size:=yo.len;by_cases h1:o<xs.length*i.size
     ·rw[if_pos h1];rw[ahZ (by omega)]at ho;have hx:xs≠ []:=fun e=>by subst e;simp at h1
      obtain⟨b,o',eA,hc⟩:=hA hx;cases eA
      have:=(hc o x ho).2;rw[ah9,CZ]at this;exact this
     ·rw[if_neg h1];rw[ah5 (by omega),hlo]at ho;have:=(ahP.1 ho).1;rw[if_pos (by omega)];exact ho
    rw[ahQ]at hP;refine⟨_,w',_,by rw[yy];exact dK,hE,ah0 _,U8 hi hn S _ g hE (.inr jo) (by rw[gp];exact acX) (fun b o hs=> ?_) (fun b _ hb=>hoth b hb) ?_,?_⟩
    ·rw[hS]at hs;exact hs.imp id And.left
    ·refine⟨by simp [Gh.grow],vr, .inr ⟨g,c,n3,by simp [Gh.grow],by simp [Gh.grow],CM,mZ,mU,K4,by rw[Zx,QH],fun o ho hs=> ?_⟩⟩;have cY:S g o:=hs;rw[hS]at cY;rcases cY with cY|⟨_,cY⟩
     ·exact OD o (ah7 (Nat.mul_le_mul_right _ (aiv _ _)) ho) cY
     ·omega
    ·exact .own n (xs++ys) mV hP (by simp [Gh.grow]) (fun _=>by simp [Gh.grow])
   ·exact grow (by omega)
def WF(r:aiG Nat):Fence:={Fence.wide with round:=r}
def iJ(N0:Nat)(G:Gh)(w:aiJ)(K:St→Prop)(a':Act)(w':aiJ):Prop:=∃G' s',cp N0 G w G' w'∧N0≤G'.N∧dk G' w' a' s'∧K s'
section
variable {P:aiH} {r:aiG Nat} {n N0:Nat} {G:Gh} {w:aiJ} {a:Act} {s:St} {o:Oper} {K:St→Prop} {Q:Exit→Act→aiJ→Prop}
theorem nv(gG:∀c,o.op≠ .defer c)(hs:dk G w a s)(cZ:N0≤G.N){v:aiI}{x:AV}{w':aiJ}{G':Gh}{h':aiE an}(hr:(execOp a.eval o).run P w= .ok (.value v) w')
 (hE:cp G.N G w G' w') (hN:G.N≤G'.N) (hi:cw G' w' h') (hv:aL G' w' v x) (hK:K ((s.wh h').put o.dst x)):o.wpIn (WF r) n P a w (iJ N0 G w K) Q:=by
 refine⟨fun _ _=>trivial,?_⟩;rw[Oper.semAt_eq _ _ _ gG,hr];exact⟨G',_,hE.less cZ,ah7 cZ hN,((hs.move hE hN hi).put hv o.dst),hK⟩
theorem fy(gG:∀c,o.op≠ .defer c)(hs:dk G w a s)(cZ:N0≤G.N){v:aiI}{x:AV}(hr:(execOp a.eval o).run P w= .ok (.value v) w)(hv:aL G w v x)(hK:K (s.put o.dst x)):
 o.wpIn (WF r) n P a w (iJ N0 G w K) Q:=
 nv gG hs cZ hr (cp.refl _ _ _) (ah0 _) hs.inv hv hK
theorem LW(gG:∀c,o.op≠ .defer c)(hs:dk G w a s)(cZ:N0≤G.N){w':aiJ}{G':Gh}{h':aiE an}(hr:(execOp a.eval o).run P w= .ok .skip w')
 (hE:cp G.N G w G' w') (hN:G.N≤G'.N) (hi:cw G' w' h') (hK:K ((s.wh h').put o.dst (.d (.v undef)))):o.wpIn (WF r) n P a w (iJ N0 G w K) Q:=by
 refine⟨fun _ _=>trivial,?_⟩;rw[Oper.semAt_eq _ _ _ gG,hr];exact⟨G',_,hE.less cZ,ah7 cZ hN,((hs.move hE hN hi).put (.d (.v undef)) o.dst),hK⟩
theorem RO{t k:Nat}(h:fO P t=some k):∃i,P.info? t=some i∧i.size=k:=by
 unfold fO at h;cases hq:P.info? t with
 |none=>rw[hq]at h;cases h
 |some i=>rw[hq]at h;exact⟨i,rfl,by simpa using h⟩
theorem Hr{t:Nat}{z:aiI}(h:ib P t=some z):∃i,P.info? t=some i∧i.zero=some z:=by
 unfold ib at h;cases hq:P.info? t with
 |none=>rw[hq]at h;cases h
 |some i=>rw[hq]at h;exact⟨i,rfl,by simpa using h⟩
theorem GY{t:Nat}{z:aiI}(h:ib P t=some z)(w:aiJ):(zeroValue t).run P w= .ok z w:=by
 obtain⟨i,h1,h2⟩:=Hr h;simp [zeroValue,typeInfo,h1,h2]
theorem lB{t k:Nat}(h:fO P t=some k)(w:aiJ):(sizeOf t).run P w= .ok k w:=by
 obtain⟨i,h1,h2⟩:=RO h;simp [sizeOf,typeInfo,h1,h2]
theorem DP{t:Nat}{g:Bool}(h:lr P t=some g)(w:aiJ):(isAgg t).run P w= .ok g w:=by
 unfold lr at h;cases hq:P.underlying t with
 |none=>rw[hq]at h;cases h
 |some d=>
  rw[hq]at h;unfold isAgg;rw[Sem.run_bind,run_underlying hq w];simp only[Option.map_some,Option.some.injEq]at h;subst h;cases d<;>rfl
theorem adY{t:Nat}(h:lr P t=some true):∃d,P.underlying t=some d∧d.isRow=true:=by
 unfold lr at h;cases hq:P.underlying t with
 |none=>rw[hq]at h;cases h
 |some d=>rw[hq]at h;refine⟨d,rfl,?_⟩;cases d<;>simp_all [TypeDesc.isRow]
theorem PV{t:Nat}{C:AV→Prop}:∀(b o:Nat)(cs:aiE AV)(off:Nat)(us:Nat→aiI),(∀j,j<cs.length→w.cell? ⟨b,o+j,none⟩=some (us j))→(∀(j:Nat)(c:AV),cs[j]?=some c→aL G w (us j) c)→
 (match lr P t,fO P t with
  |some true,some k=>gj (cN (off+k) cs.length) (C (.agg ((cs.drop off).take k)))
  |some false,some _=>match cs[off]? with
   |some c=>C c
   |none=>False
  |_,_=>False)→∃u x,(loadVar t ⟨b,o+off,none⟩).run P w= .ok u w∧aL G w u x∧C x:=by
 intro b o cs off us h1 h2 h3;split at h3
 ·rename_i k hg hk
  obtain⟨hlen,hC⟩:=cr.1 h3;rw[dQ]at hlen;obtain⟨d,D8,mK⟩:=adY hg;have EY:((List.range k).map fun j=>us (off+j)).length=k:=by simp
  have dK:=run_loadVar_mid (P:=P) w b (o+off) t ((List.range k).map fun j=>us (off+j)) d (fun j u hu=>by
   rw[ahW]at hu;by_cases hj:j<k
   ·rw[List.getElem?_range hj]at hu;simp only[Option.map_some,Option.some.injEq]at hu;subst hu;have:=h1 (off+j) (by omega)
    rwa [←Nat.add_assoc]at this
   ·rw[aim (by simp;omega)]at hu;cases hu) D8 mK (by rw[EY];exact hk)
  refine⟨_,_,dK, .agg _ _ (by simp;omega) fun i u c hu hc=> ?_,hC⟩;rw[List.getElem?_toArray,ahW]at hu;rw[List.getElem?_take]at hc;split at hc
  ·rename_i mv
   rw[List.getElem?_range mv]at hu;simp only[Option.map_some,Option.some.injEq]at hu;subst hu;rw[List.getElem?_drop]at hc;exact h2 (off+i) c hc
  ·cases hc
 ·rename_i k hg hk
  split at h3
  ·rename_i c hc
   refine⟨us off,c,?_,h2 off c hc,h3⟩;unfold loadVar;rw[Sem.run_bind,DP hg w];simp only[Result.andThen_ok,Bool.false_eq_true,if_false];unfold load;simp only[Sem.run,h1 off (ahP.1 hc).1]
  ·exact h3.elim
 ·exact h3.elim
theorem Oc{t:Nat}{p:AV}{v:aiI}{C:AV→Prop}(hi:cw G w s.h)(hv:aL G w v p)(h:mH P t s.h p C):∃u x,(Instr.loadAt t v).run P w= .ok u w∧aL G w u x∧C x:=by
 have key:=PV (P:=P) (G:=G) (w:=w) (t:=t) (C:=C);unfold mH qx at h;cases p with
 |ptr m off=>
  simp only at h;split at h
  ·rename_i cs hm
   obtain⟨_,_,vs,T,hh,hl,hr⟩:=hi.dz m _ hm;cases hv with
   |ptr _ _ uY=>
    obtain⟨u,x,h1,h2,h3⟩:=key (G.bA m) 0 cs off (fun j=>vs.getD j undef) (fun j hj=>by
     have iF:j<vs.size:=by rw[hl];exact hj
     rw[ah9,cell_of_row w (G.bA m) j vs T (0,0) hh];simp [Array.getD,iF]) (fun j c hc=>by
     have iF:j<vs.size:=by rw[hl];exact(ahP.1 hc).1
     exact hr j _ c (by simp [Array.getD,iF]) hc) h
    rw[ah9]at h1;exact⟨u,x,by simp [Instr.loadAt,Instr.sureAddr,h1],h2,h3⟩
  ·exact h.elim
 |bt xs i off=>
  simp only at h;split at h
  ·rename_i cs fP
   cases hv with
   |bt _ _ _ b o us x hx hS hu=>
    rw[hx]at fP;cases fP
    obtain⟨u,y,h1,h2,h3⟩:=key b o (cs.map .d) off us (fun j hj=>(hS j (by simpa using hj)).2) (fun j c hc=>by
     rw[ahW]at hc;cases hd:cs[j]? with
     |none=>rw[hd]at hc;cases hc
     |some d=>rw[hd]at hc;cases hc;exact .d (hu j d hd)) h
    exact⟨u,y,by simp [Instr.loadAt,Instr.sureAddr,h1],h2,h3⟩
  ·exact h.elim
 |_=>exact h.elim
theorem aL.list{u:aiI}{x:AV}{xs:aiE (aiE D)}(h:aL G w u x)(hx:x.fY=some xs):dG G.S w u (.sl xs):=by
 unfold AV.fY at hx;split at hx
 ·cases hx;cases h with|d h=>exact h
 ·cases hx;cases h with|own _ _ _ h=>exact h
 ·cases hx;cases h with|full _ h=>exact h
 ·cases hx
  cases h with
  |d h=>
   cases h with
   |v=>exact .sl none 0 0 0 0 [] (fun _ _=>undef) (fun h=>absurd rfl h) (ah0 _) (by simp) (fun _ h=>by cases h) (fun i j hi=>by simp at hi) (fun i j x d hx=>by simp at hx)
 ·cases hx
theorem aL.int{u:aiI}{x:AV}{z:Int}(h:aL G w u x)(hx:x.int?=some z):∃k,u= .int k z:=by
 unfold AV.int? at hx;split at hx
 ·rename_i k m
  cases hx
  cases h with
  |d h=>cases h with|v=>exact⟨k,rfl⟩
 ·cases hx
theorem aL.bool{u:aiI}{t:Bool}(h:aL G w u (.d (.v (.bool t)))):u= .bool t:=by
 cases h with|d h=>cases h with|v=>rfl
theorem aL.val{u v:aiI}(h:aL G w u (.d (.v v))):u=v:=by
 cases h with|d h=>cases h with|v=>rfl
theorem jh{T e k:Nat}(h:eE P T=some (e,k)):P.underlying T=some (.slice e)∧fO P e=some k:=by
 unfold eE at h;split at h
 ·rename_i e' he
  cases hq:fO P e' with
  |none=>rw[hq]at h;cases h
  |some k'=>rw[hq]at h;simp at h;obtain⟨rfl,rfl⟩:=h;exact⟨he,hq⟩
 ·cases h
theorem LX{T m e k:Nat}(h:sP P T=some (m,e,k)):P.underlying T=some (.array m e)∧fO P e=some k:=by
 unfold sP at h;split at h
 ·rename_i m' e' he
  cases hq:fO P e' with
  |none=>rw[hq]at h;cases h
  |some k'=>rw[hq]at h;simp at h;obtain⟨rfl,rfl,rfl⟩:=h;exact⟨he,hq⟩
 ·cases h
theorem agb{T:Nat}{x i:AV}{u v:aiI}{C:AV→Prop}(hu:aL G w u x)(hv:aL G w v i)(h:p5 P T x i C):∃p y,(Instr.indexAt T u v).run P w= .ok p w∧aL G w p y∧C y:=by
 unfold p5 at h;split at h
 ·rename_i e k hT
  obtain⟨fi,fG⟩:=jh hT;split at h
  ·rename_i m off len cap k'
   split at h
   ·rename_i z hz
    obtain⟨uw,h0,aZ,hC⟩:=cr.1 h;rw[beq_iff_eq]at uw;subst uw;obtain⟨kz,rfl⟩:=hv.int hz;cases hu with
    |row _ _ _ _ _ hm hl nr=>
     have hN:(z.toNat:Int)=z:=Int.toNat_of_nonneg h0;refine⟨_,_,?_, .ptr m (off+z.toNat*k') hm,hC⟩;simp [Instr.indexAt,asIntOf,run_underlying fi,h0,aZ,lB fG,kJ]
   ·exact h.elim
  ·split at h
   ·rename_i xs z kN hz
    obtain⟨h0,h⟩:=h;obtain⟨kz,rfl⟩:=hv.int hz;split at h
    ·rename_i c hc
     obtain⟨hk,hC⟩:=h;obtain⟨A,b,o,cc,k',us,rfl,hA,ki,qJ,k9,hS,kG⟩:=(hu.list kN).nR;have aZ:z.toNat<xs.length:=(ahP.1 hc).1;have dj:xs≠ []:=fun e=>by subst e;simp at aZ
     have ek:k'=k:=by rw[←k9 c (ah2 hc),hk]
     subst ek;rw[hA dj];have K8:z<(xs.length:Int):=by omega
     refine⟨_, .bt [c] 0 0,?_, .bt [c] 0 0 b (o+z.toNat*k') (us z.toNat) c rfl (fun j hj=> ?_) (fun j d hd=>kG _ _ _ _ hc hd),hC⟩
     ·simp [Instr.indexAt,asIntOf,run_underlying fi,h0,K8,lB fG,kJ]
     ·have:=hS z.toNat j aZ (by rw[hk]at hj;exact hj);exact⟨this.1,this.2.1⟩
    ·exact h.elim
   ·exact h.elim
 ·split at h
  ·rename_i m e k b off z hT hz
   obtain⟨h0,aZ,hC⟩:=h;obtain⟨fi,fG⟩:=LX hT;obtain⟨kz,rfl⟩:=hv.int hz;cases hu with
   |ptr _ _ hb=>
    refine⟨_,_,?_, .ptr b (off+z.toNat*k) hb,hC⟩;simp [Instr.indexAt,Instr.sureAddr,asIntOf,run_underlying fi,h0,aZ,lB fG,kJ]
  ·rename_i m e k xs i' off z hT hz
   obtain⟨td,h0,aZ,h9⟩:=cr.1 h;rw[beq_iff_eq]at td;subst td;obtain⟨fi,fG⟩:=LX hT;obtain⟨kz,rfl⟩:=hv.int hz;split at h9
   ·rename_i c hc
    split at h9
    ·rename_i d hd
     cases hu with
     |bt _ _ _ b o us c' jC hS kG=>
      rw[hc]at jC;cases jC
      have agd:=(ahP.1 hd).1;refine⟨_, .bt [[d]] 0 0,?_, .bt [[d]] 0 0 b (o+(off+z.toNat)) (fun _=>us (off+z.toNat)) [d] rfl (fun j hj=> ?_) (fun j d' eQ=> ?_),h9⟩
      ·simp [Instr.indexAt,Instr.sureAddr,asIntOf,run_underlying fi,h0,aZ,lB fG,kJ,Nat.add_assoc]
      ·simp at hj;subst hj;exact hS _ agd
      ·match j with
       |0=>simp at eQ;subst eQ;exact kG _ _ hd
       |j+1=>simp at eQ
    ·exact h9.elim
   ·exact h9.elim
  ·exact h.elim
theorem qM{T:Nat}(h:gK P T=true):P.underlying T=some .string:=by
 unfold gK at h;split at h
 ·assumption
 ·cases h
theorem YY{T:Nat}{x:AV}{u:aiI}{ty:Nat}{C:Nat→Prop}(hu:aL G w u x)(h:qD P T x C):∃m:Nat,(Builtin.len_ #[T] ty #[u]).run P w= .ok (.int .i64 m) w∧C m:=by
 have T0:∀(A:aiG Addr)(l c:Nat),(eE P T).isSome=true→(Builtin.len_ #[T] ty #[.slice A l c]).run P w= .ok (.int .i64 l) w:=by
  intro A l c hT;obtain⟨⟨e,k⟩,hT⟩:=Option.isSome_iff_exists.1 hT;simp [Builtin.len_,run_underlying (jh hT).1,goInt]
 unfold qD at h;split at h
 ·rename_i b
  have:=hu.val;subst this;obtain⟨hT,hC⟩:=cr.1 h;exact⟨b.size,by simp [Builtin.len_,run_underlying (qM hT),goInt],hC⟩
 ·cases hu with
  |row=>exact⟨_,T0 _ _ _ (cr.1 h).1,(cr.1 h).2⟩
 ·split at h
  ·rename_i xs kN
   obtain⟨A,b,o,c,k,us,rfl,_⟩:=(hu.list kN).nR;exact⟨_,T0 _ _ _ (cr.1 h).1,(cr.1 h).2⟩
  ·exact h.elim
def AI(a:Act)(x:aiG Operand)(d m:Nat):Prop:=match x with|none=>m=d|some y=>∃k z,a.eval y= .int k z∧0≤z∧m=z.toNat
theorem tS{x:aiG Operand}{d:Nat}{C:Nat→Prop}(hs:dk G w a s)(h:jn (ev s) x d C):∃m,C m∧AI a x d m:=by
 cases x with
 |none=>exact⟨_,h,rfl⟩
 |some y=>
  unfold jn at h;simp only at h;split at h
  ·rename_i z hz
   obtain⟨k,hk⟩:=(hs.ev y).int hz;exact⟨_,h.2,k,z,hk,h.1,rfl⟩
  ·exact h.elim
theorem zp{k:IntKind}{z:Int}{y:Nat}{code:BoundsCode}(h0:0≤z)(h:z.toNat≤y)(w:aiJ):(Instr.sliceBound (.int k z) y code).run P w= .ok z.toNat w:=by
 have:z≤(y:Int):=by omega
 simp [Instr.sliceBound,asIntOf,h0,this]
theorem DA{lo hi:aiG Operand}{len cap l h:Nat}{Ax:Bool}(hlo:AI a lo 0 l)(pH:AI a hi len h)(hl:l≤h)(hh:h≤cap)(w:aiJ):
 (Instr.sliceBounds Ax len cap (lo.map a.eval) (hi.map a.eval) none).run P w= .ok (l,h,cap) w:=by
 unfold AI at hlo pH;cases lo with
 |none=>
  subst hlo;cases hi with
  |none=>subst pH;simp [Instr.sliceBounds]
  |some y=>
   obtain⟨k,z,e,h0,rfl⟩:=pH;simp [Instr.sliceBounds,e,zp h0 hh]
 |some x=>
  obtain⟨k',z',e',NW,rfl⟩:=hlo;cases hi with
  |none=>subst pH;simp [Instr.sliceBounds,e',zp NW hl]
  |some y=>
   obtain⟨k,z,e,h0,rfl⟩:=pH;simp [Instr.sliceBounds,e,e',zp h0 hh,zp NW hl]
theorem dG.part{S:Nat→Nat→Prop}{v:aiI}{xs:aiE (aiE D)}{k:Nat}(hp:dG S w v (.sl xs))(hk:∀c∈xs,c.length=k){l h:Nat}(hl:l≤h)(hh:h≤xs.length):
 ∃A c,v= .slice A xs.length c∧xs.length≤c∧dG S w (.slice (if c=l then A else A.map (·.add (l*k))) (h-l) (c-l)) (.sl ((xs.take h).drop l)):=by
 obtain⟨A,b,o,c,k',us,rfl,hA,ki,qJ,k9,hS,kG⟩:=hp.nR;refine⟨A,c,rfl,ki,?_⟩;have hlen:((xs.take h).drop l).length=h-l:=by simp;omega
 rw[←hlen];by_cases hx:xs=[]
 ·subst hx;have e:((([]:aiE (aiE D)).take h).drop l)=[]:=by simp
  rw[e];exact .sl _ 0 0 (c-l) 0 [] (fun _ _=>undef) (fun h=>absurd rfl h) (Nat.zero_le _) (by omega) (fun _ h=>by cases h) (fun i j hi=>by simp at hi) (fun i j x d hx=>by simp at hx)
 ·have ek:k'=k:=by
   obtain⟨x,kd⟩:=List.exists_mem_of_ne_nil xs hx;rw[←k9 x kd,hk x kd]
  subst ek;have ff:∀i,i<h-l→((xs.take h).drop l)[i]?=xs[l+i]?:=fun i hi=>by
   rw[List.getElem?_drop,List.getElem?_take_of_lt (by omega)]
  refine .sl _ b (o+l*k') (c-l) k' _ (fun i j=>us (l+i) j) (fun dj=> ?_) (by rw[hlen];omega) (by omega) (fun x hx=>hk x (List.mem_of_mem_take (List.mem_of_mem_drop hx))) (fun i j hi hj=> ?_) (fun i j x d hx hd=> ?_)
  ·have JY:0<((xs.take h).drop l).length:=List.length_pos_iff.2 dj;rw[hlen]at JY;rw[if_neg (by omega),hA hx];simp [kJ]
  ·rw[hlen]at hi;have:=hS (l+i) j (by omega) hj;rw[Nat.add_mul,←Nat.add_assoc]at this;exact this
  ·have hi:=(ahP.1 hx).1;rw[hlen]at hi;rw[ff i hi]at hx;exact kG _ _ _ _ hx hd
theorem aeh{T:Nat}{x:AV}{u:aiI}{lo hi mx:aiG Operand}{C:AV→Prop}(hs:dk G w a s)(hu:aL G w u x)(h:sq P T (ev s) x lo hi mx C):
 ∃p y,(Instr.sliceAt T u (lo.map a.eval) (hi.map a.eval) (mx.map a.eval)).run P w= .ok p w∧aL G w p y∧C y:=by
 unfold sq at h;split at h
 ·split at h
  ·rename_i b
   obtain⟨hT,h⟩:=cr.1 h;have hT:=qM hT;have:=hu.val;subst this;obtain⟨m,h,hm⟩:=tS hs h;obtain⟨xB,h⟩:=h;obtain⟨l,h,hl⟩:=tS hs h;obtain⟨qv,h⟩:=h;refine⟨_,_,?_, .d (.v _),h⟩;have hb:=DA (P:=P) (Ax:=false) hl hm qv xB w;simp [Instr.sliceAt,Instr.slice,run_underlying hT,hb]
  ·rename_i m off
   split at h
   ·rename_i c e k hT
    rw[cr,dQ]at h;obtain⟨qJ,h⟩:=h;have qJ:c≤maxLen:=by unfold maxLen;omega
    obtain⟨fi,fG⟩:=LX hT;obtain⟨hh,h,hm⟩:=tS hs h;obtain⟨xB,h⟩:=cr.1 h;rw[dQ]at xB;obtain⟨l,h,hl⟩:=tS hs h;obtain⟨qv,h⟩:=cr.1 h;simp only[ahR,dQ,Bool.not_eq_true',←Bool.not_eq_true,Nat.not_le]at qv;obtain⟨qv,ki⟩:=qv;have hb:=DA (P:=P) (Ax:=false) hl hm qv xB w;cases hu with
    |ptr _ _ uY=>
     refine⟨_,_,?_, .row m (off+l*k) (hh-l) (c-l) k uY (by omega) (by omega),h⟩;simp [Instr.sliceAt,Instr.sureAddr,run_underlying fi,hb,lB fG,kJ,Nat.ne_of_gt ki]
   ·exact h.elim
  ·split at h
   ·rename_i xs e k kN hT
    obtain⟨hk,h⟩:=h;obtain⟨fi,fG⟩:=jh hT;obtain⟨hh,h,hm⟩:=tS hs h;obtain⟨xB,h⟩:=h;obtain⟨l,h,hl⟩:=tS hs h;obtain⟨qv,h⟩:=h;obtain⟨A,c,rfl,ki,hp⟩:=(hu.list kN).part hk qv xB;have hb:=DA (P:=P) (Ax:=true) hl hm qv (ah7 xB ki) w;refine⟨_,_,?_, .d hp,h⟩;simp [Instr.sliceAt,Instr.slice,run_underlying fi,hb,lB fG]
   ·exact h.elim
 ·rename_i y
  split at h
  case h_2=>exact h.elim
  rename_i yh
  split at h
  ·rename_i xs e k kN hT
   obtain⟨hk,h⟩:=h;obtain⟨fi,fG⟩:=jh hT;obtain⟨c',h3,hc⟩:=tS hs h;obtain⟨gd,h3⟩:=h3;obtain⟨hh,h4,hm⟩:=tS hs h3;obtain⟨rfl,h5⟩:=h4;clear h h3;obtain⟨k1,z1,e1,p1,q1⟩:=hc;obtain⟨k2,z2,e2,p2,q2⟩:=hm;obtain⟨A,c,rfl,ki,hp⟩:=(hu.list kN).part hk (Nat.zero_le hh) gd;have Wu:dG G.S w (.slice A hh hh) (.sl (xs.take hh)):=by
    have h1:(if c=0 then A else A.map (·.add (0*k)))=A:=by
     split
     ·rfl
     ·cases A<;>simp [Addr.add]
    rw[h1,aip]at hp;obtain⟨A',b,o,c2,k',us,e,r1,r2,r3,r4,r5,r6⟩:=hp.nR;have hl:(xs.take hh).length=hh:=by simp;omega
    injection e with eA e3 e4;subst eA;have:=dG.sl (S:=G.S) (w:=w) A b o hh k' (xs.take hh) us r1 (by omega) (by omega) r4 r5 r6
    rwa [hl]at this
   refine⟨.slice A hh hh, .full (xs.take hh),?_, .full _ Wu ⟨A,by simp;omega⟩,h5⟩;have b1:(Instr.sliceBound (.int k1 z1) c .slice3Acap).run P w= .ok hh w:=by rw[zp p1 (by omega),q1]
   have b2:(Instr.sliceBound (.int k2 z2) hh .slice3B).run P w= .ok hh w:=by rw[zp p2 (by omega),←q2]
   simp only[Option.map_some,Option.map_none,e1,e2];have hA:A.map (·.add 0)=A:=by cases A<;>simp [Addr.add]
   simp [Instr.sliceAt,Instr.slice,Instr.sliceBounds,run_underlying fi,b1,b2,lB fG,hA]
  ·exact h.elim
theorem I0:∀{cs:aiE AV}{ds:aiE D},mf cs=some ds→ds.length=cs.length∧∀(i:Nat)(c:AV)(d:D),cs[i]?=some c→ds[i]?=some d→c.w5=some d
 |[],ds,h=>by simp [mf]at h;subst h;simp
 |c::cs,ds,h=>by
  unfold mf at h;split at h
  ·rename_i d l hd hl
   cases h
   obtain⟨h1,h2⟩:=I0 hl;refine⟨by simp [h1],fun i c' d' hc eQ=> ?_⟩
   match i with
   |0=>simp at hc eQ;subst hc;subst eQ;exact hd
   |i+1=>exact h2 i c' d' (by simpa using hc) (by simpa using eQ)
  ·cases h
theorem dG.zk{S:Nat→Nat→Prop}{w:aiJ}{u:aiI}{x:D}(h:dG S w u x):dG S w u x.zk:=by
 unfold D.zk;split
 ·cases h with
  |v=>exact .sl none 0 0 0 0 [] (fun _ _=>undef) (fun h=>absurd rfl h) (ah0 _) (Nat.zero_le _) (fun _ h=>absurd h aiw) (fun i j hi=>absurd hi (aii _)) (fun i j x d hx=>by simp at hx)
 ·exact h
theorem aL.LF{u:aiI}{x:AV}{d:D}(h:aL G w u x)(hx:x.w5=some d):dG G.S w u d:=by
 unfold AV.w5 at hx;split at hx
 ·cases hx;cases h with|d h=>exact h.zk
 ·cases hx;cases h with|own _ _ _ h=>exact h
 ·cases hx;cases h with|full _ h=>exact h
 ·cases hx
theorem ql(k:Nat):∀(m:Nat)(l:aiE D),(my k m l).length=m
 |0,_=>rfl
 |m+1,l=>by simp [my,ql k m]
theorem LL(k:Nat):∀(m:Nat)(l:aiE D)(i:Nat),i<m→(my k m l)[i]?=some ((l.drop (i*k)).take k)
 |0,_,_,h=>by omega
 |m+1,l,0,_=>by simp [my]
 |m+1,l,i+1,h=>by
  have:=LL k m (l.drop k) i (by omega);rw[my,air,this,List.drop_drop,Nat.add_mul,Nat.one_mul,Nat.add_comm k]
theorem Uq{k m:Nat}{us:aiE aiI}{ds:aiE D}(hl:ds.length=m*k)(hu:us.length=m*k)(h1:∀u∈us,u.oneCell'=true)
 (hr:∀(i:Nat)(u:aiI)(d:D),us[i]?=some u→ds[i]?=some d→dG G.S w u d):Rd G.S w k (my k m ds) us:=by
 have hb:∀i,i<m→(i+1)*k≤m*k:=fun i hi=>Nat.mul_le_mul_right k hi;refine⟨by rw[ql,hu],fun x hx=> ?_,h1,fun i j x d hx hd=> ?_⟩
 ·obtain⟨i,hi⟩:=List.mem_iff_getElem?.1 hx;have GG:i<m:=by have:=(ahP.1 hi).1;rwa [ql]at this
  rw[LL k m ds i GG]at hi;cases hi
  have:=hb i GG;rw[Nat.add_mul]at this;simp;omega
 ·have GG:i<m:=by have:=(ahP.1 hx).1;rwa [ql]at this
  rw[LL k m ds i GG]at hx;cases hx
  rw[List.getElem?_take]at hd;split at hd
  ·rw[List.getElem?_drop]at hd;have:=(ahP.1 hd).1;have aZ:i*k+j<us.length:=by omega
   exact⟨us[i*k+j],ahT aZ,hr _ _ _ (ahT aZ) hd⟩
  ·cases hd
theorem aaB{k U e':Nat}{y:AV}{v:aiI}{C:aiE (aiE D)→Prop}(hi:cw G w s.h)(hv:aL G w v y)(hk:0<k)(hU:P.underlying U=some (.slice e'))(h:s5 s.h k y C):
 ∃ys us,Rd G.S w k ys us∧Src P k U v ys.length us w∧C ys:=by
 unfold s5 at h;split at h
 ·rename_i m off len cap k'
  split at h
  ·rename_i cs hm
   split at h
   ·rename_i ds tO
    obtain⟨fm,hC⟩:=cr.1 h;simp only[ahR,beq_iff_eq,dQ]at fm;obtain⟨⟨rfl,hlen⟩,fz⟩:=fm;obtain⟨h1,h2⟩:=I0 tO;obtain⟨_,_,vs,T,hh,hl,hr⟩:=hi.dz m _ hm;cases hv with
    |row _ _ _ _ _ uY ki nr=>
     have hdl:ds.length=len*k':=by rw[h1];simp;omega
     have mD:((vs.toList.drop off).take (len*k')).length=len*k':=by simp;omega
     have yx:∀(i:Nat)(u:aiI)(c:AV),((vs.toList.drop off).take (len*k'))[i]?=some u→((cs.drop off).take (len*k'))[i]?=some c→aL G w u c:=fun i u c hu hc=>by
      rw[List.getElem?_take]at hu hc;split at hu
      ·rename_i mv
       rw[if_pos mv]at hc;rw[List.getElem?_drop]at hu hc;exact hr _ u c (by rw[←aic];exact hu) hc
      ·cases hu
     have gd:((cs.drop off).take (len*k')).length=len*k':=by simp;omega
     have Vs:∀u∈(vs.toList.drop off).take (len*k'),u.oneCell'=true:=fun u hu=>by
      obtain⟨i,hi⟩:=List.mem_iff_getElem?.1 hu;have iY:i<len*k':=by rw[←mD];exact(ahP.1 hi).1
      have Ew:=ahT (l:=(cs.drop off).take (len*k')) (i:=i) (by rw[gd];exact iY);exact(yx i u _ hi Ew).jm (aif.1 fz _ (ah2 Ew))
     have Bz:=Uq (G:=G) (w:=w) (k:=k') (m:=len) hdl mD Vs (fun i u d hu hd=>by
      have iY:i<len*k':=by rw[←mD];exact(ahP.1 hu).1
      have Ew:=ahT (l:=(cs.drop off).take (len*k')) (i:=i) (by rw[gd];exact iY);exact(yx i u _ hu Ew).LF (h2 i _ d Ew hd))
     refine⟨_,_,Bz,?_,hC⟩;rw[ql];refine Src.ofSlice w hU _ len cap _ mD (fun j u hu=> ?_) Vs;rw[List.getElem?_take]at hu;split at hu
     ·rw[List.getElem?_drop,aic]at hu;rw[kJ,cell_of_row w _ _ vs T (0,0) hh];exact hu
     ·cases hu
   ·exact h.elim
  ·exact h.elim
 ·split at h
  ·rename_i ys iC
   obtain⟨us,h1,h2⟩:=(hv.list iC).src (P:=P) hk h.1 hU;exact⟨ys,us,h1,h2,h.2⟩
  ·exact h.elim
theorem DE:dG G.S w (.slice none 0 0) (.sl []):=
 .sl none 0 0 0 0 [] (fun _ _=>undef) (fun h=>absurd rfl h) (ah0 _) (by simp) (fun _ h=>by cases h) (fun i j hi=>by simp at hi) (fun i j x d hx=>by simp at hx)
theorem ZO(h:aiE an)(x y:an):(h++[x]).set h.length y=h++[y]:=by simp
theorem YD{T U ty e':Nat}{x y:AV}{u v:aiI}{C:AV→aiE an→Prop}(hi:cw G w s.h)(hu:aL G w u x)(hv:aL G w v y)(hU:P.underlying U=some (.slice e'))(h:tL P T s.h x y C):
 ∃p w' G' q h',(Builtin.append_ #[T,U] ty #[u,v]).run P w= .ok p w'∧cp G.N G w G' w'∧G.N≤G'.N∧cw G' w' h'∧aL G' w' p q∧C q h':=by
 unfold tL at h;split at h
 ·rename_i e k hT
  obtain⟨fi,fG⟩:=jh hT;split at h
  ·rename_i z dx hz nM
   obtain⟨fm,h⟩:=cr.1 h;simp only[ahR,beq_iff_eq,dQ,ain]at fm;obtain⟨hk,iZ⟩:=fm;obtain⟨i,iH,jO,Is⟩:=ML fG nM;have P4:i.zero=some z:=by
    obtain⟨i',h1,h2⟩:=Hr hz;rw[iH]at h1;cases h1;exact h2
   obtain⟨ys,us,hr,hs,h2⟩:=aaB hi hv hk hU h;clear h;have fresh:∀(xs:aiE (aiE D)),dG G.S w u (.sl xs)→(∃A,u= .slice A xs.length xs.length)→(∀c∈xs,c.length=k)→xs.length+ys.length≤maxLen→(xs.length+ys.length)*dx≤140737488355328→
    C (.own s.h.length (xs++ys)) (s.h++[.front e k (xs.length+ys.length)])→
    ∃p w' G' q h',(Builtin.append_ #[T,U] ty #[u,v]).run P w= .ok p w'∧cp G.N G w G' w'∧G.N≤G'.N∧cw G' w' h'∧aL G' w' p q∧C q h':=by
    intro xs hp hf iq hm hb hC;obtain⟨a1,a2,a3,a4⟩:=IL hi hp hf e k;obtain⟨p,w',G',r1,r2,r3,r4,r5⟩:=Ud (P:=P) (ty:=ty) a3 fi iH P4 jO Is iZ hk (n:=s.h.length) (xs:=xs) (ys:=ys) (by simp) a4 iq (hr.bq a1.S a1.cell) hs hm hb;rw[ZO]at r4;exact⟨p,w',G',_,_,r1,a1.trans (r2.less a2),ah7 a2 r3,r4,r5,hC⟩
   split at h2
   ·rename_i m xs
    split at h2
    ·rename_i e2 k2 len hm
     obtain⟨fm,rfl,iq,nr,hb,hC⟩:=cr.1 h2;simp only[ahR,beq_iff_eq]at fm;obtain⟨rfl,rfl⟩:=fm;obtain⟨p,w',G',r1,r2,r3,r4,r5⟩:=Ud (P:=P) (ty:=ty) hi fi iH P4 jO Is iZ hk hm hu iq hr hs nr hb;exact⟨p,w',G',_,_,r1,r2,r3,r4,r5,hC⟩
    ·exact h2.elim
   ·have:=hu.val;subst this;obtain⟨nr,hb,hC⟩:=h2;exact fresh [] DE ⟨none,rfl⟩ (fun _ h=>by cases h) (by simpa using nr) (by simpa using hb) (by simpa using hC)
   ·rename_i xs
    obtain⟨iq,nr,hb,hC⟩:=h2;cases hu with
    |full _ hp hf=>exact fresh xs hp hf iq nr hb hC
   ·exact h2.elim
  ·exact h.elim
 ·exact h.elim
end
theorem Sv(off:Nat):∀(l:aiE aiI)(k:Nat)(cs:Array aiI),((l.zipIdx k).foldl (fun cs(p:aiI×Nat)=>cs.setIfInBounds (off+p.2) p.1) cs).size=cs.size∧
 ∀i,off+k+l.length≤cs.size→((l.zipIdx k).foldl (fun cs(p:aiI×Nat)=>cs.setIfInBounds (off+p.2) p.1) cs)[i]?=if off+k≤i∧i<off+k+l.length then l[i-(off+k)]? else cs[i]?
 |[],k,cs=>⟨rfl,fun i _=>by
    have h:¬(off+k≤i∧i<off+k+([]:aiE aiI).length):=by simp
    rw[if_neg h];rfl⟩
 |u::l,k,cs=>by
  obtain⟨h1,h2⟩:=Sv off l (k+1) (cs.setIfInBounds (off+k) u);simp only[List.zipIdx_cons,List.foldl_cons];refine⟨by rw[h1];simp,fun i hi=> ?_⟩;simp only[ahS]at hi ⊢;rw[h2 i (by simp;omega)];by_cases ha:off+(k+1)≤i∧i<off+(k+1)+l.length
  ·rw[if_pos ha,if_pos ⟨by omega,by omega⟩];rw[show i-(off+k)=i-(off+(k+1))+1 by omega,air]
  ·rw[if_neg ha];by_cases hb:i=off+k
   ·subst hb;rw[if_pos ⟨ah0 _,by omega⟩,Nat.sub_self,List.getElem?_cons_zero,Array.getElem?_setIfInBounds_self_of_lt (by omega)]
   ·rw[if_neg (by omega),Array.getElem?_setIfInBounds_ne (Ne.symm hb)]
section
variable {P:aiH} {G:Gh} {w:aiJ}
structure Row(G:Gh)(w:World)(vs:Array Value)(cs:List AV):Prop where
 len:vs.size=cs.length
 rel:∀(i:Nat)(u:Value)(c:AV),vs[i]?=some u→cs[i]?=some c→aL G w u c
 one:∀(i:Nat)(u:Value),vs[i]?=some u→u.oneCell'=true
theorem adi{vs us:Array aiI}{cs ys:aiE AV}(h:Row G w vs cs)(h':Row G w us ys){off:Nat}(hb:off+ys.length≤cs.length):
 Row G w (us.zipIdx.foldl (fun cs(p:aiI×Nat)=>cs.setIfInBounds (off+p.2) p.1) vs) (gO cs off ys):=by
 have e:us.zipIdx.foldl (fun cs(p:aiI×Nat)=>cs.setIfInBounds (off+p.2) p.1) vs=(us.toList.zipIdx 0).foldl (fun cs(p:aiI×Nat)=>cs.setIfInBounds (off+p.2) p.1) vs:=by
  rw[←Array.foldl_toList,Array.toList_zipIdx]
 obtain⟨h1,h2⟩:=Sv off us.toList 0 vs;rw[←e]at h1 h2;have hl:us.toList.length=ys.length:=by rw[ain,h'.len]
 have hle:off+0+us.toList.length≤vs.size:=by rw[hl,h.len];omega
 have hs:∀i,(gO cs off ys)[i]?=if off+0≤i∧i<off+0+us.toList.length then ys[i-off]? else cs[i]?:=fun i=>by
  unfold gO;rw[ah6];by_cases ha:i<off
  ·rw[ahZ (by simp;omega),List.getElem?_take_of_lt ha,if_neg (by omega)]
  ·rw[ah5 (by simp;omega)];simp only[List.length_take];rw[Nat.min_eq_left (by omega)];by_cases hb:i-off<ys.length
   ·rw[ahZ hb,if_pos (by omega)]
   ·rw[ah5 (by omega),List.getElem?_drop,if_neg (by omega),show off+ys.length+(i-off-ys.length)=i by omega]
 refine⟨by rw[h1,BE _ _ _ hb,h.len],fun i u c hu hc=> ?_,fun i u hu=> ?_⟩
 ·rw[h2 i hle]at hu;rw[hs]at hc;split at hu
  ·rename_i hp
   rw[if_pos hp]at hc;exact h'.rel _ _ _ (by rw[←aic];exact hu) hc
  ·rename_i hp
   rw[if_neg hp]at hc;exact h.rel _ _ _ hu hc
 ·rw[h2 i hle]at hu;split at hu
  ·exact h'.one _ _ (by rw[←aic];exact hu)
  ·exact h.one _ _ hu
theorem aL.Ui{u:aiI}{x:AV}(h:aL G w u x)(hb:x.iS=true):Row G w u.cells x.cells:=by
 obtain⟨h1,h2⟩:=h.cells hb;refine⟨h1,fun i v c hv hc=>(h2 i v c hv hc).1,fun i v hv=> ?_⟩;have aZ:i<x.cells.length:=by rw[←h1];exact(ah4.1 hv).1
 exact(h2 i v _ hv (ahT aZ)).2
theorem IU(place:Nat→aiG (Nat×Nat))(places:aiE (Nat×Nat))(hp:∀i pl,places[i]?=some pl→place i=some pl):∀(ps:aiE (Nat×AV))(qs:aiE (Nat×aiI))(cs cB:aiE AV)(vs:Array aiI),Row G w vs cs→
 qs.length=ps.length→(∀(i:Nat)(p:Nat×AV)(q:Nat×aiI),ps[i]?=some p→qs[i]?=some q→q.1=p.1∧aL G w q.2 p.2)→(ps.all fun p=>p.2.iS)=true→np places cs ps=some cB→
 ∃fU,Instr.fill place vs qs=some fU∧Row G w fU cB
 |[],[],cs,cB,vs,h,_,_,_,hf=>by
  simp only[np,Option.some.injEq]at hf;subst hf;exact⟨vs,rfl,h⟩
 |[],_::_,_,_,_,_,hl,_,_,_=>by simp at hl
 |_::_,[],_,_,_,_,hl,_,_,_=>by simp at hl
 |(j,x)::ps,(j',u)::qs,cs,cB,vs,h,hl,hr,hb,hf=>by
  obtain⟨e1,e2⟩:=hr 0 (j,x) (j',u) rfl rfl;simp only at e1 e2;subst e1;simp only[aiA,ahR]at hb;unfold np at hf;split at hf
  ·rename_i off k CU
   rw[cond_eq_ite]at hf;split at hf
   ·rename_i hc
    simp only[ahR,beq_iff_eq,dQ]at hc;have mZ:=e2.Ui hb.1;obtain⟨fU,h1,h2⟩:=IU place places hp ps qs _ cB _ (adi h mZ (by rw[hc.1];exact hc.2)) (by simpa using hl) (fun i p q hp hq=>hr (i+1) p q (by simpa using hp) (by simpa using hq)) hb.2 hf;refine⟨fU,?_,h2⟩;unfold Instr.fill;rw[hp _ _ CU];have h3:¬(u.cells.size≠k||decide (off+u.cells.size>vs.size))=true:=by
     rw[mZ.len,hc.1,h.len];simp;exact hc.2
    simp only[h3];exact h1
   ·cases hf
  ·cases hf
theorem Wi{z:Array aiI}(h:z.toList.all Value.oneCell'=true):z.all (·.oneCell')=true:=by
 rw[aif]at h;exact Array.all_eq_true_iff_forall_mem.2 fun u hu=>h u (Array.mem_toList_iff.2 hu)
theorem abA(z:aiI)(h:z.cells.all (·.oneCell')=true):Row G w z.cells (z.cells.toList.map fun u=> .d (.v u)):=by
 refine⟨by simp,fun i u c hu hc=> ?_,fun i u hu=>Array.all_eq_true_iff_forall_mem.1 h u (Array.mem_of_getElem? hu)⟩;rw[ahW,aic,hu]at hc;cases hc
 exact .d (.v u)
theorem U0:∀(fs:aiE Field)(ps:aiE (Nat×Nat))(w:aiJ),AX P fs=some ps→(fs.mapM (m:=Sem) fun f=>do pure (f.offset,←sizeOf f.type)).run P w= .ok ps w
 |[],ps,w,h=>by simp [AX]at h;subst h;simp
 |f::fs,ps,w,h=>by
  unfold AX at h;simp only[List.mapM_cons,Option.bind_eq_bind,Option.bind_eq_some_iff,Option.map_eq_some_iff,Option.pure_def,Option.some.injEq]at h;obtain⟨p,⟨k,hk,rfl⟩,qs,hq,rfl⟩:=h;have ih:=U0 fs qs w hq;simp only[List.mapM_cons,Sem.run_bind,lB hk,Sem.run_pure,Result.andThen_ok,ih]
theorem aeF{T:Nat}{ps:aiE (Nat×AV)}{qs:Array (Nat×aiI)}{C:AV→Prop}(hl:qs.toList.length=ps.length)
 (hr:∀(i:Nat)(p:Nat×AV)(q:Nat×aiI),ps[i]?=some p→qs.toList[i]?=some q→q.1=p.1∧aL G w q.2 p.2) (h:vR P T ps C):∃u y,(Instr.build T qs).run P w= .ok u w∧aL G w u y∧C y:=by
 unfold vR at h;split at h
 ·rename_i places z Fo hz
  obtain⟨fs,hT,CU⟩:∃fs,P.underlying T=some (.struct fs)∧AX P fs.toList=some places:=by
   unfold JC at Fo;split at Fo
   ·exact⟨_,by assumption,Fo⟩
   ·cases Fo
  ·split at h
   ·rename_i cs hf
    obtain⟨fm,hC⟩:=cr.1 h;simp only[ahR]at fm;obtain⟨hb,fz⟩:=fm;have fz:=Wi fz;have kf:(fs.mapM (m:=Sem) fun f=>do pure (f.offset,←sizeOf f.type)).run P w= .ok places.toArray w:=by
     rw[Array.mapM_eq_mapM_toList];have:=U0 fs.toList places w CU;have e:(Functor.map List.toArray (fs.toList.mapM (m:=Sem) fun f=>do pure (f.offset,←sizeOf f.type)):Sem _)=(fs.toList.mapM (m:=Sem) fun f=>do pure (f.offset,←sizeOf f.type))>>=fun l=>pure l.toArray:=rfl;rw[e,Sem.run_bind,this];rfl
    obtain⟨fU,h1,h2⟩:=IU (fun i=>places.toArray[i]?) places (fun i pl h=>by simpa using h) ps qs.toList _ cs z.cells (abA (G:=G) (w:=w) z fz) hl hr hb hf;refine⟨.agg fU, .agg cs,?_, .agg fU cs h2.len h2.rel,hC⟩;unfold Instr.build;simp only[Sem.run_bind,GY hz,Result.andThen_ok,run_underlying hT,kf,h1,Sem.run_pure]
   ·exact h.elim
 ·exact h.elim
theorem OP{T:Nat}(h:Aj P T=true):P.underlying T=some .bool:=by
 unfold Aj at h;split at h
 ·assumption
 ·cases h
theorem GI{T:Nat}{k:IntKind}(h:o6 P T=some k):P.underlying T=some (.int k):=by
 unfold o6 at h;split at h
 ·cases h;assumption
 ·cases h
theorem RI{t off:Nat}{vs:Array aiI}{u:aiI}(ha:lr P t=some false)(hu:vs[off]?=some u):(part t vs off).run P w= .ok u w:=by
 unfold part;rw[Sem.run_bind,DP ha w];simp [hu]
theorem ZU{t:Nat}{u v:aiI}{x y:AV}{b:Bool}(d:Nat)(hu:aL G w u x)(hv:aL G w v y)(h:BY P t x y=some b):(Op.equalIn (d+1) t u v).run P w= .ok b w:=by
 unfold BY at h;split at h
 ·have e1:=hu.val;have e2:=hv.val;subst e1;subst e2
  rename_i k a k' b'
  cases hc:wx k k'&&(o6 P t).isSome with
  |false=>rw[hc]at h;cases h
  |true=>
   rw[hc]at h;cases h;rw[ahR,Mm]at hc;obtain⟨rfl,hc⟩:=hc;obtain⟨k2,hk⟩:=Option.isSome_iff_exists.1 hc;exact run_equalIn_int w d t k k2 a b' (GI hk)
 ·have e1:=hu.val;have e2:=hv.val;subst e1;subst e2;cases hc:gK P t with
  |false=>rw[hc]at h;cases h
  |true=>rw[hc]at h;cases h;rw[←MQ,←MQ];exact run_equalIn_string w d t _ _ (qM hc)
 ·have e1:=hu.val;have e2:=hv.val;subst e1;subst e2;cases hc:Aj P t with
  |false=>rw[hc]at h;cases h
  |true=>rw[hc]at h;cases h;exact run_equalIn_bool w d t _ _ (OP hc)
 ·cases h
theorem YF{t off k:Nat}{vs:Array aiI}(ha:lr P t=some true)(hk:fO P t=some k):(part t vs off).run P w= .ok (.agg (vs.extract off (off+k))) w:=by
 unfold part;rw[Sem.run_bind,DP ha w];simp [lB hk]
theorem QM{us:Array aiI}{xs:aiE AV}{off k:Nat}(hx:us.size=xs.length)(hb:off+k≤xs.length)(hu:∀(i:Nat)(u:aiI)(c:AV),us[i]?=some u→xs[i]?=some c→aL G w u c):
 (us.extract off (off+k)).size=((xs.drop off).take k).length∧∀(i:Nat)(u:aiI)(c:AV),(us.extract off (off+k))[i]?=some u→((xs.drop off).take k)[i]?=some c→aL G w u c:=by
 refine⟨by simp;omega,fun i u c h1 h2=> ?_⟩;rw[List.getElem?_take]at h2;split at h2
 ·next hi=>
  rw[List.getElem?_drop]at h2;rw[Array.getElem?_extract]at h1;split at h1
  ·exact hu _ _ _ h1 h2
  ·cases h1
 ·cases h2
theorem Iq{sub:TypeId→aiE AV→aiE AV→aiG Bool}(d:Nat)
 (Ce:∀(T:Nat)(us vs:Array aiI)(xs ys:aiE AV)(b:Bool),us.size=xs.length→vs.size=ys.length→(∀(i:Nat)(u:aiI)(c:AV),us[i]?=some u→xs[i]?=some c→aL G w u c)→(∀(i:Nat)(u:aiI)(c:AV),vs[i]?=some u→ys[i]?=some c→aL G w u c)→sub T xs ys=some b→(Op.equalIn (d+1) T (.agg us) (.agg vs)).run P w= .ok b w)
 {us vs:Array aiI} {xs ys:aiE AV} (hx:us.size=xs.length) (hy:vs.size=ys.length)
 (hu:∀(i:Nat)(u:aiI)(c:AV),us[i]?=some u→xs[i]?=some c→aL G w u c) (hv:∀(i:Nat)(u:aiI)(c:AV),vs[i]?=some u→ys[i]?=some c→aL G w u c):
 ∀(fs:aiE Field)(b:Bool),AB P sub fs xs ys=some b→(Op.eqFields (d+1) us vs fs).run P w= .ok b w
 |[],b,h=>by cases h;simp [Op.eqFields]
 |f::fs,b,h=>by
  unfold AB at h;cases hn:f.name== "_" with
  |true=>rw[hn]at h;cases h
  |false=>
   rw[hn]at h;simp only[cond_false]at h;have dj:f.name≠ "_" :=by simpa using hn
   split at h
   ·next e1=>
    split at h
    ·next x y e2 e3=>
     split at h
     ·next a c e4 e5=>
      cases h
      have l1:f.offset<us.size:=by rw[hx];exact(ahP.1 e2).1
      have l2:f.offset<vs.size:=by rw[hy];exact(ahP.1 e3).1
      have g1:=aib l1;have g2:=aib l2;simp only[Op.eqFields,if_pos dj,Sem.run_bind,RI (w:=w) e1 g1,RI (w:=w) e1 g2,Result.andThen_ok,ZU d (hu _ _ _ g1 e2) (hv _ _ _ g2 e3) e4];cases a with
      |true=>simp only[Bool.not_true,Bool.false_eq_true,if_false,Bool.true_and];exact Iq d Ce hx hy hu hv fs c e5
      |false=>simp
     ·cases h
    ·cases h
   ·next e1=>
    split at h
    ·next k e2=>
     cases lG:cN (f.offset+k) xs.length&&cN (f.offset+k) ys.length with
     |false=>rw[lG]at h;cases h
     |true=>
      rw[lG]at h;rw[ahR,dQ,dQ]at lG;simp only[cond_true]at h;split at h
      ·next a c e4 e5=>
       cases h
       obtain⟨p1,p2⟩:=QM hx lG.1 hu;obtain⟨q1,q2⟩:=QM hy lG.2 hv;simp only[Op.eqFields,if_pos dj,Sem.run_bind,YF (w:=w) e1 e2,Result.andThen_ok,Ce _ _ _ _ _ a p1 q1 p2 q2 e4];cases a with
       |true=>simp only[Bool.not_true,Bool.false_eq_true,if_false,Bool.true_and];exact Iq d Ce hx hy hu hv fs c e5
       |false=>simp
      ·cases h
    ·cases h
   ·cases h
theorem SC:∀(n d:Nat)(T:Nat)(us vs:Array aiI)(xs ys:aiE AV)(b:Bool),us.size=xs.length→vs.size=ys.length→(∀(i:Nat)(u:aiI)(c:AV),us[i]?=some u→xs[i]?=some c→aL G w u c)→(∀(i:Nat)(u:aiI)(c:AV),vs[i]?=some u→ys[i]?=some c→aL G w u c)→Hp P n T xs ys=some b→(Op.equalIn (d+n+1) T (.agg us) (.agg vs)).run P w= .ok b w
 |0,_,_,_,_,_,_,_,_,_,_,_,h=>by cases h
 |n+1,d,T,us,vs,xs,ys,b,hx,hy,hu,hv,h=>by
  unfold Hp at h;split at h
  ·next fs hT=>
   cases hc:P.stoodInHeld T with
   |true=>rw[hc]at h;cases h
   |false=>
    rw[hc]at h;have hf:P.fieldsOf T=fs:=by unfold Program.fieldsOf;rw[hT]
    rw[show d+(n+1)+1=(d+n+1)+1 by omega,run_equalIn_struct w (d+n+1) T us vs (by rw[hf];exact hT) hc,hf];exact Iq (d+n) (fun T' K9 fU J7 Mc b'=>SC n d T' K9 fU J7 Mc b') hx hy hu hv _ b h
  ·cases h
theorem aer{T:Nat}{us vs:Array aiI}{xs ys:aiE AV}{b:Bool}(hx:us.size=xs.length)(hy:vs.size=ys.length)
 (hu:∀(i:Nat)(u:aiI)(c:AV),us[i]?=some u→xs[i]?=some c→aL G w u c) (hv:∀(i:Nat)(u:aiI)(c:AV),vs[i]?=some u→ys[i]?=some c→aL G w u c) (h:E1 P T xs ys=some b):
 P.eqGuardType P.depth T=false∧(Op.equalIn 10000 T (.agg us) (.agg vs)).run P w= .ok b w:=by
 unfold E1 at h;split at h
 ·next fs hT=>
  cases hc:P.stoodInHeld T||P.eqGuardType P.depth T with
  |true=>rw[hc]at h;cases h
  |false=>
   rw[hc]at h;rw[aiD]at hc;refine⟨hc.2,?_⟩;have hf:P.fieldsOf T=fs:=by unfold Program.fieldsOf;rw[hT]
   rw[run_equalIn_struct w 9999 T us vs (by rw[hf];exact hT) hc.1,hf];exact Iq 9998 (fun T' K9 fU J7 Mc b'=>SC 4 9994 T' K9 fU J7 Mc b') hx hy hu hv _ b h
 ·cases h
theorem Ww{op:BinOp}{x y:AV}{u v:aiI}{T:Nat}{X Y:Operand}{C:AV→Prop}(hu:aL G w u x)(hv:aL G w v y)(h:wq P T op x y C):
 ∃r z,(do eqGuard op T X Y u v;binOp op T u v:Sem aiI).run P w= .ok r w∧aL G w r z∧C z:=by
 unfold wq at h;split at h
 ·rename_i k a k' b
  have e1:=hu.val;have e2:=hv.val;subst e1;subst e2;have hg:(eqGuard op T X Y (.int k a) (.int k' b)).run P w= .ok () w:=by unfold eqGuard;cases op<;>simp
  rw[Sem.run_bind,hg];simp only[Result.andThen_ok];split at h
  ·rename_i z hq
   obtain⟨uw,hp,hC⟩:=cr.1 h;rw[Mm]at uw;subst uw;refine⟨z,_,?_, .d (.v z),hC⟩;cases op<;>simp [Mb]at hq<;>subst hq<;>simp [binOp,Op.intDiv,hp]
  ·split at h
   ·rename_i z hq
    refine⟨z,_,?_, .d (.v z),h.2⟩;have hb:¬b<0:=by omega
    cases op<;>simp [L7]at hq<;>subst hq<;>simp [binOp,Op.shift,hb]
   ·split at h
    ·rename_i z hq
     obtain⟨uw,hC⟩:=cr.1 h;rw[Mm]at uw;subst uw;refine⟨z,_,?_, .d (.v z),hC⟩;cases op<;>simp [Ni]at hq<;>subst hq<;>simp [binOp,Op.intArith,Op.intCmp,Op.intBits]
    ·exact h.elim
 ·rename_i a b
  have e1:=hu.val;have e2:=hv.val;subst e1;subst e2;have hg:(eqGuard op T X Y (.string a) (.string b)).run P w= .ok () w:=by unfold eqGuard;cases op<;>simp
  rw[Sem.run_bind,hg];simp only[Result.andThen_ok];split at h
  ·rename_i z hq
   refine⟨z,_,?_, .d (.v z),h⟩;cases op<;>simp [Mq]at hq<;>subst hq<;>simp [binOp,Op.stringOp,MQ]
  ·split at h
   ·refine⟨_,_,?_, .d (.v _),h.2⟩;have hm:¬(((a.size+b.size:Nat):Int)>IntKind.i64.max):=by
     have:=h.1;unfold maxLen at this;have e:IntKind.i64.max=9223372036854775807:=by decide
     rw[e];omega
    simp only[binOp,Op.stringOp];rw[if_neg hm];rfl
   ·exact h.elim
 ·rename_i a b
  have e1:=hu.val;have e2:=hv.val;subst e1;subst e2;have hg:(eqGuard op T X Y (.bool a) (.bool b)).run P w= .ok () w:=by unfold eqGuard;cases op<;>simp
  rw[Sem.run_bind,hg];simp only[Result.andThen_ok];split at h
  ·rename_i z hq
   obtain⟨hT,hC⟩:=cr.1 h;have hT:=OP hT;refine⟨z,_,?_, .d (.v z),hC⟩;have hb:=run_equalIn_bool (P:=P) w 9999 T a b hT;cases op<;>simp [KO]at hq<;>subst hq<;>simp [binOp,Op.equal,Op.maxDepth,hb]
  ·exact h.elim
 ·rename_i xs ys
  cases hu with
  |agg us _ A4 rF=>
   cases hv with
   |agg vs _ zt B7=>
    split at h
    ·next b hb=>
     obtain⟨hg,he⟩:=aer A4 zt rF B7 hb;rw[Sem.run_bind,run_eqGuard_agg w op T X Y us vs hg];simp only[Result.andThen_ok];split at h
     ·next z hz=>
      refine⟨z,_,?_, .d (.v z),h⟩;cases op<;>simp [uQ]at hz<;>subst hz
      ·rw[run_eql_struct,he];rfl
      ·rw[run_neq_struct,he];rfl
     ·exact h.elim
    ·exact h.elim
 ·exact h.elim
theorem adM{op:UnOp}{x:AV}{u:aiI}{C:AV→Prop}(hu:aL G w u x)(h:xr op x C):∃r z,(Op.unary op u).run P w= .ok r w∧aL G w r z∧C z:=by
 unfold xr at h;split at h
 ·rename_i v
  have e:=hu.val;subst e;split at h
  ·rename_i z hq
   refine⟨z,_,?_, .d (.v z),h⟩;unfold Ge at hq;split at hq
   ·cases hq;simp [Op.unary]
   ·cases hq;simp [Op.unary,Op.intArith]
   ·cases hq;simp [Op.unary,Op.intBits]
   ·cases hq
  ·exact h.elim
 ·exact h.elim
theorem aba{T:Nat}(h:EI P T=true):P.underlying T=some (.int .u8):=by
 unfold EI at h;split at h
 ·assumption
 ·cases h
theorem ZP{a b:Nat}{x:AV}{u:aiI}{C:AV→Prop}(hu:aL G w u x)(h:xG P a b x C):∃r z,(convert a b u).run P w= .ok r w∧aL G w r z∧C z:=by
 unfold xG at h;split at h
 ·rename_i k2 m
  have e:=hu.val;subst e;split at h
  ·rename_i k1 k h1 h2
   refine⟨_,_,?_, .d (.v _),h⟩;simp [convert,run_underlying (GI h1),run_underlying (GI h2),Conv.intToInt]
  ·exact h.elim
 ·rename_i s
  have e:=hu.val;subst e;obtain⟨fm,hC⟩:=cr.1 h;rw[ahR]at fm;refine⟨_,_,?_, .d (.v _),hC⟩;simp [convert,run_underlying (qM fm.1),run_underlying (qM fm.2)]
 ·split at h
  ·rename_i xs e k kN hT
   obtain⟨fm,ns,rfl,hC⟩:=cr.1 h;rw[ahR]at fm;refine⟨_,_,?_, .d (.v _),hC⟩;obtain⟨A,bb,o,cc,k',us,rfl,hA,ki,qJ,k9,hS,kG⟩:=(hu.list kN).nR;rw[run_convert_bytes_string w a b e A _ cc (jh hT).1 (aba fm.1) (qM fm.2)];simp only[ahU]at hA ki hS ⊢;cases ns with
   |nil=>
    cases A with
    |none=>rfl
    |some ad=>
     have hl:=run_loadCells_list (P:=P) w ad (([]:aiE Int).map (Value.int .u8)) (fun j v hj=>by simp at hj);simp only[List.map_nil,ah1]at hl;have:=run_bytesToString (P:=P) w ad 0 cc [] (by simpa using hl);exact this
   |cons n0 ns=>
    have ta:=hA (by simp);subst ta;have td:k'=1:=(k9 [.v (.int .u8 n0)] (by simp)).symm;subst td;have hl:=run_loadCells_list (P:=P) w ⟨bb,o,none⟩ ((n0::ns).map (Value.int .u8)) (fun j v hj=>by
     have aZ:=(ahP.1 hj).1;rw[ahU]at aZ;have h1:=(hS j 0 aZ (by omega)).2.1;rw[ahW,ahT aZ]at hj;cases hj
     have h2:=kG j 0 [.v (.int .u8 ((n0::ns)[j]))] (.v (.int .u8 ((n0::ns)[j]))) (by rw[ahW,ahT aZ];rfl) rfl;have h3:us j 0= .int .u8 ((n0::ns)[j]):=by
      generalize us j 0=q at h2;cases h2;rfl
     rw[kJ];rw[h3]at h1
     simpa using h1)
    rw[ahU]at hl;rw[run_bytesToString w _ _ cc _ hl];have key:∀(l:aiE Int)(r:aiF),l.foldl (fun r n=>r.push (UInt8.ofNat n.toNat)) r=⟨r.data++(l.map fun n=>UInt8.ofNat n.toNat).toArray⟩:=by
      intro l
      induction l with
      |nil=>intro r;simp
      |cons x l ih=>intro r;rw[List.foldl_cons,ih];simp [ByteArray.push]
    rw[key];have EM:ByteArray.empty.data= #[]:=rfl;rw[EM];simp
  ·exact h.elim
theorem Nj{T f off k:Nat}{g:Bool}(h:q6 P T f=some (off,k,g)):∃fs fd,P.underlying T=some (.struct fs)∧fs[f]?=some fd∧fO P fd.type=some k∧0<k∧lr P fd.type=some g∧fd.offset=off:=by
 unfold q6 at h;split at h
 ·rename_i fs hT
  split at h
  ·rename_i fd hf
   split at h
   ·rename_i k' g' h1 h2
    cases h
    exact⟨fs,fd,hT,hf,h1,Nat.succ_pos _,h2,rfl⟩
   ·cases h
  ·cases h
 ·cases h
theorem Ky{T f off k o b:Nat}{g:Bool}(h:q6 P T f=some (off,k,g)):(Instr.fieldAt T (.pointer (some ⟨b,o,none⟩)) f).run P w= .ok (.pointer (some ⟨b,o+off,none⟩)) w:=by
 obtain⟨fs,fd,h1,h2,h3,h4,h5,rfl⟩:=Nj h;simp [Instr.fieldAt,run_underlying h1,h2,Instr.sureAddr,fieldPlace,lB h3,Nat.ne_of_gt h4,kJ]
theorem Zc{T f:Nat}{x:AV}{u:aiI}{C:AV→Prop}(hu:aL G w u x)(h:wR P T x f C):∃r z,(Instr.field T u f).run P w= .ok r w∧aL G w r z∧C z:=by
 unfold wR at h;split at h
 ·rename_i off k cs hT
  obtain⟨hl,hC⟩:=cr.1 h;rw[dQ]at hl;obtain⟨fs,fd,h1,h2,h3,h4,h5,rfl⟩:=Nj hT;cases hu with
  |agg vs _ hlen hr=>
   refine⟨.agg (vs.extract fd.offset (fd.offset+k)),_,?_, .agg _ _ ?_ fun i u c hu hc=> ?_,hC⟩
   ·simp [Instr.field,run_underlying h1,h2,asAgg,part,DP h5,lB h3]
   ·simp;omega
   ·rw[Array.getElem?_extract]at hu;rw[List.getElem?_take]at hc;split at hc
    ·rw[List.getElem?_drop]at hc;split at hu
     ·exact hr _ u c hu hc
     ·cases hu
    ·cases hc
 ·rename_i off k cs hT
  obtain⟨fs,fd,h1,h2,h3,h4,h5,rfl⟩:=Nj hT;split at h
  ·rename_i c hc
   cases hu with
   |agg vs _ hlen hr=>
    have aZ:fd.offset<vs.size:=by rw[hlen];exact(ahP.1 hc).1
    refine⟨vs[fd.offset],c,?_,hr _ _ c (aib aZ) hc,h⟩;simp [Instr.field,run_underlying h1,h2,asAgg,part,DP h5,aib aZ]
  ·exact h.elim
 ·exact h.elim
end
def Gh.tb(G:Gh)(b m:Nat):Gh:={G with S:=fun c o=>G.S c o∨(c=b∧o<m)}
theorem So{G:Gh}{w:aiJ}{h:aiE an}(hi:cw G w h)(ob:Obj)(m:Nat):cp G.N G w (G.tb w.heap.size m) (w.alloc ob)∧cw (G.tb w.heap.size m) (w.alloc ob) h:=by
 have hE:cp G.N G w (G.tb w.heap.size m) (w.alloc ob):=
  ⟨by simp,fun _ _ h=> .inl h,fun b _ h=>World.cell?_alloc_lt _ _ _ (hi.S _ _ h),fun _ _=>rfl,fun _ _=> .inl ⟨rfl,rfl⟩,gB rfl,fun b hb=>Below.heap_alloc w ob b (hi.z b hb),rfl,rfl,rfl,fun b o hs=>hs.imp id fun⟨e,_⟩ hz=>aiu _ (hi.z _ (e▸hz))⟩
 refine⟨hE,hi.len,fun b hb=>aid (hi.z b hb) hE.size,fun b o hs=> ?_,fun n B hB=> ?_,fun m n b h1 h2=>hi.inj m n b h1 h2,hi.gl.bq hE⟩
 ·rcases hs with hs|⟨rfl,_⟩
  ·exact aid (hi.S b o hs) hE.size
  ·simp
 ·refine eF.bq (hi.lt hB) hE (ah0 _) ⟨rfl,rfl,rfl⟩ (fun b hb=> ?_) (hi.dz n B hB);have aZ:=hi.iL (n:=n) (b:=b) ((dV hB).trans hb);refine⟨Below.heap_alloc w _ _ aZ,fun o kj hs=> ?_⟩;rcases hs with hs|⟨e,_⟩
  ·exact kj hs
  ·omega
theorem PZ(k:Nat):∀(n o i:Nat)(pl:Nat×Nat),(tG k o n)[i]?=some pl→pl=(o+i*k,k)
 |0,_,_,_,h=>by simp [tG]at h
 |n+1,o,0,pl,h=>by simp [tG]at h;rw[←h];simp
 |n+1,o,i+1,pl,h=>by
  have:=PZ k n (o+k) i pl (by simpa [tG]using h);rw[this,Nat.add_mul];simp;omega
theorem Sm(l:aiE AV):∀n,(pO n l).length=n*l.length
 |0=>by simp [pO]
 |n+1=>by rw[pO,ahQ,Sm l n,Nat.add_mul];omega
theorem O3(l:aiE AV):∀(n i:Nat),i<n*l.length→(pO n l)[i]?=l[i%l.length]?
 |0,i,h=>by omega
 |n+1,i,h=>by
  rw[pO];by_cases hi:i<l.length
  ·rw[ahZ hi,Nat.mod_eq_of_lt hi]
  ·rw[ah5 (by omega),O3 l n _ (by rw[Nat.add_mul]at h;omega),←Nat.mod_eq_sub_mod (by omega)]
theorem Zo(z:aiI){k:Nat}(hz:z.cells.size=k)(n:Nat):pO n (z.cells.toList.map fun u=> .d (.v u))=(List.range (n*k)).map fun i=> .d (.v (z.cells[i%z.cells.size]!)):=by
 have hl:(z.cells.toList.map fun u=>AV.d (.v u)).length=k:=by simp [hz]
 refine List.ext_getElem? fun i=> ?_;by_cases hi:i<n*k
 ·rw[O3 _ _ _ (by rw[hl];exact hi),ahW,ahW,List.getElem?_range hi,hl,hz,aic];have hk:0<k:=Nat.pos_of_ne_zero fun e=>by subst e;simp at hi
  have aZ:i%k<z.cells.size:=by rw[hz];exact Nat.mod_lt _ hk
  rw[aib aZ];simp only[Option.map_some];rw[getElem!_pos z.cells (i%k) aZ]
 ·rw[aim (by rw[Sm,hl];omega),aim (by simp;omega)]
theorem Vb:∀{ps:aiE (Nat×AV)}{places:aiE (Nat×Nat)}{cs cB:aiE AV},np places cs ps=some cB→cB.length=cs.length
 |[],_,_,_,h=>by simp only[np,Option.some.injEq]at h;rw[h]
 |(i,x)::ps,places,cs,cB,h=>by
  unfold np at h;split at h
  ·rw[cond_eq_ite]at h;split at h
   ·rename_i hc
    simp only[ahR,beq_iff_eq,dQ]at hc;rw[Vb h,BE _ _ _ (by rw[hc.1];exact hc.2)]
   ·cases h
  ·cases h
section
variable {P:aiH} {r:aiG Nat} {n N0:Nat} {G:Gh} {w:aiJ} {a:Act} {s:St} {o:Oper} {K:St→Prop} {Q:Exit→Act→aiJ→Prop}
theorem YJ{T len:Nat}{h:aiE an}{ps:aiE (Nat×AV)}{qs:Array (Nat×aiI)}{C:AV→Prop}(hi:cw G w h)(hl:qs.toList.length=ps.length)
 (hr:∀(i:Nat)(p:Nat×AV)(q:Nat×aiI),ps[i]?=some p→qs.toList[i]?=some q→q.1=p.1∧aL G w q.2 p.2) (hC:vE P T len ps C):
 ∃u w' G' y,(Instr.buildSlice T len qs).run P w= .ok u w'∧cp G.N G w G' w'∧G.N≤G'.N∧cw G' w' h∧aL G' w' u y∧C y:=by
 unfold vE at hC;split at hC
 ·rename_i e k hT
  obtain⟨fi,fG⟩:=jh hT;split at hC
  ·rename_i z hz
   split at hC
   ·rename_i cs hf
    split at hC
    ·rename_i ds tO
     obtain⟨fm,hC⟩:=cr.1 hC;simp only[ahR,beq_iff_eq,dQ,ain]at fm;obtain⟨⟨⟨⟨hk,hsm⟩,iZ⟩,fz⟩,hb⟩:=fm;have fz:=Wi fz;rw[Zo z iZ]at hf;have CU:=PZ k;obtain⟨z0,uX⟩:∃z0:Array aiI,z0=if len*k=0 then #[]else z.cells:=⟨_,rfl⟩
     obtain⟨zr,Cc⟩:∃zr:Array aiI,zr=(Array.range (len*k)).map (z0[·%z0.size]!):=⟨_,rfl⟩;have mZ:Row G w zr ((List.range (len*k)).map fun i=> .d (.v (z.cells[i%z.cells.size]!))):=by
      have Ec:∀i,i<len*k→z0[i%z0.size]! =z.cells[i%z.cells.size]! :=fun i hi=>by rw[uX,if_neg (by omega)]
      refine⟨by rw[Cc];simp,fun i u c hu hc=> ?_,fun i u hu=> ?_⟩
      ·rw[Cc,Array.getElem?_map]at hu;rw[ahW]at hc;by_cases hi:i<len*k
       ·rw[List.getElem?_range hi]at hc;rw[Array.getElem?_range,if_pos hi]at hu;simp only[Option.map_some,Option.some.injEq]at hu hc;subst hu;subst hc;rw[Ec i hi];exact .d (.v _)
       ·rw[aim (by simp;omega)]at hc;cases hc
      ·rw[Cc,Array.getElem?_map]at hu;by_cases hi:i<len*k
       ·rw[Array.getElem?_range,if_pos hi]at hu;simp only[Option.map_some,Option.some.injEq]at hu;subst hu;rw[Ec i hi];have aZ:i%z.cells.size<z.cells.size:=Nat.mod_lt _ (by omega);rw[getElem!_pos z.cells _ aZ];exact Array.all_eq_true_iff_forall_mem.1 fz _ (Array.getElem_mem _)
       ·rw[Array.getElem?_eq_none (by simp;omega)]at hu;cases hu
     obtain⟨fU,h1,h2⟩:=IU (fun i=>some (i*k,k)) (tG k 0 len) (fun i pl h=>by
      have:=CU len 0 i pl h;rw[this];simp) ps qs.toList _ cs zr mZ hl hr hb hf
     obtain⟨d1,d2⟩:=I0 tO;have gd:cs.length=len*k:=by
      have:=Vb hf;rw[this];simp
     have x9:fU.size=len*k:=by rw[h2.len,gd]
     obtain⟨i1,i2⟩:=So hi (.cells fU e) (len*k);have Bz:Rd G.S w k (my k len ds) fU.toList:=Uq (by rw[d1,gd]) (by rw[ain,x9]) (fun u hu=>by
      obtain⟨j,hj⟩:=List.mem_iff_getElem?.1 hu;exact h2.one j u (by rw[←aic];exact hj)) (fun i u d hu hd=>by
      have aZ:i<cs.length:=by rw[←d1];exact(ahP.1 hd).1
      exact(h2.rel i u _ (by rw[←aic];exact hu) (ahT aZ)).LF (d2 i _ d (ahT aZ) hd))
     have hp:dG (G.tb w.heap.size (len*k)).S (w.alloc (.cells fU e)) (.slice (some ⟨w.heap.size,0,none⟩) len len) (.sl (my k len ds)):=by
      have:=(Bz.bq i1.S i1.cell).Gf w.heap.size len (by rw[ql];exact ah0 _) (by have:=Nat.le_mul_of_pos_right len hk;simp only[maxLen];omega) (fun o ho=> .inr ⟨rfl,by rw[ql]at ho;exact ho⟩) (fun o u hu=>by
       rw[World.cell?_alloc_new];rw[←aic];exact hu)
      rwa [ql]at this
     refine⟨_,_,_,_,?_,i1,ah0 _,i2, .full _ hp ⟨some ⟨w.heap.size,0,none⟩,by rw[ql]⟩,hC⟩;have kj:¬(len*k>2^24):=by omega
     unfold Instr.buildSlice;simp only[Sem.run_bind,run_underlying fi,Result.andThen_ok,lB fG,kj,if_false];by_cases h0:len*k=0
     ·rw[if_pos h0]at uX;subst uX;subst Cc;simp [h0]at h1;simp [h0,h1,newRow]
     ·rw[if_neg h0]at uX;subst uX;subst Cc;simp [h0,GY hz,h1,newRow]
    ·exact hC.elim
   ·exact hC.elim
  ·exact hC.elim
 ·exact hC.elim
end
section
variable {P:aiH} {G:Gh} {w:aiJ} {h:aiE an}
theorem zl(k s:aiF)(d:D)(l:aiE (aiF×D)):kO ((k,d)::l) s=if k=s then some d else kO l s:=by
 have e1:kO ((k,d)::l) s=bif bL k==bL s then some d else kO l s:=rfl;rw[e1];by_cases e:k=s
 ·subst e;rw[if_pos rfl];simp
 ·rw[if_neg e];have:(bL k==bL s)=false:=by rw[beq_eq_false_iff_ne];exact fun he=>e (KB he)
  rw[this];rfl
theorem Ip{T k e:TypeId}(h:ua P T=some (k,e)):P.underlying T=some (.map k e):=by
 unfold ua at h;split at h
 ·next k' e' hT=>cases h;exact hT
 ·cases h
theorem adj(hi:cw G w h):cp G.N G w (G.ep w.heap.size) (w.alloc (.map #[] 0))∧cw (G.ep w.heap.size) (w.alloc (.map #[] 0)) (h++[.map []])∧aL (G.ep w.heap.size) (w.alloc (.map #[] 0)) (.map (some w.heap.size)) (.mp h.length):=by
 have hE:=Dc G w hi.z hi.S (.map #[] 0);have hN:G.N≤(G.ep w.heap.size).N:=Nat.le_succ _;have jd:(G.ep w.heap.size).bA h.length=w.heap.size:=by simp [Gh.ep,hi.len]
 have mw:∀n(B:an),n<G.N→B.eo (G.ep w.heap.size) n=B.eo G n:=fun n B hn=>by
  cases B<;>simp [an.eo,Gh.ep,Nat.ne_of_lt hn]
 have fX:∀n,n<G.N→cA (h++[.map []]) (G.ep w.heap.size) n=cA h G n:=fun n hn=>by
  have aZ:n<h.length:=by rw[hi.len];exact hn
  unfold cA;rw[ahZ aZ,ahT aZ];exact mw n _ hn
 have Co:cA (h++[.map []]) (G.ep w.heap.size) h.length=some w.heap.size:=by
  rw[dV (B:= .map []) (by simp)];exact congrArg some jd
 refine⟨hE,⟨by simp [Gh.ep,hi.len],fun b hb=>aid (hi.z b hb) hE.size,fun b o hs=>aid (hi.S b o hs) hE.size,fun n B hB=> ?_,fun m n b hm hn=> ?_,hi.gl.bq hE⟩,?_⟩
 ·by_cases hn:n<h.length
  ·rw[ahZ hn]at hB;have fJ:n<G.N:=hi.len▸hn;exact eF.bq fJ hE hN ⟨rfl,rfl,rfl⟩ (fun b hb=>⟨Below.heap_alloc w _ _ (hi.iL (n:=n) ((dV hB).trans hb)),fun o h=>h⟩) (hi.dz n B hB)
  ·have mj:n=h.length:=by
    have:=(ahP.1 hB).1;simp at this;omega
   subst mj;simp at hB;subst hB;exact⟨by rw[jd];exact fun hz=>aiu _ (hi.z _ hz),fun o hs=>by rw[jd]at hs;exact aiu _ (hi.S _ _ hs), #[],0,by rw[jd];exact World.alloc_heap_new w _,
    ⟨by simp,MapKept.stamped_empty 0,fun e he=>(by simp at he),fun s d hs=>(by cases hs),by simp,fun i e he=>(by simp at he),rfl⟩⟩
 ·have key:∀n b,cA (h++[.map []]) (G.ep w.heap.size) n=some b→(n<G.N∧cA h G n=some b)∨(n=h.length∧b=w.heap.size):=fun n b hn=>by
   by_cases aZ:n<G.N
   ·exact .inl ⟨aZ,by rw[←fX n aZ];exact hn⟩
   ·by_cases e:n=h.length
    ·subst e;rw[Co]at hn;cases hn;exact .inr ⟨rfl,rfl⟩
    ·rw[zP (aim (by simp;have:=hi.len;omega))]at hn;cases hn
  rcases key m b hm with⟨_,kW⟩|⟨rfl,rfl⟩<;>rcases key n _ hn with⟨_,fJ⟩|⟨rfl,hb⟩
  ·exact hi.inj m n b kW fJ
  ·have:=hi.iL kW;omega
  ·have:=hi.iL fJ;omega
  ·rfl
 ·have:=aL.mp (G:=G.ep w.heap.size) (w:=w.alloc (.map #[] 0)) h.length (by simp [Gh.ep,hi.len])
  rwa [jd]at this
theorem qS{s:aiF}:MapKept.IsKey .string (.string s):=trivial
theorem adO{T k e:TypeId}{z:aiI}{n:Nat}{kv:aiE (aiF×D)}{s:aiF}{ok:Bool}(hi:cw G w h)(hT:ua P T=some (k,e))(hz:ib P e=some z)(hk:gK P k=true)(hn:h[n]?=some (.map kv)):
 ∃v,(Instr.lookup T (.map (some (G.bA n))) (.string s) ok).run P w= .ok v w∧aL G w v (ve ok z (kO kv s)):=by
 obtain⟨_,_,es,clock,hh,hm⟩:=hi.dz n _ hn;have B9:∀x∈es.toList,MapKept.IsKey .string x.key:=fun x hx=>by
  obtain⟨s',d,h1,_⟩:=hm.zn x hx;rw[h1];exact qS
 have qq:=qM hk;have one:∀(v:aiI)(d:D)(b:Bool),dG G.S w v d→aL G w (if ok then .tuple #[v, .bool b]else v) (bif ok then .cb [.d d, .d (.v (.bool b))]else .d d):=fun v d b hp=>by
  cases ok with
  |false=>exact .d hp
  |true=>
   refine .cb #[v, .bool b] _ rfl fun i u c hu hc=> ?_
   match i with
   |0=>simp at hu hc;subst hu;subst hc;exact .d hp
   |1=>simp at hu hc;subst hu;subst hc;exact .d (.v _)
   |i+2=>simp at hu
 rcases MapKept.findNow_spec (qS (s:=s)) es.toList 0 B9 with⟨h1,h2⟩|⟨j,e0,h1,h2,h3⟩
 ·have LC:kO kv s=none:=by
   cases hq:kO kv s with
   |none=>rfl
   |some d=>
    obtain⟨x,hx,iq⟩:=hm.all s d hq;exact absurd iq (h2 x hx)
  refine⟨if ok then .tuple #[z, .bool false]else z,?_,?_⟩
  ·simp [Instr.lookup,run_underlying (Ip hT),MapKept.run_getObj_map hh,MapKept.run_checkKey qq qS,MapKept.run_findKey qq h1,GY hz,Result.andThen]
  ·rw[LC];have:=one z (.v z) false (.v z);unfold ve;exact this
 ·have iy:e0∈es.toList:=ah2 h2;obtain⟨s',d,k1,k2,k3⟩:=hm.zn e0 iy;rw[h3]at k1;cases k1
  refine⟨if ok then .tuple #[e0.val, .bool true]else e0.val,?_,?_⟩
  ·simp [Instr.lookup,run_underlying (Ip hT),MapKept.run_getObj_map hh,MapKept.run_checkKey qq qS,MapKept.run_findKey qq h1,Result.andThen]
  ·rw[k2];have:=one e0.val d true k3;unfold ve;exact this
theorem Xb{T k e:TypeId}{n:Nat}{kv:aiE (aiF×D)}{s:aiF}{v:aiI}{d:D}(hi:cw G w h)(hT:ua P T=some (k,e))(hk:gK P k=true)(hn:h[n]?=some (.map kv))(hv:dG G.S w v d)(hlen:kv.length<maxLen):
 ∃w',(Instr.mapUpdate T (.map (some (G.bA n))) (.string s) v).run P w= .ok () w'∧cp G.N G w G w'∧cw G w' (h.set n (.map ((s,d)::kv))):=by
 obtain⟨hZ,hS,es,clock,hh,hm⟩:=hi.dz n _ hn;have B9:∀x∈es.toList,MapKept.IsKey .string x.key:=fun x hx=>by
  obtain⟨s',d,h1,_⟩:=hm.zn x hx;rw[h1];exact qS
 have qq:=qM hk;have fin:∀(wA:Array MapEntry)(Be:Nat)(w':aiJ),w'=ChangeMaps.setBlock w (G.bA n) (.map wA Be)→vZ G.S w wA Be ((s,d)::kv)→cp G.N G w G w'∧cw G w' (h.set n (.map ((s,d)::kv))):=by
  intro wA Be w' eR kW;have hoth:∀b,b≠G.bA n→w'.heap[b]?=w.heap[b]?:=fun b hb=>by rw[eR];exact ChangeMaps.heap_setBlock_other hh _ hb
  have Nl:w'.heap[G.bA n]?=some (.map wA Be):=by rw[eR];exact ChangeMaps.heap_setBlock_same hh _
  have gp:w'.heap.size=w.heap.size:=by rw[eR];simp [ChangeMaps.setBlock]
  have gb:∀b o,G.S b o→w'.cell? ⟨b,o,none⟩=w.cell? ⟨b,o,none⟩:=fun b o hs=>World.cell?_of_block (hoth b (fun e=>hS o (e▸hs)));have hE:cp G.N G w G w':=⟨by rw[gp];exact ah0 _,fun _ _ h=>h,gb,fun _ _=>rfl,fun _ _=> .inl ⟨rfl,rfl⟩,gB rfl,fun b hb=>hoth b (fun e=>hZ (e▸hb)),by rw[eR];rfl,by rw[eR];rfl,by rw[eR];rfl,fun _ _ h=> .inl h⟩;refine⟨hE,?_⟩;have lV:cA h G n=some (G.bA n):=dV hn;have lg:(h.set n (.map ((s,d)::kv)))[n]?=some (.map ((s,d)::kv)):=by rw[aij (ahP.1 hn).1]
  have ff:∀m,m≠n→(h.set n (.map ((s,d)::kv)))[m]?=h[m]?:=fun m hm=>by rw[aio (Ne.symm hm)]
  have eg:∀m,cA (h.set n (.map ((s,d)::kv))) G m=cA h G m:=fun m=>by
   by_cases e:m=n
   ·subst e;rw[dV lg,dV hn];rfl
   ·unfold cA;rw[ff m e]
  refine⟨by rw[List.length_set];exact hi.len,fun b hb=>aid (hi.z b hb) hE.size,fun b o hs=>aid (hi.S b o hs) hE.size,fun m B hB=> ?_,fun m m' b h1 h2=>hi.inj m m' b (by rw[←eg];exact h1) (by rw[←eg];exact h2),hi.gl.bq hE⟩;by_cases e:m=n
  ·subst e;rw[lg]at hB;cases hB
   exact⟨hZ,hS,wA,Be,Nl,kW.bq (fun _ _ h=>h) gb⟩
  ·rw[ff m e]at hB;have dj:∀b,cA h G m=some b→b≠G.bA n:=fun b hb eb=>e (hi.inj m n b hb (by rw[eb];exact lV));exact eF.bq (hi.lt hB) hE (ah0 _) ⟨rfl,rfl,rfl⟩ (fun b hb=>⟨hoth b (dj _ ((dV hB).trans hb)),fun o h=>h⟩) (hi.dz m B hB)
 rcases MapKept.findNow_spec (qS (s:=s)) es.toList 0 B9 with⟨h1,h2⟩|⟨j,e0,h1,h2,h3⟩
 ·have kW:vZ G.S w (es.push ⟨.string s,v,clock⟩) (clock+1) ((s,d)::kv):=by
   refine⟨by have:=hm.len;simp;omega,MapKept.stamped_push hm.stamped h2,fun x hx=> ?_,fun s' d' cY=> ?_,by have:=hm.len;simp;omega,fun i e he=> ?_,by rw[hm.GX];simp⟩
   ·simp only[Array.toList_push,ais,List.mem_singleton]at hx;rcases hx with hx|rfl
    ·obtain⟨s',d',k1,k2,k3⟩:=hm.zn x hx;refine⟨s',d',k1,?_,k3⟩;rw[zl,if_neg (fun e=>h2 x hx (by rw[k1,e]))];exact k2
    ·exact⟨s,d,rfl,by rw[zl,if_pos rfl],hv⟩
   ·rw[zl]at cY;simp only[Array.toList_push,ais,List.mem_singleton];split at cY
    ·next e=>subst e;exact⟨_, .inr rfl,rfl⟩
    ·obtain⟨x,hx,hk⟩:=hm.all s' d' cY;exact⟨x, .inl hx,hk⟩
   ·rw[Array.getElem?_push]at he;split at he
    ·next ei=>cases he;rw[ei];exact hm.GX
    ·exact hm.born i e he
  obtain⟨f1,f2⟩:=fin _ _ _ rfl kW;refine⟨_,?_,f1,f2⟩;simp [Instr.mapUpdate,run_underlying (Ip hT),MapKept.run_getObj_map hh,MapKept.run_checkKey qq qS,MapKept.run_findKey qq h1,MapKept.run_setObj_map _ hh,Result.andThen,ChangeMaps.setBlock]
 ·have hj:es[j]?=some e0:=by simpa using h2
  have rX:j<es.toList.length:=(ahP.1 h2).1;have Zs:∀e',es[j]?=some e'→({e' with key:= .string s,val:=v}:MapEntry).key=e'.key:=fun e' Iy=>by rw[hj]at Iy;cases Iy;exact h3.symm
  have EY:(es.modify j (fun e'=>{e' with key:= .string s,val:=v})).toList=es.toList.set j {e0 with key:= .string s,val:=v}:=by
   rw[Array.toList_modify];exact ChangeMaps.modify_eq_set _ _ _ _ h2
  have j5:(es.toList.map (·.key)).Nodup:=hm.stamped.2.2;have kW:vZ G.S w (es.modify j (fun e'=>{e' with key:= .string s,val:=v})) clock ((s,d)::kv):=by
   refine⟨by simpa using hm.size,MapKept.stamped_modify hm.stamped _ _ (fun _ _=>rfl) (fun e' _ Iy=>Zs e' Iy),fun x hx=> ?_,fun s' d' cY=> ?_,by have:=hm.len;simp;omega,fun i e he=> ?_,by rw[hm.GX];simp⟩
   ·rw[EY]at hx;obtain⟨i,dT,ex⟩:=List.getElem_of_mem hx;rw[List.getElem_set]at ex;split at ex
    ·rw[←ex];exact⟨s,d,rfl,by rw[zl,if_pos rfl],hv⟩
    ·next dj=>
     have jO:i<es.toList.length:=by simpa using dT
     have kd:x∈es.toList:=by rw[←ex];exact List.getElem_mem jO
     obtain⟨s',d',k1,k2,k3⟩:=hm.zn x kd;refine⟨s',d',k1,?_,k3⟩;rw[zl,if_neg ?_]
     ·exact k2
     ·intro wA;have a1:(es.toList.map (·.key))[i]?=some (.string s):=by rw[ahW,ahT jO,ex];simp [k1,wA]
      have a2:(es.toList.map (·.key))[j]?=some (.string s):=by rw[ahW,h2];simp [h3]
      have X7:i<(es.toList.map (·.key)).length:=by simpa using jO
      exact dj ((List.getElem?_inj X7 j5).1 (a1.trans a2.symm)).symm
   ·rw[EY];rw[zl]at cY;split at cY
    ·next e=>subst e;exact⟨_,List.mem_iff_getElem?.2 ⟨j,aij rX⟩,rfl⟩
    ·next dj=>
     obtain⟨x,hx,hk⟩:=hm.all s' d' cY;obtain⟨i,dT,ex⟩:=List.getElem_of_mem hx;refine⟨x,List.mem_iff_getElem.2 ⟨i,by simpa using dT,?_⟩,hk⟩;rw[List.getElem_set];split
     ·next e=>
      subst e;exfalso;have:es.toList[j]?=some x:=by rw[ahT dT,ex]
      rw[this]at h2;cases h2
      rw[h3]at hk;injection hk with hk;exact dj hk
     ·exact ex
   ·rw[Array.getElem?_modify]at he;split at he
    ·next ei=>
     subst ei;rw[hj]at he;cases he
     exact hm.born _ e0 hj
    ·exact hm.born i e he
  obtain⟨f1,f2⟩:=fin _ _ _ rfl kW;refine⟨_,?_,f1,f2⟩;simp [Instr.mapUpdate,run_underlying (Ip hT),MapKept.run_getObj_map hh,MapKept.run_checkKey qq qS,MapKept.run_findKey qq h1,hj,h3,MapKept.run_keyThatStays qS,MapKept.run_setObj_map _ hh,Result.andThen,ChangeMaps.setBlock]
end
set_option linter.unusedVariables false
set_option linter.unusedSimpArgs false
section
variable {P:aiH} {G:Gh} {w:aiJ} {h:aiE an}
theorem Gz{w':aiJ}(hi:cw G w h){n:Nat}{B B':an}(hn:h[n]?=some B)(pe:∀G':Gh,B.eo G' n=G'.ow n)(Ly:∀G':Gh,B'.eo G' n=G'.ow n)(S:Nat→Nat→Prop)(v:aiI)(len:Nat)(ow:aiG Nat)
 (hE:cp G.N G w (G.grow n S v len ow) w') (hg:∀g,ow=some g→(g=w.heap.size∨G.ow n=some g)∧g<w'.heap.size)
 (hS:∀b o,S b o→G.S b o∨ow=some b) (hoth:∀b,b<w.heap.size→ow≠some b→w'.heap[b]?=w.heap[b]?)
 (hB:eF (G.grow n S v len ow) w' n B'):cw (G.grow n S v len ow) w' (h.set n B'):=by
 have ff:∀m,m≠n→(h.set n B')[m]?=h[m]?:=fun m hm=>by rw[aio (Ne.symm hm)]
 have lg:(h.set n B')[n]?=some B':=by rw[aij (ahP.1 hn).1]
 have mw:∀m(C:an),m≠n→C.eo (G.grow n S v len ow) m=C.eo G m:=fun m C hm=>by
  cases C<;>simp [an.eo,Gh.grow,hm]
 have eg:∀m,m≠n→cA (h.set n B') (G.grow n S v len ow) m=cA h G m:=fun m hm=>by
  unfold cA;rw[ff m hm];cases h[m]? with
  |none=>rfl
  |some C=>exact mw m C hm
 have Cp:cA (h.set n B') (G.grow n S v len ow) n=ow:=by rw[dV lg,Ly];simp [Gh.grow]
 have ox:∀m b,m≠n→ow=some b→cA h G m≠some b:=fun m b hm ho hb=>by
  rcases (hg b ho).1 with hg|hg
  ·have:=hi.iL hb;omega
  ·exact hm (hi.inj m n b hb ((dV hn).trans ((pe G).trans hg)))
 refine⟨by rw[List.length_set];exact hi.len,fun b hb=>aid (hi.z b hb) hE.size,fun b o hs=> ?_,fun m C hm=> ?_,fun m m' b h1 h2=> ?_,hi.gl.bq hE⟩
 ·rcases hS b o hs with hs|hs
  ·exact aid (hi.S b o hs) hE.size
  ·exact(hg b hs).2
 ·by_cases em:m=n
  ·subst em;rw[lg]at hm;cases hm;exact hB
  ·rw[ff m em]at hm;refine eF.bq (hi.lt hm) hE (ah0 _) ⟨by simp [Gh.grow,em],by simp [Gh.grow,em],by simp [Gh.grow,em]⟩ (fun b hb=> ?_) (hi.dz m C hm);have hr:cA h G m=some b:=(dV hm).trans hb;have dj:ow≠some b:=fun e'=>ox m b em e' hr;refine⟨hoth _ (hi.iL hr) dj,fun o kj hs=> ?_⟩;rcases hS _ o hs with hs|hs
   ·exact kj hs
   ·exact dj hs
 ·by_cases e1:m=n<;>by_cases e2:m'=n
  ·rw[e1,e2]
  ·subst e1;rw[eg m' e2]at h2;rw[Cp]at h1;exact absurd h2 (ox m' b e2 h1)
  ·subst e2;rw[eg m e1]at h1;rw[Cp]at h2;exact absurd h1 (ox m b e1 h2)
  ·rw[eg m e1]at h1;rw[eg m' e2]at h2;exact hi.inj m m' b h1 h2
def Gh.eK(G:Gh)(v:aiI)(len:Nat)(ow:aiG Nat):Gh:=
 {G with N:=G.N+1,sg:=fun n=>if n=G.N then v else G.sg n,fl:=fun n=>if n=G.N then len else G.fl n,ow:=fun n=>if n=G.N then ow else G.ow n}
theorem Kl{w':aiJ}(hi:cw G w h)(B:an)(pe:∀(G':Gh) n,B.eo G' n=G'.ow n)(v:aiI)(len:Nat)(ow:aiG Nat)(hw:(∀b,b<w.heap.size→w'.heap[b]?=w.heap[b]?)∧w.heap.size≤w'.heap.size∧w'.os=w.os∧w'.tape=w.tape∧w'.output=w.output)
 (how:∀g,ow=some g→w.heap.size≤g)
 (hB:eF (G.eK v len ow) w' G.N B):cp G.N G w (G.eK v len ow) w'∧cw (G.eK v len ow) w' (h++[B]):=by
 have dj:∀n,n<G.N→n≠G.N:=fun n hn=>Nat.ne_of_lt hn;have hE:cp G.N G w (G.eK v len ow) w':=⟨hw.2.1,fun _ _ h=>h,fun b o hs=>World.cell?_of_block (hw.1 b (hi.S b o hs)),fun _ _=>rfl,fun n hn=> .inl ⟨by simp [Gh.eK,dj n hn],by simp [Gh.eK,dj n hn]⟩,gB rfl,fun b hb=>hw.1 b (hi.z b hb),hw.2.2.1,hw.2.2.2.1,hw.2.2.2.2,fun _ _ h=> .inl h⟩;have hN:G.N≤(G.eK v len ow).N:=Nat.le_succ _;have mw:∀n(C:an),n<G.N→C.eo (G.eK v len ow) n=C.eo G n:=fun n C hn=>by
  cases C<;>simp [an.eo,Gh.eK,Nat.ne_of_lt hn]
 have key:∀n b,cA (h++[B]) (G.eK v len ow) n=some b→(n<G.N∧cA h G n=some b)∨(n=G.N∧ow=some b):=fun n b hb=>by
  by_cases hn:n<h.length
  ·unfold cA at hb;rw[ahZ hn,ahT hn]at hb;exact .inl ⟨hi.len▸hn,by unfold cA;rw[ahT hn,←hb];exact(mw n _ (hi.len▸hn)).symm⟩
  ·by_cases en:n=h.length
   ·subst en;rw[dV (B:=B) (by simp),pe]at hb;exact .inr ⟨hi.len,by simpa [Gh.eK,hi.len]using hb⟩
   ·rw[zP (aim (by simp;omega))]at hb;cases hb
 refine⟨hE,by simp [Gh.eK,hi.len],fun b hb=>aid (hi.z b hb) hw.2.1,fun b o hs=>aid (hi.S b o hs) hw.2.1,fun n C hC=> ?_,fun m n b h1 h2=> ?_,hi.gl.bq hE⟩
 ·by_cases hn:n<h.length
  ·rw[ahZ hn]at hC;have fJ:n<G.N:=hi.len▸hn;exact eF.bq fJ hE hN ⟨by simp [Gh.eK,dj n fJ],by simp [Gh.eK,dj n fJ],by simp [Gh.eK,dj n fJ]⟩ (fun b hb=>⟨hw.1 b (hi.iL ((dV hC).trans hb)),fun o h=>h⟩) (hi.dz n C hC)
  ·have mj:n=h.length:=by
    have:=(ahP.1 hC).1;simp at this;omega
   subst mj;simp at hC;subst hC;rw[hi.len];exact hB
 ·rcases key m b h1 with⟨_,a1⟩|⟨rfl,a1⟩<;>rcases key n b h2 with⟨_,b1⟩|⟨rfl,b1⟩
  ·exact hi.inj m n b a1 b1
  ·have:=hi.iL a1;have:=how b b1;omega
  ·have:=hi.iL b1;have:=how b a1;omega
  ·rfl
theorem aL.qd{n o len L k:Nat}{e:TypeId}{cs:aiE (aiE AV)}{u:aiI}(hi:cw G w h)(hn:h[n]?=some (.vec e k cs))(hL:cs.length=L)(hv:aL G w u (.vec n o len L k)):Q5 (G.sg n) u o len L k:=by
 have hb:=(hi.dz n _ hn).1;cases hv with|vec _ _ _ _ _ h1 h2 h3 h4=>exact h4 (by rw[←hL,hb])
theorem aL.VI{n i j L k:Nat}{e:TypeId}{k':Nat}{cs:aiE (aiE AV)}{u:aiI}(hi:cw G w h)(hn:h[n]?=some (.vec e k' cs))(hL:cs.length=L)(hv:aL G w u (.dw n i j L k)):UK (G.sg n) u i j L k:=by
 have hb:=(hi.dz n _ hn).1;cases hv with|dw _ _ _ _ _ h1 h2 h3 h4=>exact h4 (by rw[←hL,hb])
theorem yH{n:Nat}{e k:Nat}{cs:aiE (aiE AV)}(hi:cw G w h)(hn:h[n]?=some (.vec e k cs))(dj:cs≠ []):∃(g cap:Nat)(cur:Array aiI),G.ow n=some g∧G.sg n= .slice (some ⟨g,0,none⟩) cs.length cap∧¬G.Z g∧w.heap[g]?=some (.cells cur e (0,0))∧cs.length≤cap∧cap≤maxLen∧cur.size=cap*k∧(∀o,¬G.S g o)∧
        ∀(i j:Nat)(c:aiE AV)(x:AV)(u:aiI),cs[i]?=some c→c[j]?=some x→cur[i*k+j]?=some u→aL G w u x:=by
 obtain⟨_,_,_,h4|h4⟩:=hi.dz n _ hn
 ·exact absurd h4.2.1 dj
 ·exact h4
theorem uS{n:Nat}{e k:Nat}{cs:aiE (aiE AV)}(hi:cw G w h)(hn:h[n]?=some (.vec e k cs)):∀c∈cs,c.length=k:=(hi.dz n _ hn).2.2.1
theorem jx{i k L j:Nat}(hi:i<L)(hj:j<k):i*k+j<L*k:=by
 have:(i+1)*k≤L*k:=Nat.mul_le_mul_right k hi;rw[Nat.add_mul]at this;omega
theorem Gp{i k j:Nat}(hj:j<k):(i*k+j)/ k=i∧(i*k+j)%k=j:=by
 have hk:0<k:=by omega
 exact⟨by rw[Nat.add_comm,Nat.add_mul_div_right _ _ hk,Nat.div_eq_of_lt hj,ah9],by rw[Nat.add_comm,Nat.add_mul_mod_self_right,Nat.mod_eq_of_lt hj]⟩
theorem aaA{i i' j j' k:Nat}(hj:j<k)(iF:j'<k)(e:i*k+j=i'*k+j'):i=i'∧j=j':=by
 have h1:=Gp (i:=i) hj;have h2:=Gp (i:=i') iF;exact⟨by rw[←h1.1,←h2.1,e],by rw[←h1.2,←h2.2,e]⟩
theorem aac{t n i j L k:Nat}{e:TypeId}{cs:aiE (aiE AV)}{c:aiE AV}{x:AV}{v:aiI}(hi:cw G w h)(hn:h[n]?=some (.vec e k cs))(hL:cs.length=L)(hc:cs[i]?=some c)(hx:Kv P t c j=some x)(hv:aL G w v (.dw n i j L k)):
 ∃u,(Instr.loadAt t v).run P w= .ok u w∧aL G w u x:=by
 have iY:i<cs.length:=(ahP.1 hc).1;have QK:c.length=k:=uS hi hn c (ah2 hc);obtain⟨g,cap,cur,r1,r2,r3,r4,r5,r6,r7,r8,r9⟩:=yH hi hn (fun e=>by subst e;simp at iY);obtain⟨_,g',Av,p1,p2⟩:=hv.VI hi hn hL;rw[r2]at p1;cases p1
 have h1:∀q,q<c.length→w.cell? ⟨g,i*k+q,none⟩=some (cur.getD (i*k+q) undef):=fun q hq=>by
  rw[cell_of_row w g _ cur e (0,0) r4];have:i*k+q<cur.size:=by
    rw[r7];exact aid (jx iY (by omega)) (Nat.mul_le_mul_right k r5)
  simp [Array.getD,this]
 have h2:∀(q:Nat)(y:AV),c[q]?=some y→aL G w (cur.getD (i*k+q) undef) y:=fun q y hq=>by
  have K5:=(ahP.1 hq).1;have aZ:i*k+q<cur.size:=by
   rw[r7];exact aid (jx iY (by omega)) (Nat.mul_le_mul_right k r5)
  have e1:cur[i*k+q]?=some (cur.getD (i*k+q) undef):=by simp [Array.getD,aZ]
  exact r9 i q c y _ hc hq e1
 have key:=PV (P:=P) (G:=G) (w:=w) (t:=t) (C:=(·=x)) g (i*k) c j (fun q=>cur.getD (i*k+q) undef) h1 h2 (by
  unfold Kv at hx;revert hx;cases lr P t with
  |none=>intro hx;cases hx
  |some ag=>
   cases fO P t with
   |none=>cases ag<;>(intro hx;cases hx)
   |some kk=>
    cases ag with
    |true=>
     simp only;intro hx;cases hb:cN (j+kk) c.length with
     |false=>rw[hb]at hx;cases hx
     |true=>rw[hb]at hx;cases hx;exact rfl
    |false=>
     simp only;intro hx;rw[hx])
 obtain⟨u,y,k1,k2,rfl⟩:=key;refine⟨u,?_,k2⟩;rw[p2];simp [Instr.loadAt,Instr.sureAddr,k1]
theorem aeJ{t b off k:Nat}{T:TypeId}{v:aiI}{vs:Array aiI}(hh:w.heap[b]?=some (.cells vs T (0,0)))(ht:fO P t=some k)(hk:v.cells.size=k)(fz:∀u∈v.cells.toList,u.oneCell'=true)(hb:off+k≤vs.size):
 (storeVar t ⟨b,off,none⟩ v).run P w= .ok () (w.setRow b (vs.toList.take off++v.cells.toList++vs.toList.drop (off+v.cells.toList.length)).toArray):=by
 obtain⟨i,iH,jO⟩:=RO ht;have jz:=run_storeCells_at P b off T v.cells.toList 0 vs w hh (by rw[ain,hk];simpa using hb) fz;simp only[Nat.add_zero]at jz;unfold storeVar;simp only[sizeOf,typeInfo,Sem.run_bind,hk];simp [iH,jO,jz]
theorem Sz(vs:Array aiI)(us:aiE aiI)(off q:Nat)(hb:off+us.length≤vs.size):(vs.toList.take off++us++vs.toList.drop (off+us.length)).toArray[q]?=if off≤q∧q<off+us.length then us[q-off]? else vs[q]?:=by
 rw[List.getElem?_toArray,ah6];have x9:vs.toList.length=vs.size:=ain;by_cases h1:q<off
 ·rw[ahZ (by simp;omega),List.getElem?_take_of_lt h1,if_neg (by omega),aic]
 ·rw[ah5 (by simp;omega)];simp only[List.length_take,x9];rw[Nat.min_eq_left (by omega)];by_cases h2:q<off+us.length
  ·rw[ahZ (by omega),if_pos (by omega)]
  ·rw[ah5 (by omega),List.getElem?_drop,if_neg (by omega),show off+us.length+(q-off-us.length)=q by omega,aic]
theorem Uy(vs:Array aiI)(us:aiE aiI)(off:Nat)(hb:off+us.length≤vs.size):(vs.toList.take off++us++vs.toList.drop (off+us.length)).toArray.size=vs.size:=by
 simp only[List.size_toArray,ahQ,List.length_take,List.length_drop,ain];omega
theorem adh(cs ys:aiE AV)(off q:Nat)(hb:off+ys.length≤cs.length):(gO cs off ys)[q]?=if off≤q∧q<off+ys.length then ys[q-off]? else cs[q]?:=by
 unfold gO;rw[ah6];by_cases h1:q<off
 ·rw[ahZ (by simp;omega),List.getElem?_take_of_lt h1,if_neg (by omega)]
 ·rw[ah5 (by simp;omega)];simp only[List.length_take];rw[Nat.min_eq_left (by omega)];by_cases h2:q<off+ys.length
  ·rw[ahZ (by omega),if_pos (by omega)]
  ·rw[ah5 (by omega),List.getElem?_drop,if_neg (by omega),show off+ys.length+(q-off-ys.length)=q by omega]
theorem MA{n e k g cap:Nat}{cs cB:aiE (aiE AV)}{cur:Array aiI}{us:aiE aiI}{off:Nat}(hi:cw G w h)(hn:h[n]?=some (.vec e k cs))(gr:0<k)(r1:G.ow n=some g)(r2:G.sg n= .slice (some ⟨g,0,none⟩) cs.length cap)(r3:¬G.Z g)(r4:w.heap[g]?=some (.cells cur e (0,0)))(r5:cs.length≤cap)(r6:cap≤maxLen)(r7:cur.size=cap*k)(r8:∀o,¬G.S g o)
 (hb:off+us.length≤cur.size) (hl:cB.length=cs.length) (gC:∀c∈cB,c.length=k)
 (yx:∀(i j:Nat)(c:aiE AV)(x:AV)(u:aiI),cB[i]?=some c→c[j]?=some x→(if off≤i*k+j∧i*k+j<off+us.length then us[i*k+j-off]? else cur[i*k+j]?)=some u→aL G w u x):
 ∃G',cp G.N G w G' (w.setRow g (cur.toList.take off++us++cur.toList.drop (off+us.length)).toArray)∧G'.N=G.N∧cw G' (w.setRow g (cur.toList.take off++us++cur.toList.drop (off+us.length)).toArray) (h.set n (.vec e k cB))∧(∀m,G'.sg m=G.sg m)∧(∀m,G'.fl m=G.fl m):=by
 obtain⟨w',eR⟩:∃w',w'=w.setRow g (cur.toList.take off++us++cur.toList.drop (off+us.length)).toArray:=⟨_,rfl⟩;rw[←eR];have hoth:∀b,b≠g→w'.heap[b]?=w.heap[b]?:=fun b hb=>by rw[eR];exact setRow_other w g b _ hb
 have mZ:w'.heap[g]?=some (.cells (cur.toList.take off++us++cur.toList.drop (off+us.length)).toArray e (0,0)):=by rw[eR];exact setRow_heap w g cur _ e _ r4
 have gp:w'.heap.size=w.heap.size:=by rw[eR];exact IC w g _
 obtain⟨G',fZ⟩:∃G',G'=G.grow n G.S (G.sg n) (G.fl n) (some g):=⟨_,rfl⟩;have M8:∀m,G'.sg m=G.sg m:=fun m=>by rw[fZ];simp only[Gh.grow];split<;>simp_all
 have kf:∀m,G'.fl m=G.fl m:=fun m=>by rw[fZ];simp only[Gh.grow];split<;>simp_all
 have hE:cp G.N G w G' w':=⟨by rw[gp];exact ah0 _,fun b o h=>by rw[fZ];exact h,fun b o hs=>World.cell?_of_block (hoth b (fun e=>r8 o (e▸hs))),fun _ _=>by rw[fZ];rfl,fun m _=> .inl ⟨kf m,M8 m⟩,gB (by rw[fZ];rfl) (by rw[fZ];rfl),fun b hb=>hoth b (fun e=>r3 (e▸hb)),by rw[eR];rfl,by rw[eR];rfl,by rw[eR];rfl,fun b o hs=> .inl (by rw[fZ]at hs;exact hs)⟩;have qU:=hi.dz n _ hn;refine⟨G',hE,by rw[fZ];rfl,?_,M8,kf⟩;subst fZ;refine Gz hi hn (fun _=>rfl) (fun _=>rfl) _ _ _ _ hE (fun g' p9=> ?_) (fun b o hs=> .inl hs) (fun b _ gk=>hoth b (fun e=>gk (by rw[e]))) ?_
 ·cases p9;exact⟨.inr r1,by rw[gp];exact(ah4.1 r4).1⟩
 ·refine⟨by rw[kf,hl];exact qU.1,by rw[hl];exact qU.2.1,gC, .inr ⟨g,cap,_,by simp [Gh.grow],by rw[M8,hl];exact r2,r3,mZ,by rw[hl];exact r5,r6,by rw[Uy _ _ _ hb];exact r7,r8,fun i j c x u hc hx hu=> ?_⟩⟩;rw[Sz _ _ _ _ hb]at hu;exact(yx i j c x u hc hx hu).bq hE (ah0 _)
theorem acB{t n i j L k:Nat}{e:TypeId}{cs:aiE (aiE AV)}{c:aiE AV}{x:AV}{v u:aiI}(hi:cw G w h)(hn:h[n]?=some (.vec e k cs))(hL:cs.length=L)(hc:cs[i]?=some c)(hv:aL G w v (.dw n i j L k))(hx:aL G w u x)(Ml:x.iS=true)(ht:fO P t=some x.cells.length)(hj:j+x.cells.length≤k)(gr:0<k):
 ∃w' G',(Instr.storeAt t v u).run P w= .ok () w'∧cp G.N G w G' w'∧G.N≤G'.N∧cw G' w' (h.set n (.vec e k (cs.set i (gO c j x.cells)))):=by
 have iY:i<cs.length:=(ahP.1 hc).1;have gC:=uS hi hn;have QK:c.length=k:=gC c (ah2 hc);obtain⟨g,cap,cur,r1,r2,r3,r4,r5,r6,r7,r8,r9⟩:=yH hi hn (fun e=>by subst e;simp at iY);obtain⟨_,g',Av,p1,p2⟩:=hv.VI hi hn hL;rw[r2]at p1;cases p1
 obtain⟨c1,c2⟩:=hx.cells Ml;have mD:u.cells.toList.length=x.cells.length:=by rw[ain,c1]
 have fz:∀y∈u.cells.toList,y.oneCell'=true:=fun y hy=>by
  obtain⟨q,hq⟩:=List.mem_iff_getElem?.1 hy;have K5:u.cells[q]?=some y:=by rw[←aic];exact hq
  have hql:q<x.cells.length:=by rw[←c1];exact(ah4.1 K5).1
  exact(c2 q y _ K5 (ahT hql)).2
 have jA:i*k+j+x.cells.length≤cur.size:=by
  have h1:(i+1)*k≤cap*k:=Nat.mul_le_mul_right k (aid iY r5);rw[Nat.add_mul]at h1;rw[r7];omega
 have dK:=aeJ (P:=P) (off:=i*k+j) r4 ht c1 fz jA;obtain⟨G',e1,e2,e3,_⟩:=MA (us:=u.cells.toList) (off:=i*k+j) (cB:=cs.set i (gO c j x.cells)) hi hn gr r1 r2 r3 r4 r5 r6 r7 r8 (by rw[mD];exact jA) (by rw[List.length_set]) (fun d hd=>by
     obtain⟨q,hq⟩:=List.mem_iff_getElem?.1 hd;by_cases e:i=q
     ·subst e;rw[aij iY]at hq;cases hq
      rw[BE _ _ _ (by omega)];exact QK
     ·rw[aio e]at hq;exact gC d (ah2 hq)) (fun a b d y z hd hy hz=>by
     have iz:b<k:=by
      by_cases e:i=a
      ·subst e;rw[aij iY]at hd;cases hd
       have:=(ahP.1 hy).1;rw[BE _ _ _ (by omega)]at this;omega
      ·rw[aio e]at hd;rw[←gC d (ah2 hd)];exact(ahP.1 hy).1
     rw[mD]at hz;by_cases e:i=a
     ·subst e;rw[aij iY]at hd;cases hd
      rw[adh _ _ _ _ (by omega)]at hy;by_cases hb:j≤b∧b<j+x.cells.length
      ·rw[if_pos hb]at hy;rw[if_pos (by omega),show i*k+b-(i*k+j)=b-j by omega,aic]at hz;exact(c2 _ _ _ hz hy).1
      ·rw[if_neg hb]at hy;rw[if_neg (by omega)]at hz;exact r9 i b c y z hc hy hz
     ·rw[aio e]at hd;rw[if_neg ?_]at hz
      ·exact r9 a b d y z hd hy hz
      ·intro hh;have:a*k+b=i*k+(a*k+b-i*k):=by omega
       exact e ((aaA (i:=a) (i':=i) (j:=b) (j':=a*k+b-i*k) iz (by omega) this).1.symm))
 refine⟨_,G',?_,e1,by rw[e2];exact ah0 _,e3⟩;rw[p2];simp [Instr.storeAt,Instr.sureAddr,dK]
end
section
variable {P:aiH} {G:Gh} {w:aiJ} {h:aiE an}
structure At(G:Gh)(w:World)(k:Nat)(ys:List (List AV))(us:List Value):Prop where
 len:us.length=ys.length*k
 wid:∀c∈ys,c.length=k
 one:∀u∈us,u.oneCell'=true
 rel:∀(i j:Nat)(c:List AV)(x:AV)(u:Value),ys[i]?=some c→c[j]?=some x→us[i*k+j]?=some u→aL G w u x
theorem JQ{k tx e':Nat}{y:AV}{v:aiI}{ys:aiE (aiE AV)}(hi:cw G w h)(hv:aL G w v y)(hs:z7 h k y ys)(gr:0<k)(hT:P.underlying tx=some (.slice e')):
 ∃us,At G w k ys us∧Src P k tx v ys.length us w:=by
 rcases hs with⟨xs,h1,h2,rfl⟩|⟨n,o,len,L,e,cs,rfl,h2,h3,h4,h5⟩
 ·obtain⟨us,hr,xF⟩:=(hv.list h1).src gr h2 hT;have hl:(aO xs).length=xs.length:=by unfold aO;rw[ahU]
  refine⟨us,⟨by rw[hl];exact hr.len,fun c hc=> ?_,hr.one,fun i j c x u hc hx hu=> ?_⟩,by rw[hl];exact xF⟩
  ·unfold aO at hc;obtain⟨d,hd,rfl⟩:=List.mem_map.1 hc;rw[ahU];exact h2 d hd
  ·unfold aO at hc;rw[ahW]at hc;cases kd:xs[i]? with
   |none=>rw[kd]at hc;cases hc
   |some d=>
    rw[kd]at hc;cases hc
    rw[ahW]at hx;cases hy:d[j]? with
    |none=>rw[hy]at hx;cases hx
    |some z=>
     rw[hy]at hx;cases hx
     obtain⟨u',a1,a2⟩:=hr.rel i j d z kd hy;rw[a1]at hu;cases hu
     exact .d a2
 ·have jQ:=hv.qd hi h2 h3;obtain⟨A,c,rfl,c1,c2,c3,c4⟩:=jQ.sl;have uL:ys.length=len:=by rw[h4,List.length_take,List.length_drop,h3];have:=jQ.ol;omega
  by_cases h0:len=0
  ·subst h0;have:ys=[]:=List.eq_nil_of_length_eq_zero uL;subst this;refine⟨[],⟨by simp,(fun _ h=>by cases h),(fun _ h=>by cases h),fun i j c x u hc=>by simp at hc⟩,?_⟩;cases A with
   |none=>exact Src.ofNil w hT c
   |some a=>exact Src.ofSlice w hT a 0 c [] (by simp) (fun j u hu=>by simp at hu) (fun u hu=>by cases hu)
  ·have ho:o<L:=by have:=jQ.ol;omega
   obtain⟨g,cap,p1,rfl,p3⟩:=c4 ho;have dj:cs≠ []:=fun e=>by subst e;simp at h3;omega
   obtain⟨g',Av,cur,r1,r2,r3,r4,r5,r6,r7,r8,r9⟩:=yH hi h2 dj;rw[r2]at p1;cases p1
   have gC:=uS hi h2;have gb:∀q,q<len*k→o*k+q<cur.size:=fun q hq=>by
    have h1:(o+len)*k≤cap*k:=Nat.mul_le_mul_right k (by have:=jQ.ol;omega);rw[Nat.add_mul]at h1;rw[r7];omega
   have iC:∀i,i<len→ys[i]?=cs[o+i]?:=fun i dT=>by rw[h4,List.getElem?_take_of_lt dT,List.getElem?_drop]
   have fz:∀q,q<len*k→(cur.getD (o*k+q) undef).oneCell'=true:=fun q hq=>by
    have KX:q / k<len:=Nat.div_lt_of_lt_mul (by rw[Nat.mul_comm];exact hq);have Zf:q%k<k:=Nat.mod_lt _ gr;obtain⟨d,fP⟩:∃d,cs[o+q / k]?=some d:=⟨_,ahT (by have:=jQ.ol;omega)⟩;have CZ:=gC _ (ah2 fP);obtain⟨x,hx⟩:∃x,d[q%k]?=some x:=⟨_,ahT (by rw[CZ];exact Zf)⟩;have e1:(o+q / k)*k+q%k=o*k+q:=by
     rw[Nat.add_mul];have:=Nat.div_add_mod q k;rw[Nat.mul_comm]at this;omega
    have y7:cur[(o+q / k)*k+q%k]?=some (cur.getD (o*k+q) undef):=by
     rw[e1];simp [Array.getD,gb q hq]
    refine(r9 _ _ _ _ _ fP hx y7).jm ?_;have iy:d∈ys:=ah2 ((iC _ KX).trans fP);have:=h5 _ iy;rw[aif]at this;exact this _ (ah2 hx)
   refine⟨(List.range (len*k)).map fun q=>cur.getD (o*k+q) undef,⟨by rw[uL];simp,fun c hc=>gC c ?_,fun u hu=> ?_,fun i j c x u hc hx hu=> ?_⟩,?_⟩
   ·rw[h4]at hc;exact List.mem_of_mem_drop (List.mem_of_mem_take hc)
   ·obtain⟨q,hq,rfl⟩:=List.mem_map.1 hu;exact fz q (List.mem_range.1 hq)
   ·have iY:i<len:=by rw[←uL];exact(ahP.1 hc).1
    rw[iC i iY]at hc;have Fp:j<k:=by rw[←gC c (ah2 hc)];exact(ahP.1 hx).1
    have aZ:i*k+j<len*k:=jx iY Fp;rw[ahW,List.getElem?_range aZ]at hu;simp only[Option.map_some,Option.some.injEq]at hu;refine r9 (o+i) j c x u hc hx ?_;rw[←hu,show(o+i)*k+j=o*k+(i*k+j) by rw[Nat.add_mul];omega];simp [Array.getD,gb _ aZ]
   ·rw[uL];refine Src.ofSlice w hT _ len c _ (by simp) (fun j u hu=> ?_) (fun u hu=> ?_)
    ·rw[kJ,cell_of_row w g _ cur e (0,0) r4];rw[ahW]at hu;by_cases hj:j<len*k
     ·rw[List.getElem?_range hj]at hu;simp only[Option.map_some,Option.some.injEq]at hu;rw[←hu];simp [Array.getD,gb _ hj]
     ·rw[aim (by simp;omega)]at hu;cases hu
    ·obtain⟨q,hq,rfl⟩:=List.mem_map.1 hu;exact fz q (List.mem_range.1 hq)
theorem At.bq{G':Gh}{w':aiJ}{k:Nat}{ys:aiE (aiE AV)}{us:aiE aiI}(h:At G w k ys us)(hE:cp G.N G w G' w')(hN:G.N≤G'.N):At G' w' k ys us:=
 ⟨h.len,h.wid,h.one,fun i j c x u h1 h2 h3=>(h.rel i j c x u h1 h2 h3).bq hE hN⟩
theorem aa6{α:Type}{k:Nat}(l:aiE α)(us:aiE α)(m i j:Nat)(hl:l.length=m*k)(hj:j<k):(l++us)[i*k+j]?=if i<m then l[i*k+j]? else us[(i-m)*k+j]?:=by
 by_cases h:i<m
 ·rw[if_pos h,ahZ (by rw[hl];exact jx h hj)]
 ·have h1:m*k≤i*k:=Nat.mul_le_mul_right k (by omega);rw[if_neg h,ah5 (by rw[hl];omega),hl,Nat.sub_mul,show i*k+j-m*k=i*k-m*k+j by omega]
theorem K1{e k cap:Nat}{cs:aiE (aiE AV)}{cur:Array aiI}(hi:cw G w h)(h1:cs.length≤cap)(h2:cap≤maxLen)(h3:cur.size=cap*k)(gC:∀c∈cs,c.length=k)(w0:aiJ)(oG:w0.heap=w.heap∧w0.os=w.os∧w0.tape=w.tape∧w0.output=w.output)
 (yx:∀(i j:Nat)(c:aiE AV)(x:AV)(u:aiI),cs[i]?=some c→c[j]?=some x→cur[i*k+j]?=some u→aL G w u x):
 ∃G',cp G.N G w G' (w0.alloc (.cells cur e))∧G.N≤G'.N∧cw G' (w0.alloc (.cells cur e)) (h++[.vec e k cs])∧∀len,len≤cs.length→aL G' (w0.alloc (.cells cur e)) (.slice (some ⟨w.heap.size,0,none⟩) len cap) (.vec h.length 0 len cs.length k):=by
 have gp:w0.heap.size=w.heap.size:=by rw[oG.1]
 have fX:(w0.alloc (.cells cur e)).heap[w.heap.size]?=some (.cells cur e (0,0)):=by rw[←gp];exact World.alloc_heap_new w0 _
 have hold:∀b,b<w.heap.size→(w0.alloc (.cells cur e)).heap[b]?=w.heap[b]?:=fun b hb=>by rw[Below.heap_alloc w0 _ b (by rw[gp];exact hb),oG.1]
 have hw:(∀b,b<w.heap.size→(w0.alloc (.cells cur e)).heap[b]?=w.heap[b]?)∧w.heap.size≤(w0.alloc (.cells cur e)).heap.size∧(w0.alloc (.cells cur e)).os=w.os∧(w0.alloc (.cells cur e)).tape=w.tape∧(w0.alloc (.cells cur e)).output=w.output:=
  ⟨hold,by simp [gp],oG.2.1,oG.2.2.1,oG.2.2.2⟩
 obtain⟨sv,lA⟩:∃sv,sv=Value.slice (some ⟨w.heap.size,0,none⟩) cs.length cap:=⟨_,rfl⟩;obtain⟨Db,_⟩:cp G.N G w (G.eK sv cs.length (some w.heap.size)) (w0.alloc (.cells cur e))∧True:=by
  refine⟨⟨hw.2.1,fun _ _ h=>h,fun b o hs=>World.cell?_of_block (hw.1 b (hi.S b o hs)),fun _ _=>rfl,fun n hn=> .inl ⟨by simp [Gh.eK,Nat.ne_of_lt hn],by simp [Gh.eK,Nat.ne_of_lt hn]⟩,gB rfl,fun b hb=>hw.1 b (hi.z b hb),hw.2.2.1,hw.2.2.2.1,hw.2.2.2.2,fun _ _ h=> .inl h⟩,trivial⟩
 obtain⟨hE,hI⟩:=Kl (w':=w0.alloc (.cells cur e)) hi (.vec e k cs) (fun _ _=>rfl) sv cs.length (some w.heap.size) hw (fun g hg=>by cases hg;exact ah0 _) (by
  refine⟨by simp [Gh.eK],ah7 h1 h2,gC, .inr ⟨w.heap.size,cap,cur,by simp [Gh.eK],by simp [Gh.eK,lA],fun hz=>aiu _ (hi.z _ hz),fX,h1,h2,h3,fun o hs=>aiu _ (hi.S _ _ hs),fun i j c x u hc hx hu=>(yx i j c x u hc hx hu).bq Db (Nat.le_succ _)⟩⟩)
 refine⟨_,hE,Nat.le_succ _,hI,fun len hlen=> ?_⟩;rw[hi.len];refine .vec G.N 0 len cs.length k (by simp [Gh.eK]) ⟨_,_,_,rfl⟩ (by simp [Gh.eK]) fun _=>⟨by omega,⟨_,_,rfl,ah7 hlen h1,h2,h1,fun _=>⟨w.heap.size,cap,by simp [Gh.eK,lA],by simp,by simp⟩⟩,fun _ e=>by subst e;simp [Gh.eK,lA]⟩
theorem aad{T e k len m dx:Nat}{i:TypeInfo}{z:aiI}{kl kc:IntKind}{l c:Int}(hi:cw G w h)(hT:P.underlying T=some (.slice e))(ko:P.info? e=some i)(hz:i.zero=some z)(mv:i.size=k)(wz:i.bytes=dx)(iZ:z.cells.toList.length=k)(gr:0<k)
 (h0:0≤l) (ki:l≤c) (hl:l.toNat=len) (hc:c.toNat=m) (hm:m≤maxLen) (hb:dx*m≤281474976710656):
 ∃u w' G',(Instr.makeSlice T (.int kl l) (.int kc c)).run P w= .ok u w'∧cp G.N G w G' w'∧G.N≤G'.N∧cw G' w' (h++[.vec e k (List.replicate m (z.cells.toList.map fun u=> .d (.v u)))])∧aL G' w' u (.vec h.length 0 len m k):=by
 subst mv;subst wz;have gk:(i.bytes:Int)*c≤281474976710656:=by
  have:((i.bytes*m:Nat):Int)≤281474976710656:=by omega
  rw[Int.natCast_mul,←hc,Int.toNat_of_nonneg (by omega)]at this;exact this
 have h63:c≤9223372036854775807:=by have h:=hm;simp [maxLen]at h;omega
 have dK:=run_make (P:=P) w T e i z hT ko hz kl kc l c h0 ki gk h63;rw[hl,hc]at dK;have gd:(List.replicate m (z.cells.toList.map fun u=>AV.d (.v u))).length=m:=aiq;obtain⟨G',g1,g2,g3,g4⟩:=K1 (e:=e) (k:=i.size) (cap:=m) (cs:=List.replicate m (z.cells.toList.map fun u=>AV.d (.v u))) (cur:=madeCells z.cells (m*i.size)) hi (by rw[gd];exact ah0 _) hm (size_madeCells _ _) (fun c hc=>by
  rw[List.eq_of_mem_replicate hc,ahU];exact iZ) w ⟨rfl,rfl,rfl,rfl⟩ (fun a b c x u hc hx hu=>by
  have:=List.eq_of_mem_replicate (ah2 hc);subst this;rw[ahW]at hx;cases hq:z.cells.toList[b]? with
  |none=>rw[hq]at hx;cases hx
  |some y=>
   rw[hq]at hx;cases hx
   have iz:b<i.size:=by rw[←iZ];exact(ahP.1 hq).1
   have MY:a<m:=by have:=(ahP.1 hc).1;rwa [gd]at this
   unfold madeCells at hu;have aZ:a*i.size+b<m*i.size:=jx MY iz;rw[Array.getElem?_map,Array.getElem?_range,if_pos aZ]at hu;simp only[Option.map_some,Option.some.injEq]at hu;have iV:z.cells.size=i.size:=by rw[←ain];exact iZ
   rw[iV,(Gp (i:=a) iz).2]at hu;have DZ:z.cells[b]?=some y:=by rw[←aic];exact hq
   rw[getElem!_pos z.cells b (by rw[iV];exact iz)]at hu;rw[aib (by rw[iV];exact iz)]at DZ;cases DZ
   subst hu;exact .d (.v _))
 rw[gd]at g4;refine⟨_,_,G',dK,g1,g2,g3,g4 len ?_⟩;rw[←hl,←hc];omega
theorem agM{T tx ty e k dx n o len L:Nat}{i:TypeInfo}{z:aiI}{u v:aiI}{cs ys:aiE (aiE AV)}{us:aiE aiI}(hi:cw G w h)(hT:P.underlying T=some (.slice e))(ko:P.info? e=some i)(hz:i.zero=some z)(mv:i.size=k)(wz:i.bytes=dx)(iZ:z.cells.size=k)(gr:0<k)
 (hn:h[n]?=some (.vec e k cs)) (hL:cs.length=L) (hu:aL G w u (.vec n o len L k)) (hr:At G w k ys us) (hs:Src P k tx v ys.length us w)
 {L':Nat} {cB:aiE (aiE AV)} (oO:(o+len+ys.length≤L∧L'=L∧cB=cs.take (o+len)++ys++cs.drop (o+len+ys.length))∨(o=0∧len=L∧L'=L+ys.length∧cB=cs++ys∧L'≤maxLen∧L'*dx≤140737488355328)):
 ∃r w' G',(Builtin.append_ #[T,tx] ty #[u,v]).run P w= .ok r w'∧cp G.N G w G' w'∧G.N≤G'.N∧cw G' w' (h.set n (.vec e k cB))∧aL G' w' r (.vec n o (len+ys.length) L' k):=by
 subst mv;subst wz;have mV:=hi.lt hn;have gC:=uS hi hn;have jQ:=hu.qd hi hn hL;have qU:=hi.dz n _ hn;have ahI:=jQ;obtain⟨wy,⟨A,c,rfl,c1,c2,c3,c4⟩,call⟩:=jQ;by_cases hy:ys.length=0
 ·have iC:ys=[]:=List.eq_nil_of_length_eq_zero hy;subst iC;have kG:us=[]:=List.eq_nil_of_length_eq_zero (by rw[hr.len];simp);subst kG;have dK:=run_append_nothing (P:=P) w T tx ty e i hT ko A len c c1 v hs;have e1:cB=cs:=by
   rcases oO with⟨_,_,e⟩|⟨_,_,_,e,_⟩
   ·rw[e];simp
   ·rw[e];simp
  have e2:L'=L:=by
   rcases oO with⟨_,e,_⟩|⟨_,_,e,_⟩
   ·exact e
   ·rw[e];simp
  subst e1;subst e2;refine⟨_,w,G,dK,cp.refl _ _ _,ah0 _,?_,by simpa using hu⟩;have:h.set n (.vec e i.size cB)=h:=by
   refine List.ext_getElem? fun m=> ?_;by_cases em:m=n
   ·subst em;rw[aij (ahP.1 hn).1,hn]
   ·rw[aio (Ne.symm em)]
  rw[this];exact hi
 ·have hy0:0<ys.length:=Nat.pos_of_ne_zero hy;have room:len+ys.length≤c→∀g cap cur,G.ow n=some g→G.sg n= .slice (some ⟨g,0,none⟩) cs.length cap→¬G.Z g→w.heap[g]?=some (.cells cur e (0,0))→cs.length≤cap→cap≤maxLen→cur.size=cap*i.size→(∀o,¬G.S g o)→
      (∀(a b:Nat)(d:aiE AV)(x:AV)(q:aiI),cs[a]?=some d→d[b]?=some x→cur[a*i.size+b]?=some q→aL G w q x)→A=some ⟨g,o*i.size,none⟩→o+c=cap→
      ∃r w' G',(Builtin.append_ #[T,tx] ty #[.slice A len c,v]).run P w= .ok r w'∧cp G.N G w G' w'∧G.N≤G'.N∧cw G' w' (h.set n (.vec e i.size cB))∧aL G' w' r (.vec n o (len+ys.length) L' i.size):=by
   intro mU g cap cur r1 r2 r3 r4 r5 r6 r7 r8 r9 rA rc;have jA:(o+len)*i.size+us.length≤cur.size:=by
    rw[hr.len,r7,←Nat.add_mul];exact Nat.mul_le_mul_right _ (by omega)
   have Ap:∀j,j<us.length→(w.cell? ⟨g,o*i.size+len*i.size+j,none⟩).isSome=true:=fun j hj=>by
    rw[cell_of_row w g _ cur e (0,0) r4,aib (by rw[Nat.add_mul]at jA;omega)];rfl
   have dK:=run_append_room_src (P:=P) w T tx ty e i hT ko g (o*i.size) len c v ys.length us hs mU Ap (fun j hj=>by unfold World.frozen?;rw[r4];simp);have jz:=run_storeCells_at P g (o*i.size+len*i.size) e us 0 cur w r4 (by rw[Nat.add_mul]at jA;simpa using jA) hr.one;have wN:=run_storeCells_cells (P:=P) g (o*i.size+len*i.size) us 0 w (by simpa using Ap) (fun j hj=>by unfold World.frozen?;rw[r4];simp) hr.one;simp only[Nat.add_zero]at jz wN;rw[jz]at wN;injection wN with _ e2;rw[←e2,←Nat.add_mul]at dK;rw[rA];have fX:∀(a b:Nat)(d:aiE AV)(x:AV)(q:aiI),cB[a]?=some d→d[b]?=some x→(if(o+len)*i.size≤a*i.size+b∧a*i.size+b<(o+len)*i.size+us.length then us[a*i.size+b-(o+len)*i.size]? else cur[a*i.size+b]?)=some q→aL G w q x:=by
    intro a b d x q hd hx hq;have JU:d.length=i.size:=by
     have hm:=ah2 hd;rcases oO with⟨_,_,e⟩|⟨_,_,_,e,_⟩
     ·rw[e]at hm;rcases ais.1 hm with hm|hm
      ·rcases ais.1 hm with hm|hm
       ·exact gC d (List.mem_of_mem_take hm)
       ·exact hr.wid d hm
      ·exact gC d (List.mem_of_mem_drop hm)
     ·rw[e]at hm;rcases ais.1 hm with hm|hm
      ·exact gC d hm
      ·exact hr.wid d hm
    have iz:b<i.size:=by rw[←JU];exact(ahP.1 hx).1
    have GQ:(a<o+len∧cs[a]?=some d)∨(o+len≤a∧a<o+len+ys.length∧ys[a-(o+len)]?=some d)∨(o+len+ys.length≤a∧cs[a]?=some d):=by
     rcases oO with⟨hf,_,e⟩|⟨e0,e1,_,e,_⟩
     ·rw[e]at hd;have Lj:(cs.take (o+len)).length=o+len:=by rw[List.length_take];omega
      by_cases h1:a<o+len
      ·rw[ah6,ahZ (by rw[Lj];exact h1),List.getElem?_take_of_lt h1]at hd;exact .inl ⟨h1,hd⟩
      ·rw[ah6,ah5 (by rw[Lj];omega),Lj]at hd;by_cases h2:a-(o+len)<ys.length
       ·rw[ahZ h2]at hd;exact .inr (.inl ⟨by omega,by omega,hd⟩)
       ·rw[ah5 (by omega),List.getElem?_drop,show o+len+ys.length+(a-(o+len)-ys.length)=a by omega]at hd;exact .inr (.inr ⟨by omega,hd⟩)
     ·rw[e]at hd;by_cases h1:a<cs.length
      ·rw[ahZ h1]at hd;exact .inl ⟨by omega,hd⟩
      ·rw[ah5 (by omega)]at hd;have:=(ahP.1 hd).1;exact .inr (.inl ⟨by omega,by omega,by rw[show a-(o+len)=a-cs.length by omega];exact hd⟩)
    rcases GQ with⟨h1,h2⟩|⟨h1,h2,h3⟩|⟨h1,h2⟩
    ·rw[if_neg (by have:=jx h1 iz;omega)]at hq;exact r9 a b d x q h2 hx hq
    ·have hle:(o+len)*i.size≤a*i.size:=Nat.mul_le_mul_right _ h1;have aZ:a*i.size+b<(o+len+ys.length)*i.size:=jx h2 iz;rw[Nat.add_mul (o+len)]at aZ;rw[if_pos ⟨by omega,by rw[hr.len];exact aZ⟩]at hq;refine hr.rel (a-(o+len)) b d x q h3 hx ?_;rw[Nat.sub_mul,show a*i.size-(o+len)*i.size+b=a*i.size+b-(o+len)*i.size by omega];exact hq
    ·have hle:(o+len+ys.length)*i.size≤a*i.size:=Nat.mul_le_mul_right _ h1;rw[Nat.add_mul (o+len)]at hle;rw[if_neg (by rw[hr.len];omega)]at hq;exact r9 a b d x q h2 hx hq
   have PX:∀d∈cB,d.length=i.size:=fun d hm=>by
    rcases oO with⟨_,_,e⟩|⟨_,_,_,e,_⟩
    ·rw[e]at hm;rcases ais.1 hm with hm|hm
     ·rcases ais.1 hm with hm|hm
      ·exact gC d (List.mem_of_mem_take hm)
      ·exact hr.wid d hm
     ·exact gC d (List.mem_of_mem_drop hm)
    ·rw[e]at hm;rcases ais.1 hm with hm|hm
     ·exact gC d hm
     ·exact hr.wid d hm
   rcases oO with⟨hf,eL,ec⟩|⟨e0,e1,eL,ec,jW,mE⟩
   ·have gd:cB.length=cs.length:=by rw[ec];simp;omega
    obtain⟨G',k1,k2,k3,k4,k5⟩:=MA (us:=us) (off:=(o+len)*i.size) (cB:=cB) hi hn gr r1 r2 r3 r4 r5 r6 r7 r8 jA gd PX fX;refine⟨_,_,G',dK,k1,by rw[k2];exact ah0 _,k3,?_⟩;refine .vec n o (len+ys.length) L' i.size (by rw[k2];exact mV) ⟨_,_,_,rfl⟩ (by rw[k5,eL,qU.1,hL];exact ah0 _) fun _=> ?_;rw[k4];refine⟨by omega,⟨_,_,rfl,mU,c2,by omega,fun ho=> ?_⟩,fun ho hl=> ?_⟩
    ·rw[eL]at ho ⊢;obtain⟨g2,Vm,q1,q2,q3⟩:=c4 ho;exact⟨g2,Vm,q1,by rw[←q2,rA],q3⟩
    ·subst ho;rw[r2,hL,←eL,←hl];simp at rc;subst rc;simp
   ·subst e0;subst e1;simp only[ah9,Nat.zero_mul]at*;subst rc;obtain⟨w',eR⟩:∃w',w'=w.setRow g (cur.toList.take (len*i.size)++us++cur.toList.drop (len*i.size+us.length)).toArray:=⟨_,rfl⟩;rw[←eR]at dK;have hoth:∀b,b≠g→w'.heap[b]?=w.heap[b]?:=fun b hb=>by rw[eR];exact setRow_other w g b _ hb
    have mZ:w'.heap[g]?=some (.cells (cur.toList.take (len*i.size)++us++cur.toList.drop (len*i.size+us.length)).toArray e (0,0)):=by rw[eR];exact setRow_heap w g cur _ e _ r4
    have gp:w'.heap.size=w.heap.size:=by rw[eR];exact IC w g _
    obtain⟨sv,lA⟩:∃sv,sv=Value.slice (some ⟨g,0,none⟩) L' c:=⟨_,rfl⟩;have gd:cB.length=L':=by rw[ec,ahQ,hL,eL]
    have kf:G.fl n=len:=by rw[qU.1,hL]
    have hE:cp G.N G w (G.grow n G.S sv L' (some g)) w':=⟨by rw[gp];exact ah0 _,fun _ _ h=>h,fun b q hs=>World.cell?_of_block (hoth b (fun e=>r8 q (e▸hs))),fun _ _=>rfl,fun m _=>by
        by_cases em:m=n
        ·right;subst em;simp only[Gh.grow,if_true,kf];omega
        ·left;exact⟨by simp [Gh.grow,em],by simp [Gh.grow,em]⟩,gB rfl,fun b hb=>hoth b (fun e=>r3 (e▸hb)),by rw[eR];rfl,by rw[eR];rfl,by rw[eR];rfl,fun b q hs=> .inl hs⟩
    refine⟨_,w',_,dK,hE,ah0 _,Gz hi hn (fun _=>rfl) (fun _=>rfl) _ _ _ _ hE (fun g' p9=>by cases p9;exact⟨.inr r1,by rw[gp];exact(ah4.1 r4).1⟩) (fun b q hs=> .inl hs) (fun b _ gk=>hoth b (fun e=>gk (by rw[e]))) ?_,?_⟩
    ·refine⟨by simp [Gh.grow,gd],by rw[gd];exact jW,PX, .inr ⟨g,c,_,by simp [Gh.grow],by simp [Gh.grow,lA,gd],r3,mZ,by rw[gd];omega,r6,by rw[Uy _ _ _ jA];exact r7,r8,fun a b d x q hd hx hq=> ?_⟩⟩;rw[Sz _ _ _ _ jA]at hq;exact(fX a b d x q hd hx hq).bq hE (ah0 _)
    ·refine .vec n 0 (len+ys.length) L' i.size mV ⟨_,_,_,rfl⟩ (by simp [Gh.grow]) fun _=>⟨by omega,⟨_,_,rfl,mU,c2,by omega,fun _=>⟨g,c,by simp [Gh.grow,lA],by simp,by simp⟩⟩,fun _ e=> ?_⟩;simp [Gh.grow,lA,eL]
  rcases qU.2.2.2 with⟨b1,b2,A',b3⟩|⟨g,cap,cur,r1,r2,r3,r4,r5,r6,r7,r8,r9⟩
  ·
   subst b2;simp at hL;subst hL;have ho:o=0:=by omega
   have Hd:len=0:=by omega
   subst ho;subst Hd;have:=call rfl rfl;rw[b3]at this;injection this with q1 _ q2;subst q2;rcases oO with⟨hf,_,_⟩|⟨_,_,eL,ec,jW,mE⟩
   ·omega
   ·simp only[ah9,List.nil_append]at eL ec;subst ec;rw[eL]at jW mE;have JV:cB.length≤9223372036854775807:=by simp only[maxLen]at jW;omega
    have hold:(Builtin.firstCells i.size 0 (.slice A 0 0)).run P w.drew= .ok ([]:aiE aiI).toArray w.drew:=by
     cases A with
     |none=>exact run_firstCells_none _ _ _ _ _
     |some a=>exact run_firstCells_some _ _ _ _ _ _ [] (by simp) (fun j u hu=>by simp at hu)
    have dK:=run_append_grow_src (P:=P) w T tx ty e i z hT ko hz A 0 0 [] hold v cB.length us hs (by omega) (by omega) (growslice_fits (by omega) (by simpa using mE));simp only[ah9,List.nil_append]at dK;obtain⟨cap,jb⟩:∃cap,cap=grownCap w cB.length 0 e:=⟨_,rfl⟩;have js:cB.length≤cap:=by rw[jb];exact grownCap_ge _ _ _ _
    have hle:cap≤maxLen:=by rw[jb];exact grownCap_le_maxLen _ _ _ _ jW
    rw[←jb]at dK;obtain⟨cur,jI⟩:∃cur,cur=us.toArray++Builtin.zeroCells z.cells (cap-cB.length):=⟨_,rfl⟩;rw[←jI]at dK;have fP:cur.size=cap*i.size:=by
      have:=size_zeroCells z.cells (cap-cB.length);rw[jI,Array.size_append,this,List.size_toArray,hr.len,iZ,←Nat.add_mul]
      congr 1
      omega
    have fX:(w.drew.alloc (.cells cur e)).heap[w.heap.size]?=some (.cells cur e (0,0)):=World.alloc_heap_new w.drew _;have xS:∀b,b<w.heap.size→(w.drew.alloc (.cells cur e)).heap[b]?=w.heap[b]?:=fun b hb=>Below.heap_alloc w.drew _ b hb;obtain⟨sv,lA⟩:∃sv,sv=Value.slice (some ⟨w.heap.size,0,none⟩) L' cap:=⟨_,rfl⟩;have kf:G.fl n=0:=by rw[qU.1];rfl
    have hE:cp G.N G w (G.grow n G.S sv L' (some w.heap.size)) (w.drew.alloc (.cells cur e)):=⟨by simp,fun _ _ h=>h,fun b q hs=>World.cell?_of_block (xS b (hi.S b q hs)),fun _ _=>rfl,fun m _=>by
        by_cases em:m=n
        ·right;subst em;simp only[Gh.grow,if_true,kf];omega
        ·left;exact⟨by simp [Gh.grow,em],by simp [Gh.grow,em]⟩,gB rfl,fun b hb=>xS b (hi.z b hb),rfl,rfl,rfl,fun b q hs=> .inl hs⟩
    refine⟨_,_,_,dK,hE,ah0 _,Gz hi hn (fun _=>rfl) (fun _=>rfl) _ _ _ _ hE (fun g' p9=>by cases p9;exact⟨.inl rfl,by simp⟩) (fun b q hs=> .inl hs) (fun b hb _=>xS b hb) ?_,?_⟩
    ·refine⟨by simp [Gh.grow,eL],jW,hr.wid, .inr ⟨w.heap.size,cap,cur,by simp [Gh.grow],by simp [Gh.grow,lA,eL],fun hz=>aiu _ (hi.z _ hz),fX,js,hle,fP,fun q hs=>aiu _ (hi.S _ _ hs),fun a b d x q hd hx hq=> ?_⟩⟩;have iz:b<i.size:=by rw[←hr.wid d (ah2 hd)];exact(ahP.1 hx).1
     have aZ:a*i.size+b<us.length:=by rw[hr.len];exact jx (ahP.1 hd).1 iz
     rw[jI,Array.getElem?_append_left (by simpa using aZ),List.getElem?_toArray]at hq;exact(hr.rel a b d x q hd hx hq).bq hE (ah0 _)
    ·rw[ah9];refine .vec n 0 cB.length L' i.size mV ⟨_,_,_,rfl⟩ (by simp [Gh.grow]) fun _=>⟨by omega,⟨_,_,rfl,js,hle,by omega,fun _=>⟨w.heap.size,cap,by simp [Gh.grow,lA],by simp,by simp⟩⟩,fun _ e=> ?_⟩;simp [Gh.grow,lA,eL]
  ·
   rcases oO with⟨hf,eL,ec⟩|⟨e0,e1,eL,ec,jW,mE⟩
   ·obtain⟨g2,Vm,q1,q2,q3⟩:=c4 (by omega);rw[r2]at q1;injection q1 with q4 _ q5;cases q4
    subst q5;exact room (by omega) g cap cur r1 r2 r3 r4 r5 r6 r7 r8 r9 q2 q3
   ·have:=call e0 e1;rw[r2]at this;injection this with q2 _ q3;by_cases mU:len+ys.length≤c
    ·exact room mU g cap cur r1 r2 r3 r4 r5 r6 r7 r8 r9 (by rw[q2,e0];simp) (by omega)
    ·subst e0;subst q2;subst q3;rw[eL]at jW mE;have JV:L+ys.length≤9223372036854775807:=by simp only[maxLen]at jW;omega
     have EW:(cur.toList.take (len*i.size)).length=len*i.size:=by
      rw[List.length_take,ain,r7];exact Nat.min_eq_left (Nat.mul_le_mul_right _ c1)
     have hold:(Builtin.firstCells i.size len (.slice (some ⟨g,0,none⟩) len c)).run P w.drew= .ok (cur.toList.take (len*i.size)).toArray w.drew:=
      run_firstCells_some _ _ _ _ _ _ _ EW (fun j q hq=>by
       rw[kJ,ah9];show w.cell? ⟨g,j,none⟩=some q;rw[cell_of_row w g _ cur e (0,0) r4,←aic];have rX:=(ahP.1 hq).1;rw[EW]at rX;rw[List.getElem?_take_of_lt rX]at hq;exact hq)
     have dK:=run_append_grow_src (P:=P) w T tx ty e i z hT ko hz (some ⟨g,0,none⟩) len c _ hold v ys.length us hs (by omega) (by omega) (growslice_fits (by omega) (by rw[e1];exact mE));obtain⟨cap,jb⟩:∃cap,cap=grownCap w (len+ys.length) c e:=⟨_,rfl⟩;have js:len+ys.length≤cap:=by rw[jb];exact grownCap_ge _ _ _ _
     have hle:cap≤maxLen:=by rw[jb];exact grownCap_le_maxLen _ _ _ _ (by rw[e1];exact jW)
     rw[←jb]at dK;obtain⟨tg,jI⟩:∃tg,tg=(cur.toList.take (len*i.size)++us).toArray++Builtin.zeroCells z.cells (cap-(len+ys.length)):=⟨_,rfl⟩;rw[←jI]at dK;have zt:(cur.toList.take (len*i.size)++us).length=(len+ys.length)*i.size:=by rw[ahQ,EW,hr.len,←Nat.add_mul]
     have fP:tg.size=cap*i.size:=by
      have:=size_zeroCells z.cells (cap-(len+ys.length));rw[jI,Array.size_append,this,List.size_toArray,zt,iZ,←Nat.add_mul]
      congr 1
      omega
     have fX:(w.drew.alloc (.cells tg e)).heap[w.heap.size]?=some (.cells tg e (0,0)):=World.alloc_heap_new w.drew _;have xS:∀b,b<w.heap.size→(w.drew.alloc (.cells tg e)).heap[b]?=w.heap[b]?:=fun b hb=>Below.heap_alloc w.drew _ b hb;obtain⟨sv,lA⟩:∃sv,sv=Value.slice (some ⟨w.heap.size,0,none⟩) L' cap:=⟨_,rfl⟩;have kf:G.fl n=L:=by rw[qU.1,hL]
     have gd:cB.length=L':=by rw[ec,ahQ,hL,eL]
     have hE:cp G.N G w (G.grow n G.S sv L' (some w.heap.size)) (w.drew.alloc (.cells tg e)):=⟨by simp,fun _ _ h=>h,fun b q hs=>World.cell?_of_block (xS b (hi.S b q hs)),fun _ _=>rfl,fun m _=>by
         by_cases em:m=n
         ·right;subst em;simp only[Gh.grow,if_true,kf];omega
         ·left;exact⟨by simp [Gh.grow,em],by simp [Gh.grow,em]⟩,gB rfl,fun b hb=>xS b (hi.z b hb),rfl,rfl,rfl,fun b q hs=> .inl hs⟩
     refine⟨_,_,_,dK,hE,ah0 _,Gz hi hn (fun _=>rfl) (fun _=>rfl) _ _ _ _ hE (fun g' p9=>by cases p9;exact⟨.inl rfl,by simp⟩) (fun b q hs=> .inl hs) (fun b hb _=>xS b hb) ?_,?_⟩
     ·refine⟨by simp [Gh.grow,gd],by rw[gd,eL];exact jW,fun d hd=> ?_, .inr ⟨w.heap.size,cap,tg,by simp [Gh.grow],by simp [Gh.grow,lA,gd],fun hz=>aiu _ (hi.z _ hz),fX,by rw[gd];omega,hle,fP,fun q hs=>aiu _ (hi.S _ _ hs),fun a b d x q hd hx hq=> ?_⟩⟩
      ·rw[ec]at hd;rcases ais.1 hd with hd|hd
       ·exact gC d hd
       ·exact hr.wid d hd
      ·refine aL.bq hE (ah0 _) ?_;have JU:d.length=i.size:=by
        have hm:=ah2 hd;rw[ec]at hm;rcases ais.1 hm with hm|hm
        ·exact gC d hm
        ·exact hr.wid d hm
       have iz:b<i.size:=by rw[←JU];exact(ahP.1 hx).1
       have XU:a<len+ys.length:=by
        have:=(ahP.1 hd).1;rw[gd,eL]at this;omega
       have aZ:a*i.size+b<(cur.toList.take (len*i.size)++us).length:=by rw[zt];exact jx XU iz
       rw[jI,Array.getElem?_append_left (by simpa using aZ),List.getElem?_toArray,aa6 _ us len a b EW iz]at hq;rw[ec]at hd;by_cases h1:a<len
       ·rw[if_pos h1,List.getElem?_take_of_lt (jx h1 iz),aic]at hq;rw[ahZ (by omega)]at hd;exact r9 a b d x q hd hx hq
       ·rw[if_neg h1]at hq;rw[ah5 (by omega)]at hd;exact hr.rel (a-len) b d x q (by rw[←hd];congr 1;omega) hx hq
     ·refine .vec n 0 (len+ys.length) L' i.size mV ⟨_,_,_,rfl⟩ (by simp [Gh.grow]) fun _=>⟨by omega,⟨_,_,rfl,js,hle,by omega,fun _=>⟨w.heap.size,cap,by simp [Gh.grow,lA],by simp,by simp⟩⟩,fun _ e=> ?_⟩;simp [Gh.grow,lA,eL,e1]
theorem UY{T tx ty e k dx:Nat}{i:TypeInfo}{z:aiI}{A:aiG Addr}{v:aiI}{ys:aiE (aiE AV)}{us:aiE aiI}(hi:cw G w h)(hT:P.underlying T=some (.slice e))(ko:P.info? e=some i)(hz:i.zero=some z)(mv:i.size=k)(wz:i.bytes=dx)(iZ:z.cells.size=k)(gr:0<k)
 (hr:At G w k ys us) (hs:Src P k tx v ys.length us w) (jW:ys.length≤maxLen) (mE:ys.length*dx≤140737488355328):
 ∃r w' G',(Builtin.append_ #[T,tx] ty #[.slice A 0 0,v]).run P w= .ok r w'∧cp G.N G w G' w'∧G.N≤G'.N∧cw G' w' (h++[.vec e k ys])∧aL G' w' r (.vec h.length 0 ys.length ys.length k):=by
 subst mv;subst wz;by_cases hy:ys.length=0
 ·have iC:ys=[]:=List.eq_nil_of_length_eq_zero hy;subst iC;have kG:us=[]:=List.eq_nil_of_length_eq_zero (by rw[hr.len];simp);subst kG;have dK:=run_append_nothing (P:=P) w T tx ty e i hT ko A 0 0 (ah0 _) v hs;obtain⟨hE,hI⟩:=Kl (w':=w) hi (.vec e i.size []) (fun _ _=>rfl) (.slice A 0 0) 0 none ⟨fun _ _=>rfl,ah0 _,rfl,rfl,rfl⟩ (fun g hg=>by cases hg) ⟨by simp [Gh.eK],by simp,(fun _ h=>by cases h), .inl ⟨by simp [Gh.eK],rfl,A,by simp [Gh.eK]⟩⟩;refine⟨_,w,_,dK,hE,Nat.le_succ _,hI,?_⟩;rw[hi.len];exact .vec G.N 0 0 0 i.size (by simp [Gh.eK]) ⟨_,_,_,rfl⟩ (by simp) fun _=>⟨by omega,⟨A,0,rfl,ah0 _,Nat.zero_le _,by omega,fun h=>by omega⟩,fun _ _=>by simp [Gh.eK]⟩
 ·have JV:ys.length≤9223372036854775807:=by simp only[maxLen]at jW;omega
  have hold:(Builtin.firstCells i.size 0 (.slice A 0 0)).run P w.drew= .ok ([]:aiE aiI).toArray w.drew:=by
   cases A with
   |none=>exact run_firstCells_none _ _ _ _ _
   |some a=>exact run_firstCells_some _ _ _ _ _ _ [] (by simp) (fun j u hu=>by simp at hu)
  have dK:=run_append_grow_src (P:=P) w T tx ty e i z hT ko hz A 0 0 [] hold v ys.length us hs (by omega) (by omega) (growslice_fits (by omega) (by simpa using mE));simp only[ah9,List.nil_append]at dK;obtain⟨cap,jb⟩:∃cap,cap=grownCap w ys.length 0 e:=⟨_,rfl⟩;have js:ys.length≤cap:=by rw[jb];exact grownCap_ge _ _ _ _
  have hle:cap≤maxLen:=by rw[jb];exact grownCap_le_maxLen _ _ _ _ jW
  rw[←jb]at dK;obtain⟨cur,jI⟩:∃cur,cur=us.toArray++Builtin.zeroCells z.cells (cap-ys.length):=⟨_,rfl⟩;rw[←jI]at dK;have fP:cur.size=cap*i.size:=by
    have:=size_zeroCells z.cells (cap-ys.length);rw[jI,Array.size_append,this,List.size_toArray,hr.len,iZ,←Nat.add_mul]
    congr 1
    omega
  obtain⟨G',g1,g2,g3,g4⟩:=K1 (e:=e) (k:=i.size) (cap:=cap) (cs:=ys) (cur:=cur) hi js hle fP hr.wid w.drew ⟨rfl,rfl,rfl,rfl⟩ (fun a b d x q hd hx hq=>by
   have iz:b<i.size:=by rw[←hr.wid d (ah2 hd)];exact(ahP.1 hx).1
   have aZ:a*i.size+b<us.length:=by rw[hr.len];exact jx (ahP.1 hd).1 iz
   rw[jI,Array.getElem?_append_left (by simpa using aZ),List.getElem?_toArray]at hq;exact hr.rel a b d x q hd hx hq)
  exact⟨_,_,G',dK,g1,g2,g3,g4 _ (ah0 _)⟩
end
section
variable {P:aiH} {r:aiG Nat} {n N0:Nat} {G:Gh} {w:aiJ} {a:Act} {s:St} {o:Oper} {K:St→Prop} {Q:Exit→Act→aiJ→Prop}
theorem Bi(hs:dk G w a s)(l:Array Operand):(l.map a.eval).size=(l.toList.map (ev s)).length∧∀(i:Nat)(u:aiI)(c:AV),(l.map a.eval)[i]?=some u→(l.toList.map (ev s))[i]?=some c→aL G w u c:=by
 refine⟨by simp,fun i u c hu hc=> ?_⟩;rw[Array.getElem?_map]at hu;rw[ahW,aic]at hc;cases hx:l[i]? with
 |none=>rw[hx]at hu;cases hu
 |some x=>rw[hx]at hu hc;cases hu;cases hc;exact hs.ev x
theorem Qs(hs:dk G w a s)(l:Array (Nat×Operand)):(l.map fun(i,x)=>(i,a.eval x)).toList.length=(l.toList.map fun p=>(p.1,ev s p.2)).length∧
 ∀(i:Nat)(p:Nat×AV)(q:Nat×aiI),(l.toList.map fun p=>(p.1,ev s p.2))[i]?=some p→(l.map fun(i,x)=>(i,a.eval x)).toList[i]?=some q→q.1=p.1∧aL G w q.2 p.2:=by
 refine⟨by simp,fun i p q hp hq=> ?_⟩;rw[aic,Array.getElem?_map]at hq;rw[ahW,aic]at hp;cases hx:l[i]? with
 |none=>rw[hx]at hp;cases hp
 |some x=>rw[hx]at hp hq;cases hp;cases hq;exact⟨rfl,hs.ev x.2⟩
theorem BV{x y:Operand}{T U:TypeId}(c:Call)(hc:c.callee= .builtin .append)(h1:c.args.toList=[x,y])(h2:c.argTypes.toList=[T,U])(ho:o.op= .call c):
 (execOp a.eval o).run P w=((Builtin.append_ #[T,U] o.type #[a.eval x,a.eval y]).run P w).andThen fun v w'=> .ok (.value v) w':=by
 have e1:c.args= #[x,y]:=by rw[←Array.toList_inj];exact h1
 have e2:c.argTypes= #[T,U]:=by rw[←Array.toList_inj];exact h2
 unfold execOp;simp only[ho,resolve,hc,e1,e2,invoke,builtin,Sem.run_bind,Sem.run_pure,Result.andThen_ok,List.map_toArray,aie,List.map_nil]
theorem Ta{x:Operand}{T:TypeId}(c:Call)(hc:c.callee= .builtin .len)(h1:c.args.toList=[x])(h2:c.argTypes.toList=[T])(ho:o.op= .call c):
 (execOp a.eval o).run P w=((Builtin.len_ #[T] o.type #[a.eval x]).run P w).andThen fun v w'=> .ok (.value v) w':=by
 have e1:c.args= #[x]:=by rw[←Array.toList_inj];exact h1
 have e2:c.argTypes= #[T]:=by rw[←Array.toList_inj];exact h2
 unfold execOp;simp only[ho,resolve,hc,e1,e2,invoke,builtin,Sem.run_bind,Sem.run_pure,Result.andThen_ok,List.map_toArray,aie,List.map_nil]
theorem aaZ(c:Call)(hc:c.callee= .builtin .max)(ho:o.op= .call c):
 (execOp a.eval o).run P w=((Builtin.max_ c.argTypes o.type (c.args.map a.eval)).run P w).andThen fun v w'=> .ok (.value v) w':=by
 unfold execOp;simp only[ho,resolve,hc,invoke,builtin,Sem.run_bind,Sem.run_pure,Result.andThen_ok]
theorem agc(c:Call)(hc:c.callee= .builtin .min)(ho:o.op= .call c):
 (execOp a.eval o).run P w=((Builtin.min_ c.argTypes o.type (c.args.map a.eval)).run P w).andThen fun v w'=> .ok (.value v) w':=by
 unfold execOp;simp only[ho,resolve,hc,invoke,builtin,Sem.run_bind,Sem.run_pure,Result.andThen_ok]
theorem Uj{mx:Bool}{k k':IntKind}{z:Int}:∀(l:aiE AV)(vs:aiE aiI)(x:Int),vs.length=l.length→(∀(i:Nat)(u:aiI)(c:AV),vs[i]?=some u→l[i]?=some c→aL G w u c)→GB mx k x l=some (k',z)→
 (vs.foldlM (if mx then Builtin.max2 else Builtin.min2) (.int k x)).run P w= .ok (.int k' z) w
 |[],[],x,_,_,h=>by cases h;simp
 |[],_::_,_,hl,_,_=>by simp at hl
 |_::_,[],_,hl,_,_=>by simp at hl
 |y::l,u::vs,x,hl,hr,h=>by
  unfold GB at h;split at h
  ·next e=>cases e
  ·next k2 b l' e=>
   cases e
   have e1:=(hr 0 u _ rfl rfl).val;subst e1;have ih:=Uj l vs _ (by simpa using hl) (fun i u c hu hc=>hr (i+1) u c (by simpa using hu) (by simpa using hc)) h;rw[List.foldlM_cons,Sem.run_bind];cases mx with
   |true=>simp only[if_true,cond_true]at ih ⊢;simp only[Builtin.max2,Sem.run_pure,Result.andThen_ok];exact ih
   |false=>simp only[Bool.false_eq_true,if_false,cond_false]at ih ⊢;simp only[Builtin.min2,Sem.run_pure,Result.andThen_ok];exact ih
  ·cases h
theorem UP{mx:Bool}{k:IntKind}{z:Int}{l:aiE AV}{vs:Array aiI}(hl:vs.size=l.length)(hr:∀(i:Nat)(u:aiI)(c:AV),vs[i]?=some u→l[i]?=some c→aL G w u c)(h:AJ mx l=some (k,z)):
 ∃u us,vs.toList=u::us∧(us.foldlM (if mx then Builtin.max2 else Builtin.min2) u).run P w= .ok (.int k z) w:=by
 unfold AJ at h;split at h
 ·next k2 x l'=>
  cases hv:vs.toList with
  |nil=>rw[←ain,hv]at hl;simp at hl
  |cons u us=>
   refine⟨u,us,rfl,?_⟩;have nW:∀(i:Nat)(v:aiI)(c:AV),(u::us)[i]?=some v→(AV.d (.v (.int k2 x))::l')[i]?=some c→aL G w v c:=fun i v c h1 h2=>hr i v c (by rw[←aic,hv];exact h1) h2;have e1:=(nW 0 u _ rfl rfl).val;subst e1;refine Uj l' us x ?_ (fun i v c h1 h2=>nW (i+1) v c (by simpa using h1) (by simpa using h2)) h;rw[←ain,hv]at hl;simpa using hl
 ·cases h
theorem Pq{f:FuncId}(h:Cr P f=true)(args:Array aiI)(w:aiJ):(callFunc f args).run P w= .ok (.enter f args) w:=by
 unfold Cr at h;cases hq:P.funcs[f]? with
 |none=>rw[hq]at h;simp at h
 |some fn=>
  rw[hq]at h;simp only[ahR,Bool.not_eq_true']at h;obtain⟨h1,h2⟩:=h;have h3:fn.body≠none:=by intro e;rw[e]at h1;cases h1
  have h4:fn.name≠ "runtime.NumGoroutine" :=by simpa using h2
  simp [callFunc,hq,h4,h3]
theorem adW(hs:dk G w a s)(cZ:N0≤G.N){x:AV}{h':aiE an}{p:Sd}(hx:nt P o.op (ev s) s.h=some (x,h',p))(hp:p.ok)(hK:K ((s.wh h').put o.dst x)):o.wpIn (WF r) n P a w (iJ N0 G w K) Q:=by
 have dF:=hs.ev;unfold nt at hx;split at hx
 next T ho=>
  split at hx
  ·next q hT=>
   cases hx
   obtain⟨i1,i2,i3⟩:=adj hs.inv;exact nv (by rw[ho];simp) hs cZ (v:= .map (some w.heap.size)) (by unfold execOp;simp [ho,run_makeMap,Result.andThen]) i1 (Nat.le_succ _) i2 i3 hK
  ·cases hx
 next T m i ok ho=>
  split at hx
  ·next k e hT=>
   split at hx
   ·next z hz=>
    split at hx
    ·next b s' hm hi=>
     split at hx
     ·next kv hn=>
      cases hc:gK P k&&z.oneCell' with
      |false=>rw[hc]at hx;cases hx
      |true=>
       rw[hc]at hx;cases hx
       rw[ahR]at hc;obtain⟨v,r1,r2⟩:=adO (ok:=ok) (s:=s') hs.inv hT hz hc.1 hn;have e1:=dF m;rw[hm]at e1;have e2:=dF i;rw[hi]at e2;have e2:=e2.val;have Kj:a.eval m= .map (some (G.bA b)):=by
         generalize a.eval m=u at e1;cases e1 with|mp _ _=>rfl
       exact fy (by rw[ho];simp) hs cZ (by unfold execOp;simp [ho,Kj,e2,r1,Result.andThen]) r2 hK
     ·cases hx
    ·cases hx
   ·cases hx
  ·cases hx
 next T m i y ho=>
  split at hx
  ·next k e hT=>
   split at hx
   ·next b s' d hm hi hd=>
    split at hx
    ·next kv hn=>
     cases hc:gK P k with
     |false=>rw[hc]at hx;cases hx
     |true=>
      rw[hc]at hx;cases hx
      obtain⟨w',r1,r2,r3⟩:=Xb (s:=s') hs.inv hT hc hn ((dF y).LF hd) hp;have e1:=dF m;rw[hm]at e1;have e2:=dF i;rw[hi]at e2;have e2:=e2.val;have Kj:a.eval m= .map (some (G.bA b)):=by
       generalize a.eval m=u at e1;cases e1 with|mp _ _=>rfl
      exact LW (by rw[ho];simp) hs cZ (by unfold execOp;simp [ho,Kj,e2,r1,Result.andThen]) r2 (ah0 _) r3 hK
    ·cases hx
   ·cases hx
  ·cases hx
 next=>cases hx
theorem V3(hs:dk G w a s)(cZ:N0≤G.N)(h:po P o K s):o.wpIn (WF r) n P a w (iJ N0 G w K) Q:=by
 have dF:=hs.ev;unfold po dc at h;split at h
 next x ho=>exact fy (by rw[ho];simp) hs cZ (v:=a.eval x) (by unfold execOp;rw[ho];rfl) (dF x) h
 next x ho=>exact fy (by rw[ho];simp) hs cZ (v:=a.eval x) (by unfold execOp;rw[ho];rfl) (dF x) h
 next c x y ho=>
  split at h
  next t hc=>
   have hb:=dF c;rw[hc]at hb;have e:=hb.bool;cases t with
   |true=>exact fy (by rw[ho];simp) hs cZ (v:=a.eval x) (by unfold execOp;simp [ho,e,asBool]) (dF x) (h.1 rfl)
   |false=>exact fy (by rw[ho];simp) hs cZ (v:=a.eval y) (by unfold execOp;simp [ho,e,asBool]) (dF y) (h.2 rfl)
  next=>exact h.elim
 next e ho=>
  split at h
  next z hz=>
   obtain⟨i1,i2⟩:=R5 hs.inv z.cells e (z.cells.toList.map fun u=> .d (.v u)) (by simp) (fun i u c hu hc=>by
    rw[ahW,aic,hu]at hc;cases hc;exact .d (.v u))
   exact nv (by rw[ho];simp) hs cZ (by unfold execOp;simp [ho,Instr.alloc,GY hz,newVar,newRow]) (Dc G w hs.inv.z hs.inv.S _) (Nat.le_succ _) i1 i2 h
  next=>exact h.elim
 next e x ho=>
  obtain⟨hb,hK⟩:=cr.1 h;have hr:=(dF x).Ui hb;obtain⟨i1,i2⟩:=R5 hs.inv (a.eval x).cells e (ev s x).cells hr.len hr.rel;exact nv (by rw[ho];simp) hs cZ (by unfold execOp;simp [ho,Instr.box,newVar,newRow]) (Dc G w hs.inv.z hs.inv.S _) (Nat.le_succ _) i1 i2 hK
 next t x ho=>
  obtain⟨u,y,h1,h2,h3⟩:=Oc hs.inv (dF x) h;exact fy (by rw[ho];simp) hs cZ (by unfold execOp;simp [ho,h1]) h2 h3
 next t x y ho=>
  unfold vB at h;split at h
  next m off hm=>
   split at h
   next cs fP=>
    split at h
    case h_2=>exact h.elim
    rename_i k hk
    obtain⟨fm,h4⟩:=cr.1 h;simp only[ahR,beq_iff_eq,dQ]at fm;obtain⟨⟨rfl,h2⟩,h3⟩:=fm;have h1:=hk;have hx:=dF x;rw[hm]at hx;obtain⟨w',r1,r2,r3⟩:=ad0 (P:=P) hs.inv fP (dF y) h2 h1 h3;have ex:a.eval x= .pointer (some ⟨G.bA m,off,none⟩):=by
     generalize a.eval x=u at hx;cases hx with
     |ptr=>rfl
    exact LW (by rw[ho];simp) hs cZ (by unfold execOp;simp [ho,Instr.storeAt,Instr.sureAddr,ex,r1]) r2 (ah0 _) r3 h4
   next=>exact h.elim
  next=>exact h.elim
 next x ho=>
  have hx:=dF x;split at h
  next m off hm=>
   rw[hm]at hx;generalize ea:a.eval x=u at hx;cases hx with
   |ptr _ _ uY=>exact fy (by rw[ho];simp) hs cZ (by unfold execOp;simp [ho,ea]) (.ptr m off uY) h
  next xs i off hm=>
   rw[hm]at hx;generalize ea:a.eval x=u at hx;have zT:=hx;cases hx with
   |bt=>exact fy (by rw[ho];simp) hs cZ (by unfold execOp;simp [ho,ea]) zT h
  next f cs hm=>
   rw[hm]at hx;generalize ea:a.eval x=u at hx;have zT:=hx;cases hx with
   |fn=>exact fy (by rw[ho];simp) hs cZ (by unfold execOp;simp [ho,ea]) zT h
  next=>exact h.elim
 next T x f ho=>
  split at h
  next fo k g hT=>
   have hx:=dF x;split at h
   next m off hm=>
    rw[hm]at hx;generalize ea:a.eval x=u at hx;cases hx with
    |ptr _ _ uY=>exact fy (by rw[ho];simp) hs cZ (by unfold execOp;simp [ho,ea,Ky hT]) (.ptr m (off+fo) uY) h
   next xs i off hm=>
    rw[hm]at hx;generalize ea:a.eval x=u at hx;cases hx with
    |bt _ _ _ b oo us c hx hS hu=>exact fy (by rw[ho];simp) hs cZ (by unfold execOp;simp [ho,ea,Ky hT];rfl) (by rw[Nat.add_assoc];exact .bt xs i (off+fo) b oo us c hx hS hu) h
   next=>exact h.elim
  next=>exact h.elim
 next T x f ho=>
  obtain⟨u,y,h1,h2,h3⟩:=Zc (dF x) h;exact fy (by rw[ho];simp) hs cZ (by unfold execOp;simp [ho,h1]) h2 h3
 next T x i ho=>
  obtain⟨u,y,h1,h2,h3⟩:=agb (dF x) (dF i) h;exact fy (by rw[ho];simp) hs cZ (by unfold execOp;simp [ho,h1]) h2 h3
 next T x i ho=>
  split at h
  next b z hb hz=>
   obtain⟨hT,h0,h⟩:=cr.1 h;have hT:=qM hT;have hx:=dF x;rw[hb]at hx;have ex:=hx.val;obtain⟨k,ei⟩:=(dF i).int hz;split at h
   next c hc=>
    refine fy (by rw[ho];simp) hs cZ (v:= .int .u8 c.toNat) ?_ (.d (.v _)) h;unfold execOp;simp [ho,Instr.index,ex,ei,asIntOf,run_underlying hT,h0,hc]
   next=>exact h.elim
  next=>exact h.elim
 next T ps ho=>
  obtain⟨p1,p2⟩:=Qs hs ps;obtain⟨u,y,h1,h2,h3⟩:=aeF p1 p2 h;exact fy (by rw[ho];simp) hs cZ (by unfold execOp;simp only[ho,Sem.run_bind,h1];rfl) h2 h3
 next T len ps ho=>
  obtain⟨p1,p2⟩:=Qs hs ps;obtain⟨u,w',G',y,h1,h2,h3,h4,h5,h6⟩:=YJ (T:=T) hs.inv p1 p2 h;exact nv (by rw[ho];simp) hs cZ (by unfold execOp;simp only[ho,Sem.run_bind,h1];rfl) h2 h3 h4 h5 h6
 next T x lo hi mx ho=>
  obtain⟨u,y,h1,h2,h3⟩:=aeh hs (dF x) h;exact fy (by rw[ho];simp) hs cZ (by unfold execOp;simp [ho,h1]) h2 h3
 next x i ho=>
  have hx:=dF x;split at h
  next cs fP=>
   rw[fP]at hx;generalize ea:a.eval x=u at hx;split at h
   next c hc=>
    cases hx with
    |cb vs _ hl hr=>
     have aZ:i<vs.size:=by rw[hl];exact(ahP.1 hc).1
     exact fy (by rw[ho];simp) hs cZ (v:=vs[i]) (by unfold execOp;simp [ho,ea,Instr.extract,aZ]) (hr i _ c (aib aZ) hc) h
   next=>exact h.elim
  next=>exact h.elim
 next f first dO ho=>
  split at h
  case h_2=>exact h.elim
  rename_i MJ
  have MJ:first= #[]:=by rw[←Array.toList_inj];exact MJ
  subst MJ;obtain⟨p1,p2⟩:=Bi hs dO;exact fy (by rw[ho];simp) hs cZ (v:= .func (.func f) #[] (dO.map a.eval)) (by unfold execOp;simp [ho,Instr.makeFunc]) (.fn f _ _ p1 p2) h
 next op T x y U ho=>
  obtain⟨u,z,h1,h2,h3⟩:=Ww (X:=x) (Y:=y) (dF x) (dF y) h;refine fy (by rw[ho];simp) hs cZ ?_ h2 h3;unfold execOp;simp only[ho];rw[Sem.run_bind,h1];rfl
 next op T x ho=>
  obtain⟨u,z,h1,h2,h3⟩:=adM (P:=P) (dF x) h;exact fy (by rw[ho];simp) hs cZ (by unfold execOp;simp [ho,h1]) h2 h3
 next t u x ho=>
  obtain⟨u,z,h1,h2,h3⟩:=ZP (dF x) h;exact fy (by rw[ho];simp) hs cZ (by unfold execOp;simp [ho,h1]) h2 h3
 next c ho=>
  have j5:∀c,o.op≠ .defer c:=by rw[ho];simp
  split at h
  next hc=>
   split at h
   next x T h1 h2=>
    obtain⟨m,r1,r2⟩:=YY (ty:=o.type) (dF x) h;exact fy j5 hs cZ (by rw[Ta c hc h1 h2 ho,r1];rfl) (.d (.v _)) r2
   next=>exact h.elim
  next hc=>
   split at h
   next x y T U h1 h2=>
    obtain⟨hU,h⟩:=cr.1 h;obtain⟨⟨e',k'⟩,hU⟩:=Option.isSome_iff_exists.1 hU;obtain⟨p,w',G',q,h',r1,r2,r3,r4,r5,r6⟩:=YD (ty:=o.type) hs.inv (dF x) (dF y) (jh hU).1 h;exact nv j5 hs cZ (by rw[BV c hc h1 h2 ho,r1];rfl) r2 r3 r4 r5 r6
   next=>exact h.elim
  next hc=>
   split at h
   next k z hf=>
    obtain⟨p1,p2⟩:=Bi hs c.args;obtain⟨u,us,e1,e2⟩:=UP (P:=P) p1 p2 hf;refine fy j5 hs cZ (v:= .int k z) ?_ (.d (.v _)) h;rw[aaZ c hc ho];unfold Builtin.max_;rw[e1];simp only[if_true]at e2;rw[e2];rfl
   next=>exact h.elim
  next hc=>
   split at h
   next k z hf=>
    obtain⟨p1,p2⟩:=Bi hs c.args;obtain⟨u,us,e1,e2⟩:=UP (P:=P) p1 p2 hf;refine fy j5 hs cZ (v:= .int k z) ?_ (.d (.v _)) h;rw[agc c hc ho];unfold Builtin.min_;rw[e1];simp only[Bool.false_eq_true,if_false]at e2;rw[e2];rfl
   next=>exact h.elim
  next f hc=>
   have call:∀(g:FuncId)(dO:aiE AV)(vs:Array aiI),a.eval f= .func (.func g) #[] vs→vs.size=dO.length→(∀(i:Nat)(u:aiI)(c:AV),vs[i]?=some u→dO[i]?=some c→aL G w u c)→
       bY P g (c.args.toList.map (ev s)++dO) s.h (fun r h'=>K ((s.wh h').put o.dst r))→o.wpIn (WF r) n P a w (iJ N0 G w K) Q:=by
       intro g dO vs ea hl hr h;obtain⟨p1,p2⟩:=Bi hs c.args;obtain⟨Bp,jv⟩:=h;have vF:=jv G w (c.args.map a.eval++vs) hs.inv (by rw[Array.size_append,ahQ,p1,hl]) (fun i u x hu hx=>by
        by_cases hi:i<(c.args.map a.eval).size
        ·rw[Array.getElem?_append_left hi]at hu;rw[ahZ (by rw[←p1];exact hi)]at hx;exact p2 i u x hu hx
        ·rw[Array.getElem?_append_right (by omega)]at hu;rw[ah5 (by rw[←p1];omega)]at hx;rw[p1]at hu;exact hr _ u x hu hx)
       refine⟨fun _ _=>trivial,?_⟩;have dK:(o.semAt (WF r).round a.eval).run P w= .ok (.enter g (c.args.map a.eval++vs)) w:=by
        rw[Oper.semAt_eq _ _ _ j5];unfold execOp;simp only[ho,resolve,hc,ea];simp [Deferred.ofValue,invoke,Pq Bp]
       rw[dK];refine⟨fun h=>(by simp [WF,Fence.wide]at h),?_⟩;have h2:=callsIn_wide (n:=n-1).2 vF;refine CallsIn.mono (F:=WF r) h2 ?_;rintro e w' ⟨v,G',x,h',rfl,x1,x2,x3,x4,x5⟩;exact⟨G',_,x1.less cZ,ah7 cZ x2,(hs.move x1 x2 x3).put x4 o.dst,x5⟩
   split at h
   next g dO hg=>
    have hf:=dF f;rw[hg]at hf;generalize ea:a.eval f=u at hf;cases hf with
    |fn _ vs _ hl hr=>exact call g dO vs ea hl hr h
   next q hg=>
    obtain⟨g,cs,rfl,h⟩:=h;have hf:=dF f;rw[hg]at hf;generalize ea:a.eval f=u at hf;cases hf with
    |hid hq h1=>
     cases hq with
     |fn _ vs _ hl hr=>exact call g (cs.map gV.av) vs ea (by rw[ahU];exact hl) (fun i u c hu hc=>by
        rw[ahW]at hc;cases hx:cs[i]? with
        |none=>rw[hx]at hc;cases hc
        |some d=>rw[hx]at hc;cases hc;exact(hr i u d hu hx).av) h
   next=>exact h.elim
  next=>exact h.elim
 next op _=>
  split at h
  next x h' p hx=>exact adW hs cZ hx h.1 h.2
  next=>exact h.elim
theorem Lx(hs:dk G w a s){x:aiG Operand}{d:Nat}{z:Int}(h:sT (ev s) d x=some z)(h0:0≤z):AI a x d z.toNat:=by
 cases x with
 |none=>
  simp only[sT,Option.some.injEq]at h;subst h;show _=d;exact aih d
 |some y=>
  simp only[sT]at h;obtain⟨k,e⟩:=(hs.ev y).int h;exact⟨k,z,e,h0,rfl⟩
theorem lv{α:Type}{b:Bool}{x y:α}(h:(bif b then some x else none)=some y):b=true∧x=y:=by
 cases b with
 |true=>exact⟨rfl,ah8 h⟩
 |false=>cases h
theorem acN{α:Type}{b:Bool}{x:aiG α}{y:α}(h:(bif b then x else none)=some y):b=true∧x=some y:=by
 cases b with
 |true=>exact⟨rfl,h⟩
 |false=>cases h
theorem Ub(hs:dk G w a s)(cZ:N0≤G.N)(h:FM P o K s):o.wpIn (WF r) n P a w (iJ N0 G w K) Q:=by
 obtain⟨va,x,h',p,hx,hp,hK⟩:=h;have dF:=hs.ev;unfold ij at hx;split at hx
 next T y i ho=>
  split at hx
  ·next n' o' len L k z e k' i' e1 e2 e3=>
   split at hx
   ·next e4 k2 cs hn=>
    obtain⟨hb,he⟩:=lv hx;cases he
    rw[ahR,beq_iff_eq,beq_iff_eq]at hb;obtain⟨rfl,rfl⟩:=hb;obtain⟨hL,h0,aZ,rfl⟩:=hp;obtain⟨fi,fG⟩:=jh e3;obtain⟨kz,ez⟩:=(dF i).int e2;have hv:=dF y;rw[e1]at hv;have jQ:=hv.qd hs.inv hn hL;obtain⟨wy,⟨A,c,q1,q2,q3,q4,q5⟩,_⟩:=jQ;obtain⟨g,cap,s1,rfl,s3⟩:=q5 (by omega);have K8:z<(len:Int):=aZ;refine fy (by rw[ho];simp) hs cZ (v:= .pointer (some ⟨g,o'*k2+z.toNat*k2,none⟩)) ?_ (.dw n' (o'+z.toNat) 0 L k2 (hs.inv.lt hn) ⟨_,_,rfl⟩ (by rw[(hs.inv.dz n' _ hn).1,hL];exact ah0 _) fun _=>⟨by omega,g,cap,s1,?_⟩) hK
    ·unfold execOp;simp [ho,q1,ez,Instr.indexAt,asIntOf,run_underlying fi,h0,K8,lB fG,kJ]
    ·rw[Nat.add_mul];rfl
   ·cases hx
  ·cases hx
 next T y f ho=>
  split at hx
  ·next n' i j L k fo q g e1 hT=>
   cases hx
   have hv:=dF y;rw[e1]at hv;generalize ea:a.eval y=u at hv;cases hv with
   |dw _ _ _ _ _ mV JT hL hf=>
    obtain⟨pb,pq,rfl⟩:=JT;refine fy (by rw[ho];simp) hs cZ (v:= .pointer (some ⟨pb,pq+fo,none⟩)) (by unfold execOp;simp [ho,ea,Ky hT]) (.dw n' i (j+fo) L k mV ⟨_,_,rfl⟩ hL fun e=> ?_) hK;obtain⟨a1,g2,cap,a2,a3⟩:=hf e;refine⟨a1,g2,cap,a2,?_⟩;injection a3 with a3;injection a3 with a3;injection a3 with a4 a5;subst a4;subst a5;rw[Nat.add_assoc]
  ·cases hx
 next y ho=>
  split at hx
  ·next n' i j L k e1=>
   cases hx
   have hv:=dF y;rw[e1]at hv;have SR:=hv;generalize ea:a.eval y=u at hv SR;cases hv with
   |dw _ _ _ _ _ mV JT hL hf=>
    obtain⟨pb,pq,rfl⟩:=JT;exact fy (by rw[ho];simp) hs cZ (by unfold execOp;simp [ho,ea]) SR hK
  ·cases hx
 next t y ho=>
  split at hx
  ·next n' i j L k c e1=>
   split at hx
   ·next e k' cs z hn hz=>
    obtain⟨hb,he⟩:=lv hx;cases he
    rw[beq_iff_eq]at hb;subst hb;have hv:=dF y;rw[e1]at hv;obtain⟨u,r1,r2⟩:=aac hs.inv hn hp.1 hp.2 hz hv;exact fy (by rw[ho];simp) hs cZ (by unfold execOp;simp [ho,r1]) r2 hK
   ·cases hx
  ·cases hx
 next t y z ho=>
  split at hx
  ·next n' i j L k c cB e1=>
   split at hx
   ·next e k' cs q hn hq=>
    obtain⟨hb,he⟩:=lv hx;cases he
    simp only[ahR,beq_iff_eq,dQ]at hb;obtain⟨⟨⟨⟨rfl,rfl⟩,Ml⟩,hj⟩,gr⟩:=hb;obtain⟨hL,hc,rfl⟩:=hp;have hv:=dF y;rw[e1]at hv;obtain⟨w',G',r1,r2,r3,r4⟩:=acB hs.inv hn hL hc hv (dF z) Ml hq hj gr;exact LW (by rw[ho];simp) hs cZ (by unfold execOp;simp [ho,r1]) r2 r3 r4 hK
   ·cases hx
  ·cases hx
 next T y lo hi ho=>
  split at hx
  ·next n' o' len L k e k' oo ll e1 hT=>
   split at hx
   ·next l u hl hu=>
    split at hx
    ·next e4 k2 cs hn=>
     obtain⟨hb,he⟩:=lv hx;cases he
     rw[ahR,beq_iff_eq,beq_iff_eq]at hb;obtain⟨rfl,rfl⟩:=hb;obtain⟨hL,h0,hlu,huL,rfl,rfl⟩:=hp;obtain⟨fi,fG⟩:=jh hT;have hv:=dF y;rw[e1]at hv;have jQ:=hv.qd hs.inv hn hL;obtain⟨wy,⟨A,c,q1,q2,q3,q4,q5⟩,_⟩:=jQ;have hb:=DA (P:=P) (Ax:=true) (Lx hs hl h0) (Lx hs hu (by omega)) (by omega) (show u.toNat≤c by omega) w;refine fy (by rw[ho];simp) hs cZ (v:= .slice (if c=l.toNat then A else A.map (·.add (l.toNat*k2))) (u.toNat-l.toNat) (c-l.toNat)) ?_ (.vec n' (o'+l.toNat) (u.toNat-l.toNat) L k2 (hs.inv.lt hn) ⟨_,_,_,rfl⟩ (by rw[(hs.inv.dz n' _ hn).1,hL];exact ah0 _) fun _=>⟨by omega,⟨_,_,rfl,by omega,by omega,by omega,fun ho2=> ?_⟩,fun h1 h2=> ?_⟩) hK
     ·unfold execOp;simp [ho,q1,Instr.sliceAt,Instr.slice,run_underlying fi,hb,lB fG]
     ·obtain⟨g,cap,s1,rfl,s3⟩:=q5 (by omega);refine⟨g,cap,s1,?_,by omega⟩;rw[if_neg (by omega)];simp [kJ,Nat.add_mul]
     ·have Yo:o'=0:=by omega
      have Hd:l.toNat=0:=by omega
      subst Yo;rw[Hd];rw[Hd]at h2;simp only[Nat.sub_zero]at h2 ⊢;by_cases xP:L=0
      ·subst xP;have:len=0:=by omega
       subst this
       rename_i fm
       rw[←fm rfl rfl,q1,h2];split
       ·rfl
       ·cases A<;>simp [Addr.add]
      ·obtain⟨g,cap,s1,rfl,s3⟩:=q5 (by omega);rw[s1,h2];have:c=cap:=by omega
       subst this;split<;>simp [kJ]
    ·cases hx
   ·cases hx
  ·cases hx
 next T l c ho=>
  split at hx
  ·next e k z1 z2 cs len m hT e1 e2=>
   split at hx
   ·next z dx hz nM=>
    obtain⟨hb,he⟩:=lv hx;cases he
    simp only[ahR,beq_iff_eq,dQ]at hb;obtain⟨⟨gr,iZ⟩,_⟩:=hb;obtain⟨h0,ki,hl,hc,rfl,hm,lG⟩:=hp;obtain⟨fi,fG⟩:=jh hT;obtain⟨inf,i1,i2,i3⟩:=ML fG nM;have BB:inf.zero=some z:=by
     obtain⟨i',j1,j2⟩:=Hr hz;rw[i1]at j1;cases j1;exact j2
    obtain⟨k1,WD⟩:=(dF l).int e1;obtain⟨k2,XM⟩:=(dF c).int e2;obtain⟨u,w',G',r1,r2,r3,r4,r5⟩:=aad (kl:=k1) (kc:=k2) hs.inv fi i1 BB i2 i3 iZ gr h0 ki hl hc hm lG;exact nv (by rw[ho];simp) hs cZ (by unfold execOp;simp [ho,WD,XM,r1]) r2 r3 r4 r5 hK
   ·cases hx
  ·cases hx
 next c ho=>
  have j5:∀c,o.op≠ .defer c:=by rw[ho];simp
  split at hx
  next hc=>
   split at hx
   ·next y T h1 h2=>
    split at hx
    ·next n' oo len L k e1=>
     split at hx
     ·next e4 k2 cs hn=>
      obtain⟨hb,he⟩:=lv hx;cases he
      rw[ahR,beq_iff_eq]at hb;obtain⟨hT,rfl⟩:=hb;obtain⟨⟨e,q⟩,hT⟩:=Option.isSome_iff_exists.1 hT;have hv:=dF y;rw[e1]at hv;have jQ:=hv.qd hs.inv hn hp;obtain⟨wy,⟨A,cc,q1,q2,q3,q4,q5⟩,_⟩:=jQ;exact fy j5 hs cZ (v:= .int .i64 len) (by rw[Ta c hc h1 h2 ho,q1];simp [Builtin.len_,run_underlying (jh hT).1,goInt]) (.d (.v _)) hK
     ·cases hx
    ·cases hx
   ·cases hx
  next hc=>
   split at hx
   ·next y z T U h1 h2=>
    split at hx
    ·next e k pU cB ys L' gu hT hU=>
     split at hx
     ·next z0 dx hz nM=>
      obtain⟨hb,hx⟩:=acN hx;rw[ahR,beq_iff_eq,dQ]at hb;obtain⟨gr,iZ⟩:=hb;obtain⟨fi,fG⟩:=jh hT;obtain⟨inf,i1,i2,i3⟩:=ML fG nM;have BB:inf.zero=some z0:=by
       obtain⟨i',j1,j2⟩:=Hr hz;rw[i1]at j1;cases j1;exact j2
      have iV:z0.cells.size=k:=by rw[←ain];exact iZ
      obtain⟨eU,kU⟩:=pU;split at hx
      ·next n' oo len L k1 e1=>
       split at hx
       ·next e4 k2 cs hn=>
        obtain⟨hb,he⟩:=lv hx;cases he
        simp only[ahR,beq_iff_eq]at hb;obtain⟨⟨rfl,rfl⟩,rfl⟩:=hb;obtain⟨hL,xF,rfl,oO⟩:=hp;obtain⟨us,hr,Cv⟩:=JQ (tx:=U) hs.inv (dF z) xF gr (jh hU).1;have hv:=dF y;rw[e1]at hv;obtain⟨u,w',G',r1,r2,r3,r4,r5⟩:=agM (ty:=o.type) hs.inv fi i1 BB i2 i3 iV gr hn hL hv hr Cv oO;exact nv j5 hs cZ (by rw[BV c hc h1 h2 ho,r1];rfl) r2 r3 r4 r5 hK
       ·cases hx
      ·next e1=>
       cases hx
       obtain⟨xF,rfl,rfl,rfl,jW,mE⟩:=hp;obtain⟨us,hr,Cv⟩:=JQ (tx:=U) hs.inv (dF z) xF gr (jh hU).1;have hv:=dF y;rw[e1]at hv;have ev:=hv.val;obtain⟨u,w',G',r1,r2,r3,r4,r5⟩:=UY (ty:=o.type) (A:=none) hs.inv fi i1 BB i2 i3 iV gr hr Cv jW mE;exact nv j5 hs cZ (by rw[BV c hc h1 h2 ho,ev,r1];rfl) r2 r3 r4 r5 hK
      ·next xs e1=>
       cases hx
       obtain⟨rfl,xF,rfl,rfl,rfl,jW,mE⟩:=hp;obtain⟨us,hr,Cv⟩:=JQ (tx:=U) hs.inv (dF z) xF gr (jh hU).1;have hv:=dF y;rw[e1]at hv;obtain⟨A,eA⟩:∃A,a.eval y= .slice A 0 0:=by
        generalize a.eval y=u at hv;cases hv with|full _ _ hf=>exact hf
       obtain⟨u,w',G',r1,r2,r3,r4,r5⟩:=UY (ty:=o.type) (A:=A) hs.inv fi i1 BB i2 i3 iV gr hr Cv jW mE;exact nv j5 hs cZ (by rw[BV c hc h1 h2 ho,eA,r1];rfl) r2 r3 r4 r5 hK
      ·cases hx
     ·cases hx
    ·cases hx
   ·cases hx
  next=>cases hx
 next=>cases hx
theorem acI(hs:dk G w a s)(cZ:N0≤G.N)(h:B4 P o K s):o.wpIn (WF r) n P a w (iJ N0 G w K) Q:=by
 have dF:=hs.ev;unfold B4 at h;split at h
 ·next op T x y U ho=>
  split at h
  ·next xs pT v1 v2 hx hy hT h1 h2=>
   obtain⟨e,k⟩:=pT;have fi:=(jh hT).1;have hv:=dF y;rw[hy]at hv;have ey:=hv.val;obtain⟨A,b,oo,c,k',u,ex,hA,_,_,_,_,_⟩:=((dF x).list hx).nR;have hg:(eqGuard op T x y (a.eval x) (a.eval y)).run P w= .ok () w:=by rw[ex,ey];unfold eqGuard;cases op<;>simp
   have dK:(binOp op T (a.eval x) (a.eval y)).run P w= .ok (if A.isNone then v1 else v2) w:=by
    rw[ex,ey];have hq:=run_equal_slice_nil (P:=P) (w:=w) T e A xs.length c fi;cases op<;>simp [uQ]at h1 h2<;>subst h1<;>subst h2<;>simp [binOp,hq]<;>cases A<;>rfl
   have hex:(execOp a.eval o).run P w= .ok (.value (if A.isNone then v1 else v2)) w:=by
    unfold execOp;simp only[ho];rw[Sem.run_bind,Sem.run_bind,hg];simp only[Result.andThen_ok];rw[dK];rfl
   cases A with
   |none=>
    have kN:xs=[]:=Classical.byContradiction fun dj=>by have:=hA dj;cases this
    exact fy (by rw[ho];simp) hs cZ hex (.d (.v _)) (h.1 kN)
   |some ad=>exact fy (by rw[ho];simp) hs cZ hex (.d (.v _)) h.2
  ·exact h.elim
 ·exact h.elim
theorem Ji(hs:dk G w a s)(cZ:N0≤G.N)(h:agV P o K s):o.wpIn (WF r) n P a w (iJ N0 G w K) Q:=by
 rcases h with h|h|h
 ·exact Ub hs cZ h
 ·exact acI hs cZ h
 ·exact V3 hs cZ h
end
theorem aL.zm{G:Gh}{w:aiJ}{u:aiI}{x:AV}(Z:Nat→Prop)(M:Nat)(h:aL G w u x):aL {G with Z:=Z,M:=M} w u x:=by
 induction h with
 |agg vs cs hl _ ih=>exact .agg vs cs hl ih
 |cb vs cs hl _ ih=>exact .cb vs cs hl ih
 |fn f vs cs hl _ ih=>exact .fn f vs cs hl ih
 |own n xs h hp hle hf=>exact .own n xs h hp hle hf
 |ptr n off h=>exact .ptr (G:={G with Z:=Z,M:=M}) n off h
 |row n off len cap k h hl hm=>exact .row (G:={G with Z:=Z,M:=M}) n off len cap k h hl hm
 |mp n h=>exact .mp (G:={G with Z:=Z,M:=M}) n h
 |dp n h=>exact .dp (G:={G with Z:=Z,M:=M}) n h
 |vec n o len L k h hs hL hf=>exact .vec (G:={G with Z:=Z,M:=M}) n o len L k h hs hL hf
 |dw n i j L k h hs hL hf=>exact .dw (G:={G with Z:=Z,M:=M}) n i j L k h hs hL hf
 |hid h h1=>exact .hid h h1
 |d h=>exact .d h
 |bt xs i off b o u x hx hS hu=>exact .bt xs i off b o u x hx hS hu
 |full xs hp hf=>exact .full xs hp hf
 |dead u=>exact .dead u
theorem eF.zm{G:Gh}{w:aiJ}{n:Nat}{B:an}(Z:Nat→Prop)(M:Nat)(hz:∀b,Z b→G.Z b)(h:eF G w n B):eF {G with Z:=Z,M:=M} w n B:=by
 cases B with
 |gone=>trivial
 |cells cs=>
  obtain⟨h1,h2,vs,T,h3,h4,h5⟩:=h;exact⟨fun k=>h1 (hz _ k),h2,vs,T,h3,h4,fun i u c hu hc=>(h5 i u c hu hc).zm Z M⟩
 |lp ls p as bd cs=>
  obtain⟨h1,h2,fn,vs,T,h3,h4,h5⟩:=h;exact⟨fun k=>h1 (hz _ k),h2,fn,vs,T,h3,h4,fun i u c hu hc=>(h5 i u c hu hc).zm Z M⟩
 |it sn cs=>
  obtain⟨h1,h2,fn,vs,T,h3,h4,h5⟩:=h;exact⟨fun k=>h1 (hz _ k),h2,fn,vs,T,h3,h4,fun i u c hu hc=>(h5 i u c hu hc).zm Z M⟩
 |map kv=>
  obtain⟨h1,h2,es,c,h3,h4⟩:=h;exact⟨fun k=>h1 (hz _ k),h2,es,c,h3,h4⟩
 |front e k len=>
  obtain⟨h1,hm,h2⟩:=h;refine⟨h1,hm,?_⟩;rcases h2 with h2|⟨g,cap,cur,h2,h3,h4,h5⟩
  ·exact .inl h2
  ·exact .inr ⟨g,cap,cur,h2,h3,fun k=>h4 (hz _ k),h5⟩
 |vec e k cs=>
  obtain⟨h1,hm,hk,h2⟩:=h;refine⟨h1,hm,hk,?_⟩;rcases h2 with h2|⟨g,cap,cur,h2,h3,h4,h5,h6,h7,h8,h9,aA⟩
  ·exact .inl h2
  ·exact .inr ⟨g,cap,cur,h2,h3,fun k=>h4 (hz _ k),h5,h6,h7,h8,h9,fun i j c x u hc hx hu=>(aA i j c x u hc hx hu).zm Z M⟩
theorem F8{h:aiE an}{G:Gh}{n:Nat}(Z:Nat→Prop)(M:Nat):cA h {G with Z:=Z,M:=M} n=cA h G n:=by
 unfold cA;cases h[n]? with
 |none=>rfl
 |some B=>cases B<;>rfl
theorem cw.zm{G:Gh}{w:aiJ}{h:aiE an}(hi:cw G w h)(Z:Nat→Prop)(M:Nat)(hz:∀b,Z b→G.Z b)(hM:M≤w.heap.size):cw {G with Z:=Z,M:=M} w h:=
 ⟨hi.len,fun b hb=>hi.z b (hz b hb),hi.S,fun n B hB=>(hi.dz n B hB).zm Z M hz,fun m n b h1 h2=>hi.inj m n b (by rw[←F8 Z M];exact h1) (by rw[←F8 Z M];exact h2),⟨hi.gl.1,hM⟩⟩
def pf(l:aiE Nat)(w:aiJ):aiJ:=l.foldl (fun w D=>w.putObj D (.deferred none)) w
theorem QF:∀(l:aiE Nat)(w:aiJ),(∀D∈l,w.heap[D]?=some (.deferred (some [])))→l.Nodup→
 (pf l w).heap.size=w.heap.size∧(∀b,b ∉ l→(pf l w).heap[b]?=w.heap[b]?)∧(∀b o,(pf l w).cell? ⟨b,o,none⟩=w.cell? ⟨b,o,none⟩)∧(pf l w).os=w.os∧(pf l w).tape=w.tape∧(pf l w).output=w.output
 |[],w,_,_=>⟨rfl,fun _ _=>rfl,fun _ _=>rfl,rfl,rfl,rfl⟩
 |D::l,w,hd,hn=>by
  rw[List.nodup_cons]at hn;have hD:=hd D ahV;have aZ:=(ah4.1 hD).1;obtain⟨h1,h2,h3,h4,h5,h6⟩:=QF l (w.putObj D (.deferred none)) (fun E hE=>by
    have dj:E≠D:=fun e=>hn.1 (e▸hE);rw[World.putObj_heap_other dj];exact hd E (ahY _ hE)) hn.2
  refine⟨h1.trans (by simp),fun b hb=> ?_,fun b o=> ?_,h4,h5,h6⟩
  ·exact(h2 b fun h=>hb (ahY _ h)).trans (World.putObj_heap_other fun e=>hb (e▸ahV))
  ·refine(h3 b o).trans ?_;by_cases e:b=D
   ·subst e;unfold World.cell?;simp only[World.putObj_heap_same aZ,hD]
   ·exact World.cell?_of_block (World.putObj_heap_other e)
theorem SN{F:Fence}{n:Nat}{P:aiH}{fn:Func}{tmps:Array aiI}{R:Ending→aiJ→Prop}:∀(l:aiE Nat)(w:aiJ),(∀D∈l,w.heap[D]?=some (.deferred (some [])))→l.Nodup→
 LeavesIn F n P fn tmps R [] .returning (pf l w)→LeavesInM F n P fn tmps R (l.map fun D=>{target:= .collected D,args:= #[]}) .returning w
 |[],w,_,_,h=>h
 |D::l,w,hd,hn,h=>by
  rw[List.nodup_cons]at hn;exact⟨by simp, .inl ⟨D,_,rfl,run_takeDeferred (hd D ahV),SN l _ (fun E hE=>by
    have dj:E≠D:=fun e=>hn.1 (e▸hE);rw[World.putObj_heap_other dj];exact hd E (ahY _ hE)) hn.2 h⟩⟩
theorem Zq{N0:Nat}{G G1:Gh}{w w':aiJ}{a':Act}{s1:St}(hE:cp N0 {G with M:=w.heap.size} w G1 w')(hN:N0≤G1.N)(hz:∀b,G.Z b→b<w.heap.size)(hMw:G.M≤w.heap.size)(hs:dk G1 w' a' s1):
 ∃(w2:aiJ)(G2:Gh),(∀(F:Fence)(n:Nat)(P:aiH)(fn:Func)(R:Ending→aiJ→Prop),(∃v,(results fn a'.tmps).run P w2= .ok v w2∧R (.returned v) w2)→LeavesInM F n P fn a'.tmps R a'.defers .returning w')∧
  cp N0 G w G2 w2∧G2.N=G1.N∧dk G2 w2 {a' with defers:=[]} s1:=by
 obtain⟨l,l1,l2,l3⟩:=hs.df;have hd:∀D∈l,w'.heap[D]?=some (.deferred (some [])):=fun D hD=>(l3 D hD).2.2;obtain⟨h1,h2,h3,h4,h5,h6⟩:=QF l w' hd l1;have hM:G1.M=w.heap.size:=hE.Z.2;have iV:∀b,G.Z b→b ∉ l:=fun b hb hl=>by
  have:=(l3 b hl).1;have:=hz b hb;omega
 obtain⟨G2,gX⟩:∃G2:Gh,G2={G1 with Z:=G.Z,M:=G.M}:=⟨_,rfl⟩;have Ce:∀b,G.Z b→G1.Z b:=hE.Z.1.1;have jO:cw G2 w' s1.h:=by rw[gX];exact hs.inv.zm _ _ Ce (ah7 hMw hE.size)
 have jG:cp N0 G w G2 w':=by
  rw[gX];exact⟨hE.size,hE.S,hE.cell,hE.bA,hE.fr,gB rfl,hE.old,hE.os,hE.tape,hE.output,hE.new⟩
 have jR:cp G2.N G2 w' G2 (pf l w'):=⟨by rw[h1];exact ah0 _,fun _ _ h=>h,fun b o _=>h3 b o,fun _ _=>rfl,fun _ _=> .inl ⟨rfl,rfl⟩,gB rfl,fun b hb=>h2 b (iV b (by rw[gX]at hb;exact hb)),h4,h5,h6,fun _ _ h=> .inl h⟩;have Is:cw G2 (pf l w') s1.h:=⟨jO.len,fun b hb=>by rw[h1];exact jO.z b hb,fun b o hb=>by rw[h1];exact jO.S b o hb,fun n B hB=>eF.bq (jO.lt hB) jR (ah0 _) ⟨rfl,rfl,rfl⟩ (fun b hb=>⟨h2 b fun hl=>(hs.inv.dz n B hB).lz (by rw[gX]at hb;cases B<;>exact hb) (l3 b hl).2.1,fun _ h=>h⟩) (jO.dz n B hB),jO.inj,jO.gl.bq jR⟩;refine⟨pf l w',G2,fun F n P fn R h=> ?_,jG.trans (jR.less (by rw[gX];exact hN)),by rw[gX],⟨hs.size,fun i=>aL.bq jR (ah0 _) (by rw[gX];exact(hs.tmp i).zm _ _),Is,pJ.nil _ _⟩⟩;rw[l2];exact SN l w' hd l1 h
section
variable {G:Gh} {w:aiJ} {h:aiE an}
theorem ZX(hi:cw G w h)(fn:FuncId)(tm:Array aiI)(D p:Nat)(as bd:Code)(cs:aiE AV)(hl:tm.size=cs.length)(hr:∀(i:Nat)(u:aiI)(c:AV),tm[i]?=some u→cs[i]?=some c→aL G w u c):cp G.N G w (G.ep w.heap.size) (w.alloc (.loop {state:= .ready,pending:=none,fn:=fn,tmps:=tm,params:= #[p],assign:=as,body:=bd,defers:=D}))∧cw (G.ep w.heap.size) (w.alloc (.loop {state:= .ready,pending:=none,fn:=fn,tmps:=tm,params:= #[p],assign:=as,body:=bd,defers:=D})) (h++[.lp .ready p as bd cs])∧aL (G.ep w.heap.size) (w.alloc (.loop {state:= .ready,pending:=none,fn:=fn,tmps:=tm,params:= #[p],assign:=as,body:=bd,defers:=D})) (.func (.yield w.heap.size) #[] #[]) (.dp h.length):=by
 have hE:=Dc G w hi.z hi.S (.loop {state:= .ready,pending:=none,fn:=fn,tmps:=tm,params:= #[p],assign:=as,body:=bd,defers:=D});have hN:G.N≤(G.ep w.heap.size).N:=Nat.le_succ _;have jd:(G.ep w.heap.size).bA h.length=w.heap.size:=by simp [Gh.ep,hi.len]
 have mw:∀n(B:an),n<G.N→B.eo (G.ep w.heap.size) n=B.eo G n:=fun n B hn=>by
  cases B<;>simp [an.eo,Gh.ep,Nat.ne_of_lt hn]
 have fX:∀n,n<G.N→cA (h++[.lp .ready p as bd cs]) (G.ep w.heap.size) n=cA h G n:=fun n hn=>by
  have aZ:n<h.length:=by rw[hi.len];exact hn
  unfold cA;rw[ahZ aZ,ahT aZ];exact mw n _ hn
 have Co:cA (h++[.lp .ready p as bd cs]) (G.ep w.heap.size) h.length=some w.heap.size:=by
  rw[dV (B:= .lp .ready p as bd cs) (by simp)];exact congrArg some jd
 refine⟨hE,⟨by simp [Gh.ep,hi.len],fun b hb=>aid (hi.z b hb) hE.size,fun b o hs=>aid (hi.S b o hs) hE.size,fun n B hB=> ?_,fun m n b hm hn=> ?_,hi.gl.bq hE⟩,?_⟩
 ·by_cases hn:n<h.length
  ·rw[ahZ hn]at hB;have fJ:n<G.N:=hi.len▸hn;exact eF.bq fJ hE hN ⟨rfl,rfl,rfl⟩ (fun b hb=>⟨Below.heap_alloc w _ _ (hi.iL (n:=n) ((dV hB).trans hb)),fun o h=>h⟩) (hi.dz n B hB)
  ·have mj:n=h.length:=by
    have:=(ahP.1 hB).1;simp at this;omega
   subst mj;simp at hB;subst hB;exact⟨by rw[jd];exact fun hz=>aiu _ (hi.z _ hz),fun o hs=>by rw[jd]at hs;exact aiu _ (hi.S _ _ hs),fn,tm,D,by rw[jd];exact World.alloc_heap_new w _,hl,fun i u c hu hc=>(hr i u c hu hc).bq hE hN⟩
 ·have key:∀n b,cA (h++[.lp .ready p as bd cs]) (G.ep w.heap.size) n=some b→(n<G.N∧cA h G n=some b)∨(n=h.length∧b=w.heap.size):=fun n b hn=>by
   by_cases aZ:n<G.N
   ·exact .inl ⟨aZ,by rw[←fX n aZ];exact hn⟩
   ·by_cases e:n=h.length
    ·subst e;rw[Co]at hn;cases hn;exact .inr ⟨rfl,rfl⟩
    ·rw[zP (aim (by simp;have:=hi.len;omega))]at hn;cases hn
  rcases key m b hm with⟨_,kW⟩|⟨rfl,rfl⟩<;>rcases key n _ hn with⟨_,fJ⟩|⟨rfl,hb⟩
  ·exact hi.inj m n b kW fJ
  ·have:=hi.iL kW;omega
  ·have:=hi.iL fJ;omega
  ·rfl
 ·have:=aL.dp (G:=G.ep w.heap.size) (w:=w.alloc (.loop {state:= .ready,pending:=none,fn:=fn,tmps:=tm,params:= #[p],assign:=as,body:=bd,defers:=D})) h.length (by simp [Gh.ep,hi.len])
  rwa [jd]at this
theorem Tw{k:Nat}{B B':an}{ob zK:Obj}(hi:cw G w h)(hk:h[k]?=some B)(pe:B.eo G k=some (G.bA k))(hS:∀o,¬G.S (G.bA k) o)(lM:w.heap[G.bA k]?=some ob)(hn:B'= .gone∨B'.eo G k=some (G.bA k))
 (hB:∀w',(∀b o,G.S b o→w'.cell? ⟨b,o,none⟩=w.cell? ⟨b,o,none⟩)→w'.heap[G.bA k]?=some zK→cp G.N G w G w'→eF G w' k B'):cp G.N G w G (w.putObj (G.bA k) zK)∧cw G (w.putObj (G.bA k) zK) (h.set k B'):=by
 have aZ:=(ah4.1 lM).1;have hZ:¬G.Z (G.bA k):=(hi.dz k B hk).lz pe;have hoth:∀b,b≠G.bA k→(w.putObj (G.bA k) zK).heap[b]?=w.heap[b]?:=fun b hb=>World.putObj_heap_other hb;have gb:∀b o,G.S b o→(w.putObj (G.bA k) zK).cell? ⟨b,o,none⟩=w.cell? ⟨b,o,none⟩:=fun b o hs=>World.cell?_of_block (hoth b (fun e=>hS o (e▸hs)));have hE:cp G.N G w G (w.putObj (G.bA k) zK):=⟨by simp,fun _ _ h=>h,gb,fun _ _=>rfl,fun _ _=> .inl ⟨rfl,rfl⟩,gB rfl,fun b hb=>hoth b (fun e=>hZ (e▸hb)),rfl,rfl,rfl,fun _ _ h=> .inl h⟩;refine⟨hE,?_⟩;have UZ:=(ahP.1 hk).1;have lg:(h.set k B')[k]?=some B':=by rw[aij UZ]
 have ff:∀m,m≠k→(h.set k B')[m]?=h[m]?:=fun m hm=>by rw[aio (Ne.symm hm)]
 have lV:cA h G k=some (G.bA k):=(dV hk).trans pe;have eg:∀m b,cA (h.set k B') G m=some b→cA h G m=some b:=fun m b hb=>by
  by_cases e:m=k
  ·subst e;rw[dV lg]at hb;rcases hn with rfl|hn
   ·cases hb
   ·rw[hn]at hb;cases hb;exact lV
  ·unfold cA at hb ⊢;rw[ff m e]at hb;exact hb
 refine⟨by rw[List.length_set];exact hi.len,fun b hb=>aid (hi.z b hb) hE.size,fun b o hs=>aid (hi.S b o hs) hE.size,fun m C hC=> ?_,fun m m' b h1 h2=>hi.inj m m' b (eg m b h1) (eg m' b h2),hi.gl.bq hE⟩;by_cases e:m=k
 ·subst e;rw[lg]at hC;cases hC
  exact hB _ gb (World.putObj_heap_same aZ) hE
 ·rw[ff m e]at hC;have dj:∀b,cA h G m=some b→b≠G.bA k:=fun b hb eb=>e (hi.inj m k b hb (by rw[eb];exact lV));exact eF.bq (hi.lt hC) hE (ah0 _) ⟨rfl,rfl,rfl⟩ (fun b hb=>⟨hoth b (dj _ ((dV hC).trans hb)),fun o h=>h⟩) (hi.dz m C hC)
theorem Fu{k:Nat}{ls:LS}{p:Nat}{as bd:Code}{cs:aiE AV}(hi:cw G w h)(hk:h[k]?=some (.lp ls p as bd cs)):
 (∀o,¬G.S (G.bA k) o)∧∃(fn:FuncId)(tm:Array aiI)(D:Nat),w.heap[G.bA k]?=some (.loop {state:=ls.st,pending:=ls.pd,fn:=fn,tmps:=tm,params:= #[p],assign:=as,body:=bd,defers:=D})∧tm.size=cs.length∧(∀(i:Nat)(u:aiI)(c:AV),tm[i]?=some u→cs[i]?=some c→aL G w u c)∧
   ∀(y4:LS),cp G.N G w G (w.putObj (G.bA k) (.loop {state:=y4.st,pending:=y4.pd,fn:=fn,tmps:=tm,params:= #[p],assign:=as,body:=bd,defers:=D}))∧cw G (w.putObj (G.bA k) (.loop {state:=y4.st,pending:=y4.pd,fn:=fn,tmps:=tm,params:= #[p],assign:=as,body:=bd,defers:=D})) (h.set k (.lp y4 p as bd cs)):=by
 obtain⟨h1,h2,fn,tm,D,h3,h4,h5⟩:=hi.dz k _ hk;refine⟨h2,fn,tm,D,h3,h4,h5,fun y4=>Tw hi hk rfl h2 h3 (.inr rfl) fun w' hc eR hE=>⟨h1,h2,fn,tm,D,eR,h4,fun i u c hu jC=>(h5 i u c hu jC).bq hE (ah0 _)⟩⟩
theorem aey{k:Nat}{ls:LS}{p:Nat}{as bd:Code}{cs:aiE AV}(hi:cw G w h)(hk:h[k]?=some (.lp ls p as bd cs))(ob:Obj):cp G.N G w G (w.putObj (G.bA k) ob)∧cw G (w.putObj (G.bA k) ob) (h.set k .gone):=by
 obtain⟨h1,h2,fn,tm,D,h3,h4,h5⟩:=hi.dz k _ hk;exact Tw hi hk rfl h2 h3 (.inl rfl) fun _ _ _ _=>trivial
theorem aaE(hi:cw G w h):cp G.N G w {G with Z:=fun b=>G.Z b∨b=w.heap.size} (w.alloc (.deferred (some [])))∧cw {G with Z:=fun b=>G.Z b∨b=w.heap.size} (w.alloc (.deferred (some []))) h:=by
 have hE:cp G.N G w {G with Z:=fun b=>G.Z b∨b=w.heap.size} (w.alloc (.deferred (some []))):=
  ⟨by simp,fun _ _ h=>h,fun b _ h=>World.cell?_alloc_lt _ _ _ (hi.S _ _ h),fun _ _=>rfl,fun _ _=> .inl ⟨rfl,rfl⟩,⟨⟨fun _ h=> .inl h,fun b h=>h.imp id fun e=>Nat.le_of_eq e.symm⟩,rfl⟩,fun b hb=>Below.heap_alloc w _ b (hi.z b hb),rfl,rfl,rfl,fun _ _ h=> .inl h⟩
 refine⟨hE,hi.len,fun b hb=> ?_,fun b o hs=>aid (hi.S b o hs) hE.size,fun n B hB=> ?_,fun m n b h1 h2=>hi.inj m n b (by rw[←F8 (fun b=>G.Z b∨b=w.heap.size) G.M];exact h1) (by rw[←F8 (fun b=>G.Z b∨b=w.heap.size) G.M];exact h2),hi.gl.bq hE⟩
 ·rcases hb with hb|rfl
  ·exact aid (hi.z b hb) hE.size
  ·simp
 ·exact eF.bq (hi.lt hB) hE (ah0 _) ⟨rfl,rfl,rfl⟩ (fun b hb=>⟨Below.heap_alloc w _ _ (hi.iL (n:=n) ((dV hB).trans hb)),fun o h=>h⟩) (hi.dz n B hB)
end
end Go.Proofs.YtphmhnabilhbgaaGreatDoor
