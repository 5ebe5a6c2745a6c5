/-
  Part 1 of the proof: AbsGlob, AbsCore, AbsOps, AbsHeap, AbsStore, AbsApp, AbsOp, AbsOp2, AbsOp3, AbsMap, AbsVec, AbsVec2, AbsOp4, AbsLeave, AbsLoop.
-/
import Derived.WalkKit
import Derived.Laws.Strings
import Derived.Lib.Hide
import Derived.OrdersIn
import Derived.RangeFuncIn
import Derived.RangeFuncCalls
import Derived.RangeFuncLeaves
import Derived.RangeFuncFrom
import Derived.Deep.MidRow
import Derived.Laws.AppendOwn
import Derived.Maps.OwnOps
import Derived.KernelRfl
import Derived.Deep.AppendSrc
import Derived.Deep.Upon
import Derived.Laws.BytesString
import Derived.Laws.StructEq
import Derived.Laws.MakeOwn
import Derived.Laws.Cover3
namespace Go.Proofs.YtpgmcallngdceaaGreatDoor
open Go.RowKit
abbrev ajm:=@Option.bind_some
abbrev ajn:=@List.getElem?_eq_some_iff
abbrev ajo:=@List.length_append
abbrev ajp:=@Bool.and_eq_true
abbrev ajq:=@List.length_cons
abbrev ajr:=@List.getElem?_eq_getElem
abbrev ajs:=@List.length_map
abbrev ajt:=@List.mem_cons_self
abbrev aju:=@List.getElem?_map
abbrev ajv:=@Nat.le_of_ble_eq_true
abbrev ajw:=@List.mem_cons_of_mem
abbrev ajx:=@List.getElem?_append_left
abbrev ajy:=@Nat.le_refl
abbrev ajz:=@List.length_nil
abbrev ajA:=@List.mem_of_getElem?
abbrev ajB:=@Nat.eq_of_beq_eq_true
abbrev ajC:=@Array.getElem?_eq_some_iff
abbrev ajD:=@List.getElem?_append_right
abbrev ajE:=@List.append_assoc
abbrev ajF:=@Nat.le_trans
abbrev ajG:=@Option.some.inj
abbrev ajH:=@Nat.zero_add
abbrev ajI:=@List.append_nil
abbrev ajJ:=@Array.getElem?_eq_getElem
abbrev ajK:=@Array.getElem?_toList
abbrev ajL:=@Nat.lt_of_lt_of_le
abbrev ajM:=@List.map_cons
abbrev ajN:=@List.all_eq_true
abbrev ajO:=@Int.toNat_natCast
abbrev ajP:=@Nat.not_lt_zero
abbrev ajQ:=@List.getElem?_set_self
abbrev ajR:=@List.mem_cons
abbrev ajS:=@List.map_congr_left
abbrev ajT:=@List.getElem?_eq_none
abbrev ajU:=@Array.length_toList
abbrev ajV:=@List.getElem?_set_ne
abbrev ajW:=@List.drop_zero
abbrev ajX:=@List.length_replicate
abbrev ajY:=@List.getElem?_cons_succ
abbrev ajZ:=@List.mem_append
abbrev aj0:=@List.take_append_drop
abbrev aj1:=@Nat.lt_irrefl
abbrev aj2:=@Nat.le_add_right
abbrev aj3:=@List.not_mem_nil
abbrev aj4:=@decide_eq_true
abbrev aj5:=@decide_eq_false
abbrev aj6:=@beq_self_eq_true
abbrev aj7:=@List.all_cons
abbrev aj8:=@List.any_cons
abbrev aj9:=@Nat.lt_succ_self
abbrev aka:=@Bool.or_eq_false_iff
abbrev akb:Type→Type:=List
abbrev akc:=ByteArray
abbrev akd:Type→Type:=Option
abbrev ake:=Program
abbrev akf:=Value
abbrev akg:=World
def bL(a:akc):akb UInt8:=a.data.toList
theorem MB(a:akc):a.toList=bL a:=ByteArray.toList_eq a
theorem NH{a b:akc}(h:bL a=bL b):a=b:=by cases a;cases b;simp only[bL,Array.toList_inj]at h;rw[h]
def wL(l:akb Nat):akb akf:=l.map fun n=>Value.int .u8 (Int.ofNat n)
def Bq:akb Nat:=(List.range 256).map fun n=>bif (Nat.ble 9 n&&Nat.ble n 13)||n==32 then 1 else 0
def zw:akb (Nat×akb akf):=
 (0,wL Bq)::
  []
def zo:akb (Nat×akb akf)→Nat→akd (akb akf)
 |[],_=>none
 |(k,l)::r,g=>bif k==g then some l else zo r g
theorem V7:∀{t:akb (Nat×akb akf)}{g:Nat}{l:akb akf},zo t g=some l→(g,l)∈t
 |[],g,l,h=>by cases h
 |(k,l')::r,g,l,h=>by
  unfold zo at h;cases e:k==g with
  |true=>rw[e]at h;cases h;rw[beq_iff_eq]at e;subst e;simp
  |false=>rw[e]at h;exact ajw _ (V7 h)
inductive D where
 |v (u:Value)
 |sl (xs:List (List D))
inductive fM where
 |d (x:D)
 |bD (c:List D) (off:Nat)
 |fn (f:FuncId) (cs:List fM)
inductive AV where
 |d (x:D)
 |agg (cs:List AV)
 |bk (cs:List AV)
 |ptr (n off:Nat)
 |bD (xs:List (List D)) (i off:Nat)
 |own (n:Nat) (xs:List (List D))
 |full (xs:List (List D))
 |row (n off len cap k:Nat)
 |fn (f:FuncId) (cV:List AV)
 |mp (n:Nat)
 |cE (n:Nat)
 |vec (n o len L k:Nat)
 |cN (n i j L k:Nat)
 |hid (c:fM)
 |dead
inductive LS where
 |ready
 |busy
 |done (c:Code)
def LS.st:LS→LoopState
 | .ready=> .ready
 | .busy=> .busy
 | .done _=> .done
def LS.pd:LS→akd Code
 | .done c=>some c
 |_=>none
inductive aq where
 |cells (cs:List AV)
 |front (e:TypeId) (k len:Nat)
 |vec (e:TypeId) (k:Nat) (cs:List (List AV))
 |map (kv:List (ByteArray×D))
 |lp (ls:LS) (p:Nat) (as bd:Code) (cs:List AV)
 |it (sn:Bool) (cs:List AV)
 |gone
structure Gh where
 N:Nat
 Z:Nat→Prop
 S:Nat→Nat→Prop
 bm:Nat→Nat
 sg:Nat→Value
 ow:Nat→Option Nat
 fl:Nat→Nat
 M:Nat
inductive cY(S:Nat→Nat→Prop)(w:World):Value→D→Prop
 |v (u:Value):cY S w u (.v u)
 |sl (A:Option Addr) (b o c k:Nat) (xs:List (List D)) (u:Nat→Nat→Value)
    (hA:xs≠ []→A=some ⟨b,o,none⟩) (hc:xs.length≤c) (hm:c≤maxLen)
    (hk:∀x∈xs,x.length=k)
    (hS:∀i j,i<xs.length→j<k→S b (o+i*k+j)∧w.cell? ⟨b,o+i*k+j,none⟩=some (u i j)∧(u i j).oneCell'=true)
    (hu:∀(i j:Nat)(x:List D)(d:D),xs[i]?=some x→x[j]?=some d→cY S w (u i j) d):cY S w (.slice A xs.length c) (.sl xs)
inductive nK(S:Nat→Nat→Prop)(w:World):Value→fM→Prop
 |d {u:Value} {x:D} (h:cY S w u x):nK S w u (.d x)
 |bD (c:List D) (off b o:Nat) (u:Nat→Value) (hS:∀j,j<c.length→S b (o+j)∧w.cell? ⟨b,o+j,none⟩=some (u j)) (hu:∀(j:Nat)(d:D),c[j]?=some d→cY S w (u j) d):nK S w (.pointer (some ⟨b,o+off,none⟩)) (.bD c off)
 |fn (f:FuncId) (vs:Array Value) (cs:List fM) (hl:vs.size=cs.length) (h:∀(i:Nat)(u:Value)(c:fM),vs[i]?=some u→cs[i]?=some c→nK S w u c):nK S w (.func (.func f) #[] vs) (.fn f cs)
structure Vq(s u:Value)(o len L k:Nat):Prop where
 ol:o+len≤L
 sl:∃A c,u= .slice A len c∧len≤c∧c≤maxLen∧L≤c+o∧(o<L→∃g cap,s= .slice (some ⟨g,0,none⟩) L cap∧A=some ⟨g,o*k,none⟩∧o+c=cap)
 all:o=0→len=L→u=s
structure O8(s u:Value)(i j L k:Nat):Prop where
 il:i<L
 pt:∃g cap,s= .slice (some ⟨g,0,none⟩) L cap∧u= .pointer (some ⟨g,i*k+j,none⟩)
inductive aL(G:Gh)(w:World):Value→AV→Prop
 |d {u:Value} {x:D} (h:cY G.S w u x):aL G w u (.d x)
 |agg (vs:Array Value) (cs:List AV) (hl:vs.size=cs.length) (h:∀(i:Nat)(u:Value)(c:AV),vs[i]?=some u→cs[i]?=some c→aL G w u c):aL G w (.agg vs) (.agg cs)
 |bk (vs:Array Value) (cs:List AV) (hl:vs.size=cs.length) (h:∀(i:Nat)(u:Value)(c:AV),vs[i]?=some u→cs[i]?=some c→aL G w u c):aL G w (.tuple vs) (.bk cs)
 |ptr (n off:Nat) (h:n<G.N):aL G w (.pointer (some ⟨G.bm n,off,none⟩)) (.ptr n off)
 |bD (xs:List (List D)) (i off b o:Nat) (u:Nat→Value) (x:List D) (hx:xs[i]?=some x)
  (hS:∀j,j<x.length→G.S b (o+j)∧w.cell? ⟨b,o+j,none⟩=some (u j)) (hu:∀(j:Nat)(d:D),x[j]?=some d→cY G.S w (u j) d):aL G w (.pointer (some ⟨b,o+off,none⟩)) (.bD xs i off)
 |own {u:Value} (n:Nat) (xs:List (List D)) (h:n<G.N) (hp:cY G.S w u (.sl xs)) (hle:xs.length≤G.fl n) (hf:xs.length=G.fl n→u=G.sg n):aL G w u (.own n xs)
 |full {u:Value} (xs:List (List D)) (hp:cY G.S w u (.sl xs)) (hf:∃A,u= .slice A xs.length xs.length):aL G w u (.full xs)
 |row (n off len cap k:Nat) (h:n<G.N) (hl:len≤cap) (hm:cap≤maxLen):aL G w (.slice (some ⟨G.bm n,off,none⟩) len cap) (.row n off len cap k)
 |fn (f:FuncId) (vs:Array Value) (cs:List AV) (hl:vs.size=cs.length) (h:∀(i:Nat)(u:Value)(c:AV),vs[i]?=some u→cs[i]?=some c→aL G w u c):aL G w (.func (.func f) #[] vs) (.fn f cs)
 |mp (n:Nat) (h:n<G.N):aL G w (.map (some (G.bm n))) (.mp n)
 |cE (n:Nat) (h:n<G.N):aL G w (.func (.yield (G.bm n)) #[] #[]) (.cE n)
 |vec {u:Value} (n o len L k:Nat) (h:n<G.N) (hs:∃A l c,u= .slice A l c) (hL:L≤G.fl n) (hf:L=G.fl n→Vq (G.sg n) u o len L k):aL G w u (.vec n o len L k)
 |cN {u:Value} (n i j L k:Nat) (h:n<G.N) (hs:∃b q,u= .pointer (some ⟨b,q,none⟩)) (hL:L≤G.fl n) (hf:L=G.fl n→O8 (G.sg n) u i j L k):aL G w u (.cN n i j L k)
 |hid {u:Value} {c:fM} (h:nK G.S w u c) (h1:u.oneCell'=true):aL G w u (.hid c)
 |dead (u:Value):aL G w u .dead
def nJ:akb (akc×D)→akc→akd D
 |[],_=>none
 |(k,d)::l,s=>bif bL k==bL s then some d else nJ l s
structure wq(S:Nat→Nat→Prop)(w:World)(es:Array MapEntry)(clock:Nat)(kv:List (ByteArray×D)):Prop where
 size:es.size≤maxLen
 stamped:MapKept.Stamped es clock
 yf:∀e∈es.toList,∃s d,e.key= .string s∧nJ kv s=some d∧cY S w e.val d
 all:∀s d,nJ kv s=some d→∃e∈es.toList,e.key= .string s
 len:es.size≤kv.length
 born:∀(i:Nat)(e:MapEntry),es[i]?=some e→e.born=i
 F8:clock=es.size
def aq.dv(G:Gh)(n:Nat):aq→akd Nat
 | .cells _=>some (G.bm n)
 | .front _ _ _=>G.ow n
 | .vec _ _ _=>G.ow n
 | .map _=>some (G.bm n)
 | .lp _ _ _ _ _=>some (G.bm n)
 | .it _ _=>some (G.bm n)
 | .gone=>none
def b6(h:akb aq)(G:Gh)(n:Nat):akd Nat:=(h[n]?).bind (aq.dv G n)
theorem dm{h:akb aq}{G:Gh}{n:Nat}{B:aq}(e:h[n]?=some B):b6 h G n=B.dv G n:=by unfold b6;rw[e];rfl
theorem AO{h:akb aq}{G:Gh}{n:Nat}(e:h[n]?=none):b6 h G n=none:=by unfold b6;rw[e];rfl
theorem mr{h:akb aq}{G:Gh}{n b:Nat}(e:b6 h G n=some b):∃B,h[n]?=some B∧B.dv G n=some b:=by
 unfold b6 at e;cases hx:h[n]? with
 |none=>rw[hx]at e;cases e
 |some B=>rw[hx]at e;exact⟨B,rfl,e⟩
def dC(G:Gh)(w:akg)(n:Nat):aq→Prop
 | .cells cs=>¬G.Z (G.bm n)∧(∀o,¬G.S (G.bm n) o)∧∃(vs:Array akf)(T:TypeId),w.heap[G.bm n]?=some (.cells vs T (0,0))∧vs.size=cs.length∧∀(i:Nat)(u:akf)(c:AV),vs[i]?=some u→cs[i]?=some c→aL G w u c
 | .front e k len=>G.fl n=len∧len≤maxLen∧((G.ow n=none∧∃A,G.sg n= .slice A len len)∨
  ∃(g cap:Nat)(cur:Array akf),G.ow n=some g∧G.sg n= .slice (some ⟨g,0,none⟩) len cap∧¬G.Z g∧w.heap[g]?=some (.cells cur e (0,0))∧len≤cap∧cap≤maxLen∧cur.size=cap*k∧∀o,len*k≤o→¬G.S g o)
 | .vec e k cs=>G.fl n=cs.length∧cs.length≤maxLen∧(∀c∈cs,c.length=k)∧((G.ow n=none∧cs=[]∧∃A,G.sg n= .slice A 0 0)∨
  ∃(g cap:Nat)(cur:Array akf),G.ow n=some g∧G.sg n= .slice (some ⟨g,0,none⟩) cs.length cap∧¬G.Z g∧w.heap[g]?=some (.cells cur e (0,0))∧cs.length≤cap∧cap≤maxLen∧cur.size=cap*k∧(∀o,¬G.S g o)∧
   ∀(i j:Nat)(c:akb AV)(x:AV)(u:akf),cs[i]?=some c→c[j]?=some x→cur[i*k+j]?=some u→aL G w u x)
 | .map kv=>¬G.Z (G.bm n)∧(∀o,¬G.S (G.bm n) o)∧∃(es:Array MapEntry)(clock:Nat),w.heap[G.bm n]?=some (.map es clock)∧wq G.S w es clock kv
 | .lp ls p as bd cs=>¬G.Z (G.bm n)∧(∀o,¬G.S (G.bm n) o)∧∃(fn:FuncId)(tm:Array akf)(D:Nat),w.heap[G.bm n]?=some (.loop {state:=ls.st,pending:=ls.pd,fn:=fn,tmps:=tm,params:= #[p],assign:=as,body:=bd,defers:=D})∧tm.size=cs.length∧∀(i:Nat)(u:akf)(c:AV),tm[i]?=some u→cs[i]?=some c→aL G w u c
 | .it sn cs=>¬G.Z (G.bm n)∧(∀o,¬G.S (G.bm n) o)∧∃(fn:Nat)(vs:Array akf)(_:Unit),w.heap[G.bm n]?=some (.mapIter (some fn) 1 (if sn then #[0]else #[]) 1)∧(vs.size=cs.length∧vs= #[.map (some fn)])∧∀(i:Nat)(u:akf)(c:AV),vs[i]?=some u→cs[i]?=some c→aL G w u c
 | .gone=>True
def Jk(G:Gh)(w:akg):Prop:=(∀(g:Nat)(l:akb akf),(g,l)∈zw→∀(j:Nat)(v:akf),l[j]?=some v→G.S g j∧w.cell? ⟨g,j,none⟩=some v)∧G.M≤w.heap.size
structure bV(G:Gh)(w:World)(h:List aq):Prop where
 len:h.length=G.N
 z:∀b,G.Z b→b<w.heap.size
 S:∀b o,G.S b o→b<w.heap.size
 cU:∀(n:Nat)(B:aq),h[n]?=some B→dC G w n B
 inj:∀(m n b:Nat),b6 h G m=some b→b6 h G n=some b→m=n
 gl:Jk G w
structure bP(N:Nat)(G:Gh)(w:World)(G':Gh)(w':World):Prop where
 size:w.heap.size≤w'.heap.size
 S:∀b o,G.S b o→G'.S b o
 cell:∀b o,G.S b o→w'.cell? ⟨b,o,none⟩=w.cell? ⟨b,o,none⟩
 bm:∀n,n<N→G'.bm n=G.bm n
 fr:∀n,n<N→(G'.fl n=G.fl n∧G'.sg n=G.sg n)∨G.fl n<G'.fl n
 Z:((∀b,G.Z b→G'.Z b)∧∀b,G'.Z b→G.Z b∨w.heap.size≤b)∧G'.M=G.M
 old:∀b,G.Z b→w'.heap[b]?=w.heap[b]?
 os:w'.os=w.os
 tape:w'.tape=w.tape
 output:w'.output=w.output
 new:∀b o,G'.S b o→G.S b o∨¬G.Z b
theorem fJ{Z Z':Nat→Prop}{m M M':Nat}(h:Z'=Z)(hM:M'=M:=by rfl):((∀b,Z b→Z' b)∧∀b,Z' b→Z b∨m≤b)∧M'=M:=⟨⟨fun _ k=>h▸k,fun _ k=> .inl (h▸k)⟩,hM⟩
theorem bP.refl(N:Nat)(G:Gh)(w:akg):bP N G w G w:=
 ⟨ajy _,fun _ _ h=>h,fun _ _ _=>rfl,fun _ _=>rfl,fun _ _=> .inl ⟨rfl,rfl⟩,fJ rfl,fun _ _=>rfl,rfl,rfl,rfl,fun _ _ h=> .inl h⟩
theorem bP.trans{N:Nat}{G G1 G2:Gh}{w w1 w2:akg}(h:bP N G w G1 w1)(k:bP N G1 w1 G2 w2):bP N G w G2 w2:=
 ⟨ajF h.size k.size,fun b o hs=>k.S b o (h.S b o hs),fun b o hs=>(k.cell b o (h.S b o hs)).trans (h.cell b o hs),fun n hn=>(k.bm n hn).trans (h.bm n hn),
  fun n hn=>by
   rcases h.fr n hn with⟨h1,h2⟩|h1<;>rcases k.fr n hn with⟨k1,k2⟩|k1
   ·exact .inl ⟨k1.trans h1,k2.trans h2⟩
   ·exact .inr (h1▸k1)
   ·exact .inr (k1▸h1)
   ·exact .inr (Nat.lt_trans h1 k1),
  ⟨⟨fun b hb=>k.Z.1.1 b (h.Z.1.1 b hb),fun b hb=>(k.Z.1.2 b hb).elim (h.Z.1.2 b) fun hs=> .inr (ajF h.size hs)⟩,k.Z.2.trans h.Z.2⟩,fun b hb=>(k.old b (h.Z.1.1 b hb)).trans (h.old b hb),k.os.trans h.os,k.tape.trans h.tape,k.output.trans h.output,fun b o hs=>(k.new b o hs).elim (h.new b o) (fun hn=> .inr fun hz=>hn (h.Z.1.1 b hz))⟩
theorem bP.less{N M:Nat}{G G':Gh}{w w':akg}(h:bP N G w G' w')(hM:M≤N):bP M G w G' w':=
 ⟨h.size,h.S,h.cell,fun n hn=>h.bm n (ajL hn hM),fun n hn=>h.fr n (ajL hn hM),h.Z,h.old,h.os,h.tape,h.output,h.new⟩
theorem bP.kV{N:Nat}{G G':Gh}{w w':akg}(h:bP N G w G' w'){b:Nat}(hb:b<w.heap.size)(hz:¬G.Z b):¬G'.Z b:=fun k=>(h.Z.1.2 b k).elim hz fun hs=>aj1 _ (ajL hb hs)
def pF(G:Gh)(w:akg)(ds:akb Deferred):Prop:=∃l:akb Nat,l.Nodup∧ds=l.map (fun D=>{target:= .collected D,args:= #[]})∧∀D∈l,G.M≤D∧G.Z D∧w.heap[D]?=some (.deferred (some []))
theorem pF.nil(G:Gh)(w:akg):pF G w []:=⟨[],List.nodup_nil,rfl,fun _ h=>absurd h aj3⟩
theorem pF.bn{N:Nat}{G G':Gh}{w w':akg}{ds:akb Deferred}(h:pF G w ds)(hE:bP N G w G' w'):pF G' w' ds:=
 let ⟨l,h1,h2,h3⟩:=h
 ⟨l,h1,h2,fun D hD=>⟨hE.Z.2▸(h3 D hD).1,hE.Z.1.1 D (h3 D hD).2.1,(hE.old D (h3 D hD).2.1).trans (h3 D hD).2.2⟩⟩
theorem Jk.bn{N:Nat}{G G':Gh}{w w':akg}(h:Jk G w)(hE:bP N G w G' w'):Jk G' w':=⟨fun g l hm j v hv=>
 ⟨hE.S _ _ (h.1 g l hm j v hv).1,(hE.cell _ _ (h.1 g l hm j v hv).1).trans (h.1 g l hm j v hv).2⟩,by rw[hE.Z.2];exact ajF h.2 hE.size⟩
theorem cY.bn{S S':Nat→Nat→Prop}{w w':akg}(hS:∀b o,S b o→S' b o)(hc:∀b o,S b o→w'.cell? ⟨b,o,none⟩=w.cell? ⟨b,o,none⟩){u:akf}{x:D}(h:cY S w u x):cY S' w' u x:=by
 induction h with
 |v u=>exact .v u
 |sl A b o c k xs u hA iK hm hk oY _ ih=>
  exact .sl A b o c k xs u hA iK hm hk (fun i j hi hj=>⟨hS _ _ (oY i j hi hj).1,(hc _ _ (oY i j hi hj).1).trans (oY i j hi hj).2.1,(oY i j hi hj).2.2⟩) ih
theorem nK.bn{S S':Nat→Nat→Prop}{w w':akg}(hS:∀b o,S b o→S' b o)(hc:∀b o,S b o→w'.cell? ⟨b,o,none⟩=w.cell? ⟨b,o,none⟩){u:akf}{x:fM}(h:nK S w u x):nK S' w' u x:=by
 induction h with
 |d h=>exact .d (h.bn hS hc)
 |bD c off b o u h1 h2=>exact .bD c off b o u (fun j hj=>⟨hS _ _ (h1 j hj).1,(hc _ _ (h1 j hj).1).trans (h1 j hj).2⟩) (fun j d hd=>(h2 j d hd).bn hS hc)
 |fn f vs cs hl _ ih=>exact .fn f vs cs hl ih
theorem aL.bn{G G':Gh}{w w':akg}(hE:bP G.N G w G' w')(hN:G.N≤G'.N){u:akf}{x:AV}(h:aL G w u x):aL G' w' u x:=by
 induction h with
 |d h=>exact .d (h.bn hE.S hE.cell)
 |agg vs cs hl _ ih=>exact .agg vs cs hl ih
 |bk vs cs hl _ ih=>exact .bk vs cs hl ih
 |ptr n off h=>rw[←hE.bm n h];exact .ptr n off (ajL h hN)
 |bD xs i off b o u x hx hS hu=>exact .bD xs i off b o u x hx (fun j hj=>⟨hE.S _ _ (hS j hj).1,(hE.cell _ _ (hS j hj).1).trans (hS j hj).2⟩) (fun j d hd=>(hu j d hd).bn hE.S hE.cell)
 |own n xs h hp hle hf=>
  refine .own n xs (ajL h hN) (hp.bn hE.S hE.cell) ?_ ?_
  ·rcases hE.fr n h with⟨h1,_⟩|h1
   ·omega
   ·omega
  ·intro e;rcases hE.fr n h with⟨h1,h2⟩|h1
   ·rw[h2];exact hf (e.trans h1)
   ·omega
 |full xs hp hf=>exact .full xs (hp.bn hE.S hE.cell) hf
 |row n off len cap k h hl hm=>rw[←hE.bm n h];exact .row n off len cap k (ajL h hN) hl hm
 |fn f vs cs hl _ ih=>exact .fn f vs cs hl ih
 |mp n h=>rw[←hE.bm n h];exact .mp n (ajL h hN)
 |cE n h=>rw[←hE.bm n h];exact .cE n (ajL h hN)
 |vec n o len L k h hs hL hf=>
  refine .vec n o len L k (ajL h hN) hs ?_ ?_
  ·rcases hE.fr n h with⟨h1,_⟩|h1<;>omega
  ·intro e;rcases hE.fr n h with⟨h1,h2⟩|h1
   ·rw[h2];exact hf (e.trans h1)
   ·omega
 |cN n i j L k h hs hL hf=>
  refine .cN n i j L k (ajL h hN) hs ?_ ?_
  ·rcases hE.fr n h with⟨h1,_⟩|h1<;>omega
  ·intro e;rcases hE.fr n h with⟨h1,h2⟩|h1
   ·rw[h2];exact hf (e.trans h1)
   ·omega
 |hid h h1=>exact .hid (h.bn hE.S hE.cell) h1
 |dead u=>exact .dead u
structure St where
 n:Nat
 t:List (Nat×AV)
 h:List aq
def bB:akb (Nat×AV)→Nat→AV
 |[],_=> .dead
 |(k,x)::l,i=>bif i==k then x else bB l i
theorem lK(k:Nat)(x:AV)(l:akb (Nat×AV))(i:Nat):bB ((k,x)::l) i=if i=k then x else bB l i:=by
 simp only[bB,cond_eq_ite,beq_iff_eq]
def ee(b:Bool)(p:Prop):Prop:=cond b p False
theorem bN{b:Bool}{p:Prop}:ee b p↔b=true∧p:=by cases b<;>simp [ee]
def cf(a b:Nat):Bool:=a-b==0
theorem di{a b:Nat}:cf a b=true↔a≤b:=by simp [cf];omega
def SU:IntKind→Nat
 | .i8=>0| .i16=>1| .i32=>2| .i64=>3| .u8=>4| .u16=>5| .u32=>6| .u64=>7
def vx(a b:IntKind):Bool:=SU a==SU b
theorem OZ{a b:IntKind}:vx a b=true↔a=b:=by cases a<;>cases b<;>decide
def St.put(s:St)(dst:akd Nat)(x:AV):St:=
 match dst with
 |none=>s
 |some d=>bif s.n-d==0 then s else{s with t:=(d,x)::s.t}
theorem rS{s:St}{d:Nat}(h:d<s.n)(x:AV):s.put (some d) x={s with t:=(d,x)::s.t}:=by
 have:(s.n-d==0)=false:=by simp;omega
 simp only[St.put,this,cond_false]
theorem Cd{s:St}{d:Nat}(h:¬d<s.n)(x:AV):s.put (some d) x=s:=by
 have:(s.n-d==0)=true:=by simp;omega
 simp only[St.put,this,cond_true]
def St.wh(s:St)(h:akb aq):St:={s with h:=h}
def NU:akf→AV
 | .agg vs=> .agg (vs.toList.map fun u=> .d (.v u))
 | .tuple vs=> .bk (vs.toList.map fun u=> .d (.v u))
 |u=> .d (.v u)
def ev(s:St):Operand→AV
 | .tmp t=>bB s.t t
 | .const v=>NU v
 | .func f=> .fn f []
 | .global g=>match zo zw g with
   |some l=> .bD [l.map .v] 0 0
   |none=> .dead
def AV.iX:AV→Bool
 | .d (.v u)=>u.oneCell'
 | .d (.sl _)| .ptr .. | .bD .. | .own .. | .full _| .row .. | .fn .. | .mp _| .cE _| .hid _| .vec .. | .cN .. =>true
 | .agg _| .bk _| .dead=>false
def AV.cells:AV→akb AV
 | .agg cs=>cs
 |x=>[x]
def AV.gR:AV→Bool
 | .agg cs=>cs.all AV.iX
 |x=>x.iX
def D.zj:D→D
 | .v (.slice none 0 0)=> .sl []
 |x=>x
def AV.vO:AV→akd D
 | .d x=>some x.zj
 | .own _ xs=>some (.sl xs)
 | .full xs=>some (.sl xs)
 |_=>none
def AV.ej:AV→akd (akb (akb D))
 | .d (.sl xs)=>some xs
 | .own _ xs=>some xs
 | .full xs=>some xs
 | .d (.v (.slice none 0 0))=>some []
 |_=>none
def AV.int?:AV→akd Int
 | .d (.v (.int _ n))=>some n
 |_=>none
def fM.av:fM→AV
 | .d x=> .d x
 | .bD c off=> .bD [c] 0 off
 | .fn f cs=> .hid (.fn f cs)
def eF(P:ake)(t:TypeId):akd Nat:=(P.info? t).map (·.size)
def kE(P:ake)(t:TypeId):akd Bool:=(P.underlying t).map fun| .struct _=>true| .array .. =>true|_=>false
def rj(P:ake)(t:TypeId)(i:Nat):akd (Nat×Nat×Bool):=
 match P.underlying t with
 |some (.struct fs)=>match fs[i]? with
  |some f=>match eF P f.type,kE P f.type with
   |some (k+1),some g=>some (f.offset,k+1,g)
   |_,_=>none
  |none=>none
 |_=>none
def dF(P:ake)(t:TypeId):akd (TypeId×Nat):=
 match P.underlying t with
 |some (.slice e)=>(eF P e).map fun k=>(e,k)
 |_=>none
def rK(P:ake)(t:TypeId):akd (Nat×TypeId×Nat):=
 match P.underlying t with
 |some (.array n e)=>(eF P e).map fun k=>(n,e,k)
 |_=>none
def fA(P:ake)(t:TypeId):Bool:=match P.underlying t with|some .string=>true|_=>false
def xS(P:ake)(t:TypeId):Bool:=match P.underlying t with|some .bool=>true|_=>false
def pL(P:ake)(t:TypeId):akd IntKind:=match P.underlying t with|some (.int k)=>some k|_=>none
def EG(P:ake)(t:TypeId):Bool:=match P.underlying t with|some (.int .u8)=>true|_=>false
def gD(P:ake)(t:TypeId):akd akf:=(P.info? t).bind (·.zero)
def qS(P:ake)(t:TypeId):akd Nat:=(P.info? t).map (·.bytes)
def Og(op:BinOp)(k:IntKind)(a b:Int):akd akf:=
 match op with
 | .add=>some (.int k (k.wrap (a+b)))
 | .sub=>some (.int k (k.wrap (a-b)))
 | .mul=>some (.int k (k.wrap (a*b)))
 | .eql=>some (.bool (a==b))
 | .neq=>some (.bool (a !=b))
 | .lss=>some (.bool (a<b))
 | .leq=>some (.bool (a≤b))
 | .gtr=>some (.bool (a>b))
 | .geq=>some (.bool (a≥b))
 | .and=>some (.int k (k.wrap (BitVec.ofInt k.bits a&&&BitVec.ofInt k.bits b).toNat))
 | .or=>some (.int k (k.wrap (BitVec.ofInt k.bits a|||BitVec.ofInt k.bits b).toNat))
 | .xor=>some (.int k (k.wrap (BitVec.ofInt k.bits a^^^BitVec.ofInt k.bits b).toNat))
 | .andNot=>some (.int k (k.wrap (BitVec.ofInt k.bits a&&& ~~~BitVec.ofInt k.bits b).toNat))
 |_=>none
def MG(op:BinOp)(a b:akc):akd akf:=
 match op with
 | .eql=>some (.bool (bL a==bL b))
 | .neq=>some (.bool (!(bL a==bL b)))
 | .lss=>some (.bool (Op.bytesLess (bL a) (bL b)))
 | .leq=>some (.bool (Op.bytesLess (bL a) (bL b)||bL a==bL b))
 | .gtr=>some (.bool (!(Op.bytesLess (bL a) (bL b)||bL a==bL b)))
 | .geq=>some (.bool (!Op.bytesLess (bL a) (bL b)))
 |_=>none
def OL(op:BinOp)(a b:Bool):akd akf:=
 match op with
 | .eql=>some (.bool (a==b))
 | .neq=>some (.bool (!(a==b)))
 |_=>none
def OR(op:BinOp)(k:IntKind)(a b:Int):akd akf:=
 match op with
 | .quo=>some (.int k (k.wrap (a.tdiv b)))
 | .rem=>some (.int k (a.tmod b))
 |_=>none
def Oj(op:BinOp)(k:IntKind)(a b:Int):akd akf:=
 match op with
 | .shl=>some (.int k (k.wrap (a*2^(min b.toNat k.bits))))
 | .shr=>some (.int k (a.fdiv (2^(min b.toNat k.bits))))
 |_=>none
def FW(op:UnOp)(x:akf):akd akf:=
 match op,x with
 | .not, .bool b=>some (.bool (!b))
 | .neg, .int k n=>some (.int k (k.wrap (0-n)))
 | .xor, .int k n=>some (.int k (k.wrap (BitVec.ofInt k.bits (if k.signed then-1 else k.max)^^^BitVec.ofInt k.bits n).toNat))
 |_,_=>none
def fI(cs:akb AV)(off:Nat)(ys:akb AV):akb AV:=cs.take off++ys++cs.drop (off+ys.length)
def l4(k:Nat):Nat→akb D→akb (akb D)
 |0,_=>[]
 |n+1,l=>l.take k::l4 k n (l.drop k)
def nA(places:akb (Nat×Nat)):akb AV→akb (Nat×AV)→akd (akb AV)
 |cs,[]=>some cs
 |cs,(i,x)::r=>
  match places[i]? with
  |some (off,k)=>bif x.cells.length==k&&cf (off+k) cs.length then nA places (fI cs off x.cells) r else none
  |none=>none
def lX:akb AV→akd (akb D)
 |[]=>some []
 |x::r=>match x.vO,lX r with
  |some d,some l=>some (d::l)
  |_,_=>none
def BG(P:ake)(fs:akb Field):akd (akb (Nat×Nat)):=fs.mapM fun f=>(eF P f.type).map fun k=>(f.offset,k)
def Ji(P:ake)(f:FuncId):Bool:=
 match P.funcs[f]? with
 |some fn=>fn.body.isSome&& !(fn.name== "runtime.NumGoroutine")
 |none=>false
def bO(P:ake)(f:FuncId)(args:akb AV)(h:akb aq)(K:AV→akb aq→Prop):Prop:=
 Ji P f=true∧∀(G:Gh)(w:akg)(vs:Array akf),bV G w h→vs.size=args.length→(∀(i:Nat)(u:akf)(c:AV),vs[i]?=some u→args[i]?=some c→aL G w u c)→
  Calls P f vs w fun e w'=>∃v G' r h',e= .returned v∧bP G.N G w G' w'∧G.N≤G'.N∧bV G' w' h'∧aL G' w' v r∧K r h'
theorem bO.mono{P:ake}{f:FuncId}{args:akb AV}{h:akb aq}{K K':AV→akb aq→Prop}(hc:bO P f args h K)(hk:∀r h',K r h'→K' r h'):bO P f args h K':=
 ⟨hc.1,fun G w vs hi hl hr=>(hc.2 G w vs hi hl hr).mono fun _ _ ⟨v,G',r,h',e,x1,x2,x3,x4,x5⟩=>⟨v,G',r,h',e,x1,x2,x3,x4,hk _ _ x5⟩⟩
def qk(h:akb aq)(p:AV)(K:akb AV→Nat→Prop):Prop:=
 match p with
 | .ptr n off=>match h[n]? with
   |some (.cells cs)=>K cs off
   |_=>False
 | .bD xs i off=>match xs[i]? with
   |some cs=>K (cs.map .d) off
   |none=>False
 |_=>False
def mm(P:ake)(t:TypeId)(h:akb aq)(p:AV)(K:AV→Prop):Prop:=
 qk h p fun cs off=>match kE P t,eF P t with
  |some true,some k=>ee (cf (off+k) cs.length) (K (.agg ((cs.drop off).take k)))
  |some false,some _=>match cs[off]? with
   |some c=>K c
   |none=>False
  |_,_=>False
def vR(P:ake)(t:TypeId)(h:akb aq)(p x:AV)(K:akb aq→Prop):Prop:=
 match p with
 | .ptr n off=>match h[n]? with
   |some (.cells cs)=>match eF P t with
    |some k=>ee (k==x.cells.length&&x.gR&&cf (off+x.cells.length) cs.length) (K (h.set n (.cells (fI cs off x.cells))))
    |none=>False
   |_=>False
 |_=>False
def pG(P:ake)(T:TypeId)(x i:AV)(K:AV→Prop):Prop:=
 match dF P T with
 |some (_,k)=>
  match x with
  | .row n off len _ k'=>match i.int? with
    |some z=>ee (k'==k) (0≤z∧z<len∧K (.ptr n (off+z.toNat*k)))
    |none=>False
  |_=>match x.ej,i.int? with
   |some xs,some z=>0≤z∧(match xs[z.toNat]? with|some c=>c.length=k∧K (.bD [c] 0 0)|none=>False)
   |_,_=>False
 |none=>match rK P T,x,i.int? with
  |some (n,_,k), .ptr b off,some z=>0≤z∧z<n∧K (.ptr b (off+z.toNat*k))
  |some (n,_,k), .bD xs i off,some z=>ee (k==1) (0≤z∧z<n∧(match xs[i]? with|some c=>(match c[off+z.toNat]? with|some d=>K (.bD [[d]] 0 0)|none=>False)|none=>False))
  |_,_,_=>False
def qq(P:ake)(T:TypeId)(x:AV)(K:Nat→Prop):Prop:=
 match x with
 | .d (.v (.string s))=>ee (fA P T) (K s.size)
 | .row _ _ len _ _=>ee (dF P T).isSome (K len)
 |x=>match x.ej with
  |some xs=>ee (dF P T).isSome (K xs.length)
  |none=>False
def ij(ρ:Operand→AV)(x:akd Operand)(ZM:Nat)(K:Nat→Prop):Prop:=
 match x with
 |none=>K ZM
 |some y=>match (ρ y).int? with
  |some z=>0≤z∧K z.toNat
  |none=>False
def s5(P:ake)(T:TypeId)(ρ:Operand→AV)(x:AV)(lo hi mx:akd Operand)(K:AV→Prop):Prop:=
 match mx with
 |none=>
  match x with
  | .d (.v (.string b))=>ee (fA P T) (ij ρ hi b.size fun h=>h≤b.size∧ij ρ lo 0 fun l=>l≤h∧K (.d (.v (.string (b.extract l h)))))
  | .ptr n off=>match rK P T with
    |some (m,_,k)=>ee (cf m 4096) (ij ρ hi m fun h=>ee (cf h m) (ij ρ lo 0 fun l=>ee (cf l h&& !cf m l) (K (.row n (off+l*k) (h-l) (m-l) k))))
    |none=>False
  |x=>match x.ej,dF P T with
   |some xs,some (_,k)=>(∀c∈xs,c.length=k)∧ij ρ hi xs.length fun h=>h≤xs.length∧ij ρ lo 0 fun l=>l≤h∧K (.d (.sl ((xs.take h).drop l)))
   |_,_=>False
 |some m=>match lo,hi with
  |none,some y=>match x.ej,dF P T with
   |some xs,some (_,k)=>(∀c∈xs,c.length=k)∧ij ρ (some m) 0 fun c=>c≤xs.length∧ij ρ (some y) 0 fun h=>h=c∧K (.full (xs.take h))
   |_,_=>False
  |_,_=>False
def rY(h:akb aq)(k:Nat)(x:AV)(K:akb (akb D)→Prop):Prop:=
 match x with
 | .row n off len _ k'=>match h[n]? with
   |some (.cells cs)=>match lX ((cs.drop off).take (len*k))with
    |some ds=>ee (k'==k&&cf (off+len*k) cs.length&&((cs.drop off).take (len*k)).all AV.iX) (K (l4 k len ds))
    |none=>False
   |_=>False
 |x=>match x.ej with
  |some ys=>(∀c∈ys,c.length=k)∧K ys
  |none=>False
def tE(P:ake)(T:TypeId)(h:akb aq)(x y:AV)(K:AV→akb aq→Prop):Prop:=
 match dF P T with
 |some (e,k)=>match gD P e,qS P e with
  |some z,some ct=>ee (cf 1 k&&z.cells.toList.length==k)<|rY h k y fun ys=>
   match x with
   | .own n xs=>match h[n]? with
     |some (.front e' k' len)=>ee (e'==e&&k'==k)<|len=xs.length∧(∀c∈xs,c.length=k)∧xs.length+ys.length≤maxLen∧(xs.length+ys.length)*ct≤140737488355328∧K (.own n (xs++ys)) (h.set n (.front e k (xs.length+ys.length)))
     |_=>False
   | .d (.v (.slice none 0 0))=>ys.length≤maxLen∧ys.length*ct≤140737488355328∧K (.own h.length ys) (h++[.front e k ys.length])
   | .full xs=>(∀c∈xs,c.length=k)∧xs.length+ys.length≤maxLen∧(xs.length+ys.length)*ct≤140737488355328∧K (.own h.length (xs++ys)) (h++[.front e k (xs.length+ys.length)])
   |_=>False
  |_,_=>False
 |none=>False
def N1(P:ake)(T:TypeId):akd (akb (Nat×Nat)):=
 match P.underlying T with
 |some (.struct fs)=>BG P fs.toList
 |_=>none
def wI(P:ake)(T:TypeId)(ps:akb (Nat×AV))(K:AV→Prop):Prop:=
 match N1 P T,gD P T with
 |some places,some z=>match nA places (z.cells.toList.map fun u=> .d (.v u)) ps with
  |some cs=>ee ((ps.all fun p=>p.2.gR)&&z.cells.toList.all Value.oneCell') (K (.agg cs))
  |none=>False
 |_,_=>False
def ua(k:Nat):Nat→Nat→akb (Nat×Nat)
 |_,0=>[]
 |o,n+1=>(o,k)::ua k (o+k) n
def qE:Nat→akb AV→akb AV
 |0,_=>[]
 |n+1,l=>l++qE n l
def ui(P:ake)(T:TypeId)(len:Nat)(ps:akb (Nat×AV))(K:AV→Prop):Prop:=
 match dF P T with
 |some (e,k)=>match gD P e with
  |some z=>match nA (ua k 0 len) (qE len (z.cells.toList.map fun u=> .d (.v u))) ps with
   |some cs=>match lX cs with
    |some ds=>ee (cf 1 k&&cf (len*k) 16777216&&z.cells.toList.length==k&&z.cells.toList.all Value.oneCell'&&(ps.all fun p=>p.2.gR)) (K (.full (l4 k len ds)))
    |none=>False
   |none=>False
  |none=>False
 |none=>False
def NB(P:ake)(t:TypeId)(x y:AV):akd Bool:=
 match x,y with
 | .d (.v (.int k a)), .d (.v (.int k' b))=>bif vx k k'&&(pL P t).isSome then some (a==b)else none
 | .d (.v (.string a)), .d (.v (.string b))=>bif fA P t then some (bL a==bL b)else none
 | .d (.v (.bool a)), .d (.v (.bool b))=>bif xS P t then some (a==b)else none
 |_,_=>none
def xW(P:ake)(sub:TypeId→akb AV→akb AV→akd Bool):akb Field→akb AV→akb AV→akd Bool
 |[],_,_=>some true
 |f::fs,xs,ys=>bif f.name== "_" then none else
  match kE P f.type with
  |some false=>match xs[f.offset]?,ys[f.offset]? with
   |some x,some y=>match NB P f.type x y,xW P sub fs xs ys with
    |some a,some b=>some (a&&b)
    |_,_=>none
   |_,_=>none
  |some true=>match eF P f.type with
   |some k=>bif cf (f.offset+k) xs.length&&cf (f.offset+k) ys.length then match sub f.type ((xs.drop f.offset).take k) ((ys.drop f.offset).take k),xW P sub fs xs ys with
    |some a,some b=>some (a&&b)
    |_,_=>none
    else none
   |none=>none
  |none=>none
def HS(P:ake):Nat→TypeId→akb AV→akb AV→akd Bool
 |0=>fun _ _ _=>none
 |d+1=>fun T xs ys=>match P.underlying T with
  |some (.struct fs)=>bif P.stoodInHeld T then none else xW P (HS P d) fs.toList xs ys
  |_=>none
def Js(P:ake)(T:TypeId)(xs ys:akb AV):akd Bool:=
 match P.underlying T with
 |some (.struct fs)=>bif P.stoodInHeld T||P.eqGuardType P.depth T then none else xW P (HS P 4) fs.toList xs ys
 |_=>none
def wm(op:BinOp)(b:Bool):akd akf:=
 match op with
 | .eql=>some (.bool b)
 | .neq=>some (.bool (!b))
 |_=>none
def vq(P:ake)(T:TypeId)(op:BinOp)(x y:AV)(K:AV→Prop):Prop:=
 match x,y with
 | .d (.v (.int k a)), .d (.v (.int k' b))=>
   match OR op k a b with
   |some v=>ee (vx k k') (b≠0∧K (.d (.v v)))
   |none=>match Oj op k a b with
    |some v=>0≤b∧K (.d (.v v))
    |none=>match Og op k a b with
     |some v=>ee (vx k k') (K (.d (.v v)))
     |none=>False
 | .d (.v (.string a)), .d (.v (.string b))=>match MG op a b with
   |some v=>K (.d (.v v))
   |none=>match op with
    | .add=>a.size+b.size≤maxLen∧K (.d (.v (.string (a++b))))
    |_=>False
 | .d (.v (.bool a)), .d (.v (.bool b))=>match OL op a b with
   |some v=>ee (xS P T) (K (.d (.v v)))
   |none=>False
 | .agg xs, .agg ys=>match Js P T xs ys with
   |some b=>match wm op b with
    |some v=>K (.d (.v v))
    |none=>False
   |none=>False
 |_,_=>False
def uX(op:UnOp)(x:AV)(K:AV→Prop):Prop:=
 match x with
 | .d (.v u)=>match FW op u with
   |some v=>K (.d (.v v))
   |none=>False
 |_=>False
def wX(P:ake)(src dst:TypeId)(x:AV)(K:AV→Prop):Prop:=
 match x with
 | .d (.v (.int _ n))=>match pL P src,pL P dst with
   |some _,some k=>K (.d (.v (.int k (k.wrap n))))
   |_,_=>False
 | .d (.v (.string b))=>ee (fA P src&&fA P dst) (K (.d (.v (.string b))))
 |x=>match x.ej,dF P src with
  |some xs,some (e,_)=>ee (EG P e&&fA P dst) (∃ns:akb Int,xs=ns.map (fun n=>[.v (.int .u8 n)])∧K (.d (.v (.string ⟨(ns.map fun n=>UInt8.ofNat n.toNat).toArray⟩))))
  |_,_=>False
def uB(P:ake)(T:TypeId)(x:AV)(f:Nat)(K:AV→Prop):Prop:=
 match rj P T f,x with
 |some (off,k,true), .agg cs=>ee (cf (off+k) cs.length) (K (.agg ((cs.drop off).take k)))
 |some (off,_,false), .agg cs=>match cs[off]? with
  |some c=>K c
  |none=>False
 |_,_=>False
def wF(P:ake)(T:TypeId):akd (TypeId×TypeId):=
 match P.underlying T with
 |some (.map k e)=>some (k,e)
 |_=>none
inductive Sd
 |no
 |lt (n:Nat)
def Sd.ok:Sd→Prop
 | .no=>True
 | .lt n=>n<maxLen
def HQ(Va:Bool)(z:akf):akd D→AV
 |some d=>bif Va then .bk [.d d, .d (.v (.bool true))]else .d d
 |none=>bif Va then .bk [.d (.v z), .d (.v (.bool false))]else .d (.v z)
def nq(P:ake)(op:Op)(ρ:Operand→AV)(h:akb aq):akd (AV×akb aq×Sd):=
 match op with
 | .makeMap T none=>match wF P T with
   |some _=>some (.mp h.length,h++[.map []], .no)
   |none=>none
 | .lookup T m i ok=>match wF P T with
   |some (k,e)=>match gD P e with
    |some z=>match ρ m,ρ i with
     | .mp n, .d (.v (.string s))=>match h[n]? with
       |some (.map kv)=>bif fA P k&&z.oneCell' then some (HQ ok z (nJ kv s),h, .no)else none
       |_=>none
     |_,_=>none
    |none=>none
   |none=>none
 | .mapUpdate T m i x=>match wF P T with
   |some (k,_)=>match ρ m,ρ i,(ρ x).vO with
    | .mp n, .d (.v (.string s)),some d=>match h[n]? with
      |some (.map kv)=>bif fA P k then some (.d (.v undef),h.set n (.map ((s,d)::kv)), .lt kv.length)else none
      |_=>none
    |_,_,_=>none
   |none=>none
 |_=>none
inductive VA
 |no
 |el (c:List AV)
 |st (c:List AV) (cs:List (List AV))
 |mk (cs:List (List AV)) (len m:Nat)
 |ap (cs ys:List (List AV)) (L len:Nat)
 |ix (i:Nat)
 |ol (o len:Nat)
def L2(P:ake)(t:TypeId)(c:akb AV)(j:Nat):akd AV:=
 match kE P t,eF P t with
 |some true,some k=>bif cf (j+k) c.length then some (.agg ((c.drop j).take k))else none
 |some false,some _=>c[j]?
 |_,_=>none
def bo(xs:akb (akb D)):akb (akb AV):=xs.map fun c=>c.map AV.d
def vz(h:akb aq)(k:Nat)(y:AV)(ys:akb (akb AV)):Prop:=
 (∃xs,y.ej=some xs∧(∀c∈xs,c.length=k)∧ys=bo xs)∨(∃n o len L e cs,y= .vec n o len L k∧h[n]?=some (.vec e k cs)∧cs.length=L∧ys=(cs.drop o).take len∧∀c∈ys,c.all AV.iX=true)
def sR(ρ:Operand→AV)(d:Int):akd Operand→akd Int
 |none=>some d
 |some y=>(ρ y).int?
def gJ(P:ake)(op:Op)(ρ:Operand→AV)(h:akb aq)(a:VA):akd (AV×akb aq×Prop):=
 match op with
 | .indexAddr T x i=>match ρ x,(ρ i).int?,dF P T,a with
   | .vec n o len L k,some z,some (_,k'), .ix i'=>match h[n]? with
     |some (.vec _ k2 cs)=>bif k'==k&&k2==k then some (.cN n i' 0 L k,h,cs.length=L∧0≤z∧z<len∧i'=o+z.toNat)else none
     |_=>none
   |_,_,_,_=>none
 | .fieldAddr S x f=>match ρ x,rj P S f with
   | .cN n i j L k,some (fo,_,_)=>some (.cN n i (j+fo) L k,h,True)
   |_,_=>none
 | .nilCheck x=>match ρ x with
   | .cN n i j L k=>some (.cN n i j L k,h,True)
   |_=>none
 | .load t p=>match ρ p,a with
   | .cN n i j L k, .el c=>match h[n]?,L2 P t c j with
     |some (.vec _ k' cs),some x=>bif k'==k then some (x,h,cs.length=L∧cs[i]?=some c)else none
     |_,_=>none
   |_,_=>none
 | .store t p x=>match ρ p,a with
   | .cN n i j L k, .st c ca=>match h[n]?,eF P t with
     |some (.vec e k' cs),some q=>bif k'==k&&q==(ρ x).cells.length&&(ρ x).gR&&cf (j+(ρ x).cells.length) k&&cf 1 k then some (.d (.v undef),h.set n (.vec e k ca),cs.length=L∧cs[i]?=some c∧ca=cs.set i (fI c j (ρ x).cells))else none
     |_,_=>none
   |_,_=>none
 | .slice T x lo hi none=>match ρ x,dF P T,a with
   | .vec n o len L k,some (_,k'), .ol o' fj=>match sR ρ 0 lo,sR ρ len hi with
     |some l,some u=>match h[n]? with
      |some (.vec _ k2 cs)=>bif k'==k&&k2==k then some (.vec n o' fj L k,h,cs.length=L∧0≤l∧l≤u∧u≤(L:Int)-o∧o'=o+l.toNat∧fj=u.toNat-l.toNat)else none
      |_=>none
     |_,_=>none
   |_,_,_=>none
 | .makeSlice T l c=>match dF P T,(ρ l).int?,(ρ c).int?,a with
   |some (e,k),some l,some c, .mk cs len m=>match gD P e,qS P e with
    |some z,some ct=>bif cf 1 k&&z.cells.toList.length==k&&z.cells.toList.all Value.oneCell' then some (.vec h.length 0 len m k,h++[.vec e k cs],0≤l∧l≤c∧l.toNat=len∧c.toNat=m∧cs=List.replicate m (z.cells.toList.map fun u=> .d (.v u))∧m≤maxLen∧ct*m≤281474976710656)else none
    |_,_=>none
   |_,_,_,_=>none
 | .call c=>match c.callee with
   | .builtin .len=>match c.args.toList,c.argTypes.toList with
     |[x],[T]=>match ρ x with
      | .vec n _ len L k=>match h[n]? with
        |some (.vec _ k2 cs)=>bif (dF P T).isSome&&k2==k then some (.d (.v (.int .i64 len)),h,cs.length=L)else none
        |_=>none
      |_=>none
     |_,_=>none
   | .builtin .append=>match c.args.toList,c.argTypes.toList with
     |[x,y],[T,U]=>match dF P T,dF P U,a with
      |some (e,k),some _, .ap ca ys L' fj=>match gD P e,qS P e with
       |some z,some ct=>bif cf 1 k&&z.cells.toList.length==k then
        match ρ x with
        | .vec n o len L k1=>match h[n]? with
          |some (.vec e1 k2 cs)=>bif k1==k&&k2==k&&e1==e then some (.vec n o fj L' k,h.set n (.vec e k ca),cs.length=L∧vz h k (ρ y) ys∧fj=len+ys.length∧
           ((o+len+ys.length≤L∧L'=L∧ca=cs.take (o+len)++ys++cs.drop (o+len+ys.length))∨(o=0∧len=L∧L'=L+ys.length∧ca=cs++ys∧L'≤maxLen∧L'*ct≤140737488355328)))else none
          |_=>none
        | .d (.v (.slice none 0 0))=>some (.vec h.length 0 fj L' k,h++[.vec e k ca],vz h k (ρ y) ys∧ca=ys∧fj=ys.length∧L'=ys.length∧L'≤maxLen∧L'*ct≤140737488355328)
        | .full xs=>some (.vec h.length 0 fj L' k,h++[.vec e k ca],xs=[]∧vz h k (ρ y) ys∧ca=ys∧fj=ys.length∧L'=ys.length∧L'≤maxLen∧L'*ct≤140737488355328)
        |_=>none
       else none
       |_,_=>none
      |_,_,_=>none
     |_,_=>none
   |_=>none
 |_=>none
def HC(mx:Bool)(k:IntKind):Int→akb AV→akd (IntKind×Int)
 |a,[]=>some (k,a)
 |a, .d (.v (.int _ b))::l=>HC mx k (bif mx then(if b>a then b else a)else(if b<a then b else a)) l
 |_,_=>none
def AS(mx:Bool):akb AV→akd (IntKind×Int)
 | .d (.v (.int k a))::l=>HC mx k a l
 |_=>none
def cn(P:ake)(o:Oper)(ρ:Operand→AV)(h:akb aq)(C:AV→akb aq→Prop):Prop:=
 match o.op with
 | .move x| .assign x=>C (ρ x) h
 | .pick c a b=>match ρ c with
   | .d (.v (.bool t))=>(t=true→C (ρ a) h)∧(t=false→C (ρ b) h)
   |_=>False
 | .alloc e=>match gD P e with
   |some z=>C (.ptr h.length 0) (h++[aq.cells (z.cells.toList.map fun u=> .d (.v u))])
   |none=>False
 | .box _ x=>ee (ρ x).gR<|C (.ptr h.length 0) (h++[aq.cells (ρ x).cells])
 | .load t a=>mm P t h (ρ a) fun x=>C x h
 | .store t a x=>vR P t h (ρ a) (ρ x) fun h'=>C (.d (.v undef)) h'
 | .nilCheck x=>match ρ x with
   | .ptr n off=>C (.ptr n off) h
   | .bD xs i off=>C (.bD xs i off) h
   | .fn f cs=>C (.fn f cs) h
   |_=>False
 | .fieldAddr S x f=>match rj P S f with
   |some (fo,_,_)=>match ρ x with
    | .ptr n off=>C (.ptr n (off+fo)) h
    | .bD xs i off=>C (.bD xs i (off+fo)) h
    |_=>False
   |none=>False
 | .field T x f=>uB P T (ρ x) f fun y=>C y h
 | .indexAddr T x i=>pG P T (ρ x) (ρ i) fun y=>C y h
 | .index T x i=>match ρ x,(ρ i).int? with
   | .d (.v (.string b)),some z=>ee (fA P T) (0≤z∧(match b[z.toNat]? with|some c=>C (.d (.v (.int .u8 c.toNat))) h|none=>False))
   |_,_=>False
 | .build T ps=>wI P T (ps.toList.map fun p=>(p.1,ρ p.2)) fun y=>C y h
 | .buildSlice T len ps=>ui P T len (ps.toList.map fun p=>(p.1,ρ p.2)) fun y=>C y h
 | .slice T x lo hi mx=>s5 P T ρ (ρ x) lo hi mx fun y=>C y h
 | .extract x i=>match ρ x with
   | .bk cs=>match cs[i]? with
     |some c=>C c h
     |none=>False
   |_=>False
 | .makeFunc (.func f) first cV=>match first.toList with
   |[]=>C (.fn f (cV.toList.map ρ)) h
   |_=>False
 | .binOp op T x y _=>vq P T op (ρ x) (ρ y) fun v=>C v h
 | .unOp op _ x=>uX op (ρ x) fun v=>C v h
 | .convert a b x=>wX P a b (ρ x) fun v=>C v h
 | .call c=>match c.callee with
   | .builtin .len=>match c.args.toList,c.argTypes.toList with
     |[x],[T]=>qq P T (ρ x) fun n=>C (.d (.v (.int .i64 n))) h
     |_,_=>False
   | .builtin .append=>match c.args.toList,c.argTypes.toList with
     |[x,y],[T,U]=>ee (dF P U).isSome<|tE P T h (ρ x) (ρ y) fun v h'=>C v h'
     |_,_=>False
   | .builtin .max=>match AS true (c.args.toList.map ρ)with
     |some (k,a)=>C (.d (.v (.int k a))) h
     |none=>False
   | .builtin .min=>match AS false (c.args.toList.map ρ)with
     |some (k,a)=>C (.d (.v (.int k a))) h
     |none=>False
   | .value f=>match ρ f with
     | .fn g cV=>bO P g (c.args.toList.map ρ++cV) h fun r h'=>C r h'
     | .hid q=>∃g cs,q= .fn g cs∧bO P g (c.args.toList.map ρ++cs.map fM.av) h fun r h'=>C r h'
     |_=>False
   |_=>False
 |op=>match nq P op ρ h with
  |some (x,h',p)=>p.ok∧C x h'
  |none=>False
def Em(P:ake)(o:Oper)(K:St→Prop)(s:St):Prop:=
 match o.op with
 | .binOp op T x y _=>match (ev s x).ej,ev s y,dF P T,wm op true,wm op false with
   |some xs, .d (.v (.slice none 0 0)),some _,some v1,some v2=>(xs=[]→K (s.put o.dst (.d (.v v1))))∧K (s.put o.dst (.d (.v v2)))
   |_,_,_,_,_=>False
 |_=>False
def JK(P:ake)(o:Oper)(K:St→Prop)(s:St):Prop:=∃a x h' p,gJ P o.op (ev s) s.h a=some (x,h',p)∧p∧K ((s.wh h').put o.dst x)
def n5(P:ake)(o:Oper)(K:St→Prop)(s:St):Prop:=cn P o (ev s) s.h fun x h=>K ((s.wh h).put o.dst x)
def ah8(P:ake)(o:Oper)(K:St→Prop)(s:St):Prop:=JK P o K s∨Em P o K s∨n5 P o K s
theorem jJ(b o n:Nat):(⟨b,o,none⟩:Addr).add n=⟨b,o+n,none⟩:=by unfold Addr.add;split<;>simp_all
structure cx(G:Gh)(w:World)(a:Act)(s:St):Prop where
 size:a.tmps.size=s.n
 tmp:∀i,aL G w (a.tmps.getD i undef) (bB s.t i)
 inv:bV G w s.h
 df:pF G w a.defers
theorem nK.av{G:Gh}{w:akg}{u:akf}{c:fM}(h:nK G.S w u c):aL G w u c.av:=by
 cases h with
 |d h=>exact .d h
 |bD c off b o u h1 h2=>exact .bD [c] 0 off b o u c rfl h1 h2
 |fn f vs cs hl h=>exact .hid (.fn f vs cs hl h) rfl
theorem aL.iX{G:Gh}{w:akg}{u:akf}{x:AV}(h:aL G w u x)(hb:x.iX=true):u.oneCell'=true:=by
 cases h with
 |d hp=>cases hp with
  |v u=>exact hb
  |sl=>rfl
 |agg=>simp [AV.iX]at hb
 |bk=>simp [AV.iX]at hb
 |own n xs _ hp=>cases hp;rfl
 |vec n o len L k _ hs=>obtain⟨A,l,c,rfl⟩:=hs;rfl
 |cN n i j L k _ hs=>obtain⟨b,q,rfl⟩:=hs;rfl
 |full xs hp=>cases hp;rfl
 |hid h h1=>exact h1
 |dead=>simp [AV.iX]at hb
 |_=>rfl
theorem aL.cells{G:Gh}{w:akg}{u:akf}{x:AV}(h:aL G w u x)(hb:x.gR=true):
 u.cells.size=x.cells.length∧∀(i:Nat)(v:akf)(c:AV),u.cells[i]?=some v→x.cells[i]?=some c→aL G w v c∧v.oneCell'=true:=by
 have one:x.iX=true→x.cells=[x]→u.cells.size=x.cells.length∧∀(i:Nat)(v:akf)(c:AV),u.cells[i]?=some v→x.cells[i]?=some c→aL G w v c∧v.oneCell'=true:=by
  intro hc hx;have ho:=h.iX hc;have hu:u.cells= #[u]:=by cases u<;>simp_all [Value.cells,Value.oneCell']
  rw[hu,hx];refine⟨rfl,fun i v c h1 h2=> ?_⟩
  match i with
  |0=>simp at h1 h2;subst h1;subst h2;exact⟨h,ho⟩
  |i+1=>simp at h2
 cases x with
 |agg cs=>
  cases h with
  |agg vs cs hl hr=>
   refine⟨hl,fun i v c h1 h2=> ?_⟩;have hv:=hr i v c h1 h2;refine⟨hv,hv.iX ?_⟩;simp only[AV.gR,ajN]at hb;exact hb c (ajA h2)
 |bk cs=>simp [AV.gR,AV.iX]at hb
 |dead=>simp [AV.gR,AV.iX]at hb
 |_=>exact one hb rfl
theorem bV.lt{G:Gh}{w:akg}{h:akb aq}(hi:bV G w h){n:Nat}{B:aq}(hb:h[n]?=some B):n<G.N:=by
 rw[←hi.len];exact(ajn.1 hb).1
theorem bV.gP{G:Gh}{w:akg}{h:akb aq}(hi:bV G w h){n b:Nat}(hb:b6 h G n=some b):b<w.heap.size:=by
 obtain⟨B,hB,hb⟩:=mr hb;have hr:=hi.cU n B hB;cases B with
 |gone=>cases hb
 |cells cs=>
  obtain⟨_,_,vs,T,hh,_⟩:=hr;cases hb
  exact(ajC.1 hh).1
 |lp ls p as bd cs=>
  obtain⟨_,_,fn,vs,T,hh,_⟩:=hr;cases hb
  exact(ajC.1 hh).1
 |it sn cs=>
  obtain⟨_,_,fn,vs,T,hh,_⟩:=hr;cases hb
  exact(ajC.1 hh).1
 |map kv=>
  obtain⟨_,_,es,c,hh,_⟩:=hr;cases hb
  exact(ajC.1 hh).1
 |front e k len=>
  have hb:G.ow n=some b:=hb;obtain⟨_,_,h1|⟨g,cap,cur,h1,_,_,hh,_⟩⟩:=hr
  ·rw[h1.1]at hb;cases hb
  ·rw[h1]at hb;cases hb;exact(ajC.1 hh).1
 |vec e k cs=>
  have hb:G.ow n=some b:=hb;obtain⟨_,_,_,h1|⟨g,cap,cur,h1,_,_,hh,_⟩⟩:=hr
  ·rw[h1.1]at hb;cases hb
  ·rw[h1]at hb;cases hb;exact(ajC.1 hh).1
theorem dC.kV{G:Gh}{w:akg}{n b:Nat}{B:aq}(hr:dC G w n B)(hb:B.dv G n=some b):¬G.Z b:=by
 cases B with
 |gone=>cases hb
 |cells cs=>cases hb;exact hr.1
 |lp ls p as bd cs=>cases hb;exact hr.1
 |it sn cs=>cases hb;exact hr.1
 |map kv=>cases hb;exact hr.1
 |front e k len=>
  have hb:G.ow n=some b:=hb;obtain⟨_,_,h1|⟨g,cap,cur,h1,_,hz,_⟩⟩:=hr
  ·rw[h1.1]at hb;cases hb
  ·rw[h1]at hb;cases hb;exact hz
 |vec e k cs=>
  have hb:G.ow n=some b:=hb;obtain⟨_,_,_,h1|⟨g,cap,cur,h1,_,hz,_⟩⟩:=hr
  ·rw[h1.1]at hb;cases hb
  ·rw[h1]at hb;cases hb;exact hz
theorem wq.bn{S S':Nat→Nat→Prop}{w w':akg}{es:Array MapEntry}{c:Nat}{kv:akb (akc×D)}(h:wq S w es c kv)(hS:∀b o,S b o→S' b o)(hc:∀b o,S b o→w'.cell? ⟨b,o,none⟩=w.cell? ⟨b,o,none⟩):wq S' w' es c kv:=
 ⟨h.size,h.stamped,fun e he=>let ⟨s,d,h1,h2,h3⟩:=h.yf e he;⟨s,d,h1,h2,h3.bn hS hc⟩,h.all,h.len,h.born,h.F8⟩
theorem dC.bn{G G':Gh}{w w':akg}{n:Nat}(hn:n<G.N)(hE:bP G.N G w G' w')(hN:G.N≤G'.N){B:aq}
 (hg:G'.fl n=G.fl n∧G'.sg n=G.sg n∧G'.ow n=G.ow n)
 (ho:∀b,B.dv G n=some b→w'.heap[b]?=w.heap[b]?∧∀o,¬G.S b o→¬G'.S b o)
 (h:dC G w n B):dC G' w' n B:=by
 obtain⟨f1,f2,f3⟩:=hg;cases B with
 |gone=>trivial
 |cells cs=>
  obtain⟨h1,h2,vs,T,h3,h4,h5⟩:=h;obtain⟨c2,c1⟩:=ho _ rfl;refine⟨by rw[hE.bm n hn];exact hE.kV (ajC.1 h3).1 h1,by rw[hE.bm n hn];exact fun o=>c1 o (h2 o),vs,T,by rw[hE.bm n hn,c2];exact h3,h4,fun i u c hu hc=>(h5 i u c hu hc).bn hE hN⟩
 |lp ls p as bd cs=>
  obtain⟨h1,h2,fn,vs,T,h3,h4,h5⟩:=h;obtain⟨c2,c1⟩:=ho _ rfl;refine⟨by rw[hE.bm n hn];exact hE.kV (ajC.1 h3).1 h1,by rw[hE.bm n hn];exact fun o=>c1 o (h2 o),fn,vs,T,by rw[hE.bm n hn,c2];exact h3,h4,fun i u c hu hc=>(h5 i u c hu hc).bn hE hN⟩
 |it sn cs=>
  obtain⟨h1,h2,fn,vs,T,h3,h4,h5⟩:=h;obtain⟨c2,c1⟩:=ho _ rfl;refine⟨by rw[hE.bm n hn];exact hE.kV (ajC.1 h3).1 h1,by rw[hE.bm n hn];exact fun o=>c1 o (h2 o),fn,vs,T,by rw[hE.bm n hn,c2];exact h3,h4,fun i u c hu hc=>(h5 i u c hu hc).bn hE hN⟩
 |map kv=>
  obtain⟨h1,h2,es,c,h3,h4⟩:=h;obtain⟨c2,c1⟩:=ho _ rfl;exact⟨by rw[hE.bm n hn];exact hE.kV (ajC.1 h3).1 h1,by rw[hE.bm n hn];exact fun o=>c1 o (h2 o),es,c,by rw[hE.bm n hn,c2];exact h3,h4.bn hE.S hE.cell⟩
 |front e k len=>
  obtain⟨h1,hm,h2⟩:=h;refine⟨f1.trans h1,hm,?_⟩;rcases h2 with⟨h2,A,h3⟩|⟨g,cap,cur,h2,h3,h4,h5,h6,h7,h8,h9⟩
  ·exact .inl ⟨f3.trans h2,A,f2.trans h3⟩
  ·obtain⟨f5,f6⟩:=ho g h2;exact .inr ⟨g,cap,cur,f3.trans h2,f2.trans h3,hE.kV (ajC.1 h5).1 h4,f5.trans h5,h6,h7,h8,fun o ho=>f6 o (h9 o ho)⟩
 |vec e k cs=>
  obtain⟨h1,hm,hk,h2⟩:=h;refine⟨f1.trans h1,hm,hk,?_⟩;rcases h2 with⟨h2,e2,A,h3⟩|⟨g,cap,cur,h2,h3,h4,h5,h6,h7,h8,h9,az⟩
  ·exact .inl ⟨f3.trans h2,e2,A,f2.trans h3⟩
  ·obtain⟨f5,f6⟩:=ho g h2;exact .inr ⟨g,cap,cur,f3.trans h2,f2.trans h3,hE.kV (ajC.1 h5).1 h4,f5.trans h5,h6,h7,h8,fun o=>f6 o (h9 o),fun i j c x u hc hx hu=>(az i j c x u hc hx hu).bn hE hN⟩
theorem cx.put{G:Gh}{w:akg}{a:Act}{s:St}(h:cx G w a s){v:akf}{x:AV}(hv:aL G w v x)(dst:akd Nat):cx G w (a.put dst v) (s.put dst x):=by
 cases dst with
 |none=>exact h
 |some d=>
  by_cases hd:d<s.n
  ·have e1:s.put (some d) x={s with t:=(d,x)::s.t}:=rS hd x;rw[e1];refine⟨by simp [Act.put,h.size],fun i=> ?_,h.inv,h.df⟩;by_cases hi:i=d
   ·subst hi;have:(a.tmps.setIfInBounds i v).getD i undef=v:=by simp [Array.getD,h.size,hd]
    simp only[Act.put,this,lK,if_true];exact hv
   ·have:(a.tmps.setIfInBounds d v).getD i undef=a.tmps.getD i undef:=by simp [Array.getElem?_setIfInBounds_ne (Ne.symm hi)]
    simp only[Act.put,this,lK,if_neg hi];exact h.tmp i
  ·have e1:s.put (some d) x=s:=Cd hd x;have e2:a.put (some d) v=a:=by
    have:a.tmps.setIfInBounds d v=a.tmps:=Array.setIfInBounds_eq_of_size_le (by rw[h.size];omega);simp [Act.put,this]
   rw[e1,e2];exact h
theorem cx.move{G G':Gh}{w w':akg}{a:Act}{s:St}(h:cx G w a s)(hE:bP G.N G w G' w')(hN:G.N≤G'.N){h':akb aq}(hi:bV G' w' h'):cx G' w' a {s with h:=h'}:=
 ⟨h.size,fun i=>(h.tmp i).bn hE hN,hi,h.df.bn hE⟩
theorem cx.ev{G:Gh}{w:akg}{a:Act}{s:St}(h:cx G w a s)(x:Operand):aL G w (a.eval x) (ev s x):=by
 cases x with
 |tmp t=>exact h.tmp t
 |const v=>
  show aL G w v (NU v);unfold NU;split
  ·rename_i vs
   exact .agg vs _ (by simp) fun i u c hu hc=>by
    simp only[aju,ajK,hu,Option.map_some,Option.some.injEq]at hc;subst hc;exact .d (.v u)
  ·rename_i vs
   exact .bk vs _ (by simp) fun i u c hu hc=>by
    simp only[aju,ajK,hu,Option.map_some,Option.some.injEq]at hc;subst hc;exact .d (.v u)
  ·exact .d (.v v)
 |global g=>
  show aL G w (.pointer (some ⟨g,0,none⟩)) (match zo zw g with|some l=> .bD [l.map .v] 0 0|none=> .dead);split
  ·next l hl=>
   have hg:=h.inv.gl.1 g l (V7 hl);have:=aL.bD (G:=G) (w:=w) [l.map .v] 0 0 g 0 (fun j=>l.getD j undef) (l.map .v) rfl (fun j hj=> ?_) (fun j d hd=> ?_)
   ·exact this
   ·rw[ajs]at hj;have e:l[j]?=some l[j]:=ajr hj;rw[ajH];refine⟨(hg j _ e).1,?_⟩;rw[(hg j _ e).2];simp [hj]
   ·rw[aju]at hd;cases e:l[j]? with
    |none=>rw[e]at hd;cases hd
    |some v=>
     rw[e]at hd;cases hd
     have:l.getD j undef=v:=by simp [List.getD,e]
     rw[this];exact .v v
  ·exact .dead _
 |func f=>exact .fn f #[] [] rfl fun i u c hu=>by simp at hu
def Gh.dx(G:Gh)(b:Nat):Gh:={G with N:=G.N+1,bm:=fun n=>if n=G.N then b else G.bm n}
theorem Ee(G:Gh)(w:akg)(hz:∀b,G.Z b→b<w.heap.size)(hS:∀b o,G.S b o→b<w.heap.size)(o:Obj):bP G.N G w (G.dx w.heap.size) (w.alloc o):=
 ⟨by simp,fun _ _ h=>h,fun b _ h=>World.cell?_alloc_lt _ _ _ (hS _ _ h),fun n hn=>by simp [Gh.dx,Nat.ne_of_lt hn],fun _ _=> .inl ⟨rfl,rfl⟩,fJ rfl,
  fun b hb=>Below.heap_alloc w o b (hz b hb),rfl,rfl,rfl,fun _ _ h=> .inl h⟩
theorem Sj{G:Gh}{w:akg}{h:akb aq}(hi:bV G w h)(vs:Array akf)(T:TypeId)(cs:akb AV)(hl:vs.size=cs.length)
 (hr:∀(i:Nat)(u:akf)(c:AV),vs[i]?=some u→cs[i]?=some c→aL G w u c):
 bV (G.dx w.heap.size) (w.alloc (.cells vs T)) (h++[.cells cs])∧aL (G.dx w.heap.size) (w.alloc (.cells vs T)) (.pointer (some ⟨w.heap.size,0,none⟩)) (.ptr h.length 0):=by
 have hE:=Ee G w hi.z hi.S (.cells vs T);have hN:G.N≤(G.dx w.heap.size).N:=Nat.le_succ _;have ib:(G.dx w.heap.size).bm h.length=w.heap.size:=by simp [Gh.dx,hi.len]
 have lP:∀n(B:aq),n<G.N→B.dv (G.dx w.heap.size) n=B.dv G n:=fun n B hn=>by
  cases B<;>simp [aq.dv,Gh.dx,Nat.ne_of_lt hn]
 have fw:∀n,n<G.N→b6 (h++[.cells cs]) (G.dx w.heap.size) n=b6 h G n:=fun n hn=>by
  have aX:n<h.length:=by rw[hi.len];exact hn
  unfold b6;rw[ajx aX,ajr aX];exact lP n _ hn
 have BD:b6 (h++[.cells cs]) (G.dx w.heap.size) h.length=some w.heap.size:=by
  rw[dm (B:= .cells cs) (by simp)];exact congrArg some ib
 refine⟨⟨by simp [Gh.dx,hi.len],fun b hb=>ajL (hi.z b hb) hE.size,fun b o hs=>ajL (hi.S b o hs) hE.size,fun n B hB=> ?_,fun m n b hm hn=> ?_,hi.gl.bn hE⟩,?_⟩
 ·by_cases hn:n<h.length
  ·rw[ajx hn]at hB;have eE:n<G.N:=hi.len▸hn;exact dC.bn eE hE hN ⟨rfl,rfl,rfl⟩ (fun b hb=>⟨Below.heap_alloc w _ _ (hi.gP (n:=n) ((dm hB).trans hb)),fun o h=>h⟩) (hi.cU n B hB)
  ·have lz:n=h.length:=by
    have:=(ajn.1 hB).1;simp at this;omega
   subst lz;simp at hB;subst hB;exact⟨by rw[ib];exact fun hz=>aj1 _ (hi.z _ hz),fun o hs=>by rw[ib]at hs;exact aj1 _ (hi.S _ _ hs),vs,T,by rw[ib];exact World.alloc_heap_new w _,hl,fun i u c hu hc=>(hr i u c hu hc).bn hE hN⟩
 ·have key:∀n b,b6 (h++[.cells cs]) (G.dx w.heap.size) n=some b→(n<G.N∧b6 h G n=some b)∨(n=h.length∧b=w.heap.size):=fun n b hn=>by
   by_cases aX:n<G.N
   ·exact .inl ⟨aX,by rw[←fw n aX];exact hn⟩
   ·by_cases e:n=h.length
    ·subst e;rw[BD]at hn;cases hn;exact .inr ⟨rfl,rfl⟩
    ·rw[AO (ajT (by simp;have:=hi.len;omega))]at hn;cases hn
  rcases key m b hm with⟨_,jR⟩|⟨rfl,rfl⟩<;>rcases key n _ hn with⟨_,eE⟩|⟨rfl,hb⟩
  ·exact hi.inj m n b jR eE
  ·have:=hi.gP jR;omega
  ·have:=hi.gP eE;omega
  ·rfl
 ·have:=aL.ptr (G:=G.dx w.heap.size) (w:=w.alloc (.cells vs T)) h.length 0 (by simp [Gh.dx,hi.len])
  rwa [ib]at this
theorem JN(w:akg)(g:Nat)(cs:Array akf):(w.setRow g cs).heap.size=w.heap.size:=by simp [World.setRow]
theorem aik(w:akg)(g:Nat)(cs:Array akf)(b o:Nat)(h:b≠g):(w.setRow g cs).cell? ⟨b,o,none⟩=w.cell? ⟨b,o,none⟩:=World.cell?_of_block (setRow_other w g b cs h)
theorem aep{G:Gh}{w:akg}{g:Nat}(cs:Array akf)(hg:¬G.Z g)(hS:∀b o,G.S b o→(w.setRow g cs).cell? ⟨b,o,none⟩=w.cell? ⟨b,o,none⟩):bP G.N G w G (w.setRow g cs):=
 ⟨by rw[JN];exact ajy _,fun _ _ h=>h,hS,fun _ _=>rfl,fun _ _=> .inl ⟨rfl,rfl⟩,fJ rfl,fun b hb=>setRow_other w g b cs (fun e=>hg (e▸hb)),rfl,rfl,rfl,fun _ _ h=> .inl h⟩
theorem CS(cs ys:akb AV)(off:Nat)(h:off+ys.length≤cs.length):(fI cs off ys).length=cs.length:=by
 simp [fI];omega
theorem ahx{R:akf→AV→Prop}(vs us:Array akf)(cs ys:akb AV)(off:Nat)(hl:vs.size=cs.length)(hu:us.size=ys.length)(hb:off+ys.length≤cs.length)
 (hr:∀(i:Nat)(u:akf)(c:AV),vs[i]?=some u→cs[i]?=some c→R u c) (nj:∀(i:Nat)(u:akf)(c:AV),us[i]?=some u→ys[i]?=some c→R u c):
 ∀(i:Nat)(u:akf)(c:AV),(vs.toList.take off++us.toList++vs.toList.drop (off+us.toList.length)).toArray[i]?=some u→(fI cs off ys)[i]?=some c→R u c:=by
 intro i u c h1 h2;have mG:us.toList.length=ys.length:=by rw[ajU,hu]
 rw[mG]at h1;rw[List.getElem?_toArray]at h1;unfold fI at h2;simp only[ajE]at h1 h2;have vo:vs.toList.length=cs.length:=by rw[ajU,hl]
 by_cases h:i<off
 ·rw[ajx (by simp;omega),List.getElem?_take_of_lt h]at h1;rw[ajx (by simp;omega),List.getElem?_take_of_lt h]at h2;exact hr i u c (by rw[←ajK];exact h1) h2
 ·rw[ajD (by simp;omega)]at h1 h2;simp only[List.length_take,vo]at h1 h2;rw[Nat.min_eq_left (by omega)]at h1 h2;by_cases h':i-off<ys.length
  ·rw[ajx (by rw[mG];exact h')]at h1;rw[ajx h']at h2;exact nj (i-off) u c (by rw[←ajK];exact h1) h2
  ·rw[ajD (by rw[mG];omega),List.getElem?_drop]at h1;rw[ajD (by omega),List.getElem?_drop]at h2;rw[mG]at h1;rw[show off+ys.length+(i-off-ys.length)=i by omega]at h1 h2;exact hr i u c (by rw[←ajK];exact h1) h2
theorem agz{P:ake}{G:Gh}{w:akg}{h:akb aq}(hi:bV G w h){n off:Nat}{cs:akb AV}(hn:h[n]?=some (.cells cs)){t:TypeId}{v:akf}{x:AV}
 (hv:aL G w v x) (hb:x.gR=true) (ht:eF P t=some x.cells.length) (ho:off+x.cells.length≤cs.length):
 ∃w',(storeVar t ⟨G.bm n,off,none⟩ v).run P w= .ok () w'∧bP G.N G w G w'∧bV G w' (h.set n (.cells (fI cs off x.cells))):=by
 obtain⟨hz,hS,vs,T,hh,hl,hr⟩:=hi.cU n _ hn;obtain⟨AB,Wj⟩:=hv.cells hb;obtain⟨i,iq,iT⟩:∃i,P.info? t=some i∧i.size=x.cells.length:=by
  unfold eF at ht;cases hq:P.info? t with
  |none=>rw[hq]at ht;cases ht
  |some i=>rw[hq]at ht;exact⟨i,rfl,by simpa using ht⟩
 have fD:=run_storeCells_at P (G.bm n) off T v.cells.toList 0 vs w hh (by rw[ajU,AB,hl];simpa using ho) (fun u hu=>by
  obtain⟨j,hj⟩:=List.mem_iff_getElem?.1 hu;have gY:v.cells[j]?=some u:=by rw[←ajK];exact hj
  have zk:j<x.cells.length:=by rw[←AB];exact(ajC.1 gY).1
  exact(Wj j u _ gY (ajr zk)).2)
 simp only[Nat.add_zero]at fD;obtain⟨w',dI⟩:∃w',w'=w.setRow (G.bm n) (vs.toList.take off++v.cells.toList++vs.toList.drop (off+v.cells.toList.length)).toArray:=⟨_,rfl⟩;rw[←dI]at fD;have hE:bP G.N G w G w':=by
  rw[dI];exact aep _ hz fun b o hs=>aik w _ _ b o (fun e=>hS o (e▸hs))
 have dT:∀m,m≠n→(h.set n (.cells (fI cs off x.cells)))[m]?=h[m]?:=fun m hm=>by rw[ajV (Ne.symm hm)]
 have ki:(h.set n (.cells (fI cs off x.cells)))[n]?=some (.cells (fI cs off x.cells)):=by
  rw[ajQ (ajn.1 hn).1]
 have dE:∀m,b6 (h.set n (.cells (fI cs off x.cells))) G m=b6 h G m:=fun m=>by
  by_cases e:m=n
  ·subst e;rw[dm ki,dm hn];rfl
  ·unfold b6;rw[dT m e]
 have lh:b6 h G n=some (G.bm n):=dm hn;refine⟨w',?_,hE,⟨by rw[List.length_set];exact hi.len,fun b hb=>ajL (hi.z b hb) hE.size,fun b o hs=>ajL (hi.S b o hs) hE.size,fun m B hB=> ?_,fun m m' b h1 h2=>hi.inj m m' b (by rw[←dE];exact h1) (by rw[←dE];exact h2),hi.gl.bn hE⟩⟩
 ·unfold storeVar;simp only[sizeOf,typeInfo,Sem.run_bind,AB];simp [iq,iT,fD]
 ·by_cases e:m=n
  ·subst e;rw[ki]at hB;cases hB
   refine⟨hz,hS,_,T,by rw[dI];exact setRow_heap w _ vs _ T _ hh,?_,fun i u c hu hc=> ?_⟩
   ·rw[CS _ _ _ ho];have:v.cells.toList.length=x.cells.length:=by rw[ajU];exact AB
    simp only[List.size_toArray,ajo,List.length_take,List.length_drop,ajU,hl,AB];omega
   ·exact(ahx (R:=aL G w) vs v.cells cs x.cells off hl AB ho hr (fun i u c h1 h2=>(Wj i u c h1 h2).1) i u c hu hc).bn hE (ajy _)
  ·rw[dT m e]at hB;have cu:∀b,b6 h G m=some b→b≠G.bm n:=fun b hb eb=>e (hi.inj m n b hb (by rw[eb];exact lh));refine dC.bn (hi.lt hB) hE (ajy _) ⟨rfl,rfl,rfl⟩ (fun b hb=>⟨?_,fun o h=>h⟩) (hi.cU m B hB);rw[dI];exact setRow_other w _ _ _ (cu _ ((dm hB).trans hb))
theorem cY.nS{S:Nat→Nat→Prop}{w:akg}{v:akf}{xs:akb (akb D)}(h:cY S w v (.sl xs)):
 ∃(A:akd Addr)(b o c k:Nat)(u:Nat→Nat→akf),v= .slice A xs.length c∧(xs≠ []→A=some ⟨b,o,none⟩)∧xs.length≤c∧c≤maxLen∧(∀x∈xs,x.length=k)∧
  (∀i j,i<xs.length→j<k→S b (o+i*k+j)∧w.cell? ⟨b,o+i*k+j,none⟩=some (u i j)∧(u i j).oneCell'=true)∧
  (∀(i j:Nat)(x:akb D)(d:D),xs[i]?=some x→x[j]?=some d→cY S w (u i j) d):=by
 cases h with
 |sl A b o c k xs u hA hc hm hk hS hu=>exact⟨A,b,o,c,k,u,rfl,hA,hc,hm,hk,hS,hu⟩
structure Rd(S:Nat→Nat→Prop)(w:World)(k:Nat)(xs:List (List D))(us:List Value):Prop where
 len:us.length=xs.length*k
 wid:∀x∈xs,x.length=k
 one:∀u∈us,u.oneCell'=true
 rel:∀(i j:Nat)(x:List D)(d:D),xs[i]?=some x→x[j]?=some d→∃u,us[i*k+j]?=some u∧cY S w u d
theorem Rd.bn{S S':Nat→Nat→Prop}{w w':akg}{k:Nat}{xs:akb (akb D)}{us:akb akf}(h:Rd S w k xs us)(hS:∀b o,S b o→S' b o)(hc:∀b o,S b o→w'.cell? ⟨b,o,none⟩=w.cell? ⟨b,o,none⟩):Rd S' w' k xs us:=
 ⟨h.len,h.wid,h.one,fun i j x d hx hd=>let ⟨u,h1,h2⟩:=h.rel i j x d hx hd;⟨u,h1,h2.bn hS hc⟩⟩
theorem Rd.append{S:Nat→Nat→Prop}{w:akg}{k:Nat}{xs ys:akb (akb D)}{us vs:akb akf}(h:Rd S w k xs us)(h':Rd S w k ys vs):Rd S w k (xs++ys) (us++vs):=by
 refine⟨by rw[ajo,ajo,h.len,h'.len,Nat.add_mul],fun x hx=> ?_,fun u hu=> ?_,fun i j x d hx hd=> ?_⟩
 ·rcases ajZ.1 hx with hx|hx
  ·exact h.wid x hx
  ·exact h'.wid x hx
 ·rcases ajZ.1 hu with hu|hu
  ·exact h.one u hu
  ·exact h'.one u hu
 ·by_cases hi:i<xs.length
  ·rw[ajx hi]at hx;obtain⟨u,h1,h2⟩:=h.rel i j x d hx hd;exact⟨u,by rw[ajx (ajn.1 h1).1];exact h1,h2⟩
  ·rw[ajD (by omega)]at hx;obtain⟨u,h1,h2⟩:=h'.rel (i-xs.length) j x d hx hd;refine⟨u,?_,h2⟩;have e:i*k+j=xs.length*k+((i-xs.length)*k+j):=by rw[Nat.sub_mul];have:=Nat.mul_le_mul_right k (Nat.le_of_not_lt hi);omega
   rw[e,ajD (by rw[h.len];omega),h.len,Nat.add_sub_cancel_left];exact h1
theorem Rd.FH{S:Nat→Nat→Prop}{w:akg}{k:Nat}{xs:akb (akb D)}{us:akb akf}(h:Rd S w k xs us)(b c:Nat)(hc:xs.length≤c)(hm:c≤maxLen)
 (hS:∀o,o<xs.length*k→S b o) (fY:∀(o:Nat)(u:akf),us[o]?=some u→w.cell? ⟨b,o,none⟩=some u):cY S w (.slice (some ⟨b,0,none⟩) xs.length c) (.sl xs):=by
 refine .sl _ b 0 c k xs (fun i j=>us.getD (i*k+j) undef) (fun _=>rfl) hc hm h.wid (fun i j hi hj=> ?_) (fun i j x d hx hd=> ?_)
 ·have aX:i*k+j<xs.length*k:=by
   have:(i+1)*k≤xs.length*k:=Nat.mul_le_mul_right k hi;rw[Nat.add_mul]at this;omega
  have hg:us[i*k+j]?=some (us[i*k+j]'(by rw[h.len];exact aX)):=ajr (by rw[h.len];exact aX);rw[ajH];refine⟨hS _ aX,?_,?_⟩
  ·rw[fY _ _ hg];simp [hg]
  ·simp only[List.getD_eq_getElem?_getD,hg,Option.getD_some];exact h.one _ (List.getElem_mem _)
 ·obtain⟨u,h1,h2⟩:=h.rel i j x d hx hd;simp only[List.getD_eq_getElem?_getD,h1,Option.getD_some];exact h2
theorem cY.rd{S:Nat→Nat→Prop}{w:akg}{v:akf}{xs:akb (akb D)}{k:Nat}(h:cY S w v (.sl xs))(fk:0<k)(hk:∀x∈xs,x.length=k):
 ∃us,Rd S w k xs us∧∃A c,v= .slice A xs.length c∧xs.length≤c∧c≤maxLen∧(xs≠ []→∃b o,A=some ⟨b,o,none⟩∧∀(j:Nat)(u:akf),us[j]?=some u→S b (o+j)∧w.cell? ⟨b,o+j,none⟩=some u):=by
 obtain⟨A,b,o,c,k',u,rfl,hA,hc,hm,gO,hS,hu⟩:=h.nS;by_cases hx:xs=[]
 ·subst hx;exact⟨[],⟨by simp,(fun _ h=>by cases h),(fun _ h=>by cases h),fun i j x d hx=>by simp at hx⟩,A,c,rfl,hc,hm,fun h=>absurd rfl h⟩
 ·have ek:k'=k:=by
   obtain⟨x,l7⟩:=List.exists_mem_of_ne_nil xs hx;rw[←gO x l7,hk x l7]
  subst ek;refine⟨(List.range (xs.length*k')).map fun t=>u (t / k') (t%k'),⟨by simp,hk,fun v hv=> ?_,fun i j x d hx hd=> ?_⟩,A,c,rfl,hc,hm,fun cu=>⟨b,o,hA cu,fun j v hv=> ?_⟩⟩
  ·obtain⟨t,ht,rfl⟩:=List.mem_map.1 hv;have pA:=List.mem_range.1 ht;exact(hS (t / k') (t%k') (Nat.div_lt_of_lt_mul (by rw[Nat.mul_comm];exact pA)) (Nat.mod_lt _ fk)).2.2
  ·have hj:j<k':=by rw[←hk x (ajA hx)];exact(ajn.1 hd).1
   have hi:i<xs.length:=(ajn.1 hx).1;refine⟨u i j,?_,hu i j x d hx hd⟩;have aX:i*k'+j<xs.length*k':=by
    have:(i+1)*k'≤xs.length*k':=Nat.mul_le_mul_right k' hi;rw[Nat.add_mul]at this;omega
   rw[aju,List.getElem?_range aX];simp only[Option.map_some,Option.some.injEq];rw[show(i*k'+j)/ k'=i by rw[Nat.add_comm,Nat.add_mul_div_right _ _ fk,Nat.div_eq_of_lt hj,ajH],show(i*k'+j)%k'=j by rw[Nat.add_comm,Nat.add_mul_mod_self_right,Nat.mod_eq_of_lt hj]]
  ·rw[aju]at hv;by_cases hj:j<xs.length*k'
   ·rw[List.getElem?_range hj]at hv;simp only[Option.map_some,Option.some.injEq]at hv;subst hv;have:=hS (j / k') (j%k') (Nat.div_lt_of_lt_mul (by rw[Nat.mul_comm];exact hj)) (Nat.mod_lt _ fk);have e:o+j / k'*k'+j%k'=o+j:=by have:=Nat.div_add_mod j k';rw[Nat.mul_comm]at this;omega
    rw[e]at this;exact⟨this.1,this.2.1⟩
   ·rw[ajT (by simp;omega)]at hv;cases hv
theorem cY.src{P:ake}{S:Nat→Nat→Prop}{w:akg}{v:akf}{xs:akb (akb D)}{k:Nat}(h:cY S w v (.sl xs))(fk:0<k)(hk:∀x∈xs,x.length=k){tx e':TypeId}(ht:P.underlying tx=some (.slice e')):
 ∃us,Rd S w k xs us∧Src P k tx v xs.length us w:=by
 obtain⟨us,hr,A,c,rfl,_,_,hA⟩:=h.rd fk hk;refine⟨us,hr,?_⟩;by_cases hx:xs=[]
 ·subst hx;have kr:us=[]:=List.eq_nil_of_length_eq_zero (by rw[hr.len];simp);subst kr;cases A with
  |none=>exact Src.ofNil w ht c
  |some a=>exact Src.ofSlice w ht a 0 c [] (by simp) (fun j u hu=>by simp at hu) (fun u hu=>by cases hu)
 ·obtain⟨b,o,rfl,hc⟩:=hA hx;exact Src.ofSlice w ht _ _ c us hr.len (fun j u hu=>by rw[jJ];exact(hc j u hu).2) hr.one
def Gh.fQ(G:Gh)(v:akf)(len:Nat):Gh:=
 {G with N:=G.N+1,sg:=fun n=>if n=G.N then v else G.sg n,fl:=fun n=>if n=G.N then len else G.fl n,ow:=fun n=>if n=G.N then none else G.ow n}
theorem TO{G:Gh}{w:akg}{h:akb aq}(hi:bV G w h){v:akf}{xs:akb (akb D)}(hv:cY G.S w v (.sl xs))(hf:∃A,v= .slice A xs.length xs.length)(e:TypeId)(k:Nat):
 bP G.N G w (G.fQ v xs.length) w∧G.N≤(G.fQ v xs.length).N∧bV (G.fQ v xs.length) w (h++[.front e k xs.length])∧aL (G.fQ v xs.length) w v (.own h.length xs):=by
 have cu:∀n,n<G.N→n≠G.N:=fun n hn=>Nat.ne_of_lt hn;have hE:bP G.N G w (G.fQ v xs.length) w:=⟨ajy _,fun _ _ h=>h,fun _ _ _=>rfl,fun _ _=>rfl,fun n hn=> .inl ⟨by simp [Gh.fQ,cu n hn],by simp [Gh.fQ,cu n hn]⟩,fJ rfl,fun _ _=>rfl,rfl,rfl,rfl,fun _ _ h=> .inl h⟩;have hN:G.N≤(G.fQ v xs.length).N:=Nat.le_succ _;have Ug:xs.length≤maxLen:=by
  obtain⟨A,b,o,c,k',u,_,_,h1,h2,_⟩:=hv.nS;exact ajF h1 h2
 have lP:∀n(B:aq),n<G.N→B.dv (G.fQ v xs.length) n=B.dv G n:=fun n B hn=>by
  cases B<;>simp [aq.dv,Gh.fQ,Nat.ne_of_lt hn]
 have hold:∀n b,b6 (h++[.front e k xs.length]) (G.fQ v xs.length) n=some b→b6 h G n=some b:=fun n b hb=>by
  by_cases hn:n<h.length
  ·unfold b6 at hb ⊢;rw[ajx hn,ajr hn]at hb;rw[ajr hn];rw[←hb];exact(lP n _ (hi.len▸hn)).symm
  ·by_cases en:n=h.length
   ·subst en;rw[dm (B:= .front e k xs.length) (by simp)]at hb;simp [aq.dv,Gh.fQ,hi.len]at hb
   ·rw[AO (ajT (by simp;omega))]at hb;cases hb
 refine⟨hE,hN,⟨by simp [Gh.fQ,hi.len],hi.z,hi.S,fun n B hB=> ?_,fun m n b hm hn=>hi.inj m n b (hold m b hm) (hold n b hn),hi.gl.bn hE⟩,?_⟩
 ·by_cases hn:n<h.length
  ·rw[ajx hn]at hB;have eE:n<G.N:=hi.len▸hn;exact dC.bn eE hE hN ⟨by simp [Gh.fQ,cu n eE],by simp [Gh.fQ,cu n eE],by simp [Gh.fQ,cu n eE]⟩ (fun b hb=>⟨rfl,fun o h=>h⟩) (hi.cU n B hB)
  ·have lz:n=h.length:=by
    have:=(ajn.1 hB).1;simp at this;omega
   subst lz;simp at hB;subst hB;obtain⟨A,hA⟩:=hf;exact⟨by simp [Gh.fQ,hi.len],Ug, .inl ⟨by simp [Gh.fQ,hi.len],A,by simp [Gh.fQ,hi.len,hA]⟩⟩
 ·exact .own h.length xs (by simp [Gh.fQ,hi.len]) hv (by simp [Gh.fQ,hi.len]) (fun _=>by simp [Gh.fQ,hi.len])
theorem OQ{P:ake}{e k b:Nat}(hk:eF P e=some k)(hb:qS P e=some b):∃i,P.info? e=some i∧i.size=k∧i.bytes=b:=by
 unfold eF at hk;unfold qS at hb;cases hq:P.info? e with
 |none=>rw[hq]at hk;cases hk
 |some i=>rw[hq]at hk hb;exact⟨i,rfl,by simpa using hk,by simpa using hb⟩
def Gh.grow(G:Gh)(n:Nat)(S:Nat→Nat→Prop)(v:akf)(len:Nat)(ow:akd Nat):Gh:=
 {G with S:=S,sg:=fun m=>if m=n then v else G.sg m,fl:=fun m=>if m=n then len else G.fl m,ow:=fun m=>if m=n then ow else G.ow m}
theorem TS{G:Gh}{w w':akg}{h:akb aq}(hi:bV G w h){n e k len fj:Nat}(hn:h[n]?=some (.front e k len))(S:Nat→Nat→Prop)(v:akf)(g:Nat)
 (hE:bP G.N G w (G.grow n S v fj (some g)) w') (hg:g=w.heap.size∨G.ow n=some g) (hgw:g<w'.heap.size)
 (hS:∀b o,S b o→G.S b o∨b=g) (gg:∀b,b<w.heap.size→b≠g→w'.heap[b]?=w.heap[b]?)
 (hB:dC (G.grow n S v fj (some g)) w' n (.front e k fj)):bV (G.grow n S v fj (some g)) w' (h.set n (.front e k fj)):=by
 have dT:∀m,m≠n→(h.set n (.front e k fj))[m]?=h[m]?:=fun m hm=>by rw[ajV (Ne.symm hm)]
 have ki:(h.set n (.front e k fj))[n]?=some (.front e k fj):=by rw[ajQ (ajn.1 hn).1]
 have lP:∀m(B:aq),m≠n→B.dv (G.grow n S v fj (some g)) m=B.dv G m:=fun m B hm=>by
  cases B<;>simp [aq.dv,Gh.grow,hm]
 have dE:∀m,m≠n→b6 (h.set n (.front e k fj)) (G.grow n S v fj (some g)) m=b6 h G m:=fun m hm=>by
  unfold b6;rw[dT m hm];cases h[m]? with
  |none=>rfl
  |some B=>exact lP m B hm
 have uo:∀m,m≠n→b6 h G m≠some g:=fun m hm hb=>by
  rcases hg with hg|hg
  ·have:=hi.gP hb;omega
  ·exact hm (hi.inj m n g hb ((dm hn).trans hg))
 refine⟨by rw[List.length_set];exact hi.len,fun b hb=>ajL (hi.z b hb) hE.size,fun b o hs=> ?_,fun m B hm=> ?_,fun m m' b h1 h2=> ?_,hi.gl.bn hE⟩
 ·rcases hS b o hs with hs|hs
  ·exact ajL (hi.S b o hs) hE.size
  ·rw[hs];exact hgw
 ·by_cases em:m=n
  ·subst em;rw[ki]at hm;cases hm;exact hB
  ·rw[dT m em]at hm;refine dC.bn (hi.lt hm) hE (ajy _) ⟨by simp [Gh.grow,em],by simp [Gh.grow,em],by simp [Gh.grow,em]⟩ (fun b hb=> ?_) (hi.cU m B hm);have hr:b6 h G m=some b:=(dm hm).trans hb;have cu:b≠g:=fun e'=>uo m em (by rw[hr,e']);refine⟨gg _ (hi.gP hr) cu,fun o jC hs=> ?_⟩;rcases hS _ o hs with hs|hs
   ·exact jC hs
   ·exact cu hs
 ·by_cases e1:m=n<;>by_cases e2:m'=n
  ·rw[e1,e2]
  ·subst e1;rw[dE m' e2]at h2;have:b6 (h.set m (.front e k fj)) (G.grow m S v fj (some g)) m=some g:=by rw[dm ki];simp [aq.dv,Gh.grow]
   rw[this]at h1;cases h1;exact absurd h2 (uo m' e2)
  ·subst e2;rw[dE m e1]at h1;have:b6 (h.set m' (.front e k fj)) (G.grow m' S v fj (some g)) m'=some g:=by rw[dm ki];simp [aq.dv,Gh.grow]
   rw[this]at h2;cases h2;exact absurd h1 (uo m e1)
  ·rw[dE m e1]at h1;rw[dE m' e2]at h2;exact hi.inj m m' b h1 h2
set_option maxHeartbeats 1000000 in
theorem SI{P:ake}{G:Gh}{w:akg}{h:akb aq}(hi:bV G w h){T tx ty e k ct:Nat}{i:TypeInfo}{z:akf}(hT:P.underlying T=some (.slice e))(js:P.info? e=some i)(hz:i.zero=some z)(m6:i.size=k)(uH:i.bytes=ct)(iB:z.cells.size=k)
 (fk:0<k) {n:Nat} {xs ys:akb (akb D)} (hn:h[n]?=some (.front e k xs.length)) {u v:akf} (hu:aL G w u (.own n xs)) (lU:∀x∈xs,x.length=k)
 {us:akb akf} (hr:Rd G.S w k ys us) (hs:Src P k tx v ys.length us w) (uw:xs.length+ys.length≤maxLen) (nT:(xs.length+ys.length)*ct≤140737488355328):
 ∃r w' G',(Builtin.append_ #[T,tx] ty #[u,v]).run P w= .ok r w'∧bP G.N G w G' w'∧G.N≤G'.N∧bV G' w' (h.set n (.front e k (xs.length+ys.length)))∧aL G' w' r (.own n (xs++ys)):=by
 subst m6;subst uH;have mn:=hi.lt hn;obtain⟨kf,Ug,hbr⟩:=hi.cU n _ hn;obtain⟨hp,SO⟩:cY G.S w u (.sl xs)∧u=G.sg n:=by
  cases hu with
  |own _ _ _ hp hle hf=>exact⟨hp,hf kf.symm⟩
 obtain⟨olds,xG,A,c,xJ,jD,qz,hA⟩:=hp.rd fk lU;have L4:h.set n (.front e i.size (xs.length+0))=h:=by
  rw[Nat.add_zero];refine List.ext_getElem? fun m=> ?_;by_cases em:m=n
  ·subst em;rw[ajQ (ajn.1 hn).1,hn]
  ·rw[ajV (Ne.symm em)]
 by_cases hy:ys.length=0
 ·have ir:ys=[]:=List.eq_nil_of_length_eq_zero hy;subst ir;have kr:us=[]:=List.eq_nil_of_length_eq_zero (by rw[hr.len];simp);subst kr;have:=run_append_nothing (P:=P) w T tx ty e i hT js A xs.length c jD v hs;refine⟨u,w,G,by rw[xJ];exact this,bP.refl _ _ _,ajy _,?_,by rw[ajI];exact hu⟩;simp only[ajz];rw[L4];exact hi
 ·have hy0:0<ys.length:=Nat.pos_of_ne_zero hy;have K7:xs.length+ys.length≤9223372036854775807:=by simp only[maxLen]at uw;omega
  have NN:Rd G.S w i.size (xs++ys) (olds++us):=xG.append hr;have grow:c<xs.length+ys.length→∃r w' G',(Builtin.append_ #[T,tx] ty #[u,v]).run P w= .ok r w'∧bP G.N G w G' w'∧G.N≤G'.N∧bV G' w' (h.set n (.front e i.size (xs.length+ys.length)))∧aL G' w' r (.own n (xs++ys)):=by
   intro hg;have hold:(Builtin.firstCells i.size xs.length (.slice A xs.length c)).run P w.drew= .ok olds.toArray w.drew:=by
    by_cases hx:xs=[]
    ·subst hx;have:olds=[]:=List.eq_nil_of_length_eq_zero (by rw[xG.len];simp);subst this;cases A with
     |none=>exact run_firstCells_none _ _ _ _ _
     |some a=>exact run_firstCells_some _ _ _ _ _ _ [] (by simp) (fun j u hu=>by simp at hu)
    ·obtain⟨b,o,rfl,hc⟩:=hA hx;exact run_firstCells_some _ _ _ _ _ _ olds xG.len (fun j u hu=>by rw[jJ];exact(hc j u hu).2)
   have dc:=run_append_grow_src (P:=P) w T tx ty e i z hT js hz A xs.length c olds hold v ys.length us hs hg (by omega) (growslice_fits hg nT);obtain⟨cap,iM⟩:∃cap,cap=grownCap w (xs.length+ys.length) c e:=⟨_,rfl⟩;have iS:xs.length+ys.length≤cap:=by rw[iM];exact grownCap_ge _ _ _ _
   have hle:cap≤maxLen:=by rw[iM];exact grownCap_le_maxLen _ _ _ _ uw
   rw[←iM]at dc;obtain⟨cur,iQ⟩:∃cur,cur=(olds++us).toArray++Builtin.zeroCells z.cells (cap-(xs.length+ys.length)):=⟨_,rfl⟩;rw[←iQ]at dc;obtain⟨w',dI⟩:∃w',w'=w.drew.alloc (.cells cur e):=⟨_,rfl⟩;rw[←dI]at dc;have fg:cur.size=cap*i.size:=by
     have:=size_zeroCells z.cells (cap-(xs.length+ys.length));rw[iQ,Array.size_append,this,List.size_toArray,NN.len,iB,ajo,←Nat.add_mul]
     congr 1
     omega
   have fw:w'.heap[w.heap.size]?=some (.cells cur e (0,0)):=by rw[dI];exact World.alloc_heap_new w.drew _
   have MW:∀b,b<w.heap.size→w'.heap[b]?=w.heap[b]?:=fun b hb=>by rw[dI];exact Below.heap_alloc w.drew _ b hb
   have gz:w'.heap.size=w.heap.size+1:=by rw[dI];simp
   obtain⟨S,hS⟩:∃S:Nat→Nat→Prop,S=fun b o=>G.S b o∨(b=w.heap.size∧o<(xs.length+ys.length)*i.size):=⟨_,rfl⟩;have fY:∀b o,G.S b o→w'.cell? ⟨b,o,none⟩=w.cell? ⟨b,o,none⟩:=fun b o hs=>World.cell?_of_block (MW b (hi.S b o hs));have hE:bP G.N G w (G.grow n S (.slice (some ⟨w.heap.size,0,none⟩) (xs.length+ys.length) cap) (xs.length+ys.length) (some w.heap.size)) w':=
    ⟨by rw[gz];exact Nat.le_succ _,fun b o h=>by show S b o;rw[hS];exact .inl h,fY,fun _ _=>rfl,
     fun m _=>by
      by_cases em:m=n
      ·right;subst em;simp only[Gh.grow,if_true,kf];omega
      ·left;exact⟨by simp [Gh.grow,em],by simp [Gh.grow,em]⟩,
     fJ rfl,fun b hb=>MW b (hi.z b hb),by rw[dI];rfl,by rw[dI];rfl,by rw[dI];rfl,fun b o hs=>by
      have cp:S b o:=hs;rw[hS]at cp;rcases cp with h|⟨rfl,_⟩
      ·exact .inl h
      ·exact .inr fun hz=>aj1 _ (hi.z _ hz)⟩
   have hP:cY S w' (.slice (some ⟨w.heap.size,0,none⟩) (xs++ys).length cap) (.sl (xs++ys)):=by
    refine(NN.bn (S':=S) (w':=w') (fun b o h=>by rw[hS];exact .inl h) fY).FH w.heap.size cap (by rw[ajo];exact iS) hle (fun o ho=>by rw[hS];exact .inr ⟨rfl,by rw[ajo]at ho;exact ho⟩) (fun o x ho=> ?_);rw[cell_of_row w' w.heap.size o cur e (0,0) fw,iQ,Array.getElem?_append_left (by simp only[List.size_toArray];exact(ajn.1 ho).1),List.getElem?_toArray];exact ho
   rw[ajo]at hP;refine⟨_,w',_,by rw[xJ];exact dc,hE,ajy _,TS hi hn S _ w.heap.size hE (.inl rfl) (by rw[gz];exact aj9 _) (fun b o hs=> ?_) (fun b hb _=>MW b hb) ?_,?_⟩
   ·rw[hS]at hs;exact hs.imp id And.left
   ·refine⟨by simp [Gh.grow],uw, .inr ⟨w.heap.size,cap,cur,by simp [Gh.grow],by simp [Gh.grow],fun hz=>aj1 _ (hi.z _ hz),fw,iS,hle,fg,fun o ho hs=> ?_⟩⟩;have cp:S w.heap.size o:=hs;rw[hS]at cp;rcases cp with cp|⟨_,cp⟩
    ·have:=hi.S _ _ cp;omega
    ·omega
   ·exact .own n (xs++ys) mn hP (by simp [Gh.grow]) (fun _=>by simp [Gh.grow])
  rcases hbr with⟨iP,A',jM⟩|⟨g,cap,cur,iP,jM,Ha,oT,MZ,Ox,QJ,RH⟩
  ·refine grow ?_;rw[SO,jM]at xJ;cases xJ
   omega
  ·have Sb:=xJ;rw[SO,jM]at Sb;injection Sb with eA0 _ e1;have e2:=e1.symm;subst e2;subst eA0;by_cases oB:xs.length+ys.length≤c
   ·
    have kj:xs.length*i.size+us.length≤cur.size:=by rw[hr.len,QJ,←Nat.add_mul];exact Nat.mul_le_mul_right _ oB
    have A1:∀o,w.cell? ⟨g,o,none⟩=cur[o]?:=fun o=>cell_of_row w g o cur e (0,0) oT;have yB:∀j,j<us.length→(w.cell? ⟨g,0+xs.length*i.size+j,none⟩).isSome=true:=fun j hj=>by
     rw[A1,ajH,ajJ (by omega)];rfl
    have dc:=run_append_room_src (P:=P) w T tx ty e i hT js g 0 xs.length c v ys.length us hs oB yB
     (fun j hj=>by unfold World.frozen?;rw[oT];simp)
    rw[ajH]at dc yB;obtain⟨w',dI⟩:∃w',w'=w.setCells g (xs.length*i.size) us:=⟨_,rfl⟩;rw[←dI]at dc;have abf:g<w.heap.size:=(ajC.1 oT).1;have fD:=run_storeCells_at P g (xs.length*i.size) e us 0 cur w oT (by simpa using kj) hs.one;have wj:=run_storeCells_cells (P:=P) g (xs.length*i.size) us 0 w (by simpa using yB) (fun j hj=>by unfold World.frozen?;rw[oT];simp) hs.one;simp only[Nat.add_zero]at fD wj;rw[fD]at wj;have wA:w'=w.setRow g (cur.toList.take (xs.length*i.size)++us++cur.toList.drop (xs.length*i.size+us.length)).toArray:=by
      rw[dI];injection wj with _ e2;exact e2.symm
    obtain⟨nD,LC⟩:∃nD:Array akf,nD=(cur.toList.take (xs.length*i.size)++us++cur.toList.drop (xs.length*i.size+us.length)).toArray:=⟨_,rfl⟩;rw[←LC]at wA;have mN:w'.heap[g]?=some (.cells nD e (0,0)):=by rw[wA];exact setRow_heap w g cur nD e _ oT
    have gg:∀b,b≠g→w'.heap[b]?=w.heap[b]?:=fun b hb=>by rw[wA];exact setRow_other w g b nD hb
    have gz:w'.heap.size=w.heap.size:=by rw[wA];exact JN w g nD
    have iK:∀o,nD[o]?=if o<xs.length*i.size then cur[o]? else if o<xs.length*i.size+us.length then us[o-xs.length*i.size]? else cur[o]?:=fun o=>by
     rw[LC,List.getElem?_toArray,ajE];have hl:cur.toList.length=cur.size:=ajU;by_cases h1:o<xs.length*i.size
     ·rw[if_pos h1,ajx (by simp;omega),List.getElem?_take_of_lt h1,ajK]
     ·rw[if_neg h1,ajD (by simp;omega)];simp only[List.length_take,hl];rw[Nat.min_eq_left (by omega)];by_cases h2:o<xs.length*i.size+us.length
      ·rw[if_pos h2,ajx (by omega)]
      ·rw[if_neg h2,ajD (by omega),List.getElem?_drop,show xs.length*i.size+us.length+(o-xs.length*i.size-us.length)=o by omega,ajK]
    have aa0:nD.size=cur.size:=by
     rw[LC];simp only[List.size_toArray,ajo,List.length_take,List.length_drop,ajU];omega
    have fY:∀b o,G.S b o→w'.cell? ⟨b,o,none⟩=w.cell? ⟨b,o,none⟩:=fun b o hs=>by
     by_cases eb:b=g
     ·subst eb;have ho:o<xs.length*i.size:=Nat.lt_of_not_le fun hle=>RH o hle hs;rw[A1,cell_of_row w' b o nD e (0,0) mN,iK,if_pos ho]
     ·exact World.cell?_of_block (gg b eb)
    obtain⟨S,hS⟩:∃S:Nat→Nat→Prop,S=fun b o=>G.S b o∨(b=g∧o<(xs.length+ys.length)*i.size):=⟨_,rfl⟩;have hE:bP G.N G w (G.grow n S (.slice (some ⟨g,0,none⟩) (xs.length+ys.length) c) (xs.length+ys.length) (some g)) w':=
     ⟨by rw[gz];exact ajy _,fun b o h=>by show S b o;rw[hS];exact .inl h,fY,fun _ _=>rfl,
      fun m _=>by
       by_cases em:m=n
       ·right;subst em;simp only[Gh.grow,if_true,kf];omega
       ·left;exact⟨by simp [Gh.grow,em],by simp [Gh.grow,em]⟩,
      fJ rfl,fun b hb=>gg b (fun e=>Ha (e▸hb)),by rw[wA];rfl,by rw[wA];rfl,by rw[wA];rfl,fun b o hs=>by
       have cp:S b o:=hs;rw[hS]at cp;rcases cp with h|⟨rfl,_⟩
       ·exact .inl h
       ·exact .inr Ha⟩
    have hP:cY S w' (.slice (some ⟨g,0,none⟩) (xs++ys).length c) (.sl (xs++ys)):=by
     refine(NN.bn (S':=S) (w':=w') (fun b o h=>by rw[hS];exact .inl h) fY).FH g c (by rw[ajo];exact oB) Ox (fun o ho=>by rw[hS];exact .inr ⟨rfl,by rw[ajo]at ho;exact ho⟩) (fun o x ho=> ?_);rw[cell_of_row w' g o nD e (0,0) mN,iK];have fV:olds.length=xs.length*i.size:=xG.len;by_cases h1:o<xs.length*i.size
     ·rw[if_pos h1];rw[ajx (by omega)]at ho;have hx:xs≠ []:=fun e=>by subst e;simp at h1
      obtain⟨b,o',eA,hc⟩:=hA hx;cases eA
      have:=(hc o x ho).2;rw[ajH,A1]at this;exact this
     ·rw[if_neg h1];rw[ajD (by omega),fV]at ho;have:=(ajn.1 ho).1;rw[if_pos (by omega)];exact ho
    rw[ajo]at hP;refine⟨_,w',_,by rw[xJ];exact dc,hE,ajy _,TS hi hn S _ g hE (.inr iP) (by rw[gz];exact abf) (fun b o hs=> ?_) (fun b _ hb=>gg b hb) ?_,?_⟩
    ·rw[hS]at hs;exact hs.imp id And.left
    ·refine⟨by simp [Gh.grow],uw, .inr ⟨g,c,nD,by simp [Gh.grow],by simp [Gh.grow],Ha,mN,oB,Ox,by rw[aa0,QJ],fun o ho hs=> ?_⟩⟩;have cp:S g o:=hs;rw[hS]at cp;rcases cp with cp|⟨_,cp⟩
     ·exact RH o (ajF (Nat.mul_le_mul_right _ (aj2 _ _)) ho) cp
     ·omega
    ·exact .own n (xs++ys) mn hP (by simp [Gh.grow]) (fun _=>by simp [Gh.grow])
   ·exact grow (by omega)
def WF(r:akd Nat):Fence:={Fence.wide with round:=r}
def gV(N0:Nat)(G:Gh)(w:akg)(K:St→Prop)(a':Act)(w':akg):Prop:=∃G' s',bP N0 G w G' w'∧N0≤G'.N∧cx G' w' a' s'∧K s'
section
variable {P:ake} {r:akd Nat} {n N0:Nat} {G:Gh} {w:akg} {a:Act} {s:St} {o:Oper} {K:St→Prop} {Q:Exit→Act→akg→Prop}
theorem nu(fa:∀c,o.op≠ .defer c)(hs:cx G w a s)(cm:N0≤G.N){v:akf}{x:AV}{w':akg}{G':Gh}{h':akb aq}(hr:(execOp a.eval o).run P w= .ok (.value v) w')
 (hE:bP G.N G w G' w') (hN:G.N≤G'.N) (hi:bV G' w' h') (hv:aL G' w' v x) (hK:K ((s.wh h').put o.dst x)):o.wpIn (WF r) n P a w (gV N0 G w K) Q:=by
 refine⟨fun _ _=>trivial,?_⟩;rw[Oper.semAt_eq _ _ _ fa,hr];exact⟨G',_,hE.less cm,ajF cm hN,((hs.move hE hN hi).put hv o.dst),hK⟩
theorem eg(fa:∀c,o.op≠ .defer c)(hs:cx G w a s)(cm:N0≤G.N){v:akf}{x:AV}(hr:(execOp a.eval o).run P w= .ok (.value v) w)(hv:aL G w v x)(hK:K (s.put o.dst x)):
 o.wpIn (WF r) n P a w (gV N0 G w K) Q:=
 nu fa hs cm hr (bP.refl _ _ _) (ajy _) hs.inv hv hK
theorem L0(fa:∀c,o.op≠ .defer c)(hs:cx G w a s)(cm:N0≤G.N){w':akg}{G':Gh}{h':akb aq}(hr:(execOp a.eval o).run P w= .ok .skip w')
 (hE:bP G.N G w G' w') (hN:G.N≤G'.N) (hi:bV G' w' h') (hK:K ((s.wh h').put o.dst (.d (.v undef)))):o.wpIn (WF r) n P a w (gV N0 G w K) Q:=by
 refine⟨fun _ _=>trivial,?_⟩;rw[Oper.semAt_eq _ _ _ fa,hr];exact⟨G',_,hE.less cm,ajF cm hN,((hs.move hE hN hi).put (.d (.v undef)) o.dst),hK⟩
theorem TU{t k:Nat}(h:eF P t=some k):∃i,P.info? t=some i∧i.size=k:=by
 unfold eF at h;cases hq:P.info? t with
 |none=>rw[hq]at h;cases h
 |some i=>rw[hq]at h;exact⟨i,rfl,by simpa using h⟩
theorem I3{t:Nat}{z:akf}(h:gD P t=some z):∃i,P.info? t=some i∧i.zero=some z:=by
 unfold gD at h;cases hq:P.info? t with
 |none=>rw[hq]at h;cases h
 |some i=>rw[hq]at h;exact⟨i,rfl,by simpa using h⟩
theorem Ft{t:Nat}{z:akf}(h:gD P t=some z)(w:akg):(zeroValue t).run P w= .ok z w:=by
 obtain⟨i,h1,h2⟩:=I3 h;simp [zeroValue,typeInfo,h1,h2]
theorem kA{t k:Nat}(h:eF P t=some k)(w:akg):(sizeOf t).run P w= .ok k w:=by
 obtain⟨i,h1,h2⟩:=TU h;simp [sizeOf,typeInfo,h1,h2]
theorem Cc{t:Nat}{g:Bool}(h:kE P t=some g)(w:akg):(isAgg t).run P w= .ok g w:=by
 unfold kE at h;cases hq:P.underlying t with
 |none=>rw[hq]at h;cases h
 |some d=>
  rw[hq]at h;unfold isAgg;rw[Sem.run_bind,run_underlying hq w];simp only[Option.map_some,Option.some.injEq]at h;subst h;cases d<;>rfl
theorem af6{t:Nat}(h:kE P t=some true):∃d,P.underlying t=some d∧d.isRow=true:=by
 unfold kE at h;cases hq:P.underlying t with
 |none=>rw[hq]at h;cases h
 |some d=>rw[hq]at h;refine⟨d,rfl,?_⟩;cases d<;>simp_all [TypeDesc.isRow]
theorem Wu{t:Nat}{C:AV→Prop}:∀(b o:Nat)(cs:akb AV)(off:Nat)(us:Nat→akf),(∀j,j<cs.length→w.cell? ⟨b,o+j,none⟩=some (us j))→(∀(j:Nat)(c:AV),cs[j]?=some c→aL G w (us j) c)→
 (match kE P t,eF P t with
  |some true,some k=>ee (cf (off+k) cs.length) (C (.agg ((cs.drop off).take k)))
  |some false,some _=>match cs[off]? with
   |some c=>C c
   |none=>False
  |_,_=>False)→∃u x,(loadVar t ⟨b,o+off,none⟩).run P w= .ok u w∧aL G w u x∧C x:=by
 intro b o cs off us h1 h2 h3;split at h3
 ·rename_i k hg hk
  obtain⟨hlen,hC⟩:=bN.1 h3;rw[di]at hlen;obtain⟨d,De,lN⟩:=af6 hg;have Ie:((List.range k).map fun j=>us (off+j)).length=k:=by simp
  have dc:=run_loadVar_mid (P:=P) w b (o+off) t ((List.range k).map fun j=>us (off+j)) d (fun j u hu=>by
   rw[aju]at hu;by_cases hj:j<k
   ·rw[List.getElem?_range hj]at hu;simp only[Option.map_some,Option.some.injEq]at hu;subst hu;have:=h1 (off+j) (by omega)
    rwa [←Nat.add_assoc]at this
   ·rw[ajT (by simp;omega)]at hu;cases hu) De lN (by rw[Ie];exact hk)
  refine⟨_,_,dc, .agg _ _ (by simp;omega) fun i u c hu hc=> ?_,hC⟩;rw[List.getElem?_toArray,aju]at hu;rw[List.getElem?_take]at hc;split at hc
  ·rename_i m6
   rw[List.getElem?_range m6]at hu;simp only[Option.map_some,Option.some.injEq]at hu;subst hu;rw[List.getElem?_drop]at hc;exact h2 (off+i) c hc
  ·cases hc
 ·rename_i k hg hk
  split at h3
  ·rename_i c hc
   refine⟨us off,c,?_,h2 off c hc,h3⟩;unfold loadVar;rw[Sem.run_bind,Cc hg w];simp only[Result.andThen_ok,Bool.false_eq_true,if_false];unfold load;simp only[Sem.run,h1 off (ajn.1 hc).1]
  ·exact h3.elim
 ·exact h3.elim
theorem Rb{t:Nat}{p:AV}{v:akf}{C:AV→Prop}(hi:bV G w s.h)(hv:aL G w v p)(h:mm P t s.h p C):∃u x,(Instr.loadAt t v).run P w= .ok u w∧aL G w u x∧C x:=by
 have key:=Wu (P:=P) (G:=G) (w:=w) (t:=t) (C:=C);unfold mm qk at h;cases p with
 |ptr m off=>
  simp only at h;split at h
  ·rename_i cs hm
   obtain⟨_,_,vs,T,hh,hl,hr⟩:=hi.cU m _ hm;cases hv with
   |ptr _ _ vT=>
    obtain⟨u,x,h1,h2,h3⟩:=key (G.bm m) 0 cs off (fun j=>vs.getD j undef) (fun j hj=>by
     have gY:j<vs.size:=by rw[hl];exact hj
     rw[ajH,cell_of_row w (G.bm m) j vs T (0,0) hh];simp [Array.getD,gY]) (fun j c hc=>by
     have gY:j<vs.size:=by rw[hl];exact(ajn.1 hc).1
     exact hr j _ c (by simp [Array.getD,gY]) hc) h
    rw[ajH]at h1;exact⟨u,x,by simp [Instr.loadAt,Instr.sureAddr,h1],h2,h3⟩
  ·exact h.elim
 |bD xs i off=>
  simp only at h;split at h
  ·rename_i cs fg
   cases hv with
   |bD _ _ _ b o us x hx hS hu=>
    rw[hx]at fg;cases fg
    obtain⟨u,y,h1,h2,h3⟩:=key b o (cs.map .d) off us (fun j hj=>(hS j (by simpa using hj)).2) (fun j c hc=>by
     rw[aju]at hc;cases hd:cs[j]? with
     |none=>rw[hd]at hc;cases hc
     |some d=>rw[hd]at hc;cases hc;exact .d (hu j d hd)) h
    exact⟨u,y,by simp [Instr.loadAt,Instr.sureAddr,h1],h2,h3⟩
  ·exact h.elim
 |_=>exact h.elim
theorem aL.list{u:akf}{x:AV}{xs:akb (akb D)}(h:aL G w u x)(hx:x.ej=some xs):cY G.S w u (.sl xs):=by
 unfold AV.ej at hx;split at hx
 ·cases hx;cases h with|d h=>exact h
 ·cases hx;cases h with|own _ _ _ h=>exact h
 ·cases hx;cases h with|full _ h=>exact h
 ·cases hx
  cases h with
  |d h=>
   cases h with
   |v=>exact .sl none 0 0 0 0 [] (fun _ _=>undef) (fun h=>absurd rfl h) (ajy _) (by simp) (fun _ h=>by cases h) (fun i j hi=>by simp at hi) (fun i j x d hx=>by simp at hx)
 ·cases hx
theorem aL.int{u:akf}{x:AV}{z:Int}(h:aL G w u x)(hx:x.int?=some z):∃k,u= .int k z:=by
 unfold AV.int? at hx;split at hx
 ·rename_i k m
  cases hx
  cases h with
  |d h=>cases h with|v=>exact⟨k,rfl⟩
 ·cases hx
theorem aL.bool{u:akf}{t:Bool}(h:aL G w u (.d (.v (.bool t)))):u= .bool t:=by
 cases h with|d h=>cases h with|v=>rfl
theorem aL.val{u v:akf}(h:aL G w u (.d (.v v))):u=v:=by
 cases h with|d h=>cases h with|v=>rfl
theorem im{T e k:Nat}(h:dF P T=some (e,k)):P.underlying T=some (.slice e)∧eF P e=some k:=by
 unfold dF at h;split at h
 ·rename_i e' he
  cases hq:eF P e' with
  |none=>rw[hq]at h;cases h
  |some k'=>rw[hq]at h;simp at h;obtain⟨rfl,rfl⟩:=h;exact⟨he,hq⟩
 ·cases h
theorem Ku{T m e k:Nat}(h:rK P T=some (m,e,k)):P.underlying T=some (.array m e)∧eF P e=some k:=by
 unfold rK at h;split at h
 ·rename_i m' e' he
  cases hq:eF P e' with
  |none=>rw[hq]at h;cases h
  |some k'=>rw[hq]at h;simp at h;obtain⟨rfl,rfl,rfl⟩:=h;exact⟨he,hq⟩
 ·cases h
theorem Y5{T:Nat}{x i:AV}{u v:akf}{C:AV→Prop}(hu:aL G w u x)(hv:aL G w v i)(h:pG P T x i C):∃p y,(Instr.indexAt T u v).run P w= .ok p w∧aL G w p y∧C y:=by
 unfold pG at h;split at h
 ·rename_i e k hT
  obtain⟨dY,ew⟩:=im hT;split at h
  ·rename_i m off len cap k'
   split at h
   ·rename_i z hz
    obtain⟨tQ,h0,aX,hC⟩:=bN.1 h;rw[beq_iff_eq]at tQ;subst tQ;obtain⟨kz,rfl⟩:=hv.int hz;cases hu with
    |row _ _ _ _ _ hm hl mY=>
     have hN:(z.toNat:Int)=z:=Int.toNat_of_nonneg h0;refine⟨_,_,?_, .ptr m (off+z.toNat*k') hm,hC⟩;simp [Instr.indexAt,asIntOf,run_underlying dY,h0,aX,kA ew,jJ]
   ·exact h.elim
  ·split at h
   ·rename_i xs z jV hz
    obtain⟨h0,h⟩:=h;obtain⟨kz,rfl⟩:=hv.int hz;split at h
    ·rename_i c hc
     obtain⟨hk,hC⟩:=h;obtain⟨A,b,o,cc,k',us,rfl,hA,jD,qz,gO,hS,kr⟩:=(hu.list jV).nS;have aX:z.toNat<xs.length:=(ajn.1 hc).1;have cu:xs≠ []:=fun e=>by subst e;simp at aX
     have ek:k'=k:=by rw[←gO c (ajA hc),hk]
     subst ek;rw[hA cu];have NY:z<(xs.length:Int):=by omega
     refine⟨_, .bD [c] 0 0,?_, .bD [c] 0 0 b (o+z.toNat*k') (us z.toNat) c rfl (fun j hj=> ?_) (fun j d hd=>kr _ _ _ _ hc hd),hC⟩
     ·simp [Instr.indexAt,asIntOf,run_underlying dY,h0,NY,kA ew,jJ]
     ·have:=hS z.toNat j aX (by rw[hk]at hj;exact hj);exact⟨this.1,this.2.1⟩
    ·exact h.elim
   ·exact h.elim
 ·split at h
  ·rename_i m e k b off z hT hz
   obtain⟨h0,aX,hC⟩:=h;obtain⟨dY,ew⟩:=Ku hT;obtain⟨kz,rfl⟩:=hv.int hz;cases hu with
   |ptr _ _ hb=>
    refine⟨_,_,?_, .ptr b (off+z.toNat*k) hb,hC⟩;simp [Instr.indexAt,Instr.sureAddr,asIntOf,run_underlying dY,h0,aX,kA ew,jJ]
  ·rename_i m e k xs i' off z hT hz
   obtain⟨sG,h0,aX,h9⟩:=bN.1 h;rw[beq_iff_eq]at sG;subst sG;obtain⟨dY,ew⟩:=Ku hT;obtain⟨kz,rfl⟩:=hv.int hz;split at h9
   ·rename_i c hc
    split at h9
    ·rename_i d hd
     cases hu with
     |bD _ _ _ b o us c' iK hS kr=>
      rw[hc]at iK;cases iK
      have adL:=(ajn.1 hd).1;refine⟨_, .bD [[d]] 0 0,?_, .bD [[d]] 0 0 b (o+(off+z.toNat)) (fun _=>us (off+z.toNat)) [d] rfl (fun j hj=> ?_) (fun j d' hY=> ?_),h9⟩
      ·simp [Instr.indexAt,Instr.sureAddr,asIntOf,run_underlying dY,h0,aX,kA ew,jJ,Nat.add_assoc]
      ·simp at hj;subst hj;exact hS _ adL
      ·match j with
       |0=>simp at hY;subst hY;exact kr _ _ hd
       |j+1=>simp at hY
    ·exact h9.elim
   ·exact h9.elim
  ·exact h.elim
theorem qi{T:Nat}(h:fA P T=true):P.underlying T=some .string:=by
 unfold fA at h;split at h
 ·assumption
 ·cases h
theorem adn{T:Nat}{x:AV}{u:akf}{ty:Nat}{C:Nat→Prop}(hu:aL G w u x)(h:qq P T x C):∃m:Nat,(Builtin.len_ #[T] ty #[u]).run P w= .ok (.int .i64 m) w∧C m:=by
 have Tt:∀(A:akd Addr)(l c:Nat),(dF P T).isSome=true→(Builtin.len_ #[T] ty #[.slice A l c]).run P w= .ok (.int .i64 l) w:=by
  intro A l c hT;obtain⟨⟨e,k⟩,hT⟩:=Option.isSome_iff_exists.1 hT;simp [Builtin.len_,run_underlying (im hT).1,goInt]
 unfold qq at h;split at h
 ·rename_i b
  have:=hu.val;subst this;obtain⟨hT,hC⟩:=bN.1 h;exact⟨b.size,by simp [Builtin.len_,run_underlying (qi hT),goInt],hC⟩
 ·cases hu with
  |row=>exact⟨_,Tt _ _ _ (bN.1 h).1,(bN.1 h).2⟩
 ·split at h
  ·rename_i xs jV
   obtain⟨A,b,o,c,k,us,rfl,_⟩:=(hu.list jV).nS;exact⟨_,Tt _ _ _ (bN.1 h).1,(bN.1 h).2⟩
  ·exact h.elim
def AT(a:Act)(x:akd Operand)(d m:Nat):Prop:=match x with|none=>m=d|some y=>∃k z,a.eval y= .int k z∧0≤z∧m=z.toNat
theorem rM{x:akd Operand}{d:Nat}{C:Nat→Prop}(hs:cx G w a s)(h:ij (ev s) x d C):∃m,C m∧AT a x d m:=by
 cases x with
 |none=>exact⟨_,h,rfl⟩
 |some y=>
  unfold ij at h;simp only at h;split at h
  ·rename_i z hz
   obtain⟨k,hk⟩:=(hs.ev y).int hz;exact⟨_,h.2,k,z,hk,h.1,rfl⟩
  ·exact h.elim
theorem z8{k:IntKind}{z:Int}{y:Nat}{code:BoundsCode}(h0:0≤z)(h:z.toNat≤y)(w:akg):(Instr.sliceBound (.int k z) y code).run P w= .ok z.toNat w:=by
 have:z≤(y:Int):=by omega
 simp [Instr.sliceBound,asIntOf,h0,this]
theorem Fk{lo hi:akd Operand}{len cap l h:Nat}{yG:Bool}(fV:AT a lo 0 l)(pv:AT a hi len h)(hl:l≤h)(hh:h≤cap)(w:akg):
 (Instr.sliceBounds yG len cap (lo.map a.eval) (hi.map a.eval) none).run P w= .ok (l,h,cap) w:=by
 unfold AT at fV pv;cases lo with
 |none=>
  subst fV;cases hi with
  |none=>subst pv;simp [Instr.sliceBounds]
  |some y=>
   obtain⟨k,z,e,h0,rfl⟩:=pv;simp [Instr.sliceBounds,e,z8 h0 hh]
 |some x=>
  obtain⟨k',z',e',TD,rfl⟩:=fV;cases hi with
  |none=>subst pv;simp [Instr.sliceBounds,e',z8 TD hl]
  |some y=>
   obtain⟨k,z,e,h0,rfl⟩:=pv;simp [Instr.sliceBounds,e,e',z8 h0 hh,z8 TD hl]
theorem cY.part{S:Nat→Nat→Prop}{v:akf}{xs:akb (akb D)}{k:Nat}(hp:cY S w v (.sl xs))(hk:∀c∈xs,c.length=k){l h:Nat}(hl:l≤h)(hh:h≤xs.length):
 ∃A c,v= .slice A xs.length c∧xs.length≤c∧cY S w (.slice (if c=l then A else A.map (·.add (l*k))) (h-l) (c-l)) (.sl ((xs.take h).drop l)):=by
 obtain⟨A,b,o,c,k',us,rfl,hA,jD,qz,gO,hS,kr⟩:=hp.nS;refine⟨A,c,rfl,jD,?_⟩;have hlen:((xs.take h).drop l).length=h-l:=by simp;omega
 rw[←hlen];by_cases hx:xs=[]
 ·subst hx;have e:((([]:akb (akb D)).take h).drop l)=[]:=by simp
  rw[e];exact .sl _ 0 0 (c-l) 0 [] (fun _ _=>undef) (fun h=>absurd rfl h) (Nat.zero_le _) (by omega) (fun _ h=>by cases h) (fun i j hi=>by simp at hi) (fun i j x d hx=>by simp at hx)
 ·have ek:k'=k:=by
   obtain⟨x,l7⟩:=List.exists_mem_of_ne_nil xs hx;rw[←gO x l7,hk x l7]
  subst ek;have dT:∀i,i<h-l→((xs.take h).drop l)[i]?=xs[l+i]?:=fun i hi=>by
   rw[List.getElem?_drop,List.getElem?_take_of_lt (by omega)]
  refine .sl _ b (o+l*k') (c-l) k' _ (fun i j=>us (l+i) j) (fun cu=> ?_) (by rw[hlen];omega) (by omega) (fun x hx=>hk x (List.mem_of_mem_take (List.mem_of_mem_drop hx))) (fun i j hi hj=> ?_) (fun i j x d hx hd=> ?_)
  ·have MY:0<((xs.take h).drop l).length:=List.length_pos_iff.2 cu;rw[hlen]at MY;rw[if_neg (by omega),hA hx];simp [jJ]
  ·rw[hlen]at hi;have:=hS (l+i) j (by omega) hj;rw[Nat.add_mul,←Nat.add_assoc]at this;exact this
  ·have hi:=(ajn.1 hx).1;rw[hlen]at hi;rw[dT i hi]at hx;exact kr _ _ _ _ hx hd
theorem aei{T:Nat}{x:AV}{u:akf}{lo hi mx:akd Operand}{C:AV→Prop}(hs:cx G w a s)(hu:aL G w u x)(h:s5 P T (ev s) x lo hi mx C):
 ∃p y,(Instr.sliceAt T u (lo.map a.eval) (hi.map a.eval) (mx.map a.eval)).run P w= .ok p w∧aL G w p y∧C y:=by
 unfold s5 at h;split at h
 ·split at h
  ·rename_i b
   obtain⟨hT,h⟩:=bN.1 h;have hT:=qi hT;have:=hu.val;subst this;obtain⟨m,h,hm⟩:=rM hs h;obtain⟨um,h⟩:=h;obtain⟨l,h,hl⟩:=rM hs h;obtain⟨qX,h⟩:=h;refine⟨_,_,?_, .d (.v _),h⟩;have hb:=Fk (P:=P) (yG:=false) hl hm qX um w;simp [Instr.sliceAt,Instr.slice,run_underlying hT,hb]
  ·rename_i m off
   split at h
   ·rename_i c e k hT
    rw[bN,di]at h;obtain⟨qz,h⟩:=h;have qz:c≤maxLen:=by unfold maxLen;omega
    obtain⟨dY,ew⟩:=Ku hT;obtain⟨hh,h,hm⟩:=rM hs h;obtain⟨um,h⟩:=bN.1 h;rw[di]at um;obtain⟨l,h,hl⟩:=rM hs h;obtain⟨qX,h⟩:=bN.1 h;simp only[ajp,di,Bool.not_eq_true',←Bool.not_eq_true,Nat.not_le]at qX;obtain⟨qX,jD⟩:=qX;have hb:=Fk (P:=P) (yG:=false) hl hm qX um w;cases hu with
    |ptr _ _ vT=>
     refine⟨_,_,?_, .row m (off+l*k) (hh-l) (c-l) k vT (by omega) (by omega),h⟩;simp [Instr.sliceAt,Instr.sureAddr,run_underlying dY,hb,kA ew,jJ,Nat.ne_of_gt jD]
   ·exact h.elim
  ·split at h
   ·rename_i xs e k jV hT
    obtain⟨hk,h⟩:=h;obtain⟨dY,ew⟩:=im hT;obtain⟨hh,h,hm⟩:=rM hs h;obtain⟨um,h⟩:=h;obtain⟨l,h,hl⟩:=rM hs h;obtain⟨qX,h⟩:=h;obtain⟨A,c,rfl,jD,hp⟩:=(hu.list jV).part hk qX um;have hb:=Fk (P:=P) (yG:=true) hl hm qX (ajF um jD) w;refine⟨_,_,?_, .d hp,h⟩;simp [Instr.sliceAt,Instr.slice,run_underlying dY,hb,kA ew]
   ·exact h.elim
 ·rename_i y
  split at h
  case h_2=>exact h.elim
  rename_i yh
  split at h
  ·rename_i xs e k jV hT
   obtain⟨hk,h⟩:=h;obtain⟨dY,ew⟩:=im hT;obtain⟨c',h3,hc⟩:=rM hs h;obtain⟨fm,h3⟩:=h3;obtain⟨hh,h4,hm⟩:=rM hs h3;obtain⟨rfl,h5⟩:=h4;clear h h3;obtain⟨k1,z1,e1,p1,q1⟩:=hc;obtain⟨k2,z2,e2,p2,q2⟩:=hm;obtain⟨A,c,rfl,jD,hp⟩:=(hu.list jV).part hk (Nat.zero_le hh) fm;have hp':cY G.S w (.slice A hh hh) (.sl (xs.take hh)):=by
    have h1:(if c=0 then A else A.map (·.add (0*k)))=A:=by
     split
     ·rfl
     ·cases A<;>simp [Addr.add]
    rw[h1,ajW]at hp;obtain⟨A',b,o,c2,k',us,e,r1,r2,r3,r4,r5,r6⟩:=hp.nS;have hl:(xs.take hh).length=hh:=by simp;omega
    injection e with eA e3 e4;subst eA;have:=cY.sl (S:=G.S) (w:=w) A b o hh k' (xs.take hh) us r1 (by omega) (by omega) r4 r5 r6
    rwa [hl]at this
   refine⟨.slice A hh hh, .full (xs.take hh),?_, .full _ hp' ⟨A,by simp;omega⟩,h5⟩;have b1:(Instr.sliceBound (.int k1 z1) c .slice3Acap).run P w= .ok hh w:=by rw[z8 p1 (by omega),q1]
   have b2:(Instr.sliceBound (.int k2 z2) hh .slice3B).run P w= .ok hh w:=by rw[z8 p2 (by omega),←q2]
   simp only[Option.map_some,Option.map_none,e1,e2];have hA:A.map (·.add 0)=A:=by cases A<;>simp [Addr.add]
   simp [Instr.sliceAt,Instr.slice,Instr.sliceBounds,run_underlying dY,b1,b2,kA ew,hA]
  ·exact h.elim
theorem La:∀{cs:akb AV}{ds:akb D},lX cs=some ds→ds.length=cs.length∧∀(i:Nat)(c:AV)(d:D),cs[i]?=some c→ds[i]?=some d→c.vO=some d
 |[],ds,h=>by simp [lX]at h;subst h;simp
 |c::cs,ds,h=>by
  unfold lX at h;split at h
  ·rename_i d l hd hl
   cases h
   obtain⟨h1,h2⟩:=La hl;refine⟨by simp [h1],fun i c' d' hc hY=> ?_⟩
   match i with
   |0=>simp at hc hY;subst hc;subst hY;exact hd
   |i+1=>exact h2 i c' d' (by simpa using hc) (by simpa using hY)
  ·cases h
theorem cY.zj{S:Nat→Nat→Prop}{w:akg}{u:akf}{x:D}(h:cY S w u x):cY S w u x.zj:=by
 unfold D.zj;split
 ·cases h with
  |v=>exact .sl none 0 0 0 0 [] (fun _ _=>undef) (fun h=>absurd rfl h) (ajy _) (Nat.zero_le _) (fun _ h=>absurd h aj3) (fun i j hi=>absurd hi (ajP _)) (fun i j x d hx=>by simp at hx)
 ·exact h
theorem aL.Kc{u:akf}{x:AV}{d:D}(h:aL G w u x)(hx:x.vO=some d):cY G.S w u d:=by
 unfold AV.vO at hx;split at hx
 ·cases hx;cases h with|d h=>exact h.zj
 ·cases hx;cases h with|own _ _ _ h=>exact h
 ·cases hx;cases h with|full _ h=>exact h
 ·cases hx
theorem rC(k:Nat):∀(m:Nat)(l:akb D),(l4 k m l).length=m
 |0,_=>rfl
 |m+1,l=>by simp [l4,rC k m]
theorem LG(k:Nat):∀(m:Nat)(l:akb D)(i:Nat),i<m→(l4 k m l)[i]?=some ((l.drop (i*k)).take k)
 |0,_,_,h=>by omega
 |m+1,l,0,_=>by simp [l4]
 |m+1,l,i+1,h=>by
  have:=LG k m (l.drop k) i (by omega);rw[l4,ajY,this,List.drop_drop,Nat.add_mul,Nat.one_mul,Nat.add_comm k]
theorem Ut{k m:Nat}{us:akb akf}{ds:akb D}(hl:ds.length=m*k)(hu:us.length=m*k)(h1:∀u∈us,u.oneCell'=true)
 (hr:∀(i:Nat)(u:akf)(d:D),us[i]?=some u→ds[i]?=some d→cY G.S w u d):Rd G.S w k (l4 k m ds) us:=by
 have hb:∀i,i<m→(i+1)*k≤m*k:=fun i hi=>Nat.mul_le_mul_right k hi;refine⟨by rw[rC,hu],fun x hx=> ?_,h1,fun i j x d hx hd=> ?_⟩
 ·obtain⟨i,hi⟩:=List.mem_iff_getElem?.1 hx;have HY:i<m:=by have:=(ajn.1 hi).1;rwa [rC]at this
  rw[LG k m ds i HY]at hi;cases hi
  have:=hb i HY;rw[Nat.add_mul]at this;simp;omega
 ·have HY:i<m:=by have:=(ajn.1 hx).1;rwa [rC]at this
  rw[LG k m ds i HY]at hx;cases hx
  rw[List.getElem?_take]at hd;split at hd
  ·rw[List.getElem?_drop]at hd;have:=(ajn.1 hd).1;have aX:i*k+j<us.length:=by omega
   exact⟨us[i*k+j],ajr aX,hr _ _ _ (ajr aX) hd⟩
  ·cases hd
theorem Ys{k U e':Nat}{y:AV}{v:akf}{C:akb (akb D)→Prop}(hi:bV G w s.h)(hv:aL G w v y)(hk:0<k)(hU:P.underlying U=some (.slice e'))(h:rY s.h k y C):
 ∃ys us,Rd G.S w k ys us∧Src P k U v ys.length us w∧C ys:=by
 unfold rY at h;split at h
 ·rename_i m off len cap k'
  split at h
  ·rename_i cs hm
   split at h
   ·rename_i ds sa
    obtain⟨dW,hC⟩:=bN.1 h;simp only[ajp,beq_iff_eq,di]at dW;obtain⟨⟨rfl,hlen⟩,fB⟩:=dW;obtain⟨h1,h2⟩:=La sa;obtain⟨_,_,vs,T,hh,hl,hr⟩:=hi.cU m _ hm;cases hv with
    |row _ _ _ _ _ vT jD mY=>
     have ZI:ds.length=len*k':=by rw[h1];simp;omega
     have mG:((vs.toList.drop off).take (len*k')).length=len*k':=by simp;omega
     have xr:∀(i:Nat)(u:akf)(c:AV),((vs.toList.drop off).take (len*k'))[i]?=some u→((cs.drop off).take (len*k'))[i]?=some c→aL G w u c:=fun i u c hu hc=>by
      rw[List.getElem?_take]at hu hc;split at hu
      ·rename_i m6
       rw[if_pos m6]at hc;rw[List.getElem?_drop]at hu hc;exact hr _ u c (by rw[←ajK];exact hu) hc
      ·cases hu
     have fm:((cs.drop off).take (len*k')).length=len*k':=by simp;omega
     have T2:∀u∈(vs.toList.drop off).take (len*k'),u.oneCell'=true:=fun u hu=>by
      obtain⟨i,hi⟩:=List.mem_iff_getElem?.1 hu;have iO:i<len*k':=by rw[←mG];exact(ajn.1 hi).1
      have Ct:=ajr (l:=(cs.drop off).take (len*k')) (i:=i) (by rw[fm];exact iO);exact(xr i u _ hi Ct).iX (ajN.1 fB _ (ajA Ct))
     have CN:=Ut (G:=G) (w:=w) (k:=k') (m:=len) ZI mG T2 (fun i u d hu hd=>by
      have iO:i<len*k':=by rw[←mG];exact(ajn.1 hu).1
      have Ct:=ajr (l:=(cs.drop off).take (len*k')) (i:=i) (by rw[fm];exact iO);exact(xr i u _ hu Ct).Kc (h2 i _ d Ct hd))
     refine⟨_,_,CN,?_,hC⟩;rw[rC];refine Src.ofSlice w hU _ len cap _ mG (fun j u hu=> ?_) T2;rw[List.getElem?_take]at hu;split at hu
     ·rw[List.getElem?_drop,ajK]at hu;rw[jJ,cell_of_row w _ _ vs T (0,0) hh];exact hu
     ·cases hu
   ·exact h.elim
  ·exact h.elim
 ·split at h
  ·rename_i ys ir
   obtain⟨us,h1,h2⟩:=(hv.list ir).src (P:=P) hk h.1 hU;exact⟨ys,us,h1,h2,h.2⟩
  ·exact h.elim
theorem H8:cY G.S w (.slice none 0 0) (.sl []):=
 .sl none 0 0 0 0 [] (fun _ _=>undef) (fun h=>absurd rfl h) (ajy _) (by simp) (fun _ h=>by cases h) (fun i j hi=>by simp at hi) (fun i j x d hx=>by simp at hx)
theorem agd(h:akb aq)(x y:aq):(h++[x]).set h.length y=h++[y]:=by simp
theorem abL{T U ty e':Nat}{x y:AV}{u v:akf}{C:AV→akb aq→Prop}(hi:bV G w s.h)(hu:aL G w u x)(hv:aL G w v y)(hU:P.underlying U=some (.slice e'))(h:tE P T s.h x y C):
 ∃p w' G' q h',(Builtin.append_ #[T,U] ty #[u,v]).run P w= .ok p w'∧bP G.N G w G' w'∧G.N≤G'.N∧bV G' w' h'∧aL G' w' p q∧C q h':=by
 unfold tE at h;split at h
 ·rename_i e k hT
  obtain⟨dY,ew⟩:=im hT;split at h
  ·rename_i z ct hz nT
   obtain⟨dW,h⟩:=bN.1 h;simp only[ajp,beq_iff_eq,di,ajU]at dW;obtain⟨hk,iB⟩:=dW;obtain⟨i,iq,iT,IT⟩:=OQ ew nT;have UA:i.zero=some z:=by
    obtain⟨i',h1,h2⟩:=I3 hz;rw[iq]at h1;cases h1;exact h2
   obtain⟨ys,us,hr,hs,h2⟩:=Ys hi hv hk hU h;clear h;have fresh:∀(xs:akb (akb D)),cY G.S w u (.sl xs)→(∃A,u= .slice A xs.length xs.length)→(∀c∈xs,c.length=k)→xs.length+ys.length≤maxLen→(xs.length+ys.length)*ct≤140737488355328→
    C (.own s.h.length (xs++ys)) (s.h++[.front e k (xs.length+ys.length)])→
    ∃p w' G' q h',(Builtin.append_ #[T,U] ty #[u,v]).run P w= .ok p w'∧bP G.N G w G' w'∧G.N≤G'.N∧bV G' w' h'∧aL G' w' p q∧C q h':=by
    intro xs hp hf lU hm hb hC;obtain⟨a1,a2,a3,a4⟩:=TO hi hp hf e k;obtain⟨p,w',G',r1,r2,r3,r4,r5⟩:=SI (P:=P) (ty:=ty) a3 dY iq UA iT IT iB hk (n:=s.h.length) (xs:=xs) (ys:=ys) (by simp) a4 lU (hr.bn a1.S a1.cell) hs hm hb;rw[agd]at r4;exact⟨p,w',G',_,_,r1,a1.trans (r2.less a2),ajF a2 r3,r4,r5,hC⟩
   split at h2
   ·rename_i m xs
    split at h2
    ·rename_i e2 k2 len hm
     obtain⟨dW,rfl,lU,mY,hb,hC⟩:=bN.1 h2;simp only[ajp,beq_iff_eq]at dW;obtain⟨rfl,rfl⟩:=dW;obtain⟨p,w',G',r1,r2,r3,r4,r5⟩:=SI (P:=P) (ty:=ty) hi dY iq UA iT IT iB hk hm hu lU hr hs mY hb;exact⟨p,w',G',_,_,r1,r2,r3,r4,r5,hC⟩
    ·exact h2.elim
   ·have:=hu.val;subst this;obtain⟨mY,hb,hC⟩:=h2;exact fresh [] H8 ⟨none,rfl⟩ (fun _ h=>by cases h) (by simpa using mY) (by simpa using hb) (by simpa using hC)
   ·rename_i xs
    obtain⟨lU,mY,hb,hC⟩:=h2;cases hu with
    |full _ hp hf=>exact fresh xs hp hf lU mY hb hC
   ·exact h2.elim
  ·exact h.elim
 ·exact h.elim
end
theorem SC(off:Nat):∀(l:akb akf)(k:Nat)(cs:Array akf),((l.zipIdx k).foldl (fun cs(p:akf×Nat)=>cs.setIfInBounds (off+p.2) p.1) cs).size=cs.size∧
 ∀i,off+k+l.length≤cs.size→((l.zipIdx k).foldl (fun cs(p:akf×Nat)=>cs.setIfInBounds (off+p.2) p.1) cs)[i]?=if off+k≤i∧i<off+k+l.length then l[i-(off+k)]? else cs[i]?
 |[],k,cs=>⟨rfl,fun i _=>by
    have h:¬(off+k≤i∧i<off+k+([]:akb akf).length):=by simp
    rw[if_neg h];rfl⟩
 |u::l,k,cs=>by
  obtain⟨h1,h2⟩:=SC off l (k+1) (cs.setIfInBounds (off+k) u);simp only[List.zipIdx_cons,List.foldl_cons];refine⟨by rw[h1];simp,fun i hi=> ?_⟩;simp only[ajq]at hi ⊢;rw[h2 i (by simp;omega)];by_cases ha:off+(k+1)≤i∧i<off+(k+1)+l.length
  ·rw[if_pos ha,if_pos ⟨by omega,by omega⟩];rw[show i-(off+k)=i-(off+(k+1))+1 by omega,ajY]
  ·rw[if_neg ha];by_cases hb:i=off+k
   ·subst hb;rw[if_pos ⟨ajy _,by omega⟩,Nat.sub_self,List.getElem?_cons_zero,Array.getElem?_setIfInBounds_self_of_lt (by omega)]
   ·rw[if_neg (by omega),Array.getElem?_setIfInBounds_ne (Ne.symm hb)]
section
variable {P:ake} {G:Gh} {w:akg}
structure Row(G:Gh)(w:World)(vs:Array Value)(cs:List AV):Prop where
 len:vs.size=cs.length
 rel:∀(i:Nat)(u:Value)(c:AV),vs[i]?=some u→cs[i]?=some c→aL G w u c
 one:∀(i:Nat)(u:Value),vs[i]?=some u→u.oneCell'=true
theorem adh{vs us:Array akf}{cs ys:akb AV}(h:Row G w vs cs)(h':Row G w us ys){off:Nat}(hb:off+ys.length≤cs.length):
 Row G w (us.zipIdx.foldl (fun cs(p:akf×Nat)=>cs.setIfInBounds (off+p.2) p.1) vs) (fI cs off ys):=by
 have e:us.zipIdx.foldl (fun cs(p:akf×Nat)=>cs.setIfInBounds (off+p.2) p.1) vs=(us.toList.zipIdx 0).foldl (fun cs(p:akf×Nat)=>cs.setIfInBounds (off+p.2) p.1) vs:=by
  rw[←Array.foldl_toList,Array.toList_zipIdx]
 obtain⟨h1,h2⟩:=SC off us.toList 0 vs;rw[←e]at h1 h2;have hl:us.toList.length=ys.length:=by rw[ajU,h'.len]
 have hle:off+0+us.toList.length≤vs.size:=by rw[hl,h.len];omega
 have hs:∀i,(fI cs off ys)[i]?=if off+0≤i∧i<off+0+us.toList.length then ys[i-off]? else cs[i]?:=fun i=>by
  unfold fI;rw[ajE];by_cases ha:i<off
  ·rw[ajx (by simp;omega),List.getElem?_take_of_lt ha,if_neg (by omega)]
  ·rw[ajD (by simp;omega)];simp only[List.length_take];rw[Nat.min_eq_left (by omega)];by_cases hb:i-off<ys.length
   ·rw[ajx hb,if_pos (by omega)]
   ·rw[ajD (by omega),List.getElem?_drop,if_neg (by omega),show off+ys.length+(i-off-ys.length)=i by omega]
 refine⟨by rw[h1,CS _ _ _ hb,h.len],fun i u c hu hc=> ?_,fun i u hu=> ?_⟩
 ·rw[h2 i hle]at hu;rw[hs]at hc;split at hu
  ·rename_i hp
   rw[if_pos hp]at hc;exact h'.rel _ _ _ (by rw[←ajK];exact hu) hc
  ·rename_i hp
   rw[if_neg hp]at hc;exact h.rel _ _ _ hu hc
 ·rw[h2 i hle]at hu;split at hu
  ·exact h'.one _ _ (by rw[←ajK];exact hu)
  ·exact h.one _ _ hu
theorem aL.TR{u:akf}{x:AV}(h:aL G w u x)(hb:x.gR=true):Row G w u.cells x.cells:=by
 obtain⟨h1,h2⟩:=h.cells hb;refine⟨h1,fun i v c hv hc=>(h2 i v c hv hc).1,fun i v hv=> ?_⟩;have aX:i<x.cells.length:=by rw[←h1];exact(ajC.1 hv).1
 exact(h2 i v _ hv (ajr aX)).2
theorem M1(place:Nat→akd (Nat×Nat))(places:akb (Nat×Nat))(hp:∀i pl,places[i]?=some pl→place i=some pl):∀(ps:akb (Nat×AV))(qs:akb (Nat×akf))(cs ca:akb AV)(vs:Array akf),Row G w vs cs→
 qs.length=ps.length→(∀(i:Nat)(p:Nat×AV)(q:Nat×akf),ps[i]?=some p→qs[i]?=some q→q.1=p.1∧aL G w q.2 p.2)→(ps.all fun p=>p.2.gR)=true→nA places cs ps=some ca→
 ∃fc,Instr.fill place vs qs=some fc∧Row G w fc ca
 |[],[],cs,ca,vs,h,_,_,_,hf=>by
  simp only[nA,Option.some.injEq]at hf;subst hf;exact⟨vs,rfl,h⟩
 |[],_::_,_,_,_,_,hl,_,_,_=>by simp at hl
 |_::_,[],_,_,_,_,hl,_,_,_=>by simp at hl
 |(j,x)::ps,(j',u)::qs,cs,ca,vs,h,hl,hr,hb,hf=>by
  obtain⟨e1,e2⟩:=hr 0 (j,x) (j',u) rfl rfl;simp only at e1 e2;subst e1;simp only[aj7,ajp]at hb;unfold nA at hf;split at hf
  ·rename_i off k E4
   rw[cond_eq_ite]at hf;split at hf
   ·rename_i hc
    simp only[ajp,beq_iff_eq,di]at hc;have mN:=e2.TR hb.1;obtain⟨fc,h1,h2⟩:=M1 place places hp ps qs _ ca _ (adh h mN (by rw[hc.1];exact hc.2)) (by simpa using hl) (fun i p q hp hq=>hr (i+1) p q (by simpa using hp) (by simpa using hq)) hb.2 hf;refine⟨fc,?_,h2⟩;unfold Instr.fill;rw[hp _ _ E4];have h3:¬(u.cells.size≠k||decide (off+u.cells.size>vs.size))=true:=by
     rw[mN.len,hc.1,h.len];simp;exact hc.2
    simp only[h3];exact h1
   ·cases hf
  ·cases hf
theorem WV{z:Array akf}(h:z.toList.all Value.oneCell'=true):z.all (·.oneCell')=true:=by
 rw[ajN]at h;exact Array.all_eq_true_iff_forall_mem.2 fun u hu=>h u (Array.mem_toList_iff.2 hu)
theorem ZF(z:akf)(h:z.cells.all (·.oneCell')=true):Row G w z.cells (z.cells.toList.map fun u=> .d (.v u)):=by
 refine⟨by simp,fun i u c hu hc=> ?_,fun i u hu=>Array.all_eq_true_iff_forall_mem.1 h u (Array.mem_of_getElem? hu)⟩;rw[aju,ajK,hu]at hc;cases hc
 exact .d (.v u)
theorem UH:∀(fs:akb Field)(ps:akb (Nat×Nat))(w:akg),BG P fs=some ps→(fs.mapM (m:=Sem) fun f=>do pure (f.offset,←sizeOf f.type)).run P w= .ok ps w
 |[],ps,w,h=>by simp [BG]at h;subst h;simp
 |f::fs,ps,w,h=>by
  unfold BG at h;simp only[List.mapM_cons,Option.bind_eq_bind,Option.bind_eq_some_iff,Option.map_eq_some_iff,Option.pure_def,Option.some.injEq]at h;obtain⟨p,⟨k,hk,rfl⟩,qs,hq,rfl⟩:=h;have ih:=UH fs qs w hq;simp only[List.mapM_cons,Sem.run_bind,kA hk,Sem.run_pure,Result.andThen_ok,ih]
theorem aiO{T:Nat}{ps:akb (Nat×AV)}{qs:Array (Nat×akf)}{C:AV→Prop}(hl:qs.toList.length=ps.length)
 (hr:∀(i:Nat)(p:Nat×AV)(q:Nat×akf),ps[i]?=some p→qs.toList[i]?=some q→q.1=p.1∧aL G w q.2 p.2) (h:wI P T ps C):∃u y,(Instr.build T qs).run P w= .ok u w∧aL G w u y∧C y:=by
 unfold wI at h;split at h
 ·rename_i places z FE hz
  obtain⟨fs,hT,E4⟩:∃fs,P.underlying T=some (.struct fs)∧BG P fs.toList=some places:=by
   unfold N1 at FE;split at FE
   ·exact⟨_,by assumption,FE⟩
   ·cases FE
  ·split at h
   ·rename_i cs hf
    obtain⟨dW,hC⟩:=bN.1 h;simp only[ajp]at dW;obtain⟨hb,fB⟩:=dW;have fB:=WV fB;have kf:(fs.mapM (m:=Sem) fun f=>do pure (f.offset,←sizeOf f.type)).run P w= .ok places.toArray w:=by
     rw[Array.mapM_eq_mapM_toList];have:=UH fs.toList places w E4;have e:(Functor.map List.toArray (fs.toList.mapM (m:=Sem) fun f=>do pure (f.offset,←sizeOf f.type)):Sem _)=(fs.toList.mapM (m:=Sem) fun f=>do pure (f.offset,←sizeOf f.type))>>=fun l=>pure l.toArray:=rfl;rw[e,Sem.run_bind,this];rfl
    obtain⟨fc,h1,h2⟩:=M1 (fun i=>places.toArray[i]?) places (fun i pl h=>by simpa using h) ps qs.toList _ cs z.cells (ZF (G:=G) (w:=w) z fB) hl hr hb hf;refine⟨.agg fc, .agg cs,?_, .agg fc cs h2.len h2.rel,hC⟩;unfold Instr.build;simp only[Sem.run_bind,Ft hz,Result.andThen_ok,run_underlying hT,kf,h1,Sem.run_pure]
   ·exact h.elim
 ·exact h.elim
theorem Tz{T:Nat}(h:xS P T=true):P.underlying T=some .bool:=by
 unfold xS at h;split at h
 ·assumption
 ·cases h
theorem JG{T:Nat}{k:IntKind}(h:pL P T=some k):P.underlying T=some (.int k):=by
 unfold pL at h;split at h
 ·cases h;assumption
 ·cases h
theorem PG{t off:Nat}{vs:Array akf}{u:akf}(ha:kE P t=some false)(hu:vs[off]?=some u):(part t vs off).run P w= .ok u w:=by
 unfold part;rw[Sem.run_bind,Cc ha w];simp [hu]
theorem X8{t:Nat}{u v:akf}{x y:AV}{b:Bool}(d:Nat)(hu:aL G w u x)(hv:aL G w v y)(h:NB P t x y=some b):(Op.equalIn (d+1) t u v).run P w= .ok b w:=by
 unfold NB at h;split at h
 ·have e1:=hu.val;have e2:=hv.val;subst e1;subst e2
  rename_i k a k' b'
  cases hc:vx k k'&&(pL P t).isSome with
  |false=>rw[hc]at h;cases h
  |true=>
   rw[hc]at h;cases h;rw[ajp,OZ]at hc;obtain⟨rfl,hc⟩:=hc;obtain⟨k2,hk⟩:=Option.isSome_iff_exists.1 hc;exact run_equalIn_int w d t k k2 a b' (JG hk)
 ·have e1:=hu.val;have e2:=hv.val;subst e1;subst e2;cases hc:fA P t with
  |false=>rw[hc]at h;cases h
  |true=>rw[hc]at h;cases h;rw[←MB,←MB];exact run_equalIn_string w d t _ _ (qi hc)
 ·have e1:=hu.val;have e2:=hv.val;subst e1;subst e2;cases hc:xS P t with
  |false=>rw[hc]at h;cases h
  |true=>rw[hc]at h;cases h;exact run_equalIn_bool w d t _ _ (Tz hc)
 ·cases h
theorem Xy{t off k:Nat}{vs:Array akf}(ha:kE P t=some true)(hk:eF P t=some k):(part t vs off).run P w= .ok (.agg (vs.extract off (off+k))) w:=by
 unfold part;rw[Sem.run_bind,Cc ha w];simp [kA hk]
theorem Vs{us:Array akf}{xs:akb AV}{off k:Nat}(hx:us.size=xs.length)(hb:off+k≤xs.length)(hu:∀(i:Nat)(u:akf)(c:AV),us[i]?=some u→xs[i]?=some c→aL G w u c):
 (us.extract off (off+k)).size=((xs.drop off).take k).length∧∀(i:Nat)(u:akf)(c:AV),(us.extract off (off+k))[i]?=some u→((xs.drop off).take k)[i]?=some c→aL G w u c:=by
 refine⟨by simp;omega,fun i u c h1 h2=> ?_⟩;rw[List.getElem?_take]at h2;split at h2
 ·next hi=>
  rw[List.getElem?_drop]at h2;rw[Array.getElem?_extract]at h1;split at h1
  ·exact hu _ _ _ h1 h2
  ·cases h1
 ·cases h2
theorem Gz{sub:TypeId→akb AV→akb AV→akd Bool}(d:Nat)
 (AZ:∀(T:Nat)(us vs:Array akf)(xs ys:akb AV)(b:Bool),us.size=xs.length→vs.size=ys.length→(∀(i:Nat)(u:akf)(c:AV),us[i]?=some u→xs[i]?=some c→aL G w u c)→(∀(i:Nat)(u:akf)(c:AV),vs[i]?=some u→ys[i]?=some c→aL G w u c)→sub T xs ys=some b→(Op.equalIn (d+1) T (.agg us) (.agg vs)).run P w= .ok b w)
 {us vs:Array akf} {xs ys:akb AV} (hx:us.size=xs.length) (hy:vs.size=ys.length)
 (hu:∀(i:Nat)(u:akf)(c:AV),us[i]?=some u→xs[i]?=some c→aL G w u c) (hv:∀(i:Nat)(u:akf)(c:AV),vs[i]?=some u→ys[i]?=some c→aL G w u c):
 ∀(fs:akb Field)(b:Bool),xW P sub fs xs ys=some b→(Op.eqFields (d+1) us vs fs).run P w= .ok b w
 |[],b,h=>by cases h;simp [Op.eqFields]
 |f::fs,b,h=>by
  unfold xW at h;cases hn:f.name== "_" with
  |true=>rw[hn]at h;cases h
  |false=>
   rw[hn]at h;simp only[cond_false]at h;have cu:f.name≠ "_" :=by simpa using hn
   split at h
   ·next e1=>
    split at h
    ·next x y e2 e3=>
     split at h
     ·next a c e4 e5=>
      cases h
      have l1:f.offset<us.size:=by rw[hx];exact(ajn.1 e2).1
      have l2:f.offset<vs.size:=by rw[hy];exact(ajn.1 e3).1
      have g1:=ajJ l1;have g2:=ajJ l2;simp only[Op.eqFields,if_pos cu,Sem.run_bind,PG (w:=w) e1 g1,PG (w:=w) e1 g2,Result.andThen_ok,X8 d (hu _ _ _ g1 e2) (hv _ _ _ g2 e3) e4];cases a with
      |true=>simp only[Bool.not_true,Bool.false_eq_true,if_false,Bool.true_and];exact Gz d AZ hx hy hu hv fs c e5
      |false=>simp
     ·cases h
    ·cases h
   ·next e1=>
    split at h
    ·next k e2=>
     cases j8:cf (f.offset+k) xs.length&&cf (f.offset+k) ys.length with
     |false=>rw[j8]at h;cases h
     |true=>
      rw[j8]at h;rw[ajp,di,di]at j8;simp only[cond_true]at h;split at h
      ·next a c e4 e5=>
       cases h
       obtain⟨p1,p2⟩:=Vs hx j8.1 hu;obtain⟨q1,q2⟩:=Vs hy j8.2 hv;simp only[Op.eqFields,if_pos cu,Sem.run_bind,Xy (w:=w) e1 e2,Result.andThen_ok,AZ _ _ _ _ _ a p1 q1 p2 q2 e4];cases a with
       |true=>simp only[Bool.not_true,Bool.false_eq_true,if_false,Bool.true_and];exact Gz d AZ hx hy hu hv fs c e5
       |false=>simp
      ·cases h
    ·cases h
   ·cases h
theorem Wf:∀(n d:Nat)(T:Nat)(us vs:Array akf)(xs ys:akb AV)(b:Bool),us.size=xs.length→vs.size=ys.length→(∀(i:Nat)(u:akf)(c:AV),us[i]?=some u→xs[i]?=some c→aL G w u c)→(∀(i:Nat)(u:akf)(c:AV),vs[i]?=some u→ys[i]?=some c→aL G w u c)→HS P n T xs ys=some b→(Op.equalIn (d+n+1) T (.agg us) (.agg vs)).run P w= .ok b w
 |0,_,_,_,_,_,_,_,_,_,_,_,h=>by cases h
 |n+1,d,T,us,vs,xs,ys,b,hx,hy,hu,hv,h=>by
  unfold HS at h;split at h
  ·next fs hT=>
   cases hc:P.stoodInHeld T with
   |true=>rw[hc]at h;cases h
   |false=>
    rw[hc]at h;have hf:P.fieldsOf T=fs:=by unfold Program.fieldsOf;rw[hT]
    rw[show d+(n+1)+1=(d+n+1)+1 by omega,run_equalIn_struct w (d+n+1) T us vs (by rw[hf];exact hT) hc,hf];exact Gz (d+n) (fun T' Lj fc L5 LI b'=>Wf n d T' Lj fc L5 LI b') hx hy hu hv _ b h
  ·cases h
theorem Yv{T:Nat}{us vs:Array akf}{xs ys:akb AV}{b:Bool}(hx:us.size=xs.length)(hy:vs.size=ys.length)
 (hu:∀(i:Nat)(u:akf)(c:AV),us[i]?=some u→xs[i]?=some c→aL G w u c) (hv:∀(i:Nat)(u:akf)(c:AV),vs[i]?=some u→ys[i]?=some c→aL G w u c) (h:Js P T xs ys=some b):
 P.eqGuardType P.depth T=false∧(Op.equalIn 10000 T (.agg us) (.agg vs)).run P w= .ok b w:=by
 unfold Js at h;split at h
 ·next fs hT=>
  cases hc:P.stoodInHeld T||P.eqGuardType P.depth T with
  |true=>rw[hc]at h;cases h
  |false=>
   rw[hc]at h;rw[aka]at hc;refine⟨hc.2,?_⟩;have hf:P.fieldsOf T=fs:=by unfold Program.fieldsOf;rw[hT]
   rw[run_equalIn_struct w 9999 T us vs (by rw[hf];exact hT) hc.1,hf];exact Gz 9998 (fun T' Lj fc L5 LI b'=>Wf 4 9994 T' Lj fc L5 LI b') hx hy hu hv _ b h
 ·cases h
theorem ZY{op:BinOp}{x y:AV}{u v:akf}{T:Nat}{X Y:Operand}{C:AV→Prop}(hu:aL G w u x)(hv:aL G w v y)(h:vq P T op x y C):
 ∃r z,(do eqGuard op T X Y u v;binOp op T u v:Sem akf).run P w= .ok r w∧aL G w r z∧C z:=by
 unfold vq at h;split at h
 ·rename_i k a k' b
  have e1:=hu.val;have e2:=hv.val;subst e1;subst e2;have hg:(eqGuard op T X Y (.int k a) (.int k' b)).run P w= .ok () w:=by unfold eqGuard;cases op<;>simp
  rw[Sem.run_bind,hg];simp only[Result.andThen_ok];split at h
  ·rename_i z hq
   obtain⟨tQ,hp,hC⟩:=bN.1 h;rw[OZ]at tQ;subst tQ;refine⟨z,_,?_, .d (.v z),hC⟩;cases op<;>simp [OR]at hq<;>subst hq<;>simp [binOp,Op.intDiv,hp]
  ·split at h
   ·rename_i z hq
    refine⟨z,_,?_, .d (.v z),h.2⟩;have hb:¬b<0:=by omega
    cases op<;>simp [Oj]at hq<;>subst hq<;>simp [binOp,Op.shift,hb]
   ·split at h
    ·rename_i z hq
     obtain⟨tQ,hC⟩:=bN.1 h;rw[OZ]at tQ;subst tQ;refine⟨z,_,?_, .d (.v z),hC⟩;cases op<;>simp [Og]at hq<;>subst hq<;>simp [binOp,Op.intArith,Op.intCmp,Op.intBits]
    ·exact h.elim
 ·rename_i a b
  have e1:=hu.val;have e2:=hv.val;subst e1;subst e2;have hg:(eqGuard op T X Y (.string a) (.string b)).run P w= .ok () w:=by unfold eqGuard;cases op<;>simp
  rw[Sem.run_bind,hg];simp only[Result.andThen_ok];split at h
  ·rename_i z hq
   refine⟨z,_,?_, .d (.v z),h⟩;cases op<;>simp [MG]at hq<;>subst hq<;>simp [binOp,Op.stringOp,MB]
  ·split at h
   ·refine⟨_,_,?_, .d (.v _),h.2⟩;have hm:¬(((a.size+b.size:Nat):Int)>IntKind.i64.max):=by
     have:=h.1;unfold maxLen at this;have e:IntKind.i64.max=9223372036854775807:=by decide
     rw[e];omega
    simp only[binOp,Op.stringOp];rw[if_neg hm];rfl
   ·exact h.elim
 ·rename_i a b
  have e1:=hu.val;have e2:=hv.val;subst e1;subst e2;have hg:(eqGuard op T X Y (.bool a) (.bool b)).run P w= .ok () w:=by unfold eqGuard;cases op<;>simp
  rw[Sem.run_bind,hg];simp only[Result.andThen_ok];split at h
  ·rename_i z hq
   obtain⟨hT,hC⟩:=bN.1 h;have hT:=Tz hT;refine⟨z,_,?_, .d (.v z),hC⟩;have hb:=run_equalIn_bool (P:=P) w 9999 T a b hT;cases op<;>simp [OL]at hq<;>subst hq<;>simp [binOp,Op.equal,Op.maxDepth,hb]
  ·exact h.elim
 ·rename_i xs ys
  cases hu with
  |agg us _ Dr sm=>
   cases hv with
   |agg vs _ F0 Hb=>
    split at h
    ·next b hb=>
     obtain⟨hg,he⟩:=Yv Dr F0 sm Hb hb;rw[Sem.run_bind,run_eqGuard_agg w op T X Y us vs hg];simp only[Result.andThen_ok];split at h
     ·next z hz=>
      refine⟨z,_,?_, .d (.v z),h⟩;cases op<;>simp [wm]at hz<;>subst hz
      ·rw[run_eql_struct,he];rfl
      ·rw[run_neq_struct,he];rfl
     ·exact h.elim
    ·exact h.elim
 ·exact h.elim
theorem abc{op:UnOp}{x:AV}{u:akf}{C:AV→Prop}(hu:aL G w u x)(h:uX op x C):∃r z,(Op.unary op u).run P w= .ok r w∧aL G w r z∧C z:=by
 unfold uX at h;split at h
 ·rename_i v
  have e:=hu.val;subst e;split at h
  ·rename_i z hq
   refine⟨z,_,?_, .d (.v z),h⟩;unfold FW at hq;split at hq
   ·cases hq;simp [Op.unary]
   ·cases hq;simp [Op.unary,Op.intArith]
   ·cases hq;simp [Op.unary,Op.intBits]
   ·cases hq
  ·exact h.elim
 ·exact h.elim
theorem aet{T:Nat}(h:EG P T=true):P.underlying T=some (.int .u8):=by
 unfold EG at h;split at h
 ·assumption
 ·cases h
theorem XE{a b:Nat}{x:AV}{u:akf}{C:AV→Prop}(hu:aL G w u x)(h:wX P a b x C):∃r z,(convert a b u).run P w= .ok r w∧aL G w r z∧C z:=by
 unfold wX at h;split at h
 ·rename_i k2 m
  have e:=hu.val;subst e;split at h
  ·rename_i k1 k h1 h2
   refine⟨_,_,?_, .d (.v _),h⟩;simp [convert,run_underlying (JG h1),run_underlying (JG h2),Conv.intToInt]
  ·exact h.elim
 ·rename_i s
  have e:=hu.val;subst e;obtain⟨dW,hC⟩:=bN.1 h;rw[ajp]at dW;refine⟨_,_,?_, .d (.v _),hC⟩;simp [convert,run_underlying (qi dW.1),run_underlying (qi dW.2)]
 ·split at h
  ·rename_i xs e k jV hT
   obtain⟨dW,ns,rfl,hC⟩:=bN.1 h;rw[ajp]at dW;refine⟨_,_,?_, .d (.v _),hC⟩;obtain⟨A,bb,o,cc,k',us,rfl,hA,jD,qz,gO,hS,kr⟩:=(hu.list jV).nS;rw[run_convert_bytes_string w a b e A _ cc (im hT).1 (aet dW.1) (qi dW.2)];simp only[ajs]at hA jD hS ⊢;cases ns with
   |nil=>
    cases A with
    |none=>rfl
    |some ad=>
     have hl:=run_loadCells_list (P:=P) w ad (([]:akb Int).map (Value.int .u8)) (fun j v hj=>by simp at hj);simp only[List.map_nil,ajz]at hl;have:=run_bytesToString (P:=P) w ad 0 cc [] (by simpa using hl);exact this
   |cons n0 ns=>
    have Jz:=hA (by simp);subst Jz;have sG:k'=1:=(gO [.v (.int .u8 n0)] (by simp)).symm;subst sG;have hl:=run_loadCells_list (P:=P) w ⟨bb,o,none⟩ ((n0::ns).map (Value.int .u8)) (fun j v hj=>by
     have aX:=(ajn.1 hj).1;rw[ajs]at aX;have h1:=(hS j 0 aX (by omega)).2.1;rw[aju,ajr aX]at hj;cases hj
     have h2:=kr j 0 [.v (.int .u8 ((n0::ns)[j]))] (.v (.int .u8 ((n0::ns)[j]))) (by rw[aju,ajr aX];rfl) rfl;have h3:us j 0= .int .u8 ((n0::ns)[j]):=by
      generalize us j 0=q at h2;cases h2;rfl
     rw[jJ];rw[h3]at h1
     simpa using h1)
    rw[ajs]at hl;rw[run_bytesToString w _ _ cc _ hl];have key:∀(l:akb Int)(r:akc),l.foldl (fun r n=>r.push (UInt8.ofNat n.toNat)) r=⟨r.data++(l.map fun n=>UInt8.ofNat n.toNat).toArray⟩:=by
      intro l
      induction l with
      |nil=>intro r;simp
      |cons x l ih=>intro r;rw[List.foldl_cons,ih];simp [ByteArray.push]
    rw[key];have BP:ByteArray.empty.data= #[]:=rfl;rw[BP];simp
  ·exact h.elim
theorem N5{T f off k:Nat}{g:Bool}(h:rj P T f=some (off,k,g)):∃fs fd,P.underlying T=some (.struct fs)∧fs[f]?=some fd∧eF P fd.type=some k∧0<k∧kE P fd.type=some g∧fd.offset=off:=by
 unfold rj at h;split at h
 ·rename_i fs hT
  split at h
  ·rename_i fd hf
   split at h
   ·rename_i k' g' h1 h2
    cases h
    exact⟨fs,fd,hT,hf,h1,Nat.succ_pos _,h2,rfl⟩
   ·cases h
  ·cases h
 ·cases h
theorem OP{T f off k o b:Nat}{g:Bool}(h:rj P T f=some (off,k,g)):(Instr.fieldAt T (.pointer (some ⟨b,o,none⟩)) f).run P w= .ok (.pointer (some ⟨b,o+off,none⟩)) w:=by
 obtain⟨fs,fd,h1,h2,h3,h4,h5,rfl⟩:=N5 h;simp [Instr.fieldAt,run_underlying h1,h2,Instr.sureAddr,fieldPlace,kA h3,Nat.ne_of_gt h4,jJ]
theorem agT{T f:Nat}{x:AV}{u:akf}{C:AV→Prop}(hu:aL G w u x)(h:uB P T x f C):∃r z,(Instr.field T u f).run P w= .ok r w∧aL G w r z∧C z:=by
 unfold uB at h;split at h
 ·rename_i off k cs hT
  obtain⟨hl,hC⟩:=bN.1 h;rw[di]at hl;obtain⟨fs,fd,h1,h2,h3,h4,h5,rfl⟩:=N5 hT;cases hu with
  |agg vs _ hlen hr=>
   refine⟨.agg (vs.extract fd.offset (fd.offset+k)),_,?_, .agg _ _ ?_ fun i u c hu hc=> ?_,hC⟩
   ·simp [Instr.field,run_underlying h1,h2,asAgg,part,Cc h5,kA h3]
   ·simp;omega
   ·rw[Array.getElem?_extract]at hu;rw[List.getElem?_take]at hc;split at hc
    ·rw[List.getElem?_drop]at hc;split at hu
     ·exact hr _ u c hu hc
     ·cases hu
    ·cases hc
 ·rename_i off k cs hT
  obtain⟨fs,fd,h1,h2,h3,h4,h5,rfl⟩:=N5 hT;split at h
  ·rename_i c hc
   cases hu with
   |agg vs _ hlen hr=>
    have aX:fd.offset<vs.size:=by rw[hlen];exact(ajn.1 hc).1
    refine⟨vs[fd.offset],c,?_,hr _ _ c (ajJ aX) hc,h⟩;simp [Instr.field,run_underlying h1,h2,asAgg,part,Cc h5,ajJ aX]
  ·exact h.elim
 ·exact h.elim
end
def Gh.Ew(G:Gh)(b m:Nat):Gh:={G with S:=fun c o=>G.S c o∨(c=b∧o<m)}
theorem U4{G:Gh}{w:akg}{h:akb aq}(hi:bV G w h)(ob:Obj)(m:Nat):bP G.N G w (G.Ew w.heap.size m) (w.alloc ob)∧bV (G.Ew w.heap.size m) (w.alloc ob) h:=by
 have hE:bP G.N G w (G.Ew w.heap.size m) (w.alloc ob):=
  ⟨by simp,fun _ _ h=> .inl h,fun b _ h=>World.cell?_alloc_lt _ _ _ (hi.S _ _ h),fun _ _=>rfl,fun _ _=> .inl ⟨rfl,rfl⟩,fJ rfl,fun b hb=>Below.heap_alloc w ob b (hi.z b hb),rfl,rfl,rfl,fun b o hs=>hs.imp id fun⟨e,_⟩ hz=>aj1 _ (hi.z _ (e▸hz))⟩
 refine⟨hE,hi.len,fun b hb=>ajL (hi.z b hb) hE.size,fun b o hs=> ?_,fun n B hB=> ?_,fun m n b h1 h2=>hi.inj m n b h1 h2,hi.gl.bn hE⟩
 ·rcases hs with hs|⟨rfl,_⟩
  ·exact ajL (hi.S b o hs) hE.size
  ·simp
 ·refine dC.bn (hi.lt hB) hE (ajy _) ⟨rfl,rfl,rfl⟩ (fun b hb=> ?_) (hi.cU n B hB);have aX:=hi.gP (n:=n) (b:=b) ((dm hB).trans hb);refine⟨Below.heap_alloc w _ _ aX,fun o jC hs=> ?_⟩;rcases hs with hs|⟨e,_⟩
  ·exact jC hs
  ·omega
theorem Um(k:Nat):∀(n o i:Nat)(pl:Nat×Nat),(ua k o n)[i]?=some pl→pl=(o+i*k,k)
 |0,_,_,_,h=>by simp [ua]at h
 |n+1,o,0,pl,h=>by simp [ua]at h;rw[←h];simp
 |n+1,o,i+1,pl,h=>by
  have:=Um k n (o+k) i pl (by simpa [ua]using h);rw[this,Nat.add_mul];simp;omega
theorem PX(l:akb AV):∀n,(qE n l).length=n*l.length
 |0=>by simp [qE]
 |n+1=>by rw[qE,ajo,PX l n,Nat.add_mul];omega
theorem WH(l:akb AV):∀(n i:Nat),i<n*l.length→(qE n l)[i]?=l[i%l.length]?
 |0,i,h=>by omega
 |n+1,i,h=>by
  rw[qE];by_cases hi:i<l.length
  ·rw[ajx hi,Nat.mod_eq_of_lt hi]
  ·rw[ajD (by omega),WH l n _ (by rw[Nat.add_mul]at h;omega),←Nat.mod_eq_sub_mod (by omega)]
theorem ahz(z:akf){k:Nat}(hz:z.cells.size=k)(n:Nat):qE n (z.cells.toList.map fun u=> .d (.v u))=(List.range (n*k)).map fun i=> .d (.v (z.cells[i%z.cells.size]!)):=by
 have hl:(z.cells.toList.map fun u=>AV.d (.v u)).length=k:=by simp [hz]
 refine List.ext_getElem? fun i=> ?_;by_cases hi:i<n*k
 ·rw[WH _ _ _ (by rw[hl];exact hi),aju,aju,List.getElem?_range hi,hl,hz,ajK];have hk:0<k:=Nat.pos_of_ne_zero fun e=>by subst e;simp at hi
  have aX:i%k<z.cells.size:=by rw[hz];exact Nat.mod_lt _ hk
  rw[ajJ aX];simp only[Option.map_some];rw[getElem!_pos z.cells (i%k) aX]
 ·rw[ajT (by rw[PX,hl];omega),ajT (by simp;omega)]
theorem Qh:∀{ps:akb (Nat×AV)}{places:akb (Nat×Nat)}{cs ca:akb AV},nA places cs ps=some ca→ca.length=cs.length
 |[],_,_,_,h=>by simp only[nA,Option.some.injEq]at h;rw[h]
 |(i,x)::ps,places,cs,ca,h=>by
  unfold nA at h;split at h
  ·rw[cond_eq_ite]at h;split at h
   ·rename_i hc
    simp only[ajp,beq_iff_eq,di]at hc;rw[Qh h,CS _ _ _ (by rw[hc.1];exact hc.2)]
   ·cases h
  ·cases h
section
variable {P:ake} {r:akd Nat} {n N0:Nat} {G:Gh} {w:akg} {a:Act} {s:St} {o:Oper} {K:St→Prop} {Q:Exit→Act→akg→Prop}
theorem adU{T len:Nat}{h:akb aq}{ps:akb (Nat×AV)}{qs:Array (Nat×akf)}{C:AV→Prop}(hi:bV G w h)(hl:qs.toList.length=ps.length)
 (hr:∀(i:Nat)(p:Nat×AV)(q:Nat×akf),ps[i]?=some p→qs.toList[i]?=some q→q.1=p.1∧aL G w q.2 p.2) (hC:ui P T len ps C):
 ∃u w' G' y,(Instr.buildSlice T len qs).run P w= .ok u w'∧bP G.N G w G' w'∧G.N≤G'.N∧bV G' w' h∧aL G' w' u y∧C y:=by
 unfold ui at hC;split at hC
 ·rename_i e k hT
  obtain⟨dY,ew⟩:=im hT;split at hC
  ·rename_i z hz
   split at hC
   ·rename_i cs hf
    split at hC
    ·rename_i ds sa
     obtain⟨dW,hC⟩:=bN.1 hC;simp only[ajp,beq_iff_eq,di,ajU]at dW;obtain⟨⟨⟨⟨hk,hsm⟩,iB⟩,fB⟩,hb⟩:=dW;have fB:=WV fB;rw[ahz z iB]at hf;have E4:=Um k;obtain⟨z0,uO⟩:∃z0:Array akf,z0=if len*k=0 then #[]else z.cells:=⟨_,rfl⟩
     obtain⟨zr,Du⟩:∃zr:Array akf,zr=(Array.range (len*k)).map (z0[·%z0.size]!):=⟨_,rfl⟩;have mN:Row G w zr ((List.range (len*k)).map fun i=> .d (.v (z.cells[i%z.cells.size]!))):=by
      have Ef:∀i,i<len*k→z0[i%z0.size]! =z.cells[i%z.cells.size]! :=fun i hi=>by rw[uO,if_neg (by omega)]
      refine⟨by rw[Du];simp,fun i u c hu hc=> ?_,fun i u hu=> ?_⟩
      ·rw[Du,Array.getElem?_map]at hu;rw[aju]at hc;by_cases hi:i<len*k
       ·rw[List.getElem?_range hi]at hc;rw[Array.getElem?_range,if_pos hi]at hu;simp only[Option.map_some,Option.some.injEq]at hu hc;subst hu;subst hc;rw[Ef i hi];exact .d (.v _)
       ·rw[ajT (by simp;omega)]at hc;cases hc
      ·rw[Du,Array.getElem?_map]at hu;by_cases hi:i<len*k
       ·rw[Array.getElem?_range,if_pos hi]at hu;simp only[Option.map_some,Option.some.injEq]at hu;subst hu;rw[Ef i hi];have aX:i%z.cells.size<z.cells.size:=Nat.mod_lt _ (by omega);rw[getElem!_pos z.cells _ aX];exact Array.all_eq_true_iff_forall_mem.1 fB _ (Array.getElem_mem _)
       ·rw[Array.getElem?_eq_none (by simp;omega)]at hu;cases hu
     obtain⟨fc,h1,h2⟩:=M1 (fun i=>some (i*k,k)) (ua k 0 len) (fun i pl h=>by
      have:=E4 len 0 i pl h;rw[this];simp) ps qs.toList _ cs zr mN hl hr hb hf
     obtain⟨d1,d2⟩:=La sa;have fm:cs.length=len*k:=by
      have:=Qh hf;rw[this];simp
     have vo:fc.size=len*k:=by rw[h2.len,fm]
     obtain⟨i1,i2⟩:=U4 hi (.cells fc e) (len*k);have CN:Rd G.S w k (l4 k len ds) fc.toList:=Ut (by rw[d1,fm]) (by rw[ajU,vo]) (fun u hu=>by
      obtain⟨j,hj⟩:=List.mem_iff_getElem?.1 hu;exact h2.one j u (by rw[←ajK];exact hj)) (fun i u d hu hd=>by
      have aX:i<cs.length:=by rw[←d1];exact(ajn.1 hd).1
      exact(h2.rel i u _ (by rw[←ajK];exact hu) (ajr aX)).Kc (d2 i _ d (ajr aX) hd))
     have hp:cY (G.Ew w.heap.size (len*k)).S (w.alloc (.cells fc e)) (.slice (some ⟨w.heap.size,0,none⟩) len len) (.sl (l4 k len ds)):=by
      have:=(CN.bn i1.S i1.cell).FH w.heap.size len (by rw[rC];exact ajy _) (by have:=Nat.le_mul_of_pos_right len hk;simp only[maxLen];omega) (fun o ho=> .inr ⟨rfl,by rw[rC]at ho;exact ho⟩) (fun o u hu=>by
       rw[World.cell?_alloc_new];rw[←ajK];exact hu)
      rwa [rC]at this
     refine⟨_,_,_,_,?_,i1,ajy _,i2, .full _ hp ⟨some ⟨w.heap.size,0,none⟩,by rw[rC]⟩,hC⟩;have jC:¬(len*k>2^24):=by omega
     unfold Instr.buildSlice;simp only[Sem.run_bind,run_underlying dY,Result.andThen_ok,kA ew,jC,if_false];by_cases h0:len*k=0
     ·rw[if_pos h0]at uO;subst uO;subst Du;simp [h0]at h1;simp [h0,h1,newRow]
     ·rw[if_neg h0]at uO;subst uO;subst Du;simp [h0,Ft hz,h1,newRow]
    ·exact hC.elim
   ·exact hC.elim
  ·exact hC.elim
 ·exact hC.elim
end
section
variable {P:ake} {G:Gh} {w:akg} {h:akb aq}
theorem xP(k s:akc)(d:D)(l:akb (akc×D)):nJ ((k,d)::l) s=if k=s then some d else nJ l s:=by
 have e1:nJ ((k,d)::l) s=bif bL k==bL s then some d else nJ l s:=rfl;rw[e1];by_cases e:k=s
 ·subst e;rw[if_pos rfl];simp
 ·rw[if_neg e];have:(bL k==bL s)=false:=by rw[beq_eq_false_iff_ne];exact fun he=>e (NH he)
  rw[this];rfl
theorem Hu{T k e:TypeId}(h:wF P T=some (k,e)):P.underlying T=some (.map k e):=by
 unfold wF at h;split at h
 ·next k' e' hT=>cases h;exact hT
 ·cases h
theorem aaI(hi:bV G w h):bP G.N G w (G.dx w.heap.size) (w.alloc (.map #[] 0))∧bV (G.dx w.heap.size) (w.alloc (.map #[] 0)) (h++[.map []])∧aL (G.dx w.heap.size) (w.alloc (.map #[] 0)) (.map (some w.heap.size)) (.mp h.length):=by
 have hE:=Ee G w hi.z hi.S (.map #[] 0);have hN:G.N≤(G.dx w.heap.size).N:=Nat.le_succ _;have ib:(G.dx w.heap.size).bm h.length=w.heap.size:=by simp [Gh.dx,hi.len]
 have lP:∀n(B:aq),n<G.N→B.dv (G.dx w.heap.size) n=B.dv G n:=fun n B hn=>by
  cases B<;>simp [aq.dv,Gh.dx,Nat.ne_of_lt hn]
 have fw:∀n,n<G.N→b6 (h++[.map []]) (G.dx w.heap.size) n=b6 h G n:=fun n hn=>by
  have aX:n<h.length:=by rw[hi.len];exact hn
  unfold b6;rw[ajx aX,ajr aX];exact lP n _ hn
 have BD:b6 (h++[.map []]) (G.dx w.heap.size) h.length=some w.heap.size:=by
  rw[dm (B:= .map []) (by simp)];exact congrArg some ib
 refine⟨hE,⟨by simp [Gh.dx,hi.len],fun b hb=>ajL (hi.z b hb) hE.size,fun b o hs=>ajL (hi.S b o hs) hE.size,fun n B hB=> ?_,fun m n b hm hn=> ?_,hi.gl.bn hE⟩,?_⟩
 ·by_cases hn:n<h.length
  ·rw[ajx hn]at hB;have eE:n<G.N:=hi.len▸hn;exact dC.bn eE hE hN ⟨rfl,rfl,rfl⟩ (fun b hb=>⟨Below.heap_alloc w _ _ (hi.gP (n:=n) ((dm hB).trans hb)),fun o h=>h⟩) (hi.cU n B hB)
  ·have lz:n=h.length:=by
    have:=(ajn.1 hB).1;simp at this;omega
   subst lz;simp at hB;subst hB;exact⟨by rw[ib];exact fun hz=>aj1 _ (hi.z _ hz),fun o hs=>by rw[ib]at hs;exact aj1 _ (hi.S _ _ hs), #[],0,by rw[ib];exact World.alloc_heap_new w _,
    ⟨by simp,MapKept.stamped_empty 0,fun e he=>(by simp at he),fun s d hs=>(by cases hs),by simp,fun i e he=>(by simp at he),rfl⟩⟩
 ·have key:∀n b,b6 (h++[.map []]) (G.dx w.heap.size) n=some b→(n<G.N∧b6 h G n=some b)∨(n=h.length∧b=w.heap.size):=fun n b hn=>by
   by_cases aX:n<G.N
   ·exact .inl ⟨aX,by rw[←fw n aX];exact hn⟩
   ·by_cases e:n=h.length
    ·subst e;rw[BD]at hn;cases hn;exact .inr ⟨rfl,rfl⟩
    ·rw[AO (ajT (by simp;have:=hi.len;omega))]at hn;cases hn
  rcases key m b hm with⟨_,jR⟩|⟨rfl,rfl⟩<;>rcases key n _ hn with⟨_,eE⟩|⟨rfl,hb⟩
  ·exact hi.inj m n b jR eE
  ·have:=hi.gP jR;omega
  ·have:=hi.gP eE;omega
  ·rfl
 ·have:=aL.mp (G:=G.dx w.heap.size) (w:=w.alloc (.map #[] 0)) h.length (by simp [Gh.dx,hi.len])
  rwa [ib]at this
theorem qK{s:akc}:MapKept.IsKey .string (.string s):=trivial
theorem agB{T k e:TypeId}{z:akf}{n:Nat}{kv:akb (akc×D)}{s:akc}{ok:Bool}(hi:bV G w h)(hT:wF P T=some (k,e))(hz:gD P e=some z)(hk:fA P k=true)(hn:h[n]?=some (.map kv)):
 ∃v,(Instr.lookup T (.map (some (G.bm n))) (.string s) ok).run P w= .ok v w∧aL G w v (HQ ok z (nJ kv s)):=by
 obtain⟨_,_,es,clock,hh,hm⟩:=hi.cU n _ hn;have Dg:∀x∈es.toList,MapKept.IsKey .string x.key:=fun x hx=>by
  obtain⟨s',d,h1,_⟩:=hm.yf x hx;rw[h1];exact qK
 have rG:=qi hk;have one:∀(v:akf)(d:D)(b:Bool),cY G.S w v d→aL G w (if ok then .tuple #[v, .bool b]else v) (bif ok then .bk [.d d, .d (.v (.bool b))]else .d d):=fun v d b hp=>by
  cases ok with
  |false=>exact .d hp
  |true=>
   refine .bk #[v, .bool b] _ rfl fun i u c hu hc=> ?_
   match i with
   |0=>simp at hu hc;subst hu;subst hc;exact .d hp
   |1=>simp at hu hc;subst hu;subst hc;exact .d (.v _)
   |i+2=>simp at hu
 rcases MapKept.findNow_spec (qK (s:=s)) es.toList 0 Dg with⟨h1,h2⟩|⟨j,e0,h1,h2,h3⟩
 ·have YB:nJ kv s=none:=by
   cases hq:nJ kv s with
   |none=>rfl
   |some d=>
    obtain⟨x,hx,lU⟩:=hm.all s d hq;exact absurd lU (h2 x hx)
  refine⟨if ok then .tuple #[z, .bool false]else z,?_,?_⟩
  ·simp [Instr.lookup,run_underlying (Hu hT),MapKept.run_getObj_map hh,MapKept.run_checkKey rG qK,MapKept.run_findKey rG h1,Ft hz,Result.andThen]
  ·rw[YB];have:=one z (.v z) false (.v z);unfold HQ;exact this
 ·have mi:e0∈es.toList:=ajA h2;obtain⟨s',d,k1,k2,k3⟩:=hm.yf e0 mi;rw[h3]at k1;cases k1
  refine⟨if ok then .tuple #[e0.val, .bool true]else e0.val,?_,?_⟩
  ·simp [Instr.lookup,run_underlying (Hu hT),MapKept.run_getObj_map hh,MapKept.run_checkKey rG qK,MapKept.run_findKey rG h1,Result.andThen]
  ·rw[k2];have:=one e0.val d true k3;unfold HQ;exact this
theorem adB{T k e:TypeId}{n:Nat}{kv:akb (akc×D)}{s:akc}{v:akf}{d:D}(hi:bV G w h)(hT:wF P T=some (k,e))(hk:fA P k=true)(hn:h[n]?=some (.map kv))(hv:cY G.S w v d)(hlen:kv.length<maxLen):
 ∃w',(Instr.mapUpdate T (.map (some (G.bm n))) (.string s) v).run P w= .ok () w'∧bP G.N G w G w'∧bV G w' (h.set n (.map ((s,d)::kv))):=by
 obtain⟨hZ,hS,es,clock,hh,hm⟩:=hi.cU n _ hn;have Dg:∀x∈es.toList,MapKept.IsKey .string x.key:=fun x hx=>by
  obtain⟨s',d,h1,_⟩:=hm.yf x hx;rw[h1];exact qK
 have rG:=qi hk;have fin:∀(uJ:Array MapEntry)(DH:Nat)(w':akg),w'=ChangeMaps.setBlock w (G.bm n) (.map uJ DH)→wq G.S w uJ DH ((s,d)::kv)→bP G.N G w G w'∧bV G w' (h.set n (.map ((s,d)::kv))):=by
  intro uJ DH w' dI jR;have gg:∀b,b≠G.bm n→w'.heap[b]?=w.heap[b]?:=fun b hb=>by rw[dI];exact ChangeMaps.heap_setBlock_other hh _ hb
  have L4:w'.heap[G.bm n]?=some (.map uJ DH):=by rw[dI];exact ChangeMaps.heap_setBlock_same hh _
  have gz:w'.heap.size=w.heap.size:=by rw[dI];simp [ChangeMaps.setBlock]
  have fY:∀b o,G.S b o→w'.cell? ⟨b,o,none⟩=w.cell? ⟨b,o,none⟩:=fun b o hs=>World.cell?_of_block (gg b (fun e=>hS o (e▸hs)));have hE:bP G.N G w G w':=⟨by rw[gz];exact ajy _,fun _ _ h=>h,fY,fun _ _=>rfl,fun _ _=> .inl ⟨rfl,rfl⟩,fJ rfl,fun b hb=>gg b (fun e=>hZ (e▸hb)),by rw[dI];rfl,by rw[dI];rfl,by rw[dI];rfl,fun _ _ h=> .inl h⟩;refine⟨hE,?_⟩;have lh:b6 h G n=some (G.bm n):=dm hn;have ki:(h.set n (.map ((s,d)::kv)))[n]?=some (.map ((s,d)::kv)):=by rw[ajQ (ajn.1 hn).1]
  have dT:∀m,m≠n→(h.set n (.map ((s,d)::kv)))[m]?=h[m]?:=fun m hm=>by rw[ajV (Ne.symm hm)]
  have dE:∀m,b6 (h.set n (.map ((s,d)::kv))) G m=b6 h G m:=fun m=>by
   by_cases e:m=n
   ·subst e;rw[dm ki,dm hn];rfl
   ·unfold b6;rw[dT m e]
  refine⟨by rw[List.length_set];exact hi.len,fun b hb=>ajL (hi.z b hb) hE.size,fun b o hs=>ajL (hi.S b o hs) hE.size,fun m B hB=> ?_,fun m m' b h1 h2=>hi.inj m m' b (by rw[←dE];exact h1) (by rw[←dE];exact h2),hi.gl.bn hE⟩;by_cases e:m=n
  ·subst e;rw[ki]at hB;cases hB
   exact⟨hZ,hS,uJ,DH,L4,jR.bn (fun _ _ h=>h) fY⟩
  ·rw[dT m e]at hB;have cu:∀b,b6 h G m=some b→b≠G.bm n:=fun b hb eb=>e (hi.inj m n b hb (by rw[eb];exact lh));exact dC.bn (hi.lt hB) hE (ajy _) ⟨rfl,rfl,rfl⟩ (fun b hb=>⟨gg b (cu _ ((dm hB).trans hb)),fun o h=>h⟩) (hi.cU m B hB)
 rcases MapKept.findNow_spec (qK (s:=s)) es.toList 0 Dg with⟨h1,h2⟩|⟨j,e0,h1,h2,h3⟩
 ·have jR:wq G.S w (es.push ⟨.string s,v,clock⟩) (clock+1) ((s,d)::kv):=by
   refine⟨by have:=hm.len;simp;omega,MapKept.stamped_push hm.stamped h2,fun x hx=> ?_,fun s' d' cp=> ?_,by have:=hm.len;simp;omega,fun i e he=> ?_,by rw[hm.F8];simp⟩
   ·simp only[Array.toList_push,ajZ,List.mem_singleton]at hx;rcases hx with hx|rfl
    ·obtain⟨s',d',k1,k2,k3⟩:=hm.yf x hx;refine⟨s',d',k1,?_,k3⟩;rw[xP,if_neg (fun e=>h2 x hx (by rw[k1,e]))];exact k2
    ·exact⟨s,d,rfl,by rw[xP,if_pos rfl],hv⟩
   ·rw[xP]at cp;simp only[Array.toList_push,ajZ,List.mem_singleton];split at cp
    ·next e=>subst e;exact⟨_, .inr rfl,rfl⟩
    ·obtain⟨x,hx,hk⟩:=hm.all s' d' cp;exact⟨x, .inl hx,hk⟩
   ·rw[Array.getElem?_push]at he;split at he
    ·next ei=>cases he;rw[ei];exact hm.F8
    ·exact hm.born i e he
  obtain⟨f1,f2⟩:=fin _ _ _ rfl jR;refine⟨_,?_,f1,f2⟩;simp [Instr.mapUpdate,run_underlying (Hu hT),MapKept.run_getObj_map hh,MapKept.run_checkKey rG qK,MapKept.run_findKey rG h1,MapKept.run_setObj_map _ hh,Result.andThen,ChangeMaps.setBlock]
 ·have hj:es[j]?=some e0:=by simpa using h2
  have zk:j<es.toList.length:=(ajn.1 h2).1;have aiX:∀e',es[j]?=some e'→({e' with key:= .string s,val:=v}:MapEntry).key=e'.key:=fun e' HB=>by rw[hj]at HB;cases HB;exact h3.symm
  have Ie:(es.modify j (fun e'=>{e' with key:= .string s,val:=v})).toList=es.toList.set j {e0 with key:= .string s,val:=v}:=by
   rw[Array.toList_modify];exact ChangeMaps.modify_eq_set _ _ _ _ h2
  have jm:(es.toList.map (·.key)).Nodup:=hm.stamped.2.2;have jR:wq G.S w (es.modify j (fun e'=>{e' with key:= .string s,val:=v})) clock ((s,d)::kv):=by
   refine⟨by simpa using hm.size,MapKept.stamped_modify hm.stamped _ _ (fun _ _=>rfl) (fun e' _ HB=>aiX e' HB),fun x hx=> ?_,fun s' d' cp=> ?_,by have:=hm.len;simp;omega,fun i e he=> ?_,by rw[hm.F8];simp⟩
   ·rw[Ie]at hx;obtain⟨i,dg,ex⟩:=List.getElem_of_mem hx;rw[List.getElem_set]at ex;split at ex
    ·rw[←ex];exact⟨s,d,rfl,by rw[xP,if_pos rfl],hv⟩
    ·next cu=>
     have iT:i<es.toList.length:=by simpa using dg
     have l7:x∈es.toList:=by rw[←ex];exact List.getElem_mem iT
     obtain⟨s',d',k1,k2,k3⟩:=hm.yf x l7;refine⟨s',d',k1,?_,k3⟩;rw[xP,if_neg ?_]
     ·exact k2
     ·intro uJ;have a1:(es.toList.map (·.key))[i]?=some (.string s):=by rw[aju,ajr iT,ex];simp [k1,uJ]
      have a2:(es.toList.map (·.key))[j]?=some (.string s):=by rw[aju,h2];simp [h3]
      have hii:i<(es.toList.map (·.key)).length:=by simpa using iT
      exact cu ((List.getElem?_inj hii jm).1 (a1.trans a2.symm)).symm
   ·rw[Ie];rw[xP]at cp;split at cp
    ·next e=>subst e;exact⟨_,List.mem_iff_getElem?.2 ⟨j,ajQ zk⟩,rfl⟩
    ·next cu=>
     obtain⟨x,hx,hk⟩:=hm.all s' d' cp;obtain⟨i,dg,ex⟩:=List.getElem_of_mem hx;refine⟨x,List.mem_iff_getElem.2 ⟨i,by simpa using dg,?_⟩,hk⟩;rw[List.getElem_set];split
     ·next e=>
      subst e;exfalso;have:es.toList[j]?=some x:=by rw[ajr dg,ex]
      rw[this]at h2;cases h2
      rw[h3]at hk;injection hk with hk;exact cu hk
     ·exact ex
   ·rw[Array.getElem?_modify]at he;split at he
    ·next ei=>
     subst ei;rw[hj]at he;cases he
     exact hm.born _ e0 hj
    ·exact hm.born i e he
  obtain⟨f1,f2⟩:=fin _ _ _ rfl jR;refine⟨_,?_,f1,f2⟩;simp [Instr.mapUpdate,run_underlying (Hu hT),MapKept.run_getObj_map hh,MapKept.run_checkKey rG qK,MapKept.run_findKey rG h1,hj,h3,MapKept.run_keyThatStays qK,MapKept.run_setObj_map _ hh,Result.andThen,ChangeMaps.setBlock]
end
set_option linter.unusedVariables false
set_option linter.unusedSimpArgs false
section
variable {P:ake} {G:Gh} {w:akg} {h:akb aq}
theorem Hf{w':akg}(hi:bV G w h){n:Nat}{B B':aq}(hn:h[n]?=some B)(sw:∀G':Gh,B.dv G' n=G'.ow n)(JZ:∀G':Gh,B'.dv G' n=G'.ow n)(S:Nat→Nat→Prop)(v:akf)(len:Nat)(ow:akd Nat)
 (hE:bP G.N G w (G.grow n S v len ow) w') (hg:∀g,ow=some g→(g=w.heap.size∨G.ow n=some g)∧g<w'.heap.size)
 (hS:∀b o,S b o→G.S b o∨ow=some b) (gg:∀b,b<w.heap.size→ow≠some b→w'.heap[b]?=w.heap[b]?)
 (hB:dC (G.grow n S v len ow) w' n B'):bV (G.grow n S v len ow) w' (h.set n B'):=by
 have dT:∀m,m≠n→(h.set n B')[m]?=h[m]?:=fun m hm=>by rw[ajV (Ne.symm hm)]
 have ki:(h.set n B')[n]?=some B':=by rw[ajQ (ajn.1 hn).1]
 have lP:∀m(C:aq),m≠n→C.dv (G.grow n S v len ow) m=C.dv G m:=fun m C hm=>by
  cases C<;>simp [aq.dv,Gh.grow,hm]
 have dE:∀m,m≠n→b6 (h.set n B') (G.grow n S v len ow) m=b6 h G m:=fun m hm=>by
  unfold b6;rw[dT m hm];cases h[m]? with
  |none=>rfl
  |some C=>exact lP m C hm
 have EH:b6 (h.set n B') (G.grow n S v len ow) n=ow:=by rw[dm ki,JZ];simp [Gh.grow]
 have uo:∀m b,m≠n→ow=some b→b6 h G m≠some b:=fun m b hm ho hb=>by
  rcases (hg b ho).1 with hg|hg
  ·have:=hi.gP hb;omega
  ·exact hm (hi.inj m n b hb ((dm hn).trans ((sw G).trans hg)))
 refine⟨by rw[List.length_set];exact hi.len,fun b hb=>ajL (hi.z b hb) hE.size,fun b o hs=> ?_,fun m C hm=> ?_,fun m m' b h1 h2=> ?_,hi.gl.bn hE⟩
 ·rcases hS b o hs with hs|hs
  ·exact ajL (hi.S b o hs) hE.size
  ·exact(hg b hs).2
 ·by_cases em:m=n
  ·subst em;rw[ki]at hm;cases hm;exact hB
  ·rw[dT m em]at hm;refine dC.bn (hi.lt hm) hE (ajy _) ⟨by simp [Gh.grow,em],by simp [Gh.grow,em],by simp [Gh.grow,em]⟩ (fun b hb=> ?_) (hi.cU m C hm);have hr:b6 h G m=some b:=(dm hm).trans hb;have cu:ow≠some b:=fun e'=>uo m b em e' hr;refine⟨gg _ (hi.gP hr) cu,fun o jC hs=> ?_⟩;rcases hS _ o hs with hs|hs
   ·exact jC hs
   ·exact cu hs
 ·by_cases e1:m=n<;>by_cases e2:m'=n
  ·rw[e1,e2]
  ·subst e1;rw[dE m' e2]at h2;rw[EH]at h1;exact absurd h2 (uo m' b e2 h1)
  ·subst e2;rw[dE m e1]at h1;rw[EH]at h2;exact absurd h1 (uo m b e1 h2)
  ·rw[dE m e1]at h1;rw[dE m' e2]at h2;exact hi.inj m m' b h1 h2
def Gh.dK(G:Gh)(v:akf)(len:Nat)(ow:akd Nat):Gh:=
 {G with N:=G.N+1,sg:=fun n=>if n=G.N then v else G.sg n,fl:=fun n=>if n=G.N then len else G.fl n,ow:=fun n=>if n=G.N then ow else G.ow n}
theorem Lu{w':akg}(hi:bV G w h)(B:aq)(sw:∀(G':Gh) n,B.dv G' n=G'.ow n)(v:akf)(len:Nat)(ow:akd Nat)(hw:(∀b,b<w.heap.size→w'.heap[b]?=w.heap[b]?)∧w.heap.size≤w'.heap.size∧w'.os=w.os∧w'.tape=w.tape∧w'.output=w.output)
 (how:∀g,ow=some g→w.heap.size≤g)
 (hB:dC (G.dK v len ow) w' G.N B):bP G.N G w (G.dK v len ow) w'∧bV (G.dK v len ow) w' (h++[B]):=by
 have cu:∀n,n<G.N→n≠G.N:=fun n hn=>Nat.ne_of_lt hn;have hE:bP G.N G w (G.dK v len ow) w':=⟨hw.2.1,fun _ _ h=>h,fun b o hs=>World.cell?_of_block (hw.1 b (hi.S b o hs)),fun _ _=>rfl,fun n hn=> .inl ⟨by simp [Gh.dK,cu n hn],by simp [Gh.dK,cu n hn]⟩,fJ rfl,fun b hb=>hw.1 b (hi.z b hb),hw.2.2.1,hw.2.2.2.1,hw.2.2.2.2,fun _ _ h=> .inl h⟩;have hN:G.N≤(G.dK v len ow).N:=Nat.le_succ _;have lP:∀n(C:aq),n<G.N→C.dv (G.dK v len ow) n=C.dv G n:=fun n C hn=>by
  cases C<;>simp [aq.dv,Gh.dK,Nat.ne_of_lt hn]
 have key:∀n b,b6 (h++[B]) (G.dK v len ow) n=some b→(n<G.N∧b6 h G n=some b)∨(n=G.N∧ow=some b):=fun n b hb=>by
  by_cases hn:n<h.length
  ·unfold b6 at hb;rw[ajx hn,ajr hn]at hb;exact .inl ⟨hi.len▸hn,by unfold b6;rw[ajr hn,←hb];exact(lP n _ (hi.len▸hn)).symm⟩
  ·by_cases en:n=h.length
   ·subst en;rw[dm (B:=B) (by simp),sw]at hb;exact .inr ⟨hi.len,by simpa [Gh.dK,hi.len]using hb⟩
   ·rw[AO (ajT (by simp;omega))]at hb;cases hb
 refine⟨hE,by simp [Gh.dK,hi.len],fun b hb=>ajL (hi.z b hb) hw.2.1,fun b o hs=>ajL (hi.S b o hs) hw.2.1,fun n C hC=> ?_,fun m n b h1 h2=> ?_,hi.gl.bn hE⟩
 ·by_cases hn:n<h.length
  ·rw[ajx hn]at hC;have eE:n<G.N:=hi.len▸hn;exact dC.bn eE hE hN ⟨by simp [Gh.dK,cu n eE],by simp [Gh.dK,cu n eE],by simp [Gh.dK,cu n eE]⟩ (fun b hb=>⟨hw.1 b (hi.gP ((dm hC).trans hb)),fun o h=>h⟩) (hi.cU n C hC)
  ·have lz:n=h.length:=by
    have:=(ajn.1 hC).1;simp at this;omega
   subst lz;simp at hC;subst hC;rw[hi.len];exact hB
 ·rcases key m b h1 with⟨_,a1⟩|⟨rfl,a1⟩<;>rcases key n b h2 with⟨_,b1⟩|⟨rfl,b1⟩
  ·exact hi.inj m n b a1 b1
  ·have:=hi.gP a1;have:=how b b1;omega
  ·have:=hi.gP b1;have:=how b a1;omega
  ·rfl
theorem aL.yk{n o len L k:Nat}{e:TypeId}{cs:akb (akb AV)}{u:akf}(hi:bV G w h)(hn:h[n]?=some (.vec e k cs))(hL:cs.length=L)(hv:aL G w u (.vec n o len L k)):Vq (G.sg n) u o len L k:=by
 have hb:=(hi.cU n _ hn).1;cases hv with|vec _ _ _ _ _ h1 h2 h3 h4=>exact h4 (by rw[←hL,hb])
theorem aL.Wn{n i j L k:Nat}{e:TypeId}{k':Nat}{cs:akb (akb AV)}{u:akf}(hi:bV G w h)(hn:h[n]?=some (.vec e k' cs))(hL:cs.length=L)(hv:aL G w u (.cN n i j L k)):O8 (G.sg n) u i j L k:=by
 have hb:=(hi.cU n _ hn).1;cases hv with|cN _ _ _ _ _ h1 h2 h3 h4=>exact h4 (by rw[←hL,hb])
theorem Hq{n:Nat}{e k:Nat}{cs:akb (akb AV)}(hi:bV G w h)(hn:h[n]?=some (.vec e k cs))(cu:cs≠ []):∃(g cap:Nat)(cur:Array akf),G.ow n=some g∧G.sg n= .slice (some ⟨g,0,none⟩) cs.length cap∧¬G.Z g∧w.heap[g]?=some (.cells cur e (0,0))∧cs.length≤cap∧cap≤maxLen∧cur.size=cap*k∧(∀o,¬G.S g o)∧
        ∀(i j:Nat)(c:akb AV)(x:AV)(u:akf),cs[i]?=some c→c[j]?=some x→cur[i*k+j]?=some u→aL G w u x:=by
 obtain⟨_,_,_,h4|h4⟩:=hi.cU n _ hn
 ·exact absurd h4.2.1 cu
 ·exact h4
theorem EM{n:Nat}{e k:Nat}{cs:akb (akb AV)}(hi:bV G w h)(hn:h[n]?=some (.vec e k cs)):∀c∈cs,c.length=k:=(hi.cU n _ hn).2.2.1
theorem k8{i k L j:Nat}(hi:i<L)(hj:j<k):i*k+j<L*k:=by
 have:(i+1)*k≤L*k:=Nat.mul_le_mul_right k hi;rw[Nat.add_mul]at this;omega
theorem Gn{i k j:Nat}(hj:j<k):(i*k+j)/ k=i∧(i*k+j)%k=j:=by
 have hk:0<k:=by omega
 exact⟨by rw[Nat.add_comm,Nat.add_mul_div_right _ _ hk,Nat.div_eq_of_lt hj,ajH],by rw[Nat.add_comm,Nat.add_mul_mod_self_right,Nat.mod_eq_of_lt hj]⟩
theorem ahc{i i' j j' k:Nat}(hj:j<k)(gY:j'<k)(e:i*k+j=i'*k+j'):i=i'∧j=j':=by
 have h1:=Gn (i:=i) hj;have h2:=Gn (i:=i') gY;exact⟨by rw[←h1.1,←h2.1,e],by rw[←h1.2,←h2.2,e]⟩
theorem aaE{t n i j L k:Nat}{e:TypeId}{cs:akb (akb AV)}{c:akb AV}{x:AV}{v:akf}(hi:bV G w h)(hn:h[n]?=some (.vec e k cs))(hL:cs.length=L)(hc:cs[i]?=some c)(hx:L2 P t c j=some x)(hv:aL G w v (.cN n i j L k)):
 ∃u,(Instr.loadAt t v).run P w= .ok u w∧aL G w u x:=by
 have iO:i<cs.length:=(ajn.1 hc).1;have Vl:c.length=k:=EM hi hn c (ajA hc);obtain⟨g,cap,cur,r1,r2,r3,r4,r5,r6,r7,r8,r9⟩:=Hq hi hn (fun e=>by subst e;simp at iO);obtain⟨_,g',Np,p1,p2⟩:=hv.Wn hi hn hL;rw[r2]at p1;cases p1
 have h1:∀q,q<c.length→w.cell? ⟨g,i*k+q,none⟩=some (cur.getD (i*k+q) undef):=fun q hq=>by
  rw[cell_of_row w g _ cur e (0,0) r4];have:i*k+q<cur.size:=by
    rw[r7];exact ajL (k8 iO (by omega)) (Nat.mul_le_mul_right k r5)
  simp [Array.getD,this]
 have h2:∀(q:Nat)(y:AV),c[q]?=some y→aL G w (cur.getD (i*k+q) undef) y:=fun q y hq=>by
  have NX:=(ajn.1 hq).1;have aX:i*k+q<cur.size:=by
   rw[r7];exact ajL (k8 iO (by omega)) (Nat.mul_le_mul_right k r5)
  have e1:cur[i*k+q]?=some (cur.getD (i*k+q) undef):=by simp [Array.getD,aX]
  exact r9 i q c y _ hc hq e1
 have key:=Wu (P:=P) (G:=G) (w:=w) (t:=t) (C:=(·=x)) g (i*k) c j (fun q=>cur.getD (i*k+q) undef) h1 h2 (by
  unfold L2 at hx;revert hx;cases kE P t with
  |none=>intro hx;cases hx
  |some ag=>
   cases eF P t with
   |none=>cases ag<;>(intro hx;cases hx)
   |some kk=>
    cases ag with
    |true=>
     simp only;intro hx;cases hb:cf (j+kk) c.length with
     |false=>rw[hb]at hx;cases hx
     |true=>rw[hb]at hx;cases hx;exact rfl
    |false=>
     simp only;intro hx;rw[hx])
 obtain⟨u,y,k1,k2,rfl⟩:=key;refine⟨u,?_,k2⟩;rw[p2];simp [Instr.loadAt,Instr.sureAddr,k1]
theorem W9{t b off k:Nat}{T:TypeId}{v:akf}{vs:Array akf}(hh:w.heap[b]?=some (.cells vs T (0,0)))(ht:eF P t=some k)(hk:v.cells.size=k)(fB:∀u∈v.cells.toList,u.oneCell'=true)(hb:off+k≤vs.size):
 (storeVar t ⟨b,off,none⟩ v).run P w= .ok () (w.setRow b (vs.toList.take off++v.cells.toList++vs.toList.drop (off+v.cells.toList.length)).toArray):=by
 obtain⟨i,iq,iT⟩:=TU ht;have fD:=run_storeCells_at P b off T v.cells.toList 0 vs w hh (by rw[ajU,hk];simpa using hb) fB;simp only[Nat.add_zero]at fD;unfold storeVar;simp only[sizeOf,typeInfo,Sem.run_bind,hk];simp [iq,iT,fD]
theorem TC(vs:Array akf)(us:akb akf)(off q:Nat)(hb:off+us.length≤vs.size):(vs.toList.take off++us++vs.toList.drop (off+us.length)).toArray[q]?=if off≤q∧q<off+us.length then us[q-off]? else vs[q]?:=by
 rw[List.getElem?_toArray,ajE];have vo:vs.toList.length=vs.size:=ajU;by_cases h1:q<off
 ·rw[ajx (by simp;omega),List.getElem?_take_of_lt h1,if_neg (by omega),ajK]
 ·rw[ajD (by simp;omega)];simp only[List.length_take,vo];rw[Nat.min_eq_left (by omega)];by_cases h2:q<off+us.length
  ·rw[ajx (by omega),if_pos (by omega)]
  ·rw[ajD (by omega),List.getElem?_drop,if_neg (by omega),show off+us.length+(q-off-us.length)=q by omega,ajK]
theorem PT(vs:Array akf)(us:akb akf)(off:Nat)(hb:off+us.length≤vs.size):(vs.toList.take off++us++vs.toList.drop (off+us.length)).toArray.size=vs.size:=by
 simp only[List.size_toArray,ajo,List.length_take,List.length_drop,ajU];omega
theorem Ym(cs ys:akb AV)(off q:Nat)(hb:off+ys.length≤cs.length):(fI cs off ys)[q]?=if off≤q∧q<off+ys.length then ys[q-off]? else cs[q]?:=by
 unfold fI;rw[ajE];by_cases h1:q<off
 ·rw[ajx (by simp;omega),List.getElem?_take_of_lt h1,if_neg (by omega)]
 ·rw[ajD (by simp;omega)];simp only[List.length_take];rw[Nat.min_eq_left (by omega)];by_cases h2:q<off+ys.length
  ·rw[ajx (by omega),if_pos (by omega)]
  ·rw[ajD (by omega),List.getElem?_drop,if_neg (by omega),show off+ys.length+(q-off-ys.length)=q by omega]
theorem Vm{n e k g cap:Nat}{cs ca:akb (akb AV)}{cur:Array akf}{us:akb akf}{off:Nat}(hi:bV G w h)(hn:h[n]?=some (.vec e k cs))(fk:0<k)(r1:G.ow n=some g)(r2:G.sg n= .slice (some ⟨g,0,none⟩) cs.length cap)(r3:¬G.Z g)(r4:w.heap[g]?=some (.cells cur e (0,0)))(r5:cs.length≤cap)(r6:cap≤maxLen)(r7:cur.size=cap*k)(r8:∀o,¬G.S g o)
 (hb:off+us.length≤cur.size) (hl:ca.length=cs.length) (gL:∀c∈ca,c.length=k)
 (xr:∀(i j:Nat)(c:akb AV)(x:AV)(u:akf),ca[i]?=some c→c[j]?=some x→(if off≤i*k+j∧i*k+j<off+us.length then us[i*k+j-off]? else cur[i*k+j]?)=some u→aL G w u x):
 ∃G',bP G.N G w G' (w.setRow g (cur.toList.take off++us++cur.toList.drop (off+us.length)).toArray)∧G'.N=G.N∧bV G' (w.setRow g (cur.toList.take off++us++cur.toList.drop (off+us.length)).toArray) (h.set n (.vec e k ca))∧(∀m,G'.sg m=G.sg m)∧(∀m,G'.fl m=G.fl m):=by
 obtain⟨w',dI⟩:∃w',w'=w.setRow g (cur.toList.take off++us++cur.toList.drop (off+us.length)).toArray:=⟨_,rfl⟩;rw[←dI];have gg:∀b,b≠g→w'.heap[b]?=w.heap[b]?:=fun b hb=>by rw[dI];exact setRow_other w g b _ hb
 have mN:w'.heap[g]?=some (.cells (cur.toList.take off++us++cur.toList.drop (off+us.length)).toArray e (0,0)):=by rw[dI];exact setRow_heap w g cur _ e _ r4
 have gz:w'.heap.size=w.heap.size:=by rw[dI];exact JN w g _
 obtain⟨G',qu⟩:∃G',G'=G.grow n G.S (G.sg n) (G.fl n) (some g):=⟨_,rfl⟩;have Kw:∀m,G'.sg m=G.sg m:=fun m=>by rw[qu];simp only[Gh.grow];split<;>simp_all
 have kf:∀m,G'.fl m=G.fl m:=fun m=>by rw[qu];simp only[Gh.grow];split<;>simp_all
 have hE:bP G.N G w G' w':=⟨by rw[gz];exact ajy _,fun b o h=>by rw[qu];exact h,fun b o hs=>World.cell?_of_block (gg b (fun e=>r8 o (e▸hs))),fun _ _=>by rw[qu];rfl,fun m _=> .inl ⟨kf m,Kw m⟩,fJ (by rw[qu];rfl) (by rw[qu];rfl),fun b hb=>gg b (fun e=>r3 (e▸hb)),by rw[dI];rfl,by rw[dI];rfl,by rw[dI];rfl,fun b o hs=> .inl (by rw[qu]at hs;exact hs)⟩;have mE:=hi.cU n _ hn;refine⟨G',hE,by rw[qu];rfl,?_,Kw,kf⟩;subst qu;refine Hf hi hn (fun _=>rfl) (fun _=>rfl) _ _ _ _ hE (fun g' qA=> ?_) (fun b o hs=> .inl hs) (fun b _ eP=>gg b (fun e=>eP (by rw[e]))) ?_
 ·cases qA;exact⟨.inr r1,by rw[gz];exact(ajC.1 r4).1⟩
 ·refine⟨by rw[kf,hl];exact mE.1,by rw[hl];exact mE.2.1,gL, .inr ⟨g,cap,_,by simp [Gh.grow],by rw[Kw,hl];exact r2,r3,mN,by rw[hl];exact r5,r6,by rw[PT _ _ _ hb];exact r7,r8,fun i j c x u hc hx hu=> ?_⟩⟩;rw[TC _ _ _ _ hb]at hu;exact(xr i j c x u hc hx hu).bn hE (ajy _)
theorem afc{t n i j L k:Nat}{e:TypeId}{cs:akb (akb AV)}{c:akb AV}{x:AV}{v u:akf}(hi:bV G w h)(hn:h[n]?=some (.vec e k cs))(hL:cs.length=L)(hc:cs[i]?=some c)(hv:aL G w v (.cN n i j L k))(hx:aL G w u x)(Ln:x.gR=true)(ht:eF P t=some x.cells.length)(hj:j+x.cells.length≤k)(fk:0<k):
 ∃w' G',(Instr.storeAt t v u).run P w= .ok () w'∧bP G.N G w G' w'∧G.N≤G'.N∧bV G' w' (h.set n (.vec e k (cs.set i (fI c j x.cells)))):=by
 have iO:i<cs.length:=(ajn.1 hc).1;have gL:=EM hi hn;have Vl:c.length=k:=gL c (ajA hc);obtain⟨g,cap,cur,r1,r2,r3,r4,r5,r6,r7,r8,r9⟩:=Hq hi hn (fun e=>by subst e;simp at iO);obtain⟨_,g',Np,p1,p2⟩:=hv.Wn hi hn hL;rw[r2]at p1;cases p1
 obtain⟨c1,c2⟩:=hx.cells Ln;have mG:u.cells.toList.length=x.cells.length:=by rw[ajU,c1]
 have fB:∀y∈u.cells.toList,y.oneCell'=true:=fun y hy=>by
  obtain⟨q,hq⟩:=List.mem_iff_getElem?.1 hy;have NX:u.cells[q]?=some y:=by rw[←ajK];exact hq
  have hql:q<x.cells.length:=by rw[←c1];exact(ajC.1 NX).1
  exact(c2 q y _ NX (ajr hql)).2
 have kj:i*k+j+x.cells.length≤cur.size:=by
  have h1:(i+1)*k≤cap*k:=Nat.mul_le_mul_right k (ajL iO r5);rw[Nat.add_mul]at h1;rw[r7];omega
 have dc:=W9 (P:=P) (off:=i*k+j) r4 ht c1 fB kj;obtain⟨G',e1,e2,e3,_⟩:=Vm (us:=u.cells.toList) (off:=i*k+j) (ca:=cs.set i (fI c j x.cells)) hi hn fk r1 r2 r3 r4 r5 r6 r7 r8 (by rw[mG];exact kj) (by rw[List.length_set]) (fun d hd=>by
     obtain⟨q,hq⟩:=List.mem_iff_getElem?.1 hd;by_cases e:i=q
     ·subst e;rw[ajQ iO]at hq;cases hq
      rw[CS _ _ _ (by omega)];exact Vl
     ·rw[ajV e]at hq;exact gL d (ajA hq)) (fun a b d y z hd hy hz=>by
     have gx:b<k:=by
      by_cases e:i=a
      ·subst e;rw[ajQ iO]at hd;cases hd
       have:=(ajn.1 hy).1;rw[CS _ _ _ (by omega)]at this;omega
      ·rw[ajV e]at hd;rw[←gL d (ajA hd)];exact(ajn.1 hy).1
     rw[mG]at hz;by_cases e:i=a
     ·subst e;rw[ajQ iO]at hd;cases hd
      rw[Ym _ _ _ _ (by omega)]at hy;by_cases hb:j≤b∧b<j+x.cells.length
      ·rw[if_pos hb]at hy;rw[if_pos (by omega),show i*k+b-(i*k+j)=b-j by omega,ajK]at hz;exact(c2 _ _ _ hz hy).1
      ·rw[if_neg hb]at hy;rw[if_neg (by omega)]at hz;exact r9 i b c y z hc hy hz
     ·rw[ajV e]at hd;rw[if_neg ?_]at hz
      ·exact r9 a b d y z hd hy hz
      ·intro hh;have:a*k+b=i*k+(a*k+b-i*k):=by omega
       exact e ((ahc (i:=a) (i':=i) (j:=b) (j':=a*k+b-i*k) gx (by omega) this).1.symm))
 refine⟨_,G',?_,e1,by rw[e2];exact ajy _,e3⟩;rw[p2];simp [Instr.storeAt,Instr.sureAddr,dc]
end
section
variable {P:ake} {G:Gh} {w:akg} {h:akb aq}
structure Ac(G:Gh)(w:World)(k:Nat)(ys:List (List AV))(us:List Value):Prop where
 len:us.length=ys.length*k
 wid:∀c∈ys,c.length=k
 one:∀u∈us,u.oneCell'=true
 rel:∀(i j:Nat)(c:List AV)(x:AV)(u:Value),ys[i]?=some c→c[j]?=some x→us[i*k+j]?=some u→aL G w u x
theorem O0{k tx e':Nat}{y:AV}{v:akf}{ys:akb (akb AV)}(hi:bV G w h)(hv:aL G w v y)(hs:vz h k y ys)(fk:0<k)(hT:P.underlying tx=some (.slice e')):
 ∃us,Ac G w k ys us∧Src P k tx v ys.length us w:=by
 rcases hs with⟨xs,h1,h2,rfl⟩|⟨n,o,len,L,e,cs,rfl,h2,h3,h4,h5⟩
 ·obtain⟨us,hr,wv⟩:=(hv.list h1).src fk h2 hT;have hl:(bo xs).length=xs.length:=by unfold bo;rw[ajs]
  refine⟨us,⟨by rw[hl];exact hr.len,fun c hc=> ?_,hr.one,fun i j c x u hc hx hu=> ?_⟩,by rw[hl];exact wv⟩
  ·unfold bo at hc;obtain⟨d,hd,rfl⟩:=List.mem_map.1 hc;rw[ajs];exact h2 d hd
  ·unfold bo at hc;rw[aju]at hc;cases l7:xs[i]? with
   |none=>rw[l7]at hc;cases hc
   |some d=>
    rw[l7]at hc;cases hc
    rw[aju]at hx;cases hy:d[j]? with
    |none=>rw[hy]at hx;cases hx
    |some z=>
     rw[hy]at hx;cases hx
     obtain⟨u',a1,a2⟩:=hr.rel i j d z l7 hy;rw[a1]at hu;cases hu
     exact .d a2
 ·have j7:=hv.yk hi h2 h3;obtain⟨A,c,rfl,c1,c2,c3,c4⟩:=j7.sl;have uj:ys.length=len:=by rw[h4,List.length_take,List.length_drop,h3];have:=j7.ol;omega
  by_cases h0:len=0
  ·subst h0;have:ys=[]:=List.eq_nil_of_length_eq_zero uj;subst this;refine⟨[],⟨by simp,(fun _ h=>by cases h),(fun _ h=>by cases h),fun i j c x u hc=>by simp at hc⟩,?_⟩;cases A with
   |none=>exact Src.ofNil w hT c
   |some a=>exact Src.ofSlice w hT a 0 c [] (by simp) (fun j u hu=>by simp at hu) (fun u hu=>by cases hu)
  ·have ho:o<L:=by have:=j7.ol;omega
   obtain⟨g,cap,p1,rfl,p3⟩:=c4 ho;have cu:cs≠ []:=fun e=>by subst e;simp at h3;omega
   obtain⟨g',Np,cur,r1,r2,r3,r4,r5,r6,r7,r8,r9⟩:=Hq hi h2 cu;rw[r2]at p1;cases p1
   have gL:=EM hi h2;have fY:∀q,q<len*k→o*k+q<cur.size:=fun q hq=>by
    have h1:(o+len)*k≤cap*k:=Nat.mul_le_mul_right k (by have:=j7.ol;omega);rw[Nat.add_mul]at h1;rw[r7];omega
   have ir:∀i,i<len→ys[i]?=cs[o+i]?:=fun i dg=>by rw[h4,List.getElem?_take_of_lt dg,List.getElem?_drop]
   have fB:∀q,q<len*k→(cur.getD (o*k+q) undef).oneCell'=true:=fun q hq=>by
    have NC:q / k<len:=Nat.div_lt_of_lt_mul (by rw[Nat.mul_comm];exact hq);have hkj:q%k<k:=Nat.mod_lt _ fk;obtain⟨d,fg⟩:∃d,cs[o+q / k]?=some d:=⟨_,ajr (by have:=j7.ol;omega)⟩;have A1:=gL _ (ajA fg);obtain⟨x,hx⟩:∃x,d[q%k]?=some x:=⟨_,ajr (by rw[A1];exact hkj)⟩;have e1:(o+q / k)*k+q%k=o*k+q:=by
     rw[Nat.add_mul];have:=Nat.div_add_mod q k;rw[Nat.mul_comm]at this;omega
    have hu':cur[(o+q / k)*k+q%k]?=some (cur.getD (o*k+q) undef):=by
     rw[e1];simp [Array.getD,fY q hq]
    refine(r9 _ _ _ _ _ fg hx hu').iX ?_;have mi:d∈ys:=ajA ((ir _ NC).trans fg);have:=h5 _ mi;rw[ajN]at this;exact this _ (ajA hx)
   refine⟨(List.range (len*k)).map fun q=>cur.getD (o*k+q) undef,⟨by rw[uj];simp,fun c hc=>gL c ?_,fun u hu=> ?_,fun i j c x u hc hx hu=> ?_⟩,?_⟩
   ·rw[h4]at hc;exact List.mem_of_mem_drop (List.mem_of_mem_take hc)
   ·obtain⟨q,hq,rfl⟩:=List.mem_map.1 hu;exact fB q (List.mem_range.1 hq)
   ·have iO:i<len:=by rw[←uj];exact(ajn.1 hc).1
    rw[ir i iO]at hc;have H6:j<k:=by rw[←gL c (ajA hc)];exact(ajn.1 hx).1
    have aX:i*k+j<len*k:=k8 iO H6;rw[aju,List.getElem?_range aX]at hu;simp only[Option.map_some,Option.some.injEq]at hu;refine r9 (o+i) j c x u hc hx ?_;rw[←hu,show(o+i)*k+j=o*k+(i*k+j) by rw[Nat.add_mul];omega];simp [Array.getD,fY _ aX]
   ·rw[uj];refine Src.ofSlice w hT _ len c _ (by simp) (fun j u hu=> ?_) (fun u hu=> ?_)
    ·rw[jJ,cell_of_row w g _ cur e (0,0) r4];rw[aju]at hu;by_cases hj:j<len*k
     ·rw[List.getElem?_range hj]at hu;simp only[Option.map_some,Option.some.injEq]at hu;rw[←hu];simp [Array.getD,fY _ hj]
     ·rw[ajT (by simp;omega)]at hu;cases hu
    ·obtain⟨q,hq,rfl⟩:=List.mem_map.1 hu;exact fB q (List.mem_range.1 hq)
theorem Ac.bn{G':Gh}{w':akg}{k:Nat}{ys:akb (akb AV)}{us:akb akf}(h:Ac G w k ys us)(hE:bP G.N G w G' w')(hN:G.N≤G'.N):Ac G' w' k ys us:=
 ⟨h.len,h.wid,h.one,fun i j c x u h1 h2 h3=>(h.rel i j c x u h1 h2 h3).bn hE hN⟩
theorem XB{α:Type}{k:Nat}(l:akb α)(us:akb α)(m i j:Nat)(hl:l.length=m*k)(hj:j<k):(l++us)[i*k+j]?=if i<m then l[i*k+j]? else us[(i-m)*k+j]?:=by
 by_cases h:i<m
 ·rw[if_pos h,ajx (by rw[hl];exact k8 h hj)]
 ·have h1:m*k≤i*k:=Nat.mul_le_mul_right k (by omega);rw[if_neg h,ajD (by rw[hl];omega),hl,Nat.sub_mul,show i*k+j-m*k=i*k-m*k+j by omega]
theorem Mx{e k cap:Nat}{cs:akb (akb AV)}{cur:Array akf}(hi:bV G w h)(h1:cs.length≤cap)(h2:cap≤maxLen)(h3:cur.size=cap*k)(gL:∀c∈cs,c.length=k)(w0:akg)(pa:w0.heap=w.heap∧w0.os=w.os∧w0.tape=w.tape∧w0.output=w.output)
 (xr:∀(i j:Nat)(c:akb AV)(x:AV)(u:akf),cs[i]?=some c→c[j]?=some x→cur[i*k+j]?=some u→aL G w u x):
 ∃G',bP G.N G w G' (w0.alloc (.cells cur e))∧G.N≤G'.N∧bV G' (w0.alloc (.cells cur e)) (h++[.vec e k cs])∧∀len,len≤cs.length→aL G' (w0.alloc (.cells cur e)) (.slice (some ⟨w.heap.size,0,none⟩) len cap) (.vec h.length 0 len cs.length k):=by
 have gz:w0.heap.size=w.heap.size:=by rw[pa.1]
 have fw:(w0.alloc (.cells cur e)).heap[w.heap.size]?=some (.cells cur e (0,0)):=by rw[←gz];exact World.alloc_heap_new w0 _
 have hold:∀b,b<w.heap.size→(w0.alloc (.cells cur e)).heap[b]?=w.heap[b]?:=fun b hb=>by rw[Below.heap_alloc w0 _ b (by rw[gz];exact hb),pa.1]
 have hw:(∀b,b<w.heap.size→(w0.alloc (.cells cur e)).heap[b]?=w.heap[b]?)∧w.heap.size≤(w0.alloc (.cells cur e)).heap.size∧(w0.alloc (.cells cur e)).os=w.os∧(w0.alloc (.cells cur e)).tape=w.tape∧(w0.alloc (.cells cur e)).output=w.output:=
  ⟨hold,by simp [gz],pa.2.1,pa.2.2.1,pa.2.2.2⟩
 obtain⟨sv,ko⟩:∃sv,sv=Value.slice (some ⟨w.heap.size,0,none⟩) cs.length cap:=⟨_,rfl⟩;obtain⟨Cj,_⟩:bP G.N G w (G.dK sv cs.length (some w.heap.size)) (w0.alloc (.cells cur e))∧True:=by
  refine⟨⟨hw.2.1,fun _ _ h=>h,fun b o hs=>World.cell?_of_block (hw.1 b (hi.S b o hs)),fun _ _=>rfl,fun n hn=> .inl ⟨by simp [Gh.dK,Nat.ne_of_lt hn],by simp [Gh.dK,Nat.ne_of_lt hn]⟩,fJ rfl,fun b hb=>hw.1 b (hi.z b hb),hw.2.2.1,hw.2.2.2.1,hw.2.2.2.2,fun _ _ h=> .inl h⟩,trivial⟩
 obtain⟨hE,hI⟩:=Lu (w':=w0.alloc (.cells cur e)) hi (.vec e k cs) (fun _ _=>rfl) sv cs.length (some w.heap.size) hw (fun g hg=>by cases hg;exact ajy _) (by
  refine⟨by simp [Gh.dK],ajF h1 h2,gL, .inr ⟨w.heap.size,cap,cur,by simp [Gh.dK],by simp [Gh.dK,ko],fun hz=>aj1 _ (hi.z _ hz),fw,h1,h2,h3,fun o hs=>aj1 _ (hi.S _ _ hs),fun i j c x u hc hx hu=>(xr i j c x u hc hx hu).bn Cj (Nat.le_succ _)⟩⟩)
 refine⟨_,hE,Nat.le_succ _,hI,fun len hlen=> ?_⟩;rw[hi.len];refine .vec G.N 0 len cs.length k (by simp [Gh.dK]) ⟨_,_,_,rfl⟩ (by simp [Gh.dK]) fun _=>⟨by omega,⟨_,_,rfl,ajF hlen h1,h2,h1,fun _=>⟨w.heap.size,cap,by simp [Gh.dK,ko],by simp,by simp⟩⟩,fun _ e=>by subst e;simp [Gh.dK,ko]⟩
theorem aaB{T e k len m ct:Nat}{i:TypeInfo}{z:akf}{kl kc:IntKind}{l c:Int}(hi:bV G w h)(hT:P.underlying T=some (.slice e))(js:P.info? e=some i)(hz:i.zero=some z)(m6:i.size=k)(uH:i.bytes=ct)(iB:z.cells.toList.length=k)(fk:0<k)
 (h0:0≤l) (jD:l≤c) (hl:l.toNat=len) (hc:c.toNat=m) (hm:m≤maxLen) (hb:ct*m≤281474976710656):
 ∃u w' G',(Instr.makeSlice T (.int kl l) (.int kc c)).run P w= .ok u w'∧bP G.N G w G' w'∧G.N≤G'.N∧bV G' w' (h++[.vec e k (List.replicate m (z.cells.toList.map fun u=> .d (.v u)))])∧aL G' w' u (.vec h.length 0 len m k):=by
 subst m6;subst uH;have eP:(i.bytes:Int)*c≤281474976710656:=by
  have:((i.bytes*m:Nat):Int)≤281474976710656:=by omega
  rw[Int.natCast_mul,←hc,Int.toNat_of_nonneg (by omega)]at this;exact this
 have h63:c≤9223372036854775807:=by have h:=hm;simp [maxLen]at h;omega
 have dc:=run_make (P:=P) w T e i z hT js hz kl kc l c h0 jD eP h63;rw[hl,hc]at dc;have fm:(List.replicate m (z.cells.toList.map fun u=>AV.d (.v u))).length=m:=ajX;obtain⟨G',g1,g2,g3,g4⟩:=Mx (e:=e) (k:=i.size) (cap:=m) (cs:=List.replicate m (z.cells.toList.map fun u=>AV.d (.v u))) (cur:=madeCells z.cells (m*i.size)) hi (by rw[fm];exact ajy _) hm (size_madeCells _ _) (fun c hc=>by
  rw[List.eq_of_mem_replicate hc,ajs];exact iB) w ⟨rfl,rfl,rfl,rfl⟩ (fun a b c x u hc hx hu=>by
  have:=List.eq_of_mem_replicate (ajA hc);subst this;rw[aju]at hx;cases hq:z.cells.toList[b]? with
  |none=>rw[hq]at hx;cases hx
  |some y=>
   rw[hq]at hx;cases hx
   have gx:b<i.size:=by rw[←iB];exact(ajn.1 hq).1
   have Nt:a<m:=by have:=(ajn.1 hc).1;rwa [fm]at this
   unfold madeCells at hu;have aX:a*i.size+b<m*i.size:=k8 Nt gx;rw[Array.getElem?_map,Array.getElem?_range,if_pos aX]at hu;simp only[Option.map_some,Option.some.injEq]at hu;have gS:z.cells.size=i.size:=by rw[←ajU];exact iB
   rw[gS,(Gn (i:=a) gx).2]at hu;have qR:z.cells[b]?=some y:=by rw[←ajK];exact hq
   rw[getElem!_pos z.cells b (by rw[gS];exact gx)]at hu;rw[ajJ (by rw[gS];exact gx)]at qR;cases qR
   subst hu;exact .d (.v _))
 rw[fm]at g4;refine⟨_,_,G',dc,g1,g2,g3,g4 len ?_⟩;rw[←hl,←hc];omega
theorem ack{T tx ty e k ct n o len L:Nat}{i:TypeInfo}{z:akf}{u v:akf}{cs ys:akb (akb AV)}{us:akb akf}(hi:bV G w h)(hT:P.underlying T=some (.slice e))(js:P.info? e=some i)(hz:i.zero=some z)(m6:i.size=k)(uH:i.bytes=ct)(iB:z.cells.size=k)(fk:0<k)
 (hn:h[n]?=some (.vec e k cs)) (hL:cs.length=L) (hu:aL G w u (.vec n o len L k)) (hr:Ac G w k ys us) (hs:Src P k tx v ys.length us w)
 {L':Nat} {ca:akb (akb AV)} (o8:(o+len+ys.length≤L∧L'=L∧ca=cs.take (o+len)++ys++cs.drop (o+len+ys.length))∨(o=0∧len=L∧L'=L+ys.length∧ca=cs++ys∧L'≤maxLen∧L'*ct≤140737488355328)):
 ∃r w' G',(Builtin.append_ #[T,tx] ty #[u,v]).run P w= .ok r w'∧bP G.N G w G' w'∧G.N≤G'.N∧bV G' w' (h.set n (.vec e k ca))∧aL G' w' r (.vec n o (len+ys.length) L' k):=by
 subst m6;subst uH;have mn:=hi.lt hn;have gL:=EM hi hn;have j7:=hu.yk hi hn hL;have mE:=hi.cU n _ hn;have ai9:=j7;obtain⟨Iz,⟨A,c,rfl,c1,c2,c3,c4⟩,call⟩:=j7;by_cases hy:ys.length=0
 ·have ir:ys=[]:=List.eq_nil_of_length_eq_zero hy;subst ir;have kr:us=[]:=List.eq_nil_of_length_eq_zero (by rw[hr.len];simp);subst kr;have dc:=run_append_nothing (P:=P) w T tx ty e i hT js A len c c1 v hs;have e1:ca=cs:=by
   rcases o8 with⟨_,_,e⟩|⟨_,_,_,e,_⟩
   ·rw[e];simp
   ·rw[e];simp
  have e2:L'=L:=by
   rcases o8 with⟨_,e,_⟩|⟨_,_,e,_⟩
   ·exact e
   ·rw[e];simp
  subst e1;subst e2;refine⟨_,w,G,dc,bP.refl _ _ _,ajy _,?_,by simpa using hu⟩;have:h.set n (.vec e i.size ca)=h:=by
   refine List.ext_getElem? fun m=> ?_;by_cases em:m=n
   ·subst em;rw[ajQ (ajn.1 hn).1,hn]
   ·rw[ajV (Ne.symm em)]
  rw[this];exact hi
 ·have hy0:0<ys.length:=Nat.pos_of_ne_zero hy;have room:len+ys.length≤c→∀g cap cur,G.ow n=some g→G.sg n= .slice (some ⟨g,0,none⟩) cs.length cap→¬G.Z g→w.heap[g]?=some (.cells cur e (0,0))→cs.length≤cap→cap≤maxLen→cur.size=cap*i.size→(∀o,¬G.S g o)→
      (∀(a b:Nat)(d:akb AV)(x:AV)(q:akf),cs[a]?=some d→d[b]?=some x→cur[a*i.size+b]?=some q→aL G w q x)→A=some ⟨g,o*i.size,none⟩→o+c=cap→
      ∃r w' G',(Builtin.append_ #[T,tx] ty #[.slice A len c,v]).run P w= .ok r w'∧bP G.N G w G' w'∧G.N≤G'.N∧bV G' w' (h.set n (.vec e i.size ca))∧aL G' w' r (.vec n o (len+ys.length) L' i.size):=by
   intro oB g cap cur r1 r2 r3 r4 r5 r6 r7 r8 r9 rA rc;have kj:(o+len)*i.size+us.length≤cur.size:=by
    rw[hr.len,r7,←Nat.add_mul];exact Nat.mul_le_mul_right _ (by omega)
   have yB:∀j,j<us.length→(w.cell? ⟨g,o*i.size+len*i.size+j,none⟩).isSome=true:=fun j hj=>by
    rw[cell_of_row w g _ cur e (0,0) r4,ajJ (by rw[Nat.add_mul]at kj;omega)];rfl
   have dc:=run_append_room_src (P:=P) w T tx ty e i hT js g (o*i.size) len c v ys.length us hs oB yB (fun j hj=>by unfold World.frozen?;rw[r4];simp);have fD:=run_storeCells_at P g (o*i.size+len*i.size) e us 0 cur w r4 (by rw[Nat.add_mul]at kj;simpa using kj) hr.one;have wj:=run_storeCells_cells (P:=P) g (o*i.size+len*i.size) us 0 w (by simpa using yB) (fun j hj=>by unfold World.frozen?;rw[r4];simp) hr.one;simp only[Nat.add_zero]at fD wj;rw[fD]at wj;injection wj with _ e2;rw[←e2,←Nat.add_mul]at dc;rw[rA];have fw:∀(a b:Nat)(d:akb AV)(x:AV)(q:akf),ca[a]?=some d→d[b]?=some x→(if(o+len)*i.size≤a*i.size+b∧a*i.size+b<(o+len)*i.size+us.length then us[a*i.size+b-(o+len)*i.size]? else cur[a*i.size+b]?)=some q→aL G w q x:=by
    intro a b d x q hd hx hq;have OO:d.length=i.size:=by
     have hm:=ajA hd;rcases o8 with⟨_,_,e⟩|⟨_,_,_,e,_⟩
     ·rw[e]at hm;rcases ajZ.1 hm with hm|hm
      ·rcases ajZ.1 hm with hm|hm
       ·exact gL d (List.mem_of_mem_take hm)
       ·exact hr.wid d hm
      ·exact gL d (List.mem_of_mem_drop hm)
     ·rw[e]at hm;rcases ajZ.1 hm with hm|hm
      ·exact gL d hm
      ·exact hr.wid d hm
    have gx:b<i.size:=by rw[←OO];exact(ajn.1 hx).1
    have Fv:(a<o+len∧cs[a]?=some d)∨(o+len≤a∧a<o+len+ys.length∧ys[a-(o+len)]?=some d)∨(o+len+ys.length≤a∧cs[a]?=some d):=by
     rcases o8 with⟨hf,_,e⟩|⟨e0,e1,_,e,_⟩
     ·rw[e]at hd;have Kk:(cs.take (o+len)).length=o+len:=by rw[List.length_take];omega
      by_cases h1:a<o+len
      ·rw[ajE,ajx (by rw[Kk];exact h1),List.getElem?_take_of_lt h1]at hd;exact .inl ⟨h1,hd⟩
      ·rw[ajE,ajD (by rw[Kk];omega),Kk]at hd;by_cases h2:a-(o+len)<ys.length
       ·rw[ajx h2]at hd;exact .inr (.inl ⟨by omega,by omega,hd⟩)
       ·rw[ajD (by omega),List.getElem?_drop,show o+len+ys.length+(a-(o+len)-ys.length)=a by omega]at hd;exact .inr (.inr ⟨by omega,hd⟩)
     ·rw[e]at hd;by_cases h1:a<cs.length
      ·rw[ajx h1]at hd;exact .inl ⟨by omega,hd⟩
      ·rw[ajD (by omega)]at hd;have:=(ajn.1 hd).1;exact .inr (.inl ⟨by omega,by omega,by rw[show a-(o+len)=a-cs.length by omega];exact hd⟩)
    rcases Fv with⟨h1,h2⟩|⟨h1,h2,h3⟩|⟨h1,h2⟩
    ·rw[if_neg (by have:=k8 h1 gx;omega)]at hq;exact r9 a b d x q h2 hx hq
    ·have hle:(o+len)*i.size≤a*i.size:=Nat.mul_le_mul_right _ h1;have aX:a*i.size+b<(o+len+ys.length)*i.size:=k8 h2 gx;rw[Nat.add_mul (o+len)]at aX;rw[if_pos ⟨by omega,by rw[hr.len];exact aX⟩]at hq;refine hr.rel (a-(o+len)) b d x q h3 hx ?_;rw[Nat.sub_mul,show a*i.size-(o+len)*i.size+b=a*i.size+b-(o+len)*i.size by omega];exact hq
    ·have hle:(o+len+ys.length)*i.size≤a*i.size:=Nat.mul_le_mul_right _ h1;rw[Nat.add_mul (o+len)]at hle;rw[if_neg (by rw[hr.len];omega)]at hq;exact r9 a b d x q h2 hx hq
   have WC:∀d∈ca,d.length=i.size:=fun d hm=>by
    rcases o8 with⟨_,_,e⟩|⟨_,_,_,e,_⟩
    ·rw[e]at hm;rcases ajZ.1 hm with hm|hm
     ·rcases ajZ.1 hm with hm|hm
      ·exact gL d (List.mem_of_mem_take hm)
      ·exact hr.wid d hm
     ·exact gL d (List.mem_of_mem_drop hm)
    ·rw[e]at hm;rcases ajZ.1 hm with hm|hm
     ·exact gL d hm
     ·exact hr.wid d hm
   rcases o8 with⟨hf,eL,ec⟩|⟨e0,e1,eL,ec,iW,lx⟩
   ·have fm:ca.length=cs.length:=by rw[ec];simp;omega
    obtain⟨G',k1,k2,k3,k4,k5⟩:=Vm (us:=us) (off:=(o+len)*i.size) (ca:=ca) hi hn fk r1 r2 r3 r4 r5 r6 r7 r8 kj fm WC fw;refine⟨_,_,G',dc,k1,by rw[k2];exact ajy _,k3,?_⟩;refine .vec n o (len+ys.length) L' i.size (by rw[k2];exact mn) ⟨_,_,_,rfl⟩ (by rw[k5,eL,mE.1,hL];exact ajy _) fun _=> ?_;rw[k4];refine⟨by omega,⟨_,_,rfl,oB,c2,by omega,fun ho=> ?_⟩,fun ho hl=> ?_⟩
    ·rw[eL]at ho ⊢;obtain⟨g2,RD,q1,q2,q3⟩:=c4 ho;exact⟨g2,RD,q1,by rw[←q2,rA],q3⟩
    ·subst ho;rw[r2,hL,←eL,←hl];simp at rc;subst rc;simp
   ·subst e0;subst e1;simp only[ajH,Nat.zero_mul]at*;subst rc;obtain⟨w',dI⟩:∃w',w'=w.setRow g (cur.toList.take (len*i.size)++us++cur.toList.drop (len*i.size+us.length)).toArray:=⟨_,rfl⟩;rw[←dI]at dc;have gg:∀b,b≠g→w'.heap[b]?=w.heap[b]?:=fun b hb=>by rw[dI];exact setRow_other w g b _ hb
    have mN:w'.heap[g]?=some (.cells (cur.toList.take (len*i.size)++us++cur.toList.drop (len*i.size+us.length)).toArray e (0,0)):=by rw[dI];exact setRow_heap w g cur _ e _ r4
    have gz:w'.heap.size=w.heap.size:=by rw[dI];exact JN w g _
    obtain⟨sv,ko⟩:∃sv,sv=Value.slice (some ⟨g,0,none⟩) L' c:=⟨_,rfl⟩;have fm:ca.length=L':=by rw[ec,ajo,hL,eL]
    have kf:G.fl n=len:=by rw[mE.1,hL]
    have hE:bP G.N G w (G.grow n G.S sv L' (some g)) w':=⟨by rw[gz];exact ajy _,fun _ _ h=>h,fun b q hs=>World.cell?_of_block (gg b (fun e=>r8 q (e▸hs))),fun _ _=>rfl,fun m _=>by
        by_cases em:m=n
        ·right;subst em;simp only[Gh.grow,if_true,kf];omega
        ·left;exact⟨by simp [Gh.grow,em],by simp [Gh.grow,em]⟩,fJ rfl,fun b hb=>gg b (fun e=>r3 (e▸hb)),by rw[dI];rfl,by rw[dI];rfl,by rw[dI];rfl,fun b q hs=> .inl hs⟩
    refine⟨_,w',_,dc,hE,ajy _,Hf hi hn (fun _=>rfl) (fun _=>rfl) _ _ _ _ hE (fun g' qA=>by cases qA;exact⟨.inr r1,by rw[gz];exact(ajC.1 r4).1⟩) (fun b q hs=> .inl hs) (fun b _ eP=>gg b (fun e=>eP (by rw[e]))) ?_,?_⟩
    ·refine⟨by simp [Gh.grow,fm],by rw[fm];exact iW,WC, .inr ⟨g,c,_,by simp [Gh.grow],by simp [Gh.grow,ko,fm],r3,mN,by rw[fm];omega,r6,by rw[PT _ _ _ kj];exact r7,r8,fun a b d x q hd hx hq=> ?_⟩⟩;rw[TC _ _ _ _ kj]at hq;exact(fw a b d x q hd hx hq).bn hE (ajy _)
    ·refine .vec n 0 (len+ys.length) L' i.size mn ⟨_,_,_,rfl⟩ (by simp [Gh.grow]) fun _=>⟨by omega,⟨_,_,rfl,oB,c2,by omega,fun _=>⟨g,c,by simp [Gh.grow,ko],by simp,by simp⟩⟩,fun _ e=> ?_⟩;simp [Gh.grow,ko,eL]
  rcases mE.2.2.2 with⟨b1,b2,A',b3⟩|⟨g,cap,cur,r1,r2,r3,r4,r5,r6,r7,r8,r9⟩
  ·
   subst b2;simp at hL;subst hL;have ho:o=0:=by omega
   have Ih:len=0:=by omega
   subst ho;subst Ih;have:=call rfl rfl;rw[b3]at this;injection this with q1 _ q2;subst q2;rcases o8 with⟨hf,_,_⟩|⟨_,_,eL,ec,iW,lx⟩
   ·omega
   ·simp only[ajH,List.nil_append]at eL ec;subst ec;rw[eL]at iW lx;have K7:ca.length≤9223372036854775807:=by simp only[maxLen]at iW;omega
    have hold:(Builtin.firstCells i.size 0 (.slice A 0 0)).run P w.drew= .ok ([]:akb akf).toArray w.drew:=by
     cases A with
     |none=>exact run_firstCells_none _ _ _ _ _
     |some a=>exact run_firstCells_some _ _ _ _ _ _ [] (by simp) (fun j u hu=>by simp at hu)
    have dc:=run_append_grow_src (P:=P) w T tx ty e i z hT js hz A 0 0 [] hold v ca.length us hs (by omega) (by omega) (growslice_fits (by omega) (by simpa using lx));simp only[ajH,List.nil_append]at dc;obtain⟨cap,iM⟩:∃cap,cap=grownCap w ca.length 0 e:=⟨_,rfl⟩;have iS:ca.length≤cap:=by rw[iM];exact grownCap_ge _ _ _ _
    have hle:cap≤maxLen:=by rw[iM];exact grownCap_le_maxLen _ _ _ _ iW
    rw[←iM]at dc;obtain⟨cur,iQ⟩:∃cur,cur=us.toArray++Builtin.zeroCells z.cells (cap-ca.length):=⟨_,rfl⟩;rw[←iQ]at dc;have fg:cur.size=cap*i.size:=by
      have:=size_zeroCells z.cells (cap-ca.length);rw[iQ,Array.size_append,this,List.size_toArray,hr.len,iB,←Nat.add_mul]
      congr 1
      omega
    have fw:(w.drew.alloc (.cells cur e)).heap[w.heap.size]?=some (.cells cur e (0,0)):=World.alloc_heap_new w.drew _;have wB:∀b,b<w.heap.size→(w.drew.alloc (.cells cur e)).heap[b]?=w.heap[b]?:=fun b hb=>Below.heap_alloc w.drew _ b hb;obtain⟨sv,ko⟩:∃sv,sv=Value.slice (some ⟨w.heap.size,0,none⟩) L' cap:=⟨_,rfl⟩;have kf:G.fl n=0:=by rw[mE.1];rfl
    have hE:bP G.N G w (G.grow n G.S sv L' (some w.heap.size)) (w.drew.alloc (.cells cur e)):=⟨by simp,fun _ _ h=>h,fun b q hs=>World.cell?_of_block (wB b (hi.S b q hs)),fun _ _=>rfl,fun m _=>by
        by_cases em:m=n
        ·right;subst em;simp only[Gh.grow,if_true,kf];omega
        ·left;exact⟨by simp [Gh.grow,em],by simp [Gh.grow,em]⟩,fJ rfl,fun b hb=>wB b (hi.z b hb),rfl,rfl,rfl,fun b q hs=> .inl hs⟩
    refine⟨_,_,_,dc,hE,ajy _,Hf hi hn (fun _=>rfl) (fun _=>rfl) _ _ _ _ hE (fun g' qA=>by cases qA;exact⟨.inl rfl,by simp⟩) (fun b q hs=> .inl hs) (fun b hb _=>wB b hb) ?_,?_⟩
    ·refine⟨by simp [Gh.grow,eL],iW,hr.wid, .inr ⟨w.heap.size,cap,cur,by simp [Gh.grow],by simp [Gh.grow,ko,eL],fun hz=>aj1 _ (hi.z _ hz),fw,iS,hle,fg,fun q hs=>aj1 _ (hi.S _ _ hs),fun a b d x q hd hx hq=> ?_⟩⟩;have gx:b<i.size:=by rw[←hr.wid d (ajA hd)];exact(ajn.1 hx).1
     have aX:a*i.size+b<us.length:=by rw[hr.len];exact k8 (ajn.1 hd).1 gx
     rw[iQ,Array.getElem?_append_left (by simpa using aX),List.getElem?_toArray]at hq;exact(hr.rel a b d x q hd hx hq).bn hE (ajy _)
    ·rw[ajH];refine .vec n 0 ca.length L' i.size mn ⟨_,_,_,rfl⟩ (by simp [Gh.grow]) fun _=>⟨by omega,⟨_,_,rfl,iS,hle,by omega,fun _=>⟨w.heap.size,cap,by simp [Gh.grow,ko],by simp,by simp⟩⟩,fun _ e=> ?_⟩;simp [Gh.grow,ko,eL]
  ·
   rcases o8 with⟨hf,eL,ec⟩|⟨e0,e1,eL,ec,iW,lx⟩
   ·obtain⟨g2,RD,q1,q2,q3⟩:=c4 (by omega);rw[r2]at q1;injection q1 with q4 _ q5;cases q4
    subst q5;exact room (by omega) g cap cur r1 r2 r3 r4 r5 r6 r7 r8 r9 q2 q3
   ·have:=call e0 e1;rw[r2]at this;injection this with q2 _ q3;by_cases oB:len+ys.length≤c
    ·exact room oB g cap cur r1 r2 r3 r4 r5 r6 r7 r8 r9 (by rw[q2,e0];simp) (by omega)
    ·subst e0;subst q2;subst q3;rw[eL]at iW lx;have K7:L+ys.length≤9223372036854775807:=by simp only[maxLen]at iW;omega
     have Ip:(cur.toList.take (len*i.size)).length=len*i.size:=by
      rw[List.length_take,ajU,r7];exact Nat.min_eq_left (Nat.mul_le_mul_right _ c1)
     have hold:(Builtin.firstCells i.size len (.slice (some ⟨g,0,none⟩) len c)).run P w.drew= .ok (cur.toList.take (len*i.size)).toArray w.drew:=
      run_firstCells_some _ _ _ _ _ _ _ Ip (fun j q hq=>by
       rw[jJ,ajH];show w.cell? ⟨g,j,none⟩=some q;rw[cell_of_row w g _ cur e (0,0) r4,←ajK];have zk:=(ajn.1 hq).1;rw[Ip]at zk;rw[List.getElem?_take_of_lt zk]at hq;exact hq)
     have dc:=run_append_grow_src (P:=P) w T tx ty e i z hT js hz (some ⟨g,0,none⟩) len c _ hold v ys.length us hs (by omega) (by omega) (growslice_fits (by omega) (by rw[e1];exact lx));obtain⟨cap,iM⟩:∃cap,cap=grownCap w (len+ys.length) c e:=⟨_,rfl⟩;have iS:len+ys.length≤cap:=by rw[iM];exact grownCap_ge _ _ _ _
     have hle:cap≤maxLen:=by rw[iM];exact grownCap_le_maxLen _ _ _ _ (by rw[e1];exact iW)
     rw[←iM]at dc;obtain⟨rR,iQ⟩:∃rR,rR=(cur.toList.take (len*i.size)++us).toArray++Builtin.zeroCells z.cells (cap-(len+ys.length)):=⟨_,rfl⟩;rw[←iQ]at dc;have F0:(cur.toList.take (len*i.size)++us).length=(len+ys.length)*i.size:=by rw[ajo,Ip,hr.len,←Nat.add_mul]
     have fg:rR.size=cap*i.size:=by
      have:=size_zeroCells z.cells (cap-(len+ys.length));rw[iQ,Array.size_append,this,List.size_toArray,F0,iB,←Nat.add_mul]
      congr 1
      omega
     have fw:(w.drew.alloc (.cells rR e)).heap[w.heap.size]?=some (.cells rR e (0,0)):=World.alloc_heap_new w.drew _;have wB:∀b,b<w.heap.size→(w.drew.alloc (.cells rR e)).heap[b]?=w.heap[b]?:=fun b hb=>Below.heap_alloc w.drew _ b hb;obtain⟨sv,ko⟩:∃sv,sv=Value.slice (some ⟨w.heap.size,0,none⟩) L' cap:=⟨_,rfl⟩;have kf:G.fl n=L:=by rw[mE.1,hL]
     have fm:ca.length=L':=by rw[ec,ajo,hL,eL]
     have hE:bP G.N G w (G.grow n G.S sv L' (some w.heap.size)) (w.drew.alloc (.cells rR e)):=⟨by simp,fun _ _ h=>h,fun b q hs=>World.cell?_of_block (wB b (hi.S b q hs)),fun _ _=>rfl,fun m _=>by
         by_cases em:m=n
         ·right;subst em;simp only[Gh.grow,if_true,kf];omega
         ·left;exact⟨by simp [Gh.grow,em],by simp [Gh.grow,em]⟩,fJ rfl,fun b hb=>wB b (hi.z b hb),rfl,rfl,rfl,fun b q hs=> .inl hs⟩
     refine⟨_,_,_,dc,hE,ajy _,Hf hi hn (fun _=>rfl) (fun _=>rfl) _ _ _ _ hE (fun g' qA=>by cases qA;exact⟨.inl rfl,by simp⟩) (fun b q hs=> .inl hs) (fun b hb _=>wB b hb) ?_,?_⟩
     ·refine⟨by simp [Gh.grow,fm],by rw[fm,eL];exact iW,fun d hd=> ?_, .inr ⟨w.heap.size,cap,rR,by simp [Gh.grow],by simp [Gh.grow,ko,fm],fun hz=>aj1 _ (hi.z _ hz),fw,by rw[fm];omega,hle,fg,fun q hs=>aj1 _ (hi.S _ _ hs),fun a b d x q hd hx hq=> ?_⟩⟩
      ·rw[ec]at hd;rcases ajZ.1 hd with hd|hd
       ·exact gL d hd
       ·exact hr.wid d hd
      ·refine aL.bn hE (ajy _) ?_;have OO:d.length=i.size:=by
        have hm:=ajA hd;rw[ec]at hm;rcases ajZ.1 hm with hm|hm
        ·exact gL d hm
        ·exact hr.wid d hm
       have gx:b<i.size:=by rw[←OO];exact(ajn.1 hx).1
       have hal:a<len+ys.length:=by
        have:=(ajn.1 hd).1;rw[fm,eL]at this;omega
       have aX:a*i.size+b<(cur.toList.take (len*i.size)++us).length:=by rw[F0];exact k8 hal gx
       rw[iQ,Array.getElem?_append_left (by simpa using aX),List.getElem?_toArray,XB _ us len a b Ip gx]at hq;rw[ec]at hd;by_cases h1:a<len
       ·rw[if_pos h1,List.getElem?_take_of_lt (k8 h1 gx),ajK]at hq;rw[ajx (by omega)]at hd;exact r9 a b d x q hd hx hq
       ·rw[if_neg h1]at hq;rw[ajD (by omega)]at hd;exact hr.rel (a-len) b d x q (by rw[←hd];congr 1;omega) hx hq
     ·refine .vec n 0 (len+ys.length) L' i.size mn ⟨_,_,_,rfl⟩ (by simp [Gh.grow]) fun _=>⟨by omega,⟨_,_,rfl,iS,hle,by omega,fun _=>⟨w.heap.size,cap,by simp [Gh.grow,ko],by simp,by simp⟩⟩,fun _ e=> ?_⟩;simp [Gh.grow,ko,eL,e1]
theorem QV{T tx ty e k ct:Nat}{i:TypeInfo}{z:akf}{A:akd Addr}{v:akf}{ys:akb (akb AV)}{us:akb akf}(hi:bV G w h)(hT:P.underlying T=some (.slice e))(js:P.info? e=some i)(hz:i.zero=some z)(m6:i.size=k)(uH:i.bytes=ct)(iB:z.cells.size=k)(fk:0<k)
 (hr:Ac G w k ys us) (hs:Src P k tx v ys.length us w) (iW:ys.length≤maxLen) (lx:ys.length*ct≤140737488355328):
 ∃r w' G',(Builtin.append_ #[T,tx] ty #[.slice A 0 0,v]).run P w= .ok r w'∧bP G.N G w G' w'∧G.N≤G'.N∧bV G' w' (h++[.vec e k ys])∧aL G' w' r (.vec h.length 0 ys.length ys.length k):=by
 subst m6;subst uH;by_cases hy:ys.length=0
 ·have ir:ys=[]:=List.eq_nil_of_length_eq_zero hy;subst ir;have kr:us=[]:=List.eq_nil_of_length_eq_zero (by rw[hr.len];simp);subst kr;have dc:=run_append_nothing (P:=P) w T tx ty e i hT js A 0 0 (ajy _) v hs;obtain⟨hE,hI⟩:=Lu (w':=w) hi (.vec e i.size []) (fun _ _=>rfl) (.slice A 0 0) 0 none ⟨fun _ _=>rfl,ajy _,rfl,rfl,rfl⟩ (fun g hg=>by cases hg) ⟨by simp [Gh.dK],by simp,(fun _ h=>by cases h), .inl ⟨by simp [Gh.dK],rfl,A,by simp [Gh.dK]⟩⟩;refine⟨_,w,_,dc,hE,Nat.le_succ _,hI,?_⟩;rw[hi.len];exact .vec G.N 0 0 0 i.size (by simp [Gh.dK]) ⟨_,_,_,rfl⟩ (by simp) fun _=>⟨by omega,⟨A,0,rfl,ajy _,Nat.zero_le _,by omega,fun h=>by omega⟩,fun _ _=>by simp [Gh.dK]⟩
 ·have K7:ys.length≤9223372036854775807:=by simp only[maxLen]at iW;omega
  have hold:(Builtin.firstCells i.size 0 (.slice A 0 0)).run P w.drew= .ok ([]:akb akf).toArray w.drew:=by
   cases A with
   |none=>exact run_firstCells_none _ _ _ _ _
   |some a=>exact run_firstCells_some _ _ _ _ _ _ [] (by simp) (fun j u hu=>by simp at hu)
  have dc:=run_append_grow_src (P:=P) w T tx ty e i z hT js hz A 0 0 [] hold v ys.length us hs (by omega) (by omega) (growslice_fits (by omega) (by simpa using lx));simp only[ajH,List.nil_append]at dc;obtain⟨cap,iM⟩:∃cap,cap=grownCap w ys.length 0 e:=⟨_,rfl⟩;have iS:ys.length≤cap:=by rw[iM];exact grownCap_ge _ _ _ _
  have hle:cap≤maxLen:=by rw[iM];exact grownCap_le_maxLen _ _ _ _ iW
  rw[←iM]at dc;obtain⟨cur,iQ⟩:∃cur,cur=us.toArray++Builtin.zeroCells z.cells (cap-ys.length):=⟨_,rfl⟩;rw[←iQ]at dc;have fg:cur.size=cap*i.size:=by
    have:=size_zeroCells z.cells (cap-ys.length);rw[iQ,Array.size_append,this,List.size_toArray,hr.len,iB,←Nat.add_mul]
    congr 1
    omega
  obtain⟨G',g1,g2,g3,g4⟩:=Mx (e:=e) (k:=i.size) (cap:=cap) (cs:=ys) (cur:=cur) hi iS hle fg hr.wid w.drew ⟨rfl,rfl,rfl,rfl⟩ (fun a b d x q hd hx hq=>by
   have gx:b<i.size:=by rw[←hr.wid d (ajA hd)];exact(ajn.1 hx).1
   have aX:a*i.size+b<us.length:=by rw[hr.len];exact k8 (ajn.1 hd).1 gx
   rw[iQ,Array.getElem?_append_left (by simpa using aX),List.getElem?_toArray]at hq;exact hr.rel a b d x q hd hx hq)
  exact⟨_,_,G',dc,g1,g2,g3,g4 _ (ajy _)⟩
end
section
variable {P:ake} {r:akd Nat} {n N0:Nat} {G:Gh} {w:akg} {a:Act} {s:St} {o:Oper} {K:St→Prop} {Q:Exit→Act→akg→Prop}
theorem Fe(hs:cx G w a s)(l:Array Operand):(l.map a.eval).size=(l.toList.map (ev s)).length∧∀(i:Nat)(u:akf)(c:AV),(l.map a.eval)[i]?=some u→(l.toList.map (ev s))[i]?=some c→aL G w u c:=by
 refine⟨by simp,fun i u c hu hc=> ?_⟩;rw[Array.getElem?_map]at hu;rw[aju,ajK]at hc;cases hx:l[i]? with
 |none=>rw[hx]at hu;cases hu
 |some x=>rw[hx]at hu hc;cases hu;cases hc;exact hs.ev x
theorem Pr(hs:cx G w a s)(l:Array (Nat×Operand)):(l.map fun(i,x)=>(i,a.eval x)).toList.length=(l.toList.map fun p=>(p.1,ev s p.2)).length∧
 ∀(i:Nat)(p:Nat×AV)(q:Nat×akf),(l.toList.map fun p=>(p.1,ev s p.2))[i]?=some p→(l.map fun(i,x)=>(i,a.eval x)).toList[i]?=some q→q.1=p.1∧aL G w q.2 p.2:=by
 refine⟨by simp,fun i p q hp hq=> ?_⟩;rw[ajK,Array.getElem?_map]at hq;rw[aju,ajK]at hp;cases hx:l[i]? with
 |none=>rw[hx]at hp;cases hp
 |some x=>rw[hx]at hp hq;cases hp;cases hq;exact⟨rfl,hs.ev x.2⟩
theorem BI{x y:Operand}{T U:TypeId}(c:Call)(hc:c.callee= .builtin .append)(h1:c.args.toList=[x,y])(h2:c.argTypes.toList=[T,U])(ho:o.op= .call c):
 (execOp a.eval o).run P w=((Builtin.append_ #[T,U] o.type #[a.eval x,a.eval y]).run P w).andThen fun v w'=> .ok (.value v) w':=by
 have e1:c.args= #[x,y]:=by rw[←Array.toList_inj];exact h1
 have e2:c.argTypes= #[T,U]:=by rw[←Array.toList_inj];exact h2
 unfold execOp;simp only[ho,resolve,hc,e1,e2,invoke,builtin,Sem.run_bind,Sem.run_pure,Result.andThen_ok,List.map_toArray,ajM,List.map_nil]
theorem UN{x:Operand}{T:TypeId}(c:Call)(hc:c.callee= .builtin .len)(h1:c.args.toList=[x])(h2:c.argTypes.toList=[T])(ho:o.op= .call c):
 (execOp a.eval o).run P w=((Builtin.len_ #[T] o.type #[a.eval x]).run P w).andThen fun v w'=> .ok (.value v) w':=by
 have e1:c.args= #[x]:=by rw[←Array.toList_inj];exact h1
 have e2:c.argTypes= #[T]:=by rw[←Array.toList_inj];exact h2
 unfold execOp;simp only[ho,resolve,hc,e1,e2,invoke,builtin,Sem.run_bind,Sem.run_pure,Result.andThen_ok,List.map_toArray,ajM,List.map_nil]
theorem aeC(c:Call)(hc:c.callee= .builtin .max)(ho:o.op= .call c):
 (execOp a.eval o).run P w=((Builtin.max_ c.argTypes o.type (c.args.map a.eval)).run P w).andThen fun v w'=> .ok (.value v) w':=by
 unfold execOp;simp only[ho,resolve,hc,invoke,builtin,Sem.run_bind,Sem.run_pure,Result.andThen_ok]
theorem Xc(c:Call)(hc:c.callee= .builtin .min)(ho:o.op= .call c):
 (execOp a.eval o).run P w=((Builtin.min_ c.argTypes o.type (c.args.map a.eval)).run P w).andThen fun v w'=> .ok (.value v) w':=by
 unfold execOp;simp only[ho,resolve,hc,invoke,builtin,Sem.run_bind,Sem.run_pure,Result.andThen_ok]
theorem Vx{mx:Bool}{k k':IntKind}{z:Int}:∀(l:akb AV)(vs:akb akf)(x:Int),vs.length=l.length→(∀(i:Nat)(u:akf)(c:AV),vs[i]?=some u→l[i]?=some c→aL G w u c)→HC mx k x l=some (k',z)→
 (vs.foldlM (if mx then Builtin.max2 else Builtin.min2) (.int k x)).run P w= .ok (.int k' z) w
 |[],[],x,_,_,h=>by cases h;simp
 |[],_::_,_,hl,_,_=>by simp at hl
 |_::_,[],_,hl,_,_=>by simp at hl
 |y::l,u::vs,x,hl,hr,h=>by
  unfold HC at h;split at h
  ·next e=>cases e
  ·next k2 b l' e=>
   cases e
   have e1:=(hr 0 u _ rfl rfl).val;subst e1;have ih:=Vx l vs _ (by simpa using hl) (fun i u c hu hc=>hr (i+1) u c (by simpa using hu) (by simpa using hc)) h;rw[List.foldlM_cons,Sem.run_bind];cases mx with
   |true=>simp only[if_true,cond_true]at ih ⊢;simp only[Builtin.max2,Sem.run_pure,Result.andThen_ok];exact ih
   |false=>simp only[Bool.false_eq_true,if_false,cond_false]at ih ⊢;simp only[Builtin.min2,Sem.run_pure,Result.andThen_ok];exact ih
  ·cases h
theorem TX{mx:Bool}{k:IntKind}{z:Int}{l:akb AV}{vs:Array akf}(hl:vs.size=l.length)(hr:∀(i:Nat)(u:akf)(c:AV),vs[i]?=some u→l[i]?=some c→aL G w u c)(h:AS mx l=some (k,z)):
 ∃u us,vs.toList=u::us∧(us.foldlM (if mx then Builtin.max2 else Builtin.min2) u).run P w= .ok (.int k z) w:=by
 unfold AS at h;split at h
 ·next k2 x l'=>
  cases hv:vs.toList with
  |nil=>rw[←ajU,hv]at hl;simp at hl
  |cons u us=>
   refine⟨u,us,rfl,?_⟩;have nj:∀(i:Nat)(v:akf)(c:AV),(u::us)[i]?=some v→(AV.d (.v (.int k2 x))::l')[i]?=some c→aL G w v c:=fun i v c h1 h2=>hr i v c (by rw[←ajK,hv];exact h1) h2;have e1:=(nj 0 u _ rfl rfl).val;subst e1;refine Vx l' us x ?_ (fun i v c h1 h2=>nj (i+1) v c (by simpa using h1) (by simpa using h2)) h;rw[←ajU,hv]at hl;simpa using hl
 ·cases h
theorem V4{f:FuncId}(h:Ji P f=true)(args:Array akf)(w:akg):(callFunc f args).run P w= .ok (.enter f args) w:=by
 unfold Ji at h;cases hq:P.funcs[f]? with
 |none=>rw[hq]at h;simp at h
 |some fn=>
  rw[hq]at h;simp only[ajp,Bool.not_eq_true']at h;obtain⟨h1,h2⟩:=h;have h3:fn.body≠none:=by intro e;rw[e]at h1;cases h1
  have h4:fn.name≠ "runtime.NumGoroutine" :=by simpa using h2
  simp [callFunc,hq,h4,h3]
theorem ahy(hs:cx G w a s)(cm:N0≤G.N){x:AV}{h':akb aq}{p:Sd}(hx:nq P o.op (ev s) s.h=some (x,h',p))(hp:p.ok)(hK:K ((s.wh h').put o.dst x)):o.wpIn (WF r) n P a w (gV N0 G w K) Q:=by
 have cT:=hs.ev;unfold nq at hx;split at hx
 next T ho=>
  split at hx
  ·next q hT=>
   cases hx
   obtain⟨i1,i2,i3⟩:=aaI hs.inv;exact nu (by rw[ho];simp) hs cm (v:= .map (some w.heap.size)) (by unfold execOp;simp [ho,run_makeMap,Result.andThen]) i1 (Nat.le_succ _) i2 i3 hK
  ·cases hx
 next T m i ok ho=>
  split at hx
  ·next k e hT=>
   split at hx
   ·next z hz=>
    split at hx
    ·next b s' hm hi=>
     split at hx
     ·next kv hn=>
      cases hc:fA P k&&z.oneCell' with
      |false=>rw[hc]at hx;cases hx
      |true=>
       rw[hc]at hx;cases hx
       rw[ajp]at hc;obtain⟨v,r1,r2⟩:=agB (ok:=ok) (s:=s') hs.inv hT hz hc.1 hn;have e1:=cT m;rw[hm]at e1;have e2:=cT i;rw[hi]at e2;have e2:=e2.val;have NL:a.eval m= .map (some (G.bm b)):=by
         generalize a.eval m=u at e1;cases e1 with|mp _ _=>rfl
       exact eg (by rw[ho];simp) hs cm (by unfold execOp;simp [ho,NL,e2,r1,Result.andThen]) r2 hK
     ·cases hx
    ·cases hx
   ·cases hx
  ·cases hx
 next T m i y ho=>
  split at hx
  ·next k e hT=>
   split at hx
   ·next b s' d hm hi hd=>
    split at hx
    ·next kv hn=>
     cases hc:fA P k with
     |false=>rw[hc]at hx;cases hx
     |true=>
      rw[hc]at hx;cases hx
      obtain⟨w',r1,r2,r3⟩:=adB (s:=s') hs.inv hT hc hn ((cT y).Kc hd) hp;have e1:=cT m;rw[hm]at e1;have e2:=cT i;rw[hi]at e2;have e2:=e2.val;have NL:a.eval m= .map (some (G.bm b)):=by
       generalize a.eval m=u at e1;cases e1 with|mp _ _=>rfl
      exact L0 (by rw[ho];simp) hs cm (by unfold execOp;simp [ho,NL,e2,r1,Result.andThen]) r2 (ajy _) r3 hK
    ·cases hx
   ·cases hx
  ·cases hx
 next=>cases hx
theorem Tg(hs:cx G w a s)(cm:N0≤G.N)(h:n5 P o K s):o.wpIn (WF r) n P a w (gV N0 G w K) Q:=by
 have cT:=hs.ev;unfold n5 cn at h;split at h
 next x ho=>exact eg (by rw[ho];simp) hs cm (v:=a.eval x) (by unfold execOp;rw[ho];rfl) (cT x) h
 next x ho=>exact eg (by rw[ho];simp) hs cm (v:=a.eval x) (by unfold execOp;rw[ho];rfl) (cT x) h
 next c x y ho=>
  split at h
  next t hc=>
   have hb:=cT c;rw[hc]at hb;have e:=hb.bool;cases t with
   |true=>exact eg (by rw[ho];simp) hs cm (v:=a.eval x) (by unfold execOp;simp [ho,e,asBool]) (cT x) (h.1 rfl)
   |false=>exact eg (by rw[ho];simp) hs cm (v:=a.eval y) (by unfold execOp;simp [ho,e,asBool]) (cT y) (h.2 rfl)
  next=>exact h.elim
 next e ho=>
  split at h
  next z hz=>
   obtain⟨i1,i2⟩:=Sj hs.inv z.cells e (z.cells.toList.map fun u=> .d (.v u)) (by simp) (fun i u c hu hc=>by
    rw[aju,ajK,hu]at hc;cases hc;exact .d (.v u))
   exact nu (by rw[ho];simp) hs cm (by unfold execOp;simp [ho,Instr.alloc,Ft hz,newVar,newRow]) (Ee G w hs.inv.z hs.inv.S _) (Nat.le_succ _) i1 i2 h
  next=>exact h.elim
 next e x ho=>
  obtain⟨hb,hK⟩:=bN.1 h;have hr:=(cT x).TR hb;obtain⟨i1,i2⟩:=Sj hs.inv (a.eval x).cells e (ev s x).cells hr.len hr.rel;exact nu (by rw[ho];simp) hs cm (by unfold execOp;simp [ho,Instr.box,newVar,newRow]) (Ee G w hs.inv.z hs.inv.S _) (Nat.le_succ _) i1 i2 hK
 next t x ho=>
  obtain⟨u,y,h1,h2,h3⟩:=Rb hs.inv (cT x) h;exact eg (by rw[ho];simp) hs cm (by unfold execOp;simp [ho,h1]) h2 h3
 next t x y ho=>
  unfold vR at h;split at h
  next m off hm=>
   split at h
   next cs fg=>
    split at h
    case h_2=>exact h.elim
    rename_i k hk
    obtain⟨dW,h4⟩:=bN.1 h;simp only[ajp,beq_iff_eq,di]at dW;obtain⟨⟨rfl,h2⟩,h3⟩:=dW;have h1:=hk;have hx:=cT x;rw[hm]at hx;obtain⟨w',r1,r2,r3⟩:=agz (P:=P) hs.inv fg (cT y) h2 h1 h3;have ex:a.eval x= .pointer (some ⟨G.bm m,off,none⟩):=by
     generalize a.eval x=u at hx;cases hx with
     |ptr=>rfl
    exact L0 (by rw[ho];simp) hs cm (by unfold execOp;simp [ho,Instr.storeAt,Instr.sureAddr,ex,r1]) r2 (ajy _) r3 h4
   next=>exact h.elim
  next=>exact h.elim
 next x ho=>
  have hx:=cT x;split at h
  next m off hm=>
   rw[hm]at hx;generalize ea:a.eval x=u at hx;cases hx with
   |ptr _ _ vT=>exact eg (by rw[ho];simp) hs cm (by unfold execOp;simp [ho,ea]) (.ptr m off vT) h
  next xs i off hm=>
   rw[hm]at hx;generalize ea:a.eval x=u at hx;have mb:=hx;cases hx with
   |bD=>exact eg (by rw[ho];simp) hs cm (by unfold execOp;simp [ho,ea]) mb h
  next f cs hm=>
   rw[hm]at hx;generalize ea:a.eval x=u at hx;have mb:=hx;cases hx with
   |fn=>exact eg (by rw[ho];simp) hs cm (by unfold execOp;simp [ho,ea]) mb h
  next=>exact h.elim
 next T x f ho=>
  split at h
  next fo k g hT=>
   have hx:=cT x;split at h
   next m off hm=>
    rw[hm]at hx;generalize ea:a.eval x=u at hx;cases hx with
    |ptr _ _ vT=>exact eg (by rw[ho];simp) hs cm (by unfold execOp;simp [ho,ea,OP hT]) (.ptr m (off+fo) vT) h
   next xs i off hm=>
    rw[hm]at hx;generalize ea:a.eval x=u at hx;cases hx with
    |bD _ _ _ b oo us c hx hS hu=>exact eg (by rw[ho];simp) hs cm (by unfold execOp;simp [ho,ea,OP hT];rfl) (by rw[Nat.add_assoc];exact .bD xs i (off+fo) b oo us c hx hS hu) h
   next=>exact h.elim
  next=>exact h.elim
 next T x f ho=>
  obtain⟨u,y,h1,h2,h3⟩:=agT (cT x) h;exact eg (by rw[ho];simp) hs cm (by unfold execOp;simp [ho,h1]) h2 h3
 next T x i ho=>
  obtain⟨u,y,h1,h2,h3⟩:=Y5 (cT x) (cT i) h;exact eg (by rw[ho];simp) hs cm (by unfold execOp;simp [ho,h1]) h2 h3
 next T x i ho=>
  split at h
  next b z hb hz=>
   obtain⟨hT,h0,h⟩:=bN.1 h;have hT:=qi hT;have hx:=cT x;rw[hb]at hx;have ex:=hx.val;obtain⟨k,ei⟩:=(cT i).int hz;split at h
   next c hc=>
    refine eg (by rw[ho];simp) hs cm (v:= .int .u8 c.toNat) ?_ (.d (.v _)) h;unfold execOp;simp [ho,Instr.index,ex,ei,asIntOf,run_underlying hT,h0,hc]
   next=>exact h.elim
  next=>exact h.elim
 next T ps ho=>
  obtain⟨p1,p2⟩:=Pr hs ps;obtain⟨u,y,h1,h2,h3⟩:=aiO p1 p2 h;exact eg (by rw[ho];simp) hs cm (by unfold execOp;simp only[ho,Sem.run_bind,h1];rfl) h2 h3
 next T len ps ho=>
  obtain⟨p1,p2⟩:=Pr hs ps;obtain⟨u,w',G',y,h1,h2,h3,h4,h5,h6⟩:=adU (T:=T) hs.inv p1 p2 h;exact nu (by rw[ho];simp) hs cm (by unfold execOp;simp only[ho,Sem.run_bind,h1];rfl) h2 h3 h4 h5 h6
 next T x lo hi mx ho=>
  obtain⟨u,y,h1,h2,h3⟩:=aei hs (cT x) h;exact eg (by rw[ho];simp) hs cm (by unfold execOp;simp [ho,h1]) h2 h3
 next x i ho=>
  have hx:=cT x;split at h
  next cs fg=>
   rw[fg]at hx;generalize ea:a.eval x=u at hx;split at h
   next c hc=>
    cases hx with
    |bk vs _ hl hr=>
     have aX:i<vs.size:=by rw[hl];exact(ajn.1 hc).1
     exact eg (by rw[ho];simp) hs cm (v:=vs[i]) (by unfold execOp;simp [ho,ea,Instr.extract,aX]) (hr i _ c (ajJ aX) hc) h
   next=>exact h.elim
  next=>exact h.elim
 next f first cV ho=>
  split at h
  case h_2=>exact h.elim
  rename_i KI
  have KI:first= #[]:=by rw[←Array.toList_inj];exact KI
  subst KI;obtain⟨p1,p2⟩:=Fe hs cV;exact eg (by rw[ho];simp) hs cm (v:= .func (.func f) #[] (cV.map a.eval)) (by unfold execOp;simp [ho,Instr.makeFunc]) (.fn f _ _ p1 p2) h
 next op T x y U ho=>
  obtain⟨u,z,h1,h2,h3⟩:=ZY (X:=x) (Y:=y) (cT x) (cT y) h;refine eg (by rw[ho];simp) hs cm ?_ h2 h3;unfold execOp;simp only[ho];rw[Sem.run_bind,h1];rfl
 next op T x ho=>
  obtain⟨u,z,h1,h2,h3⟩:=abc (P:=P) (cT x) h;exact eg (by rw[ho];simp) hs cm (by unfold execOp;simp [ho,h1]) h2 h3
 next t u x ho=>
  obtain⟨u,z,h1,h2,h3⟩:=XE (cT x) h;exact eg (by rw[ho];simp) hs cm (by unfold execOp;simp [ho,h1]) h2 h3
 next c ho=>
  have jm:∀c,o.op≠ .defer c:=by rw[ho];simp
  split at h
  next hc=>
   split at h
   next x T h1 h2=>
    obtain⟨m,r1,r2⟩:=adn (ty:=o.type) (cT x) h;exact eg jm hs cm (by rw[UN c hc h1 h2 ho,r1];rfl) (.d (.v _)) r2
   next=>exact h.elim
  next hc=>
   split at h
   next x y T U h1 h2=>
    obtain⟨hU,h⟩:=bN.1 h;obtain⟨⟨e',k'⟩,hU⟩:=Option.isSome_iff_exists.1 hU;obtain⟨p,w',G',q,h',r1,r2,r3,r4,r5,r6⟩:=abL (ty:=o.type) hs.inv (cT x) (cT y) (im hU).1 h;exact nu jm hs cm (by rw[BI c hc h1 h2 ho,r1];rfl) r2 r3 r4 r5 r6
   next=>exact h.elim
  next hc=>
   split at h
   next k z hf=>
    obtain⟨p1,p2⟩:=Fe hs c.args;obtain⟨u,us,e1,e2⟩:=TX (P:=P) p1 p2 hf;refine eg jm hs cm (v:= .int k z) ?_ (.d (.v _)) h;rw[aeC c hc ho];unfold Builtin.max_;rw[e1];simp only[if_true]at e2;rw[e2];rfl
   next=>exact h.elim
  next hc=>
   split at h
   next k z hf=>
    obtain⟨p1,p2⟩:=Fe hs c.args;obtain⟨u,us,e1,e2⟩:=TX (P:=P) p1 p2 hf;refine eg jm hs cm (v:= .int k z) ?_ (.d (.v _)) h;rw[Xc c hc ho];unfold Builtin.min_;rw[e1];simp only[Bool.false_eq_true,if_false]at e2;rw[e2];rfl
   next=>exact h.elim
  next f hc=>
   have call:∀(g:FuncId)(cV:akb AV)(vs:Array akf),a.eval f= .func (.func g) #[] vs→vs.size=cV.length→(∀(i:Nat)(u:akf)(c:AV),vs[i]?=some u→cV[i]?=some c→aL G w u c)→
       bO P g (c.args.toList.map (ev s)++cV) s.h (fun r h'=>K ((s.wh h').put o.dst r))→o.wpIn (WF r) n P a w (gV N0 G w K) Q:=by
       intro g cV vs ea hl hr h;obtain⟨p1,p2⟩:=Fe hs c.args;obtain⟨LY,jd⟩:=h;have ve:=jd G w (c.args.map a.eval++vs) hs.inv (by rw[Array.size_append,ajo,p1,hl]) (fun i u x hu hx=>by
        by_cases hi:i<(c.args.map a.eval).size
        ·rw[Array.getElem?_append_left hi]at hu;rw[ajx (by rw[←p1];exact hi)]at hx;exact p2 i u x hu hx
        ·rw[Array.getElem?_append_right (by omega)]at hu;rw[ajD (by rw[←p1];omega)]at hx;rw[p1]at hu;exact hr _ u x hu hx)
       refine⟨fun _ _=>trivial,?_⟩;have dc:(o.semAt (WF r).round a.eval).run P w= .ok (.enter g (c.args.map a.eval++vs)) w:=by
        rw[Oper.semAt_eq _ _ _ jm];unfold execOp;simp only[ho,resolve,hc,ea];simp [Deferred.ofValue,invoke,V4 LY]
       rw[dc];refine⟨fun h=>(by simp [WF,Fence.wide]at h),?_⟩;have h2:=callsIn_wide (n:=n-1).2 ve;refine CallsIn.mono (F:=WF r) h2 ?_;rintro e w' ⟨v,G',x,h',rfl,x1,x2,x3,x4,x5⟩;exact⟨G',_,x1.less cm,ajF cm x2,(hs.move x1 x2 x3).put x4 o.dst,x5⟩
   split at h
   next g cV hg=>
    have hf:=cT f;rw[hg]at hf;generalize ea:a.eval f=u at hf;cases hf with
    |fn _ vs _ hl hr=>exact call g cV vs ea hl hr h
   next q hg=>
    obtain⟨g,cs,rfl,h⟩:=h;have hf:=cT f;rw[hg]at hf;generalize ea:a.eval f=u at hf;cases hf with
    |hid hq h1=>
     cases hq with
     |fn _ vs _ hl hr=>exact call g (cs.map fM.av) vs ea (by rw[ajs];exact hl) (fun i u c hu hc=>by
        rw[aju]at hc;cases hx:cs[i]? with
        |none=>rw[hx]at hc;cases hc
        |some d=>rw[hx]at hc;cases hc;exact(hr i u d hu hx).av) h
   next=>exact h.elim
  next=>exact h.elim
 next op _=>
  split at h
  next x h' p hx=>exact ahy hs cm hx h.1 h.2
  next=>exact h.elim
theorem Nu(hs:cx G w a s){x:akd Operand}{d:Nat}{z:Int}(h:sR (ev s) d x=some z)(h0:0≤z):AT a x d z.toNat:=by
 cases x with
 |none=>
  simp only[sR,Option.some.injEq]at h;subst h;show _=d;exact ajO d
 |some y=>
  simp only[sR]at h;obtain⟨k,e⟩:=(hs.ev y).int h;exact⟨k,z,e,h0,rfl⟩
theorem kK{α:Type}{b:Bool}{x y:α}(h:(bif b then some x else none)=some y):b=true∧x=y:=by
 cases b with
 |true=>exact⟨rfl,ajG h⟩
 |false=>cases h
theorem aeX{α:Type}{b:Bool}{x:akd α}{y:α}(h:(bif b then x else none)=some y):b=true∧x=some y:=by
 cases b with
 |true=>exact⟨rfl,h⟩
 |false=>cases h
theorem Ue(hs:cx G w a s)(cm:N0≤G.N)(h:JK P o K s):o.wpIn (WF r) n P a w (gV N0 G w K) Q:=by
 obtain⟨va,x,h',p,hx,hp,hK⟩:=h;have cT:=hs.ev;unfold gJ at hx;split at hx
 next T y i ho=>
  split at hx
  ·next n' o' len L k z e k' i' e1 e2 e3=>
   split at hx
   ·next e4 k2 cs hn=>
    obtain⟨hb,he⟩:=kK hx;cases he
    rw[ajp,beq_iff_eq,beq_iff_eq]at hb;obtain⟨rfl,rfl⟩:=hb;obtain⟨hL,h0,aX,rfl⟩:=hp;obtain⟨dY,ew⟩:=im e3;obtain⟨kz,ez⟩:=(cT i).int e2;have hv:=cT y;rw[e1]at hv;have j7:=hv.yk hs.inv hn hL;obtain⟨Iz,⟨A,c,q1,q2,q3,q4,q5⟩,_⟩:=j7;obtain⟨g,cap,s1,rfl,s3⟩:=q5 (by omega);have NY:z<(len:Int):=aX;refine eg (by rw[ho];simp) hs cm (v:= .pointer (some ⟨g,o'*k2+z.toNat*k2,none⟩)) ?_ (.cN n' (o'+z.toNat) 0 L k2 (hs.inv.lt hn) ⟨_,_,rfl⟩ (by rw[(hs.inv.cU n' _ hn).1,hL];exact ajy _) fun _=>⟨by omega,g,cap,s1,?_⟩) hK
    ·unfold execOp;simp [ho,q1,ez,Instr.indexAt,asIntOf,run_underlying dY,h0,NY,kA ew,jJ]
    ·rw[Nat.add_mul];rfl
   ·cases hx
  ·cases hx
 next T y f ho=>
  split at hx
  ·next n' i j L k fo q g e1 hT=>
   cases hx
   have hv:=cT y;rw[e1]at hv;generalize ea:a.eval y=u at hv;cases hv with
   |cN _ _ _ _ _ mn Kf hL hf=>
    obtain⟨pb,pq,rfl⟩:=Kf;refine eg (by rw[ho];simp) hs cm (v:= .pointer (some ⟨pb,pq+fo,none⟩)) (by unfold execOp;simp [ho,ea,OP hT]) (.cN n' i (j+fo) L k mn ⟨_,_,rfl⟩ hL fun e=> ?_) hK;obtain⟨a1,g2,cap,a2,a3⟩:=hf e;refine⟨a1,g2,cap,a2,?_⟩;injection a3 with a3;injection a3 with a3;injection a3 with a4 a5;subst a4;subst a5;rw[Nat.add_assoc]
  ·cases hx
 next y ho=>
  split at hx
  ·next n' i j L k e1=>
   cases hx
   have hv:=cT y;rw[e1]at hv;have Ry:=hv;generalize ea:a.eval y=u at hv Ry;cases hv with
   |cN _ _ _ _ _ mn Kf hL hf=>
    obtain⟨pb,pq,rfl⟩:=Kf;exact eg (by rw[ho];simp) hs cm (by unfold execOp;simp [ho,ea]) Ry hK
  ·cases hx
 next t y ho=>
  split at hx
  ·next n' i j L k c e1=>
   split at hx
   ·next e k' cs z hn hz=>
    obtain⟨hb,he⟩:=kK hx;cases he
    rw[beq_iff_eq]at hb;subst hb;have hv:=cT y;rw[e1]at hv;obtain⟨u,r1,r2⟩:=aaE hs.inv hn hp.1 hp.2 hz hv;exact eg (by rw[ho];simp) hs cm (by unfold execOp;simp [ho,r1]) r2 hK
   ·cases hx
  ·cases hx
 next t y z ho=>
  split at hx
  ·next n' i j L k c ca e1=>
   split at hx
   ·next e k' cs q hn hq=>
    obtain⟨hb,he⟩:=kK hx;cases he
    simp only[ajp,beq_iff_eq,di]at hb;obtain⟨⟨⟨⟨rfl,rfl⟩,Ln⟩,hj⟩,fk⟩:=hb;obtain⟨hL,hc,rfl⟩:=hp;have hv:=cT y;rw[e1]at hv;obtain⟨w',G',r1,r2,r3,r4⟩:=afc hs.inv hn hL hc hv (cT z) Ln hq hj fk;exact L0 (by rw[ho];simp) hs cm (by unfold execOp;simp [ho,r1]) r2 r3 r4 hK
   ·cases hx
  ·cases hx
 next T y lo hi ho=>
  split at hx
  ·next n' o' len L k e k' oo ll e1 hT=>
   split at hx
   ·next l u hl hu=>
    split at hx
    ·next e4 k2 cs hn=>
     obtain⟨hb,he⟩:=kK hx;cases he
     rw[ajp,beq_iff_eq,beq_iff_eq]at hb;obtain⟨rfl,rfl⟩:=hb;obtain⟨hL,h0,hlu,huL,rfl,rfl⟩:=hp;obtain⟨dY,ew⟩:=im hT;have hv:=cT y;rw[e1]at hv;have j7:=hv.yk hs.inv hn hL;obtain⟨Iz,⟨A,c,q1,q2,q3,q4,q5⟩,_⟩:=j7;have hb:=Fk (P:=P) (yG:=true) (Nu hs hl h0) (Nu hs hu (by omega)) (by omega) (show u.toNat≤c by omega) w;refine eg (by rw[ho];simp) hs cm (v:= .slice (if c=l.toNat then A else A.map (·.add (l.toNat*k2))) (u.toNat-l.toNat) (c-l.toNat)) ?_ (.vec n' (o'+l.toNat) (u.toNat-l.toNat) L k2 (hs.inv.lt hn) ⟨_,_,_,rfl⟩ (by rw[(hs.inv.cU n' _ hn).1,hL];exact ajy _) fun _=>⟨by omega,⟨_,_,rfl,by omega,by omega,by omega,fun tO=> ?_⟩,fun h1 h2=> ?_⟩) hK
     ·unfold execOp;simp [ho,q1,Instr.sliceAt,Instr.slice,run_underlying dY,hb,kA ew]
     ·obtain⟨g,cap,s1,rfl,s3⟩:=q5 (by omega);refine⟨g,cap,s1,?_,by omega⟩;rw[if_neg (by omega)];simp [jJ,Nat.add_mul]
     ·have ho0:o'=0:=by omega
      have Ih:l.toNat=0:=by omega
      subst ho0;rw[Ih];rw[Ih]at h2;simp only[Nat.sub_zero]at h2 ⊢;by_cases X1:L=0
      ·subst X1;have:len=0:=by omega
       subst this
       rename_i dW
       rw[←dW rfl rfl,q1,h2];split
       ·rfl
       ·cases A<;>simp [Addr.add]
      ·obtain⟨g,cap,s1,rfl,s3⟩:=q5 (by omega);rw[s1,h2];have:c=cap:=by omega
       subst this;split<;>simp [jJ]
    ·cases hx
   ·cases hx
  ·cases hx
 next T l c ho=>
  split at hx
  ·next e k z1 z2 cs len m hT e1 e2=>
   split at hx
   ·next z ct hz nT=>
    obtain⟨hb,he⟩:=kK hx;cases he
    simp only[ajp,beq_iff_eq,di]at hb;obtain⟨⟨fk,iB⟩,_⟩:=hb;obtain⟨h0,jD,hl,hc,rfl,hm,j8⟩:=hp;obtain⟨dY,ew⟩:=im hT;obtain⟨inf,i1,i2,i3⟩:=OQ ew nT;have Dm:inf.zero=some z:=by
     obtain⟨i',j1,j2⟩:=I3 hz;rw[i1]at j1;cases j1;exact j2
    obtain⟨k1,Z0⟩:=(cT l).int e1;obtain⟨k2,ez2⟩:=(cT c).int e2;obtain⟨u,w',G',r1,r2,r3,r4,r5⟩:=aaB (kl:=k1) (kc:=k2) hs.inv dY i1 Dm i2 i3 iB fk h0 jD hl hc hm j8;exact nu (by rw[ho];simp) hs cm (by unfold execOp;simp [ho,Z0,ez2,r1]) r2 r3 r4 r5 hK
   ·cases hx
  ·cases hx
 next c ho=>
  have jm:∀c,o.op≠ .defer c:=by rw[ho];simp
  split at hx
  next hc=>
   split at hx
   ·next y T h1 h2=>
    split at hx
    ·next n' oo len L k e1=>
     split at hx
     ·next e4 k2 cs hn=>
      obtain⟨hb,he⟩:=kK hx;cases he
      rw[ajp,beq_iff_eq]at hb;obtain⟨hT,rfl⟩:=hb;obtain⟨⟨e,q⟩,hT⟩:=Option.isSome_iff_exists.1 hT;have hv:=cT y;rw[e1]at hv;have j7:=hv.yk hs.inv hn hp;obtain⟨Iz,⟨A,cc,q1,q2,q3,q4,q5⟩,_⟩:=j7;exact eg jm hs cm (v:= .int .i64 len) (by rw[UN c hc h1 h2 ho,q1];simp [Builtin.len_,run_underlying (im hT).1,goInt]) (.d (.v _)) hK
     ·cases hx
    ·cases hx
   ·cases hx
  next hc=>
   split at hx
   ·next y z T U h1 h2=>
    split at hx
    ·next e k pU ca ys L' fj hT hU=>
     split at hx
     ·next z0 ct hz nT=>
      obtain⟨hb,hx⟩:=aeX hx;rw[ajp,beq_iff_eq,di]at hb;obtain⟨fk,iB⟩:=hb;obtain⟨dY,ew⟩:=im hT;obtain⟨inf,i1,i2,i3⟩:=OQ ew nT;have Dm:inf.zero=some z0:=by
       obtain⟨i',j1,j2⟩:=I3 hz;rw[i1]at j1;cases j1;exact j2
      have gS:z0.cells.size=k:=by rw[←ajU];exact iB
      obtain⟨eU,kU⟩:=pU;split at hx
      ·next n' oo len L k1 e1=>
       split at hx
       ·next e4 k2 cs hn=>
        obtain⟨hb,he⟩:=kK hx;cases he
        simp only[ajp,beq_iff_eq]at hb;obtain⟨⟨rfl,rfl⟩,rfl⟩:=hb;obtain⟨hL,wv,rfl,o8⟩:=hp;obtain⟨us,hr,ER⟩:=O0 (tx:=U) hs.inv (cT z) wv fk (im hU).1;have hv:=cT y;rw[e1]at hv;obtain⟨u,w',G',r1,r2,r3,r4,r5⟩:=ack (ty:=o.type) hs.inv dY i1 Dm i2 i3 gS fk hn hL hv hr ER o8;exact nu jm hs cm (by rw[BI c hc h1 h2 ho,r1];rfl) r2 r3 r4 r5 hK
       ·cases hx
      ·next e1=>
       cases hx
       obtain⟨wv,rfl,rfl,rfl,iW,lx⟩:=hp;obtain⟨us,hr,ER⟩:=O0 (tx:=U) hs.inv (cT z) wv fk (im hU).1;have hv:=cT y;rw[e1]at hv;have ev:=hv.val;obtain⟨u,w',G',r1,r2,r3,r4,r5⟩:=QV (ty:=o.type) (A:=none) hs.inv dY i1 Dm i2 i3 gS fk hr ER iW lx;exact nu jm hs cm (by rw[BI c hc h1 h2 ho,ev,r1];rfl) r2 r3 r4 r5 hK
      ·next xs e1=>
       cases hx
       obtain⟨rfl,wv,rfl,rfl,rfl,iW,lx⟩:=hp;obtain⟨us,hr,ER⟩:=O0 (tx:=U) hs.inv (cT z) wv fk (im hU).1;have hv:=cT y;rw[e1]at hv;obtain⟨A,eA⟩:∃A,a.eval y= .slice A 0 0:=by
        generalize a.eval y=u at hv;cases hv with|full _ _ hf=>exact hf
       obtain⟨u,w',G',r1,r2,r3,r4,r5⟩:=QV (ty:=o.type) (A:=A) hs.inv dY i1 Dm i2 i3 gS fk hr ER iW lx;exact nu jm hs cm (by rw[BI c hc h1 h2 ho,eA,r1];rfl) r2 r3 r4 r5 hK
      ·cases hx
     ·cases hx
    ·cases hx
   ·cases hx
  next=>cases hx
 next=>cases hx
theorem YO(hs:cx G w a s)(cm:N0≤G.N)(h:Em P o K s):o.wpIn (WF r) n P a w (gV N0 G w K) Q:=by
 have cT:=hs.ev;unfold Em at h;split at h
 ·next op T x y U ho=>
  split at h
  ·next xs pT v1 v2 hx hy hT h1 h2=>
   obtain⟨e,k⟩:=pT;have dY:=(im hT).1;have hv:=cT y;rw[hy]at hv;have ey:=hv.val;obtain⟨A,b,oo,c,k',u,ex,hA,_,_,_,_,_⟩:=((cT x).list hx).nS;have hg:(eqGuard op T x y (a.eval x) (a.eval y)).run P w= .ok () w:=by rw[ex,ey];unfold eqGuard;cases op<;>simp
   have dc:(binOp op T (a.eval x) (a.eval y)).run P w= .ok (if A.isNone then v1 else v2) w:=by
    rw[ex,ey];have hq:=run_equal_slice_nil (P:=P) (w:=w) T e A xs.length c dY;cases op<;>simp [wm]at h1 h2<;>subst h1<;>subst h2<;>simp [binOp,hq]<;>cases A<;>rfl
   have hex:(execOp a.eval o).run P w= .ok (.value (if A.isNone then v1 else v2)) w:=by
    unfold execOp;simp only[ho];rw[Sem.run_bind,Sem.run_bind,hg];simp only[Result.andThen_ok];rw[dc];rfl
   cases A with
   |none=>
    have jV:xs=[]:=Classical.byContradiction fun cu=>by have:=hA cu;cases this
    exact eg (by rw[ho];simp) hs cm hex (.d (.v _)) (h.1 jV)
   |some ad=>exact eg (by rw[ho];simp) hs cm hex (.d (.v _)) h.2
  ·exact h.elim
 ·exact h.elim
theorem On(hs:cx G w a s)(cm:N0≤G.N)(h:ah8 P o K s):o.wpIn (WF r) n P a w (gV N0 G w K) Q:=by
 rcases h with h|h|h
 ·exact Ue hs cm h
 ·exact YO hs cm h
 ·exact Tg hs cm h
end
theorem aL.zm{G:Gh}{w:akg}{u:akf}{x:AV}(Z:Nat→Prop)(M:Nat)(h:aL G w u x):aL {G with Z:=Z,M:=M} w u x:=by
 induction h with
 |agg vs cs hl _ ih=>exact .agg vs cs hl ih
 |bk vs cs hl _ ih=>exact .bk vs cs hl ih
 |fn f vs cs hl _ ih=>exact .fn f vs cs hl ih
 |own n xs h hp hle hf=>exact .own n xs h hp hle hf
 |ptr n off h=>exact .ptr (G:={G with Z:=Z,M:=M}) n off h
 |row n off len cap k h hl hm=>exact .row (G:={G with Z:=Z,M:=M}) n off len cap k h hl hm
 |mp n h=>exact .mp (G:={G with Z:=Z,M:=M}) n h
 |cE n h=>exact .cE (G:={G with Z:=Z,M:=M}) n h
 |vec n o len L k h hs hL hf=>exact .vec (G:={G with Z:=Z,M:=M}) n o len L k h hs hL hf
 |cN n i j L k h hs hL hf=>exact .cN (G:={G with Z:=Z,M:=M}) n i j L k h hs hL hf
 |hid h h1=>exact .hid h h1
 |d h=>exact .d h
 |bD xs i off b o u x hx hS hu=>exact .bD xs i off b o u x hx hS hu
 |full xs hp hf=>exact .full xs hp hf
 |dead u=>exact .dead u
theorem dC.zm{G:Gh}{w:akg}{n:Nat}{B:aq}(Z:Nat→Prop)(M:Nat)(hz:∀b,Z b→G.Z b)(h:dC G w n B):dC {G with Z:=Z,M:=M} w n B:=by
 cases B with
 |gone=>trivial
 |cells cs=>
  obtain⟨h1,h2,vs,T,h3,h4,h5⟩:=h;exact⟨fun k=>h1 (hz _ k),h2,vs,T,h3,h4,fun i u c hu hc=>(h5 i u c hu hc).zm Z M⟩
 |lp ls p as bd cs=>
  obtain⟨h1,h2,fn,vs,T,h3,h4,h5⟩:=h;exact⟨fun k=>h1 (hz _ k),h2,fn,vs,T,h3,h4,fun i u c hu hc=>(h5 i u c hu hc).zm Z M⟩
 |it sn cs=>
  obtain⟨h1,h2,fn,vs,T,h3,h4,h5⟩:=h;exact⟨fun k=>h1 (hz _ k),h2,fn,vs,T,h3,h4,fun i u c hu hc=>(h5 i u c hu hc).zm Z M⟩
 |map kv=>
  obtain⟨h1,h2,es,c,h3,h4⟩:=h;exact⟨fun k=>h1 (hz _ k),h2,es,c,h3,h4⟩
 |front e k len=>
  obtain⟨h1,hm,h2⟩:=h;refine⟨h1,hm,?_⟩;rcases h2 with h2|⟨g,cap,cur,h2,h3,h4,h5⟩
  ·exact .inl h2
  ·exact .inr ⟨g,cap,cur,h2,h3,fun k=>h4 (hz _ k),h5⟩
 |vec e k cs=>
  obtain⟨h1,hm,hk,h2⟩:=h;refine⟨h1,hm,hk,?_⟩;rcases h2 with h2|⟨g,cap,cur,h2,h3,h4,h5,h6,h7,h8,h9,az⟩
  ·exact .inl h2
  ·exact .inr ⟨g,cap,cur,h2,h3,fun k=>h4 (hz _ k),h5,h6,h7,h8,h9,fun i j c x u hc hx hu=>(az i j c x u hc hx hu).zm Z M⟩
theorem G5{h:akb aq}{G:Gh}{n:Nat}(Z:Nat→Prop)(M:Nat):b6 h {G with Z:=Z,M:=M} n=b6 h G n:=by
 unfold b6;cases h[n]? with
 |none=>rfl
 |some B=>cases B<;>rfl
theorem bV.zm{G:Gh}{w:akg}{h:akb aq}(hi:bV G w h)(Z:Nat→Prop)(M:Nat)(hz:∀b,Z b→G.Z b)(hM:M≤w.heap.size):bV {G with Z:=Z,M:=M} w h:=
 ⟨hi.len,fun b hb=>hi.z b (hz b hb),hi.S,fun n B hB=>(hi.cU n B hB).zm Z M hz,fun m n b h1 h2=>hi.inj m n b (by rw[←G5 Z M];exact h1) (by rw[←G5 Z M];exact h2),⟨hi.gl.1,hM⟩⟩
def ov(l:akb Nat)(w:akg):akg:=l.foldl (fun w D=>w.putObj D (.deferred none)) w
theorem Ti:∀(l:akb Nat)(w:akg),(∀D∈l,w.heap[D]?=some (.deferred (some [])))→l.Nodup→
 (ov l w).heap.size=w.heap.size∧(∀b,b ∉ l→(ov l w).heap[b]?=w.heap[b]?)∧(∀b o,(ov l w).cell? ⟨b,o,none⟩=w.cell? ⟨b,o,none⟩)∧(ov l w).os=w.os∧(ov l w).tape=w.tape∧(ov l w).output=w.output
 |[],w,_,_=>⟨rfl,fun _ _=>rfl,fun _ _=>rfl,rfl,rfl,rfl⟩
 |D::l,w,hd,hn=>by
  rw[List.nodup_cons]at hn;have hD:=hd D ajt;have aX:=(ajC.1 hD).1;obtain⟨h1,h2,h3,h4,h5,h6⟩:=Ti l (w.putObj D (.deferred none)) (fun E hE=>by
    have cu:E≠D:=fun e=>hn.1 (e▸hE);rw[World.putObj_heap_other cu];exact hd E (ajw _ hE)) hn.2
  refine⟨h1.trans (by simp),fun b hb=> ?_,fun b o=> ?_,h4,h5,h6⟩
  ·exact(h2 b fun h=>hb (ajw _ h)).trans (World.putObj_heap_other fun e=>hb (e▸ajt))
  ·refine(h3 b o).trans ?_;by_cases e:b=D
   ·subst e;unfold World.cell?;simp only[World.putObj_heap_same aX,hD]
   ·exact World.cell?_of_block (World.putObj_heap_other e)
theorem Sa{F:Fence}{n:Nat}{P:ake}{fn:Func}{tmps:Array akf}{R:Ending→akg→Prop}:∀(l:akb Nat)(w:akg),(∀D∈l,w.heap[D]?=some (.deferred (some [])))→l.Nodup→
 LeavesIn F n P fn tmps R [] .returning (ov l w)→LeavesInM F n P fn tmps R (l.map fun D=>{target:= .collected D,args:= #[]}) .returning w
 |[],w,_,_,h=>h
 |D::l,w,hd,hn,h=>by
  rw[List.nodup_cons]at hn;exact⟨by simp, .inl ⟨D,_,rfl,run_takeDeferred (hd D ajt),Sa l _ (fun E hE=>by
    have cu:E≠D:=fun e=>hn.1 (e▸hE);rw[World.putObj_heap_other cu];exact hd E (ajw _ hE)) hn.2 h⟩⟩
theorem aeK{N0:Nat}{G G1:Gh}{w w':akg}{a':Act}{s1:St}(hE:bP N0 {G with M:=w.heap.size} w G1 w')(hN:N0≤G1.N)(hz:∀b,G.Z b→b<w.heap.size)(hMw:G.M≤w.heap.size)(hs:cx G1 w' a' s1):
 ∃(w2:akg)(G2:Gh),(∀(F:Fence)(n:Nat)(P:ake)(fn:Func)(R:Ending→akg→Prop),(∃v,(results fn a'.tmps).run P w2= .ok v w2∧R (.returned v) w2)→LeavesInM F n P fn a'.tmps R a'.defers .returning w')∧
  bP N0 G w G2 w2∧G2.N=G1.N∧cx G2 w2 {a' with defers:=[]} s1:=by
 obtain⟨l,l1,l2,l3⟩:=hs.df;have hd:∀D∈l,w'.heap[D]?=some (.deferred (some [])):=fun D hD=>(l3 D hD).2.2;obtain⟨h1,h2,h3,h4,h5,h6⟩:=Ti l w' hd l1;have hM:G1.M=w.heap.size:=hE.Z.2;have gS:∀b,G.Z b→b ∉ l:=fun b hb hl=>by
  have:=(l3 b hl).1;have:=hz b hb;omega
 obtain⟨G2,fK⟩:∃G2:Gh,G2={G1 with Z:=G.Z,M:=G.M}:=⟨_,rfl⟩;have AZ:∀b,G.Z b→G1.Z b:=hE.Z.1.1;have iT:bV G2 w' s1.h:=by rw[fK];exact hs.inv.zm _ _ AZ (ajF hMw hE.size)
 have iA:bP N0 G w G2 w':=by
  rw[fK];exact⟨hE.size,hE.S,hE.cell,hE.bm,hE.fr,fJ rfl,hE.old,hE.os,hE.tape,hE.output,hE.new⟩
 have jh:bP G2.N G2 w' G2 (ov l w'):=⟨by rw[h1];exact ajy _,fun _ _ h=>h,fun b o _=>h3 b o,fun _ _=>rfl,fun _ _=> .inl ⟨rfl,rfl⟩,fJ rfl,fun b hb=>h2 b (gS b (by rw[fK]at hb;exact hb)),h4,h5,h6,fun _ _ h=> .inl h⟩;have IT:bV G2 (ov l w') s1.h:=⟨iT.len,fun b hb=>by rw[h1];exact iT.z b hb,fun b o hb=>by rw[h1];exact iT.S b o hb,fun n B hB=>dC.bn (iT.lt hB) jh (ajy _) ⟨rfl,rfl,rfl⟩ (fun b hb=>⟨h2 b fun hl=>(hs.inv.cU n B hB).kV (by rw[fK]at hb;cases B<;>exact hb) (l3 b hl).2.1,fun _ h=>h⟩) (iT.cU n B hB),iT.inj,iT.gl.bn jh⟩;refine⟨ov l w',G2,fun F n P fn R h=> ?_,iA.trans (jh.less (by rw[fK];exact hN)),by rw[fK],⟨hs.size,fun i=>aL.bn jh (ajy _) (by rw[fK];exact(hs.tmp i).zm _ _),IT,pF.nil _ _⟩⟩;rw[l2];exact Sa l w' hd l1 h
section
variable {G:Gh} {w:akg} {h:akb aq}
theorem ZG(hi:bV G w h)(fn:FuncId)(tm:Array akf)(D p:Nat)(as bd:Code)(cs:akb AV)(hl:tm.size=cs.length)(hr:∀(i:Nat)(u:akf)(c:AV),tm[i]?=some u→cs[i]?=some c→aL G w u c):bP G.N G w (G.dx w.heap.size) (w.alloc (.loop {state:= .ready,pending:=none,fn:=fn,tmps:=tm,params:= #[p],assign:=as,body:=bd,defers:=D}))∧bV (G.dx w.heap.size) (w.alloc (.loop {state:= .ready,pending:=none,fn:=fn,tmps:=tm,params:= #[p],assign:=as,body:=bd,defers:=D})) (h++[.lp .ready p as bd cs])∧aL (G.dx w.heap.size) (w.alloc (.loop {state:= .ready,pending:=none,fn:=fn,tmps:=tm,params:= #[p],assign:=as,body:=bd,defers:=D})) (.func (.yield w.heap.size) #[] #[]) (.cE h.length):=by
 have hE:=Ee G w hi.z hi.S (.loop {state:= .ready,pending:=none,fn:=fn,tmps:=tm,params:= #[p],assign:=as,body:=bd,defers:=D});have hN:G.N≤(G.dx w.heap.size).N:=Nat.le_succ _;have ib:(G.dx w.heap.size).bm h.length=w.heap.size:=by simp [Gh.dx,hi.len]
 have lP:∀n(B:aq),n<G.N→B.dv (G.dx w.heap.size) n=B.dv G n:=fun n B hn=>by
  cases B<;>simp [aq.dv,Gh.dx,Nat.ne_of_lt hn]
 have fw:∀n,n<G.N→b6 (h++[.lp .ready p as bd cs]) (G.dx w.heap.size) n=b6 h G n:=fun n hn=>by
  have aX:n<h.length:=by rw[hi.len];exact hn
  unfold b6;rw[ajx aX,ajr aX];exact lP n _ hn
 have BD:b6 (h++[.lp .ready p as bd cs]) (G.dx w.heap.size) h.length=some w.heap.size:=by
  rw[dm (B:= .lp .ready p as bd cs) (by simp)];exact congrArg some ib
 refine⟨hE,⟨by simp [Gh.dx,hi.len],fun b hb=>ajL (hi.z b hb) hE.size,fun b o hs=>ajL (hi.S b o hs) hE.size,fun n B hB=> ?_,fun m n b hm hn=> ?_,hi.gl.bn hE⟩,?_⟩
 ·by_cases hn:n<h.length
  ·rw[ajx hn]at hB;have eE:n<G.N:=hi.len▸hn;exact dC.bn eE hE hN ⟨rfl,rfl,rfl⟩ (fun b hb=>⟨Below.heap_alloc w _ _ (hi.gP (n:=n) ((dm hB).trans hb)),fun o h=>h⟩) (hi.cU n B hB)
  ·have lz:n=h.length:=by
    have:=(ajn.1 hB).1;simp at this;omega
   subst lz;simp at hB;subst hB;exact⟨by rw[ib];exact fun hz=>aj1 _ (hi.z _ hz),fun o hs=>by rw[ib]at hs;exact aj1 _ (hi.S _ _ hs),fn,tm,D,by rw[ib];exact World.alloc_heap_new w _,hl,fun i u c hu hc=>(hr i u c hu hc).bn hE hN⟩
 ·have key:∀n b,b6 (h++[.lp .ready p as bd cs]) (G.dx w.heap.size) n=some b→(n<G.N∧b6 h G n=some b)∨(n=h.length∧b=w.heap.size):=fun n b hn=>by
   by_cases aX:n<G.N
   ·exact .inl ⟨aX,by rw[←fw n aX];exact hn⟩
   ·by_cases e:n=h.length
    ·subst e;rw[BD]at hn;cases hn;exact .inr ⟨rfl,rfl⟩
    ·rw[AO (ajT (by simp;have:=hi.len;omega))]at hn;cases hn
  rcases key m b hm with⟨_,jR⟩|⟨rfl,rfl⟩<;>rcases key n _ hn with⟨_,eE⟩|⟨rfl,hb⟩
  ·exact hi.inj m n b jR eE
  ·have:=hi.gP jR;omega
  ·have:=hi.gP eE;omega
  ·rfl
 ·have:=aL.cE (G:=G.dx w.heap.size) (w:=w.alloc (.loop {state:= .ready,pending:=none,fn:=fn,tmps:=tm,params:= #[p],assign:=as,body:=bd,defers:=D})) h.length (by simp [Gh.dx,hi.len])
  rwa [ib]at this
theorem SN{k:Nat}{B B':aq}{ob yy:Obj}(hi:bV G w h)(hk:h[k]?=some B)(sw:B.dv G k=some (G.bm k))(hS:∀o,¬G.S (G.bm k) o)(l9:w.heap[G.bm k]?=some ob)(hn:B'= .gone∨B'.dv G k=some (G.bm k))
 (hB:∀w',(∀b o,G.S b o→w'.cell? ⟨b,o,none⟩=w.cell? ⟨b,o,none⟩)→w'.heap[G.bm k]?=some yy→bP G.N G w G w'→dC G w' k B'):bP G.N G w G (w.putObj (G.bm k) yy)∧bV G (w.putObj (G.bm k) yy) (h.set k B'):=by
 have aX:=(ajC.1 l9).1;have hZ:¬G.Z (G.bm k):=(hi.cU k B hk).kV sw;have gg:∀b,b≠G.bm k→(w.putObj (G.bm k) yy).heap[b]?=w.heap[b]?:=fun b hb=>World.putObj_heap_other hb;have fY:∀b o,G.S b o→(w.putObj (G.bm k) yy).cell? ⟨b,o,none⟩=w.cell? ⟨b,o,none⟩:=fun b o hs=>World.cell?_of_block (gg b (fun e=>hS o (e▸hs)));have hE:bP G.N G w G (w.putObj (G.bm k) yy):=⟨by simp,fun _ _ h=>h,fY,fun _ _=>rfl,fun _ _=> .inl ⟨rfl,rfl⟩,fJ rfl,fun b hb=>gg b (fun e=>hZ (e▸hb)),rfl,rfl,rfl,fun _ _ h=> .inl h⟩;refine⟨hE,?_⟩;have hkl:=(ajn.1 hk).1;have ki:(h.set k B')[k]?=some B':=by rw[ajQ hkl]
 have dT:∀m,m≠k→(h.set k B')[m]?=h[m]?:=fun m hm=>by rw[ajV (Ne.symm hm)]
 have lh:b6 h G k=some (G.bm k):=(dm hk).trans sw;have dE:∀m b,b6 (h.set k B') G m=some b→b6 h G m=some b:=fun m b hb=>by
  by_cases e:m=k
  ·subst e;rw[dm ki]at hb;rcases hn with rfl|hn
   ·cases hb
   ·rw[hn]at hb;cases hb;exact lh
  ·unfold b6 at hb ⊢;rw[dT m e]at hb;exact hb
 refine⟨by rw[List.length_set];exact hi.len,fun b hb=>ajL (hi.z b hb) hE.size,fun b o hs=>ajL (hi.S b o hs) hE.size,fun m C hC=> ?_,fun m m' b h1 h2=>hi.inj m m' b (dE m b h1) (dE m' b h2),hi.gl.bn hE⟩;by_cases e:m=k
 ·subst e;rw[ki]at hC;cases hC
  exact hB _ fY (World.putObj_heap_same aX) hE
 ·rw[dT m e]at hC;have cu:∀b,b6 h G m=some b→b≠G.bm k:=fun b hb eb=>e (hi.inj m k b hb (by rw[eb];exact lh));exact dC.bn (hi.lt hC) hE (ajy _) ⟨rfl,rfl,rfl⟩ (fun b hb=>⟨gg b (cu _ ((dm hC).trans hb)),fun o h=>h⟩) (hi.cU m C hC)
theorem Gi{k:Nat}{ls:LS}{p:Nat}{as bd:Code}{cs:akb AV}(hi:bV G w h)(hk:h[k]?=some (.lp ls p as bd cs)):
 (∀o,¬G.S (G.bm k) o)∧∃(fn:FuncId)(tm:Array akf)(D:Nat),w.heap[G.bm k]?=some (.loop {state:=ls.st,pending:=ls.pd,fn:=fn,tmps:=tm,params:= #[p],assign:=as,body:=bd,defers:=D})∧tm.size=cs.length∧(∀(i:Nat)(u:akf)(c:AV),tm[i]?=some u→cs[i]?=some c→aL G w u c)∧
   ∀(AJ:LS),bP G.N G w G (w.putObj (G.bm k) (.loop {state:=AJ.st,pending:=AJ.pd,fn:=fn,tmps:=tm,params:= #[p],assign:=as,body:=bd,defers:=D}))∧bV G (w.putObj (G.bm k) (.loop {state:=AJ.st,pending:=AJ.pd,fn:=fn,tmps:=tm,params:= #[p],assign:=as,body:=bd,defers:=D})) (h.set k (.lp AJ p as bd cs)):=by
 obtain⟨h1,h2,fn,tm,D,h3,h4,h5⟩:=hi.cU k _ hk;refine⟨h2,fn,tm,D,h3,h4,h5,fun AJ=>SN hi hk rfl h2 h3 (.inr rfl) fun w' hc dI hE=>⟨h1,h2,fn,tm,D,dI,h4,fun i u c hu iK=>(h5 i u c hu iK).bn hE (ajy _)⟩⟩
theorem Yz{k:Nat}{ls:LS}{p:Nat}{as bd:Code}{cs:akb AV}(hi:bV G w h)(hk:h[k]?=some (.lp ls p as bd cs))(ob:Obj):bP G.N G w G (w.putObj (G.bm k) ob)∧bV G (w.putObj (G.bm k) ob) (h.set k .gone):=by
 obtain⟨h1,h2,fn,tm,D,h3,h4,h5⟩:=hi.cU k _ hk;exact SN hi hk rfl h2 h3 (.inl rfl) fun _ _ _ _=>trivial
theorem ab0(hi:bV G w h):bP G.N G w {G with Z:=fun b=>G.Z b∨b=w.heap.size} (w.alloc (.deferred (some [])))∧bV {G with Z:=fun b=>G.Z b∨b=w.heap.size} (w.alloc (.deferred (some []))) h:=by
 have hE:bP G.N G w {G with Z:=fun b=>G.Z b∨b=w.heap.size} (w.alloc (.deferred (some []))):=
  ⟨by simp,fun _ _ h=>h,fun b _ h=>World.cell?_alloc_lt _ _ _ (hi.S _ _ h),fun _ _=>rfl,fun _ _=> .inl ⟨rfl,rfl⟩,⟨⟨fun _ h=> .inl h,fun b h=>h.imp id fun e=>Nat.le_of_eq e.symm⟩,rfl⟩,fun b hb=>Below.heap_alloc w _ b (hi.z b hb),rfl,rfl,rfl,fun _ _ h=> .inl h⟩
 refine⟨hE,hi.len,fun b hb=> ?_,fun b o hs=>ajL (hi.S b o hs) hE.size,fun n B hB=> ?_,fun m n b h1 h2=>hi.inj m n b (by rw[←G5 (fun b=>G.Z b∨b=w.heap.size) G.M];exact h1) (by rw[←G5 (fun b=>G.Z b∨b=w.heap.size) G.M];exact h2),hi.gl.bn hE⟩
 ·rcases hb with hb|rfl
  ·exact ajL (hi.z b hb) hE.size
  ·simp
 ·exact dC.bn (hi.lt hB) hE (ajy _) ⟨rfl,rfl,rfl⟩ (fun b hb=>⟨Below.heap_alloc w _ _ (hi.gP (n:=n) ((dm hB).trans hb)),fun o h=>h⟩) (hi.cU n B hB)
end
end Go.Proofs.YtpgmcallngdceaaGreatDoor
