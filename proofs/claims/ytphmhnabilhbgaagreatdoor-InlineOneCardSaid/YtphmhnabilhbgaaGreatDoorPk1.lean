/-
  Part 1 of the proof: AbsGlob, AbsCore, AbsOps, AbsHeap, AbsStore, AbsApp, AbsOp, AbsOp2, AbsOp3, AbsMap, AbsVec, AbsVec2, AbsOp4, AbsLeave, AbsLoop.
-/
import Derived.WalkKit
import Derived.Laws.Strings
import Derived.Lib.Hide
import Derived.OrdersIn
import Derived.RangeFuncIn
import Derived.RangeFuncCalls
import Derived.RangeFuncLeaves
import Derived.RangeFuncFrom
import Derived.Deep.MidRow
import Derived.Laws.AppendOwn
import Derived.Maps.OwnOps
import Derived.KernelRfl
import Derived.Deep.AppendSrc
import Derived.Deep.Upon
import Derived.Laws.BytesString
import Derived.Laws.StructEq
import Derived.Laws.MakeOwn
import Derived.Laws.Cover3
namespace Go.Proofs.YtphmhnabilhbgaaGreatDoor
open Go.RowKit
abbrev ags:=@Option.bind_some
abbrev agt:=@List.getElem?_eq_some_iff
abbrev agu:=@List.length_append
abbrev agv:=@Bool.and_eq_true
abbrev agw:=@List.length_cons
abbrev agx:=@List.getElem?_eq_getElem
abbrev agy:=@List.length_map
abbrev agz:=@List.mem_cons_self
abbrev agA:=@List.getElem?_map
abbrev agB:=@Nat.le_of_ble_eq_true
abbrev agC:=@List.mem_cons_of_mem
abbrev agD:=@List.getElem?_append_left
abbrev agE:=@Nat.le_refl
abbrev agF:=@List.length_nil
abbrev agG:=@List.mem_of_getElem?
abbrev agH:=@Nat.eq_of_beq_eq_true
abbrev agI:=@Array.getElem?_eq_some_iff
abbrev agJ:=@List.getElem?_append_right
abbrev agK:=@List.append_assoc
abbrev agL:=@Nat.le_trans
abbrev agM:=@Option.some.inj
abbrev agN:=@Nat.zero_add
abbrev agO:=@List.append_nil
abbrev agP:=@Array.getElem?_eq_getElem
abbrev agQ:=@Array.getElem?_toList
abbrev agR:=@Nat.lt_of_lt_of_le
abbrev agS:=@List.map_cons
abbrev agT:=@List.all_eq_true
abbrev agU:=@Int.toNat_natCast
abbrev agV:=@Nat.not_lt_zero
abbrev agW:=@List.getElem?_set_self
abbrev agX:=@List.mem_cons
abbrev agY:=@List.map_congr_left
abbrev agZ:=@List.getElem?_eq_none
abbrev ag0:=@Array.length_toList
abbrev ag1:=@List.getElem?_set_ne
abbrev ag2:=@List.drop_zero
abbrev ag3:=@List.length_replicate
abbrev ag4:=@List.getElem?_cons_succ
abbrev ag5:=@List.mem_append
abbrev ag6:=@List.take_append_drop
abbrev ag7:=@Nat.lt_irrefl
abbrev ag8:=@Nat.le_add_right
abbrev ag9:=@List.not_mem_nil
abbrev aha:=@decide_eq_true
abbrev ahb:=@decide_eq_false
abbrev ahc:=@beq_self_eq_true
abbrev ahd:=@List.all_cons
abbrev ahe:=@List.any_cons
abbrev ahf:=@Nat.lt_succ_self
abbrev ahg:=@Bool.or_eq_false_iff
def bL(a:ByteArray):List UInt8:=a.data.toList
theorem Mc(a:ByteArray):a.toList=bL a:=ByteArray.toList_eq a
theorem L7{a b:ByteArray}(h:bL a=bL b):a=b:=by cases a;cases b;simp only[bL,Array.toList_inj]at h;rw[h]
def Fl(l:List Nat):List Value:=l.map fun n=>Value.int .u8 (Int.ofNat n)
def RJ:List Nat:=(List.range 256).map fun n=>bif (Nat.ble 9 n&&Nat.ble n 13)||n==32 then 1 else 0
def yw:List (Nat×List Value):=
 (0,Fl RJ)::
  []
def yr:List (Nat×List Value)→Nat→Option (List Value)
 |[],_=>none
 |(k,l)::r,g=>bif k==g then some l else yr r g
theorem MT:∀{t:List (Nat×List Value)}{g:Nat}{l:List Value},yr t g=some l→(g,l)∈t
 |[],g,l,h=>by cases h
 |(k,l')::r,g,l,h=>by
  unfold yr at h;cases e:k==g with
  |true=>rw[e]at h;cases h;rw[beq_iff_eq]at e;subst e;simp
  |false=>rw[e]at h;exact agC _ (MT h)
inductive D where
 |v (u:Value)
 |sl (xs:List (List D))
inductive gG where
 |d (x:D)
 |bn (c:List D) (off:Nat)
 |fn (f:FuncId) (cs:List gG)
inductive AV where
 |d (x:D)
 |agg (cs:List AV)
 |bX (cs:List AV)
 |ptr (n off:Nat)
 |bn (xs:List (List D)) (i off:Nat)
 |own (n:Nat) (xs:List (List D))
 |full (xs:List (List D))
 |row (n off len cap k:Nat)
 |fn (f:FuncId) (dt:List AV)
 |mp (n:Nat)
 |dj (n:Nat)
 |vec (n o len L k:Nat)
 |di (n i j L k:Nat)
 |hid (c:gG)
 |dead
inductive LS where
 |ready
 |busy
 |done (c:Code)
def LS.st:LS→LoopState
 | .ready=> .ready
 | .busy=> .busy
 | .done _=> .done
def LS.pd:LS→Option Code
 | .done c=>some c
 |_=>none
inductive ak where
 |cells (cs:List AV)
 |front (e:TypeId) (k len:Nat)
 |vec (e:TypeId) (k:Nat) (cs:List (List AV))
 |map (kv:List (ByteArray×D))
 |lp (ls:LS) (p:Nat) (as bd:Code) (cs:List AV)
 |it (sn:Bool) (cs:List AV)
 |gone
structure Gh where
 N:Nat
 Z:Nat→Prop
 S:Nat→Nat→Prop
 bo:Nat→Nat
 sg:Nat→Value
 ow:Nat→Option Nat
 fl:Nat→Nat
 M:Nat
inductive dC(S:Nat→Nat→Prop)(w:World):Value→D→Prop
 |v (u:Value):dC S w u (.v u)
 |sl (A:Option Addr) (b o c k:Nat) (xs:List (List D)) (u:Nat→Nat→Value)
    (hA:xs≠ []→A=some ⟨b,o,none⟩) (hc:xs.length≤c) (hm:c≤maxLen)
    (hk:∀x∈xs,x.length=k)
    (hS:∀i j,i<xs.length→j<k→S b (o+i*k+j)∧w.cell? ⟨b,o+i*k+j,none⟩=some (u i j)∧(u i j).oneCell'=true)
    (hu:∀(i j:Nat)(x:List D)(d:D),xs[i]?=some x→x[j]?=some d→dC S w (u i j) d):dC S w (.slice A xs.length c) (.sl xs)
inductive nS(S:Nat→Nat→Prop)(w:World):Value→gG→Prop
 |d {u:Value} {x:D} (h:dC S w u x):nS S w u (.d x)
 |bn (c:List D) (off b o:Nat) (u:Nat→Value) (hS:∀j,j<c.length→S b (o+j)∧w.cell? ⟨b,o+j,none⟩=some (u j)) (hu:∀(j:Nat)(d:D),c[j]?=some d→dC S w (u j) d):nS S w (.pointer (some ⟨b,o+off,none⟩)) (.bn c off)
 |fn (f:FuncId) (vs:Array Value) (cs:List gG) (hl:vs.size=cs.length) (h:∀(i:Nat)(u:Value)(c:gG),vs[i]?=some u→cs[i]?=some c→nS S w u c):nS S w (.func (.func f) #[] vs) (.fn f cs)
structure Ou(s u:Value)(o len L k:Nat):Prop where
 ol:o+len≤L
 sl:∃A c,u= .slice A len c∧len≤c∧c≤maxLen∧L≤c+o∧(o<L→∃g cap,s= .slice (some ⟨g,0,none⟩) L cap∧A=some ⟨g,o*k,none⟩∧o+c=cap)
 all:o=0→len=L→u=s
structure PS(s u:Value)(i j L k:Nat):Prop where
 il:i<L
 pt:∃g cap,s= .slice (some ⟨g,0,none⟩) L cap∧u= .pointer (some ⟨g,i*k+j,none⟩)
inductive aG(G:Gh)(w:World):Value→AV→Prop
 |d {u:Value} {x:D} (h:dC G.S w u x):aG G w u (.d x)
 |agg (vs:Array Value) (cs:List AV) (hl:vs.size=cs.length) (h:∀(i:Nat)(u:Value)(c:AV),vs[i]?=some u→cs[i]?=some c→aG G w u c):aG G w (.agg vs) (.agg cs)
 |bX (vs:Array Value) (cs:List AV) (hl:vs.size=cs.length) (h:∀(i:Nat)(u:Value)(c:AV),vs[i]?=some u→cs[i]?=some c→aG G w u c):aG G w (.tuple vs) (.bX cs)
 |ptr (n off:Nat) (h:n<G.N):aG G w (.pointer (some ⟨G.bo n,off,none⟩)) (.ptr n off)
 |bn (xs:List (List D)) (i off b o:Nat) (u:Nat→Value) (x:List D) (hx:xs[i]?=some x)
  (hS:∀j,j<x.length→G.S b (o+j)∧w.cell? ⟨b,o+j,none⟩=some (u j)) (hu:∀(j:Nat)(d:D),x[j]?=some d→dC G.S w (u j) d):aG G w (.pointer (some ⟨b,o+off,none⟩)) (.bn xs i off)
 |own {u:Value} (n:Nat) (xs:List (List D)) (h:n<G.N) (hp:dC G.S w u (.sl xs)) (hle:xs.length≤G.fl n) (hf:xs.length=G.fl n→u=G.sg n):aG G w u (.own n xs)
 |full {u:Value} (xs:List (List D)) (hp:dC G.S w u (.sl xs)) (hf:∃A,u= .slice A xs.length xs.length):aG G w u (.full xs)
 |row (n off len cap k:Nat) (h:n<G.N) (hl:len≤cap) (hm:cap≤maxLen):aG G w (.slice (some ⟨G.bo n,off,none⟩) len cap) (.row n off len cap k)
 |fn (f:FuncId) (vs:Array Value) (cs:List AV) (hl:vs.size=cs.length) (h:∀(i:Nat)(u:Value)(c:AV),vs[i]?=some u→cs[i]?=some c→aG G w u c):aG G w (.func (.func f) #[] vs) (.fn f cs)
 |mp (n:Nat) (h:n<G.N):aG G w (.map (some (G.bo n))) (.mp n)
 |dj (n:Nat) (h:n<G.N):aG G w (.func (.yield (G.bo n)) #[] #[]) (.dj n)
 |vec {u:Value} (n o len L k:Nat) (h:n<G.N) (hs:∃A l c,u= .slice A l c) (hL:L≤G.fl n) (hf:L=G.fl n→Ou (G.sg n) u o len L k):aG G w u (.vec n o len L k)
 |di {u:Value} (n i j L k:Nat) (h:n<G.N) (hs:∃b q,u= .pointer (some ⟨b,q,none⟩)) (hL:L≤G.fl n) (hf:L=G.fl n→PS (G.sg n) u i j L k):aG G w u (.di n i j L k)
 |hid {u:Value} {c:gG} (h:nS G.S w u c) (h1:u.oneCell'=true):aG G w u (.hid c)
 |dead (u:Value):aG G w u .dead
def jL:List (ByteArray×D)→ByteArray→Option D
 |[],_=>none
 |(k,d)::l,s=>bif bL k==bL s then some d else jL l s
structure uO(S:Nat→Nat→Prop)(w:World)(es:Array MapEntry)(clock:Nat)(kv:List (ByteArray×D)):Prop where
 size:es.size≤maxLen
 stamped:MapKept.Stamped es clock
 xe:∀e∈es.toList,∃s d,e.key= .string s∧jL kv s=some d∧dC S w e.val d
 all:∀s d,jL kv s=some d→∃e∈es.toList,e.key= .string s
 len:es.size≤kv.length
 born:∀(i:Nat)(e:MapEntry),es[i]?=some e→e.born=i
 Cv:clock=es.size
def ak.ep(G:Gh)(n:Nat):ak→Option Nat
 | .cells _=>some (G.bo n)
 | .front _ _ _=>G.ow n
 | .vec _ _ _=>G.ow n
 | .map _=>some (G.bo n)
 | .lp _ _ _ _ _=>some (G.bo n)
 | .it _ _=>some (G.bo n)
 | .gone=>none
def cl(h:List ak)(G:Gh)(n:Nat):Option Nat:=(h[n]?).bind (ak.ep G n)
theorem dU{h:List ak}{G:Gh}{n:Nat}{B:ak}(e:h[n]?=some B):cl h G n=B.ep G n:=by unfold cl;rw[e];rfl
theorem xm{h:List ak}{G:Gh}{n:Nat}(e:h[n]?=none):cl h G n=none:=by unfold cl;rw[e];rfl
theorem kI{h:List ak}{G:Gh}{n b:Nat}(e:cl h G n=some b):∃B,h[n]?=some B∧B.ep G n=some b:=by
 unfold cl at e;cases hx:h[n]? with
 |none=>rw[hx]at e;cases e
 |some B=>rw[hx]at e;exact⟨B,rfl,e⟩
def eB(G:Gh)(w:World)(n:Nat):ak→Prop
 | .cells cs=>¬G.Z (G.bo n)∧(∀o,¬G.S (G.bo n) o)∧∃(vs:Array Value)(T:TypeId),w.heap[G.bo n]?=some (.cells vs T (0,0))∧vs.size=cs.length∧∀(i:Nat)(u:Value)(c:AV),vs[i]?=some u→cs[i]?=some c→aG G w u c
 | .front e k len=>G.fl n=len∧len≤maxLen∧((G.ow n=none∧∃A,G.sg n= .slice A len len)∨
  ∃(g cap:Nat)(cur:Array Value),G.ow n=some g∧G.sg n= .slice (some ⟨g,0,none⟩) len cap∧¬G.Z g∧w.heap[g]?=some (.cells cur e (0,0))∧len≤cap∧cap≤maxLen∧cur.size=cap*k∧∀o,len*k≤o→¬G.S g o)
 | .vec e k cs=>G.fl n=cs.length∧cs.length≤maxLen∧(∀c∈cs,c.length=k)∧((G.ow n=none∧cs=[]∧∃A,G.sg n= .slice A 0 0)∨
  ∃(g cap:Nat)(cur:Array Value),G.ow n=some g∧G.sg n= .slice (some ⟨g,0,none⟩) cs.length cap∧¬G.Z g∧w.heap[g]?=some (.cells cur e (0,0))∧cs.length≤cap∧cap≤maxLen∧cur.size=cap*k∧(∀o,¬G.S g o)∧
   ∀(i j:Nat)(c:List AV)(x:AV)(u:Value),cs[i]?=some c→c[j]?=some x→cur[i*k+j]?=some u→aG G w u x)
 | .map kv=>¬G.Z (G.bo n)∧(∀o,¬G.S (G.bo n) o)∧∃(es:Array MapEntry)(clock:Nat),w.heap[G.bo n]?=some (.map es clock)∧uO G.S w es clock kv
 | .lp ls p as bd cs=>¬G.Z (G.bo n)∧(∀o,¬G.S (G.bo n) o)∧∃(fn:FuncId)(tm:Array Value)(D:Nat),w.heap[G.bo n]?=some (.loop {state:=ls.st,pending:=ls.pd,fn:=fn,tmps:=tm,params:= #[p],assign:=as,body:=bd,defers:=D})∧tm.size=cs.length∧∀(i:Nat)(u:Value)(c:AV),tm[i]?=some u→cs[i]?=some c→aG G w u c
 | .it sn cs=>¬G.Z (G.bo n)∧(∀o,¬G.S (G.bo n) o)∧∃(fn:Nat)(vs:Array Value)(_:Unit),w.heap[G.bo n]?=some (.mapIter (some fn) 1 (if sn then #[0]else #[]) 1)∧(vs.size=cs.length∧vs= #[.map (some fn)])∧∀(i:Nat)(u:Value)(c:AV),vs[i]?=some u→cs[i]?=some c→aG G w u c
 | .gone=>True
def G9(G:Gh)(w:World):Prop:=(∀(g:Nat)(l:List Value),(g,l)∈yw→∀(j:Nat)(v:Value),l[j]?=some v→G.S g j∧w.cell? ⟨g,j,none⟩=some v)∧G.M≤w.heap.size
structure cf(G:Gh)(w:World)(h:List ak):Prop where
 len:h.length=G.N
 z:∀b,G.Z b→b<w.heap.size
 S:∀b o,G.S b o→b<w.heap.size
 dp:∀(n:Nat)(B:ak),h[n]?=some B→eB G w n B
 inj:∀(m n b:Nat),cl h G m=some b→cl h G n=some b→m=n
 gl:G9 G w
structure bZ(N:Nat)(G:Gh)(w:World)(G':Gh)(w':World):Prop where
 size:w.heap.size≤w'.heap.size
 S:∀b o,G.S b o→G'.S b o
 cell:∀b o,G.S b o→w'.cell? ⟨b,o,none⟩=w.cell? ⟨b,o,none⟩
 bo:∀n,n<N→G'.bo n=G.bo n
 fr:∀n,n<N→(G'.fl n=G.fl n∧G'.sg n=G.sg n)∨G.fl n<G'.fl n
 Z:((∀b,G.Z b→G'.Z b)∧∀b,G'.Z b→G.Z b∨w.heap.size≤b)∧G'.M=G.M
 old:∀b,G.Z b→w'.heap[b]?=w.heap[b]?
 os:w'.os=w.os
 tape:w'.tape=w.tape
 output:w'.output=w.output
 new:∀b o,G'.S b o→G.S b o∨¬G.Z b
theorem gq{Z Z':Nat→Prop}{m M M':Nat}(h:Z'=Z)(hM:M'=M:=by rfl):((∀b,Z b→Z' b)∧∀b,Z' b→Z b∨m≤b)∧M'=M:=⟨⟨fun _ k=>h▸k,fun _ k=> .inl (h▸k)⟩,hM⟩
theorem bZ.refl(N:Nat)(G:Gh)(w:World):bZ N G w G w:=
 ⟨agE _,fun _ _ h=>h,fun _ _ _=>rfl,fun _ _=>rfl,fun _ _=> .inl ⟨rfl,rfl⟩,gq rfl,fun _ _=>rfl,rfl,rfl,rfl,fun _ _ h=> .inl h⟩
theorem bZ.trans{N:Nat}{G G1 G2:Gh}{w w1 w2:World}(h:bZ N G w G1 w1)(k:bZ N G1 w1 G2 w2):bZ N G w G2 w2:=
 ⟨agL h.size k.size,fun b o hs=>k.S b o (h.S b o hs),fun b o hs=>(k.cell b o (h.S b o hs)).trans (h.cell b o hs),fun n hn=>(k.bo n hn).trans (h.bo n hn),
  fun n hn=>by
   rcases h.fr n hn with⟨h1,h2⟩|h1<;>rcases k.fr n hn with⟨k1,k2⟩|k1
   ·exact .inl ⟨k1.trans h1,k2.trans h2⟩
   ·exact .inr (h1▸k1)
   ·exact .inr (k1▸h1)
   ·exact .inr (Nat.lt_trans h1 k1),
  ⟨⟨fun b hb=>k.Z.1.1 b (h.Z.1.1 b hb),fun b hb=>(k.Z.1.2 b hb).elim (h.Z.1.2 b) fun hs=> .inr (agL h.size hs)⟩,k.Z.2.trans h.Z.2⟩,fun b hb=>(k.old b (h.Z.1.1 b hb)).trans (h.old b hb),k.os.trans h.os,k.tape.trans h.tape,k.output.trans h.output,fun b o hs=>(k.new b o hs).elim (h.new b o) (fun hn=> .inr fun hz=>hn (h.Z.1.1 b hz))⟩
theorem bZ.less{N M:Nat}{G G':Gh}{w w':World}(h:bZ N G w G' w')(hM:M≤N):bZ M G w G' w':=
 ⟨h.size,h.S,h.cell,fun n hn=>h.bo n (agR hn hM),fun n hn=>h.fr n (agR hn hM),h.Z,h.old,h.os,h.tape,h.output,h.new⟩
theorem bZ.lv{N:Nat}{G G':Gh}{w w':World}(h:bZ N G w G' w'){b:Nat}(hb:b<w.heap.size)(hz:¬G.Z b):¬G'.Z b:=fun k=>(h.Z.1.2 b k).elim hz fun hs=>ag7 _ (agR hb hs)
def n7(G:Gh)(w:World)(ds:List Deferred):Prop:=∃l:List Nat,l.Nodup∧ds=l.map (fun D=>{target:= .collected D,args:= #[]})∧∀D∈l,G.M≤D∧G.Z D∧w.heap[D]?=some (.deferred (some []))
theorem n7.nil(G:Gh)(w:World):n7 G w []:=⟨[],List.nodup_nil,rfl,fun _ h=>absurd h ag9⟩
theorem n7.ba{N:Nat}{G G':Gh}{w w':World}{ds:List Deferred}(h:n7 G w ds)(hE:bZ N G w G' w'):n7 G' w' ds:=
 let ⟨l,h1,h2,h3⟩:=h
 ⟨l,h1,h2,fun D hD=>⟨hE.Z.2▸(h3 D hD).1,hE.Z.1.1 D (h3 D hD).2.1,(hE.old D (h3 D hD).2.1).trans (h3 D hD).2.2⟩⟩
theorem G9.ba{N:Nat}{G G':Gh}{w w':World}(h:G9 G w)(hE:bZ N G w G' w'):G9 G' w':=⟨fun g l hm j v hv=>
 ⟨hE.S _ _ (h.1 g l hm j v hv).1,(hE.cell _ _ (h.1 g l hm j v hv).1).trans (h.1 g l hm j v hv).2⟩,by rw[hE.Z.2];exact agL h.2 hE.size⟩
theorem dC.ba{S S':Nat→Nat→Prop}{w w':World}(hS:∀b o,S b o→S' b o)(hc:∀b o,S b o→w'.cell? ⟨b,o,none⟩=w.cell? ⟨b,o,none⟩){u:Value}{x:D}(h:dC S w u x):dC S' w' u x:=by
 induction h with
 |v u=>exact .v u
 |sl A b o c k xs u hA jx hm hk oS _ ih=>
  exact .sl A b o c k xs u hA jx hm hk (fun i j hi hj=>⟨hS _ _ (oS i j hi hj).1,(hc _ _ (oS i j hi hj).1).trans (oS i j hi hj).2.1,(oS i j hi hj).2.2⟩) ih
theorem nS.ba{S S':Nat→Nat→Prop}{w w':World}(hS:∀b o,S b o→S' b o)(hc:∀b o,S b o→w'.cell? ⟨b,o,none⟩=w.cell? ⟨b,o,none⟩){u:Value}{x:gG}(h:nS S w u x):nS S' w' u x:=by
 induction h with
 |d h=>exact .d (h.ba hS hc)
 |bn c off b o u h1 h2=>exact .bn c off b o u (fun j hj=>⟨hS _ _ (h1 j hj).1,(hc _ _ (h1 j hj).1).trans (h1 j hj).2⟩) (fun j d hd=>(h2 j d hd).ba hS hc)
 |fn f vs cs hl _ ih=>exact .fn f vs cs hl ih
theorem aG.ba{G G':Gh}{w w':World}(hE:bZ G.N G w G' w')(hN:G.N≤G'.N){u:Value}{x:AV}(h:aG G w u x):aG G' w' u x:=by
 induction h with
 |d h=>exact .d (h.ba hE.S hE.cell)
 |agg vs cs hl _ ih=>exact .agg vs cs hl ih
 |bX vs cs hl _ ih=>exact .bX vs cs hl ih
 |ptr n off h=>rw[←hE.bo n h];exact .ptr n off (agR h hN)
 |bn xs i off b o u x hx hS hu=>exact .bn xs i off b o u x hx (fun j hj=>⟨hE.S _ _ (hS j hj).1,(hE.cell _ _ (hS j hj).1).trans (hS j hj).2⟩) (fun j d hd=>(hu j d hd).ba hE.S hE.cell)
 |own n xs h hp hle hf=>
  refine .own n xs (agR h hN) (hp.ba hE.S hE.cell) ?_ ?_
  ·rcases hE.fr n h with⟨h1,_⟩|h1
   ·omega
   ·omega
  ·intro e;rcases hE.fr n h with⟨h1,h2⟩|h1
   ·rw[h2];exact hf (e.trans h1)
   ·omega
 |full xs hp hf=>exact .full xs (hp.ba hE.S hE.cell) hf
 |row n off len cap k h hl hm=>rw[←hE.bo n h];exact .row n off len cap k (agR h hN) hl hm
 |fn f vs cs hl _ ih=>exact .fn f vs cs hl ih
 |mp n h=>rw[←hE.bo n h];exact .mp n (agR h hN)
 |dj n h=>rw[←hE.bo n h];exact .dj n (agR h hN)
 |vec n o len L k h hs hL hf=>
  refine .vec n o len L k (agR h hN) hs ?_ ?_
  ·rcases hE.fr n h with⟨h1,_⟩|h1<;>omega
  ·intro e;rcases hE.fr n h with⟨h1,h2⟩|h1
   ·rw[h2];exact hf (e.trans h1)
   ·omega
 |di n i j L k h hs hL hf=>
  refine .di n i j L k (agR h hN) hs ?_ ?_
  ·rcases hE.fr n h with⟨h1,_⟩|h1<;>omega
  ·intro e;rcases hE.fr n h with⟨h1,h2⟩|h1
   ·rw[h2];exact hf (e.trans h1)
   ·omega
 |hid h h1=>exact .hid (h.ba hE.S hE.cell) h1
 |dead u=>exact .dead u
structure St where
 n:Nat
 t:List (Nat×AV)
 h:List ak
def bz:List (Nat×AV)→Nat→AV
 |[],_=> .dead
 |(k,x)::l,i=>bif i==k then x else bz l i
theorem jX(k:Nat)(x:AV)(l:List (Nat×AV))(i:Nat):bz ((k,x)::l) i=if i=k then x else bz l i:=by
 simp only[bz,cond_eq_ite,beq_iff_eq]
def gd(b:Bool)(p:Prop):Prop:=cond b p False
theorem bY{b:Bool}{p:Prop}:gd b p↔b=true∧p:=by cases b<;>simp [gd]
def cd(a b:Nat):Bool:=a-b==0
theorem cZ{a b:Nat}:cd a b=true↔a≤b:=by simp [cd];omega
def RE:IntKind→Nat
 | .i8=>0| .i16=>1| .i32=>2| .i64=>3| .u8=>4| .u16=>5| .u32=>6| .u64=>7
def xu(a b:IntKind):Bool:=RE a==RE b
theorem K6{a b:IntKind}:xu a b=true↔a=b:=by cases a<;>cases b<;>decide
def St.put(s:St)(dst:Option Nat)(x:AV):St:=
 match dst with
 |none=>s
 |some d=>bif s.n-d==0 then s else{s with t:=(d,x)::s.t}
theorem pD{s:St}{d:Nat}(h:d<s.n)(x:AV):s.put (some d) x={s with t:=(d,x)::s.t}:=by
 have:(s.n-d==0)=false:=by simp;omega
 simp only[St.put,this,cond_false]
theorem Bm{s:St}{d:Nat}(h:¬d<s.n)(x:AV):s.put (some d) x=s:=by
 have:(s.n-d==0)=true:=by simp;omega
 simp only[St.put,this,cond_true]
def St.wh(s:St)(h:List ak):St:={s with h:=h}
def Lz:Value→AV
 | .agg vs=> .agg (vs.toList.map fun u=> .d (.v u))
 | .tuple vs=> .bX (vs.toList.map fun u=> .d (.v u))
 |u=> .d (.v u)
def ev(s:St):Operand→AV
 | .tmp t=>bz s.t t
 | .const v=>Lz v
 | .func f=> .fn f []
 | .global g=>match yr yw g with
   |some l=> .bn [l.map .v] 0 0
   |none=> .dead
def AV.iS:AV→Bool
 | .d (.v u)=>u.oneCell'
 | .d (.sl _)| .ptr .. | .bn .. | .own .. | .full _| .row .. | .fn .. | .mp _| .dj _| .hid _| .vec .. | .di .. =>true
 | .agg _| .bX _| .dead=>false
def AV.cells:AV→List AV
 | .agg cs=>cs
 |x=>[x]
def AV.iy:AV→Bool
 | .agg cs=>cs.all AV.iS
 |x=>x.iS
def D.zB:D→D
 | .v (.slice none 0 0)=> .sl []
 |x=>x
def AV.rz:AV→Option D
 | .d x=>some x.zB
 | .own _ xs=>some (.sl xs)
 | .full xs=>some (.sl xs)
 |_=>none
def AV.fG:AV→Option (List (List D))
 | .d (.sl xs)=>some xs
 | .own _ xs=>some xs
 | .full xs=>some xs
 | .d (.v (.slice none 0 0))=>some []
 |_=>none
def AV.int?:AV→Option Int
 | .d (.v (.int _ n))=>some n
 |_=>none
def gG.av:gG→AV
 | .d x=> .d x
 | .bn c off=> .bn [c] 0 off
 | .fn f cs=> .hid (.fn f cs)
def fA(P:Program)(t:TypeId):Option Nat:=(P.info? t).map (·.size)
def kW(P:Program)(t:TypeId):Option Bool:=(P.underlying t).map fun| .struct _=>true| .array .. =>true|_=>false
def pe(P:Program)(t:TypeId)(i:Nat):Option (Nat×Nat×Bool):=
 match P.underlying t with
 |some (.struct fs)=>match fs[i]? with
  |some f=>match fA P f.type,kW P f.type with
   |some (k+1),some g=>some (f.offset,k+1,g)
   |_,_=>none
  |none=>none
 |_=>none
def dY(P:Program)(t:TypeId):Option (TypeId×Nat):=
 match P.underlying t with
 |some (.slice e)=>(fA P e).map fun k=>(e,k)
 |_=>none
def rV(P:Program)(t:TypeId):Option (Nat×TypeId×Nat):=
 match P.underlying t with
 |some (.array n e)=>(fA P e).map fun k=>(n,e,k)
 |_=>none
def gr(P:Program)(t:TypeId):Bool:=match P.underlying t with|some .string=>true|_=>false
def yI(P:Program)(t:TypeId):Bool:=match P.underlying t with|some .bool=>true|_=>false
def oz(P:Program)(t:TypeId):Option IntKind:=match P.underlying t with|some (.int k)=>some k|_=>none
def DR(P:Program)(t:TypeId):Bool:=match P.underlying t with|some (.int .u8)=>true|_=>false
def gO(P:Program)(t:TypeId):Option Value:=(P.info? t).bind (·.zero)
def mw(P:Program)(t:TypeId):Option Nat:=(P.info? t).map (·.bytes)
def Ll(op:BinOp)(k:IntKind)(a b:Int):Option Value:=
 match op with
 | .add=>some (.int k (k.wrap (a+b)))
 | .sub=>some (.int k (k.wrap (a-b)))
 | .mul=>some (.int k (k.wrap (a*b)))
 | .eql=>some (.bool (a==b))
 | .neq=>some (.bool (a !=b))
 | .lss=>some (.bool (a<b))
 | .leq=>some (.bool (a≤b))
 | .gtr=>some (.bool (a>b))
 | .geq=>some (.bool (a≥b))
 | .and=>some (.int k (k.wrap (BitVec.ofInt k.bits a&&&BitVec.ofInt k.bits b).toNat))
 | .or=>some (.int k (k.wrap (BitVec.ofInt k.bits a|||BitVec.ofInt k.bits b).toNat))
 | .xor=>some (.int k (k.wrap (BitVec.ofInt k.bits a^^^BitVec.ofInt k.bits b).toNat))
 | .andNot=>some (.int k (k.wrap (BitVec.ofInt k.bits a&&& ~~~BitVec.ofInt k.bits b).toNat))
 |_=>none
def Kx(op:BinOp)(a b:ByteArray):Option Value:=
 match op with
 | .eql=>some (.bool (bL a==bL b))
 | .neq=>some (.bool (!(bL a==bL b)))
 | .lss=>some (.bool (Op.bytesLess (bL a) (bL b)))
 | .leq=>some (.bool (Op.bytesLess (bL a) (bL b)||bL a==bL b))
 | .gtr=>some (.bool (!(Op.bytesLess (bL a) (bL b)||bL a==bL b)))
 | .geq=>some (.bool (!Op.bytesLess (bL a) (bL b)))
 |_=>none
def L2(op:BinOp)(a b:Bool):Option Value:=
 match op with
 | .eql=>some (.bool (a==b))
 | .neq=>some (.bool (!(a==b)))
 |_=>none
def I6(op:BinOp)(k:IntKind)(a b:Int):Option Value:=
 match op with
 | .quo=>some (.int k (k.wrap (a.tdiv b)))
 | .rem=>some (.int k (a.tmod b))
 |_=>none
def KX(op:BinOp)(k:IntKind)(a b:Int):Option Value:=
 match op with
 | .shl=>some (.int k (k.wrap (a*2^(min b.toNat k.bits))))
 | .shr=>some (.int k (a.fdiv (2^(min b.toNat k.bits))))
 |_=>none
def Ho(op:UnOp)(x:Value):Option Value:=
 match op,x with
 | .not, .bool b=>some (.bool (!b))
 | .neg, .int k n=>some (.int k (k.wrap (0-n)))
 | .xor, .int k n=>some (.int k (k.wrap (BitVec.ofInt k.bits (if k.signed then-1 else k.max)^^^BitVec.ofInt k.bits n).toNat))
 |_,_=>none
def gy(cs:List AV)(off:Nat)(ys:List AV):List AV:=cs.take off++ys++cs.drop (off+ys.length)
def my(k:Nat):Nat→List D→List (List D)
 |0,_=>[]
 |n+1,l=>l.take k::my k n (l.drop k)
def ni(places:List (Nat×Nat)):List AV→List (Nat×AV)→Option (List AV)
 |cs,[]=>some cs
 |cs,(i,x)::r=>
  match places[i]? with
  |some (off,k)=>bif x.cells.length==k&&cd (off+k) cs.length then ni places (gy cs off x.cells) r else none
  |none=>none
def mq:List AV→Option (List D)
 |[]=>some []
 |x::r=>match x.rz,mq r with
  |some d,some l=>some (d::l)
  |_,_=>none
def Cm(P:Program)(fs:List Field):Option (List (Nat×Nat)):=fs.mapM fun f=>(fA P f.type).map fun k=>(f.offset,k)
def ym(P:Program)(f:FuncId):Bool:=
 match P.funcs[f]? with
 |some fn=>fn.body.isSome&& !(fn.name== "runtime.NumGoroutine")
 |none=>false
def bW(P:Program)(f:FuncId)(args:List AV)(h:List ak)(K:AV→List ak→Prop):Prop:=
 ym P f=true∧∀(G:Gh)(w:World)(vs:Array Value),cf G w h→vs.size=args.length→(∀(i:Nat)(u:Value)(c:AV),vs[i]?=some u→args[i]?=some c→aG G w u c)→
  Calls P f vs w fun e w'=>∃v G' r h',e= .returned v∧bZ G.N G w G' w'∧G.N≤G'.N∧cf G' w' h'∧aG G' w' v r∧K r h'
theorem bW.mono{P:Program}{f:FuncId}{args:List AV}{h:List ak}{K K':AV→List ak→Prop}(hc:bW P f args h K)(hk:∀r h',K r h'→K' r h'):bW P f args h K':=
 ⟨hc.1,fun G w vs hi hl hr=>(hc.2 G w vs hi hl hr).mono fun _ _ ⟨v,G',r,h',e,x1,x2,x3,x4,x5⟩=>⟨v,G',r,h',e,x1,x2,x3,x4,hk _ _ x5⟩⟩
def qV(h:List ak)(p:AV)(K:List AV→Nat→Prop):Prop:=
 match p with
 | .ptr n off=>match h[n]? with
   |some (.cells cs)=>K cs off
   |_=>False
 | .bn xs i off=>match xs[i]? with
   |some cs=>K (cs.map .d) off
   |none=>False
 |_=>False
def mG(P:Program)(t:TypeId)(h:List ak)(p:AV)(K:AV→Prop):Prop:=
 qV h p fun cs off=>match kW P t,fA P t with
  |some true,some k=>gd (cd (off+k) cs.length) (K (.agg ((cs.drop off).take k)))
  |some false,some _=>match cs[off]? with
   |some c=>K c
   |none=>False
  |_,_=>False
def vg(P:Program)(t:TypeId)(h:List ak)(p x:AV)(K:List ak→Prop):Prop:=
 match p with
 | .ptr n off=>match h[n]? with
   |some (.cells cs)=>match fA P t with
    |some k=>gd (k==x.cells.length&&x.iy&&cd (off+x.cells.length) cs.length) (K (h.set n (.cells (gy cs off x.cells))))
    |none=>False
   |_=>False
 |_=>False
def qD(P:Program)(T:TypeId)(x i:AV)(K:AV→Prop):Prop:=
 match dY P T with
 |some (_,k)=>
  match x with
  | .row n off len _ k'=>match i.int? with
    |some z=>gd (k'==k) (0≤z∧z<len∧K (.ptr n (off+z.toNat*k)))
    |none=>False
  |_=>match x.fG,i.int? with
   |some xs,some z=>0≤z∧(match xs[z.toNat]? with|some c=>c.length=k∧K (.bn [c] 0 0)|none=>False)
   |_,_=>False
 |none=>match rV P T,x,i.int? with
  |some (n,_,k), .ptr b off,some z=>0≤z∧z<n∧K (.ptr b (off+z.toNat*k))
  |some (n,_,k), .bn xs i off,some z=>gd (k==1) (0≤z∧z<n∧(match xs[i]? with|some c=>(match c[off+z.toNat]? with|some d=>K (.bn [[d]] 0 0)|none=>False)|none=>False))
  |_,_,_=>False
def qf(P:Program)(T:TypeId)(x:AV)(K:Nat→Prop):Prop:=
 match x with
 | .d (.v (.string s))=>gd (gr P T) (K s.size)
 | .row _ _ len _ _=>gd (dY P T).isSome (K len)
 |x=>match x.fG with
  |some xs=>gd (dY P T).isSome (K xs.length)
  |none=>False
def iu(ρ:Operand→AV)(x:Option Operand)(Wi:Nat)(K:Nat→Prop):Prop:=
 match x with
 |none=>K Wi
 |some y=>match (ρ y).int? with
  |some z=>0≤z∧K z.toNat
  |none=>False
def o9(P:Program)(T:TypeId)(ρ:Operand→AV)(x:AV)(lo hi mx:Option Operand)(K:AV→Prop):Prop:=
 match mx with
 |none=>
  match x with
  | .d (.v (.string b))=>gd (gr P T) (iu ρ hi b.size fun h=>h≤b.size∧iu ρ lo 0 fun l=>l≤h∧K (.d (.v (.string (b.extract l h)))))
  | .ptr n off=>match rV P T with
    |some (m,_,k)=>gd (cd m 4096) (iu ρ hi m fun h=>gd (cd h m) (iu ρ lo 0 fun l=>gd (cd l h&& !cd m l) (K (.row n (off+l*k) (h-l) (m-l) k))))
    |none=>False
  |x=>match x.fG,dY P T with
   |some xs,some (_,k)=>(∀c∈xs,c.length=k)∧iu ρ hi xs.length fun h=>h≤xs.length∧iu ρ lo 0 fun l=>l≤h∧K (.d (.sl ((xs.take h).drop l)))
   |_,_=>False
 |some m=>match lo,hi with
  |none,some y=>match x.fG,dY P T with
   |some xs,some (_,k)=>(∀c∈xs,c.length=k)∧iu ρ (some m) 0 fun c=>c≤xs.length∧iu ρ (some y) 0 fun h=>h=c∧K (.full (xs.take h))
   |_,_=>False
  |_,_=>False
def rD(h:List ak)(k:Nat)(x:AV)(K:List (List D)→Prop):Prop:=
 match x with
 | .row n off len _ k'=>match h[n]? with
   |some (.cells cs)=>match mq ((cs.drop off).take (len*k))with
    |some ds=>gd (k'==k&&cd (off+len*k) cs.length&&((cs.drop off).take (len*k)).all AV.iS) (K (my k len ds))
    |none=>False
   |_=>False
 |x=>match x.fG with
  |some ys=>(∀c∈ys,c.length=k)∧K ys
  |none=>False
def py(P:Program)(T:TypeId)(h:List ak)(x y:AV)(K:AV→List ak→Prop):Prop:=
 match dY P T with
 |some (e,k)=>match gO P e,mw P e with
  |some z,some c9=>gd (cd 1 k&&z.cells.toList.length==k)<|rD h k y fun ys=>
   match x with
   | .own n xs=>match h[n]? with
     |some (.front e' k' len)=>gd (e'==e&&k'==k)<|len=xs.length∧(∀c∈xs,c.length=k)∧xs.length+ys.length≤maxLen∧(xs.length+ys.length)*c9≤140737488355328∧K (.own n (xs++ys)) (h.set n (.front e k (xs.length+ys.length)))
     |_=>False
   | .d (.v (.slice none 0 0))=>ys.length≤maxLen∧ys.length*c9≤140737488355328∧K (.own h.length ys) (h++[.front e k ys.length])
   | .full xs=>(∀c∈xs,c.length=k)∧xs.length+ys.length≤maxLen∧(xs.length+ys.length)*c9≤140737488355328∧K (.own h.length (xs++ys)) (h++[.front e k (xs.length+ys.length)])
   |_=>False
  |_,_=>False
 |none=>False
def LL(P:Program)(T:TypeId):Option (List (Nat×Nat)):=
 match P.underlying T with
 |some (.struct fs)=>Cm P fs.toList
 |_=>none
def wL(P:Program)(T:TypeId)(ps:List (Nat×AV))(K:AV→Prop):Prop:=
 match LL P T,gO P T with
 |some places,some z=>match ni places (z.cells.toList.map fun u=> .d (.v u)) ps with
  |some cs=>gd ((ps.all fun p=>p.2.iy)&&z.cells.toList.all Value.oneCell') (K (.agg cs))
  |none=>False
 |_,_=>False
def rO(k:Nat):Nat→Nat→List (Nat×Nat)
 |_,0=>[]
 |o,n+1=>(o,k)::rO k (o+k) n
def qI:Nat→List AV→List AV
 |0,_=>[]
 |n+1,l=>l++qI n l
def wJ(P:Program)(T:TypeId)(len:Nat)(ps:List (Nat×AV))(K:AV→Prop):Prop:=
 match dY P T with
 |some (e,k)=>match gO P e with
  |some z=>match ni (rO k 0 len) (qI len (z.cells.toList.map fun u=> .d (.v u))) ps with
   |some cs=>match mq cs with
    |some ds=>gd (cd 1 k&&cd (len*k) 16777216&&z.cells.toList.length==k&&z.cells.toList.all Value.oneCell'&&(ps.all fun p=>p.2.iy)) (K (.full (my k len ds)))
    |none=>False
   |none=>False
  |none=>False
 |none=>False
def El(P:Program)(t:TypeId)(x y:AV):Option Bool:=
 match x,y with
 | .d (.v (.int k a)), .d (.v (.int k' b))=>bif xu k k'&&(oz P t).isSome then some (a==b)else none
 | .d (.v (.string a)), .d (.v (.string b))=>bif gr P t then some (bL a==bL b)else none
 | .d (.v (.bool a)), .d (.v (.bool b))=>bif yI P t then some (a==b)else none
 |_,_=>none
def As(P:Program)(sub:TypeId→List AV→List AV→Option Bool):List Field→List AV→List AV→Option Bool
 |[],_,_=>some true
 |f::fs,xs,ys=>bif f.name== "_" then none else
  match kW P f.type with
  |some false=>match xs[f.offset]?,ys[f.offset]? with
   |some x,some y=>match El P f.type x y,As P sub fs xs ys with
    |some a,some b=>some (a&&b)
    |_,_=>none
   |_,_=>none
  |some true=>match fA P f.type with
   |some k=>bif cd (f.offset+k) xs.length&&cd (f.offset+k) ys.length then match sub f.type ((xs.drop f.offset).take k) ((ys.drop f.offset).take k),As P sub fs xs ys with
    |some a,some b=>some (a&&b)
    |_,_=>none
    else none
   |none=>none
  |none=>none
def Gs(P:Program):Nat→TypeId→List AV→List AV→Option Bool
 |0=>fun _ _ _=>none
 |d+1=>fun T xs ys=>match P.underlying T with
  |some (.struct fs)=>bif P.stoodInHeld T then none else As P (Gs P d) fs.toList xs ys
  |_=>none
def Gn(P:Program)(T:TypeId)(xs ys:List AV):Option Bool:=
 match P.underlying T with
 |some (.struct fs)=>bif P.stoodInHeld T||P.eqGuardType P.depth T then none else As P (Gs P 4) fs.toList xs ys
 |_=>none
def ql(op:BinOp)(b:Bool):Option Value:=
 match op with
 | .eql=>some (.bool b)
 | .neq=>some (.bool (!b))
 |_=>none
def wq(P:Program)(T:TypeId)(op:BinOp)(x y:AV)(K:AV→Prop):Prop:=
 match x,y with
 | .d (.v (.int k a)), .d (.v (.int k' b))=>
   match I6 op k a b with
   |some v=>gd (xu k k') (b≠0∧K (.d (.v v)))
   |none=>match KX op k a b with
    |some v=>0≤b∧K (.d (.v v))
    |none=>match Ll op k a b with
     |some v=>gd (xu k k') (K (.d (.v v)))
     |none=>False
 | .d (.v (.string a)), .d (.v (.string b))=>match Kx op a b with
   |some v=>K (.d (.v v))
   |none=>match op with
    | .add=>a.size+b.size≤maxLen∧K (.d (.v (.string (a++b))))
    |_=>False
 | .d (.v (.bool a)), .d (.v (.bool b))=>match L2 op a b with
   |some v=>gd (yI P T) (K (.d (.v v)))
   |none=>False
 | .agg xs, .agg ys=>match Gn P T xs ys with
   |some b=>match ql op b with
    |some v=>K (.d (.v v))
    |none=>False
   |none=>False
 |_,_=>False
def w5(op:UnOp)(x:AV)(K:AV→Prop):Prop:=
 match x with
 | .d (.v u)=>match Ho op u with
   |some v=>K (.d (.v v))
   |none=>False
 |_=>False
def qp(P:Program)(src dst:TypeId)(x:AV)(K:AV→Prop):Prop:=
 match x with
 | .d (.v (.int _ n))=>match oz P src,oz P dst with
   |some _,some k=>K (.d (.v (.int k (k.wrap n))))
   |_,_=>False
 | .d (.v (.string b))=>gd (gr P src&&gr P dst) (K (.d (.v (.string b))))
 |x=>match x.fG,dY P src with
  |some xs,some (e,_)=>gd (DR P e&&gr P dst) (∃ns:List Int,xs=ns.map (fun n=>[.v (.int .u8 n)])∧K (.d (.v (.string ⟨(ns.map fun n=>UInt8.ofNat n.toNat).toArray⟩))))
  |_,_=>False
def wF(P:Program)(T:TypeId)(x:AV)(f:Nat)(K:AV→Prop):Prop:=
 match pe P T f,x with
 |some (off,k,true), .agg cs=>gd (cd (off+k) cs.length) (K (.agg ((cs.drop off).take k)))
 |some (off,_,false), .agg cs=>match cs[off]? with
  |some c=>K c
  |none=>False
 |_,_=>False
def o6(P:Program)(T:TypeId):Option (TypeId×TypeId):=
 match P.underlying T with
 |some (.map k e)=>some (k,e)
 |_=>none
inductive Sd
 |no
 |lt (n:Nat)
def Sd.ok:Sd→Prop
 | .no=>True
 | .lt n=>n<maxLen
def vE(RT:Bool)(z:Value):Option D→AV
 |some d=>bif RT then .bX [.d d, .d (.v (.bool true))]else .d d
 |none=>bif RT then .bX [.d (.v z), .d (.v (.bool false))]else .d (.v z)
def lq(P:Program)(op:Op)(ρ:Operand→AV)(h:List ak):Option (AV×List ak×Sd):=
 match op with
 | .makeMap T none=>match o6 P T with
   |some _=>some (.mp h.length,h++[.map []], .no)
   |none=>none
 | .lookup T m i ok=>match o6 P T with
   |some (k,e)=>match gO P e with
    |some z=>match ρ m,ρ i with
     | .mp n, .d (.v (.string s))=>match h[n]? with
       |some (.map kv)=>bif gr P k&&z.oneCell' then some (vE ok z (jL kv s),h, .no)else none
       |_=>none
     |_,_=>none
    |none=>none
   |none=>none
 | .mapUpdate T m i x=>match o6 P T with
   |some (k,_)=>match ρ m,ρ i,(ρ x).rz with
    | .mp n, .d (.v (.string s)),some d=>match h[n]? with
      |some (.map kv)=>bif gr P k then some (.d (.v undef),h.set n (.map ((s,d)::kv)), .lt kv.length)else none
      |_=>none
    |_,_,_=>none
   |none=>none
 |_=>none
inductive VA
 |no
 |el (c:List AV)
 |st (c:List AV) (cs:List (List AV))
 |mk (cs:List (List AV)) (len m:Nat)
 |ap (cs ys:List (List AV)) (L len:Nat)
 |ix (i:Nat)
 |ol (o len:Nat)
def E0(P:Program)(t:TypeId)(c:List AV)(j:Nat):Option AV:=
 match kW P t,fA P t with
 |some true,some k=>bif cd (j+k) c.length then some (.agg ((c.drop j).take k))else none
 |some false,some _=>c[j]?
 |_,_=>none
def aK(xs:List (List D)):List (List AV):=xs.map fun c=>c.map AV.d
def vU(h:List ak)(k:Nat)(y:AV)(ys:List (List AV)):Prop:=
 (∃xs,y.fG=some xs∧(∀c∈xs,c.length=k)∧ys=aK xs)∨(∃n o len L e cs,y= .vec n o len L k∧h[n]?=some (.vec e k cs)∧cs.length=L∧ys=(cs.drop o).take len∧∀c∈ys,c.all AV.iS=true)
def oM(ρ:Operand→AV)(d:Int):Option Operand→Option Int
 |none=>some d
 |some y=>(ρ y).int?
def fm(P:Program)(op:Op)(ρ:Operand→AV)(h:List ak)(a:VA):Option (AV×List ak×Prop):=
 match op with
 | .indexAddr T x i=>match ρ x,(ρ i).int?,dY P T,a with
   | .vec n o len L k,some z,some (_,k'), .ix i'=>match h[n]? with
     |some (.vec _ k2 cs)=>bif k'==k&&k2==k then some (.di n i' 0 L k,h,cs.length=L∧0≤z∧z<len∧i'=o+z.toNat)else none
     |_=>none
   |_,_,_,_=>none
 | .fieldAddr S x f=>match ρ x,pe P S f with
   | .di n i j L k,some (fo,_,_)=>some (.di n i (j+fo) L k,h,True)
   |_,_=>none
 | .nilCheck x=>match ρ x with
   | .di n i j L k=>some (.di n i j L k,h,True)
   |_=>none
 | .load t p=>match ρ p,a with
   | .di n i j L k, .el c=>match h[n]?,E0 P t c j with
     |some (.vec _ k' cs),some x=>bif k'==k then some (x,h,cs.length=L∧cs[i]?=some c)else none
     |_,_=>none
   |_,_=>none
 | .store t p x=>match ρ p,a with
   | .di n i j L k, .st c cp=>match h[n]?,fA P t with
     |some (.vec e k' cs),some q=>bif k'==k&&q==(ρ x).cells.length&&(ρ x).iy&&cd (j+(ρ x).cells.length) k&&cd 1 k then some (.d (.v undef),h.set n (.vec e k cp),cs.length=L∧cs[i]?=some c∧cp=cs.set i (gy c j (ρ x).cells))else none
     |_,_=>none
   |_,_=>none
 | .slice T x lo hi none=>match ρ x,dY P T,a with
   | .vec n o len L k,some (_,k'), .ol o' gm=>match oM ρ 0 lo,oM ρ len hi with
     |some l,some u=>match h[n]? with
      |some (.vec _ k2 cs)=>bif k'==k&&k2==k then some (.vec n o' gm L k,h,cs.length=L∧0≤l∧l≤u∧u≤(L:Int)-o∧o'=o+l.toNat∧gm=u.toNat-l.toNat)else none
      |_=>none
     |_,_=>none
   |_,_,_=>none
 | .makeSlice T l c=>match dY P T,(ρ l).int?,(ρ c).int?,a with
   |some (e,k),some l,some c, .mk cs len m=>match gO P e,mw P e with
    |some z,some c9=>bif cd 1 k&&z.cells.toList.length==k&&z.cells.toList.all Value.oneCell' then some (.vec h.length 0 len m k,h++[.vec e k cs],0≤l∧l≤c∧l.toNat=len∧c.toNat=m∧cs=List.replicate m (z.cells.toList.map fun u=> .d (.v u))∧m≤maxLen∧c9*m≤281474976710656)else none
    |_,_=>none
   |_,_,_,_=>none
 | .call c=>match c.callee with
   | .builtin .len=>match c.args.toList,c.argTypes.toList with
     |[x],[T]=>match ρ x with
      | .vec n _ len L k=>match h[n]? with
        |some (.vec _ k2 cs)=>bif (dY P T).isSome&&k2==k then some (.d (.v (.int .i64 len)),h,cs.length=L)else none
        |_=>none
      |_=>none
     |_,_=>none
   | .builtin .append=>match c.args.toList,c.argTypes.toList with
     |[x,y],[T,U]=>match dY P T,dY P U,a with
      |some (e,k),some _, .ap cp ys L' gm=>match gO P e,mw P e with
       |some z,some c9=>bif cd 1 k&&z.cells.toList.length==k then
        match ρ x with
        | .vec n o len L k1=>match h[n]? with
          |some (.vec e1 k2 cs)=>bif k1==k&&k2==k&&e1==e then some (.vec n o gm L' k,h.set n (.vec e k cp),cs.length=L∧vU h k (ρ y) ys∧gm=len+ys.length∧
           ((o+len+ys.length≤L∧L'=L∧cp=cs.take (o+len)++ys++cs.drop (o+len+ys.length))∨(o=0∧len=L∧L'=L+ys.length∧cp=cs++ys∧L'≤maxLen∧L'*c9≤140737488355328)))else none
          |_=>none
        | .d (.v (.slice none 0 0))=>some (.vec h.length 0 gm L' k,h++[.vec e k cp],vU h k (ρ y) ys∧cp=ys∧gm=ys.length∧L'=ys.length∧L'≤maxLen∧L'*c9≤140737488355328)
        | .full xs=>some (.vec h.length 0 gm L' k,h++[.vec e k cp],xs=[]∧vU h k (ρ y) ys∧cp=ys∧gm=ys.length∧L'=ys.length∧L'≤maxLen∧L'*c9≤140737488355328)
        |_=>none
       else none
       |_,_=>none
      |_,_,_=>none
     |_,_=>none
   |_=>none
 |_=>none
def ET(mx:Bool)(k:IntKind):Int→List AV→Option (IntKind×Int)
 |a,[]=>some (k,a)
 |a, .d (.v (.int _ b))::l=>ET mx k (bif mx then(if b>a then b else a)else(if b<a then b else a)) l
 |_,_=>none
def uf(mx:Bool):List AV→Option (IntKind×Int)
 | .d (.v (.int k a))::l=>ET mx k a l
 |_=>none
def cO(P:Program)(o:Oper)(ρ:Operand→AV)(h:List ak)(C:AV→List ak→Prop):Prop:=
 match o.op with
 | .move x| .assign x=>C (ρ x) h
 | .pick c a b=>match ρ c with
   | .d (.v (.bool t))=>(t=true→C (ρ a) h)∧(t=false→C (ρ b) h)
   |_=>False
 | .alloc e=>match gO P e with
   |some z=>C (.ptr h.length 0) (h++[ak.cells (z.cells.toList.map fun u=> .d (.v u))])
   |none=>False
 | .box _ x=>gd (ρ x).iy<|C (.ptr h.length 0) (h++[ak.cells (ρ x).cells])
 | .load t a=>mG P t h (ρ a) fun x=>C x h
 | .store t a x=>vg P t h (ρ a) (ρ x) fun h'=>C (.d (.v undef)) h'
 | .nilCheck x=>match ρ x with
   | .ptr n off=>C (.ptr n off) h
   | .bn xs i off=>C (.bn xs i off) h
   | .fn f cs=>C (.fn f cs) h
   |_=>False
 | .fieldAddr S x f=>match pe P S f with
   |some (fo,_,_)=>match ρ x with
    | .ptr n off=>C (.ptr n (off+fo)) h
    | .bn xs i off=>C (.bn xs i (off+fo)) h
    |_=>False
   |none=>False
 | .field T x f=>wF P T (ρ x) f fun y=>C y h
 | .indexAddr T x i=>qD P T (ρ x) (ρ i) fun y=>C y h
 | .index T x i=>match ρ x,(ρ i).int? with
   | .d (.v (.string b)),some z=>gd (gr P T) (0≤z∧(match b[z.toNat]? with|some c=>C (.d (.v (.int .u8 c.toNat))) h|none=>False))
   |_,_=>False
 | .build T ps=>wL P T (ps.toList.map fun p=>(p.1,ρ p.2)) fun y=>C y h
 | .buildSlice T len ps=>wJ P T len (ps.toList.map fun p=>(p.1,ρ p.2)) fun y=>C y h
 | .slice T x lo hi mx=>o9 P T ρ (ρ x) lo hi mx fun y=>C y h
 | .extract x i=>match ρ x with
   | .bX cs=>match cs[i]? with
     |some c=>C c h
     |none=>False
   |_=>False
 | .makeFunc (.func f) first dt=>match first.toList with
   |[]=>C (.fn f (dt.toList.map ρ)) h
   |_=>False
 | .binOp op T x y _=>wq P T op (ρ x) (ρ y) fun v=>C v h
 | .unOp op _ x=>w5 op (ρ x) fun v=>C v h
 | .convert a b x=>qp P a b (ρ x) fun v=>C v h
 | .call c=>match c.callee with
   | .builtin .len=>match c.args.toList,c.argTypes.toList with
     |[x],[T]=>qf P T (ρ x) fun n=>C (.d (.v (.int .i64 n))) h
     |_,_=>False
   | .builtin .append=>match c.args.toList,c.argTypes.toList with
     |[x,y],[T,U]=>gd (dY P U).isSome<|py P T h (ρ x) (ρ y) fun v h'=>C v h'
     |_,_=>False
   | .builtin .max=>match uf true (c.args.toList.map ρ)with
     |some (k,a)=>C (.d (.v (.int k a))) h
     |none=>False
   | .builtin .min=>match uf false (c.args.toList.map ρ)with
     |some (k,a)=>C (.d (.v (.int k a))) h
     |none=>False
   | .value f=>match ρ f with
     | .fn g dt=>bW P g (c.args.toList.map ρ++dt) h fun r h'=>C r h'
     | .hid q=>∃g cs,q= .fn g cs∧bW P g (c.args.toList.map ρ++cs.map gG.av) h fun r h'=>C r h'
     |_=>False
   |_=>False
 |op=>match lq P op ρ h with
  |some (x,h',p)=>p.ok∧C x h'
  |none=>False
def uX(P:Program)(o:Oper)(K:St→Prop)(s:St):Prop:=
 match o.op with
 | .binOp op T x y _=>match (ev s x).fG,ev s y,dY P T,ql op true,ql op false with
   |some xs, .d (.v (.slice none 0 0)),some _,some v1,some v2=>(xs=[]→K (s.put o.dst (.d (.v v1))))∧K (s.put o.dst (.d (.v v2)))
   |_,_,_,_,_=>False
 |_=>False
def vL(P:Program)(o:Oper)(K:St→Prop)(s:St):Prop:=∃a x h' p,fm P o.op (ev s) s.h a=some (x,h',p)∧p∧K ((s.wh h').put o.dst x)
def kX(P:Program)(o:Oper)(K:St→Prop)(s:St):Prop:=cO P o (ev s) s.h fun x h=>K ((s.wh h).put o.dst x)
def YX(P:Program)(o:Oper)(K:St→Prop)(s:St):Prop:=vL P o K s∨uX P o K s∨kX P o K s
theorem kG(b o n:Nat):(⟨b,o,none⟩:Addr).add n=⟨b,o+n,none⟩:=by unfold Addr.add;split<;>simp_all
structure c7(G:Gh)(w:World)(a:Act)(s:St):Prop where
 size:a.tmps.size=s.n
 tmp:∀i,aG G w (a.tmps.getD i undef) (bz s.t i)
 inv:cf G w s.h
 df:n7 G w a.defers
theorem nS.av{G:Gh}{w:World}{u:Value}{c:gG}(h:nS G.S w u c):aG G w u c.av:=by
 cases h with
 |d h=>exact .d h
 |bn c off b o u h1 h2=>exact .bn [c] 0 off b o u c rfl h1 h2
 |fn f vs cs hl h=>exact .hid (.fn f vs cs hl h) rfl
theorem aG.iS{G:Gh}{w:World}{u:Value}{x:AV}(h:aG G w u x)(hb:x.iS=true):u.oneCell'=true:=by
 cases h with
 |d hp=>cases hp with
  |v u=>exact hb
  |sl=>rfl
 |agg=>simp [AV.iS]at hb
 |bX=>simp [AV.iS]at hb
 |own n xs _ hp=>cases hp;rfl
 |vec n o len L k _ hs=>obtain⟨A,l,c,rfl⟩:=hs;rfl
 |di n i j L k _ hs=>obtain⟨b,q,rfl⟩:=hs;rfl
 |full xs hp=>cases hp;rfl
 |hid h h1=>exact h1
 |dead=>simp [AV.iS]at hb
 |_=>rfl
theorem aG.cells{G:Gh}{w:World}{u:Value}{x:AV}(h:aG G w u x)(hb:x.iy=true):
 u.cells.size=x.cells.length∧∀(i:Nat)(v:Value)(c:AV),u.cells[i]?=some v→x.cells[i]?=some c→aG G w v c∧v.oneCell'=true:=by
 have one:x.iS=true→x.cells=[x]→u.cells.size=x.cells.length∧∀(i:Nat)(v:Value)(c:AV),u.cells[i]?=some v→x.cells[i]?=some c→aG G w v c∧v.oneCell'=true:=by
  intro hc hx;have ho:=h.iS hc;have hu:u.cells= #[u]:=by cases u<;>simp_all [Value.cells,Value.oneCell']
  rw[hu,hx];refine⟨rfl,fun i v c h1 h2=> ?_⟩
  match i with
  |0=>simp at h1 h2;subst h1;subst h2;exact⟨h,ho⟩
  |i+1=>simp at h2
 cases x with
 |agg cs=>
  cases h with
  |agg vs cs hl hr=>
   refine⟨hl,fun i v c h1 h2=> ?_⟩;have hv:=hr i v c h1 h2;refine⟨hv,hv.iS ?_⟩;simp only[AV.iy,agT]at hb;exact hb c (agG h2)
 |bX cs=>simp [AV.iy,AV.iS]at hb
 |dead=>simp [AV.iy,AV.iS]at hb
 |_=>exact one hb rfl
theorem cf.lt{G:Gh}{w:World}{h:List ak}(hi:cf G w h){n:Nat}{B:ak}(hb:h[n]?=some B):n<G.N:=by
 rw[←hi.len];exact(agt.1 hb).1
theorem cf.hO{G:Gh}{w:World}{h:List ak}(hi:cf G w h){n b:Nat}(hb:cl h G n=some b):b<w.heap.size:=by
 obtain⟨B,hB,hb⟩:=kI hb;have hr:=hi.dp n B hB;cases B with
 |gone=>cases hb
 |cells cs=>
  obtain⟨_,_,vs,T,hh,_⟩:=hr;cases hb
  exact(agI.1 hh).1
 |lp ls p as bd cs=>
  obtain⟨_,_,fn,vs,T,hh,_⟩:=hr;cases hb
  exact(agI.1 hh).1
 |it sn cs=>
  obtain⟨_,_,fn,vs,T,hh,_⟩:=hr;cases hb
  exact(agI.1 hh).1
 |map kv=>
  obtain⟨_,_,es,c,hh,_⟩:=hr;cases hb
  exact(agI.1 hh).1
 |front e k len=>
  have hb:G.ow n=some b:=hb;obtain⟨_,_,h1|⟨g,cap,cur,h1,_,_,hh,_⟩⟩:=hr
  ·rw[h1.1]at hb;cases hb
  ·rw[h1]at hb;cases hb;exact(agI.1 hh).1
 |vec e k cs=>
  have hb:G.ow n=some b:=hb;obtain⟨_,_,_,h1|⟨g,cap,cur,h1,_,_,hh,_⟩⟩:=hr
  ·rw[h1.1]at hb;cases hb
  ·rw[h1]at hb;cases hb;exact(agI.1 hh).1
theorem eB.lv{G:Gh}{w:World}{n b:Nat}{B:ak}(hr:eB G w n B)(hb:B.ep G n=some b):¬G.Z b:=by
 cases B with
 |gone=>cases hb
 |cells cs=>cases hb;exact hr.1
 |lp ls p as bd cs=>cases hb;exact hr.1
 |it sn cs=>cases hb;exact hr.1
 |map kv=>cases hb;exact hr.1
 |front e k len=>
  have hb:G.ow n=some b:=hb;obtain⟨_,_,h1|⟨g,cap,cur,h1,_,hz,_⟩⟩:=hr
  ·rw[h1.1]at hb;cases hb
  ·rw[h1]at hb;cases hb;exact hz
 |vec e k cs=>
  have hb:G.ow n=some b:=hb;obtain⟨_,_,_,h1|⟨g,cap,cur,h1,_,hz,_⟩⟩:=hr
  ·rw[h1.1]at hb;cases hb
  ·rw[h1]at hb;cases hb;exact hz
theorem uO.ba{S S':Nat→Nat→Prop}{w w':World}{es:Array MapEntry}{c:Nat}{kv:List (ByteArray×D)}(h:uO S w es c kv)(hS:∀b o,S b o→S' b o)(hc:∀b o,S b o→w'.cell? ⟨b,o,none⟩=w.cell? ⟨b,o,none⟩):uO S' w' es c kv:=
 ⟨h.size,h.stamped,fun e he=>let ⟨s,d,h1,h2,h3⟩:=h.xe e he;⟨s,d,h1,h2,h3.ba hS hc⟩,h.all,h.len,h.born,h.Cv⟩
theorem eB.ba{G G':Gh}{w w':World}{n:Nat}(hn:n<G.N)(hE:bZ G.N G w G' w')(hN:G.N≤G'.N){B:ak}
 (hg:G'.fl n=G.fl n∧G'.sg n=G.sg n∧G'.ow n=G.ow n)
 (ho:∀b,B.ep G n=some b→w'.heap[b]?=w.heap[b]?∧∀o,¬G.S b o→¬G'.S b o)
 (h:eB G w n B):eB G' w' n B:=by
 obtain⟨f1,f2,f3⟩:=hg;cases B with
 |gone=>trivial
 |cells cs=>
  obtain⟨h1,h2,vs,T,h3,h4,h5⟩:=h;obtain⟨c2,c1⟩:=ho _ rfl;refine⟨by rw[hE.bo n hn];exact hE.lv (agI.1 h3).1 h1,by rw[hE.bo n hn];exact fun o=>c1 o (h2 o),vs,T,by rw[hE.bo n hn,c2];exact h3,h4,fun i u c hu hc=>(h5 i u c hu hc).ba hE hN⟩
 |lp ls p as bd cs=>
  obtain⟨h1,h2,fn,vs,T,h3,h4,h5⟩:=h;obtain⟨c2,c1⟩:=ho _ rfl;refine⟨by rw[hE.bo n hn];exact hE.lv (agI.1 h3).1 h1,by rw[hE.bo n hn];exact fun o=>c1 o (h2 o),fn,vs,T,by rw[hE.bo n hn,c2];exact h3,h4,fun i u c hu hc=>(h5 i u c hu hc).ba hE hN⟩
 |it sn cs=>
  obtain⟨h1,h2,fn,vs,T,h3,h4,h5⟩:=h;obtain⟨c2,c1⟩:=ho _ rfl;refine⟨by rw[hE.bo n hn];exact hE.lv (agI.1 h3).1 h1,by rw[hE.bo n hn];exact fun o=>c1 o (h2 o),fn,vs,T,by rw[hE.bo n hn,c2];exact h3,h4,fun i u c hu hc=>(h5 i u c hu hc).ba hE hN⟩
 |map kv=>
  obtain⟨h1,h2,es,c,h3,h4⟩:=h;obtain⟨c2,c1⟩:=ho _ rfl;exact⟨by rw[hE.bo n hn];exact hE.lv (agI.1 h3).1 h1,by rw[hE.bo n hn];exact fun o=>c1 o (h2 o),es,c,by rw[hE.bo n hn,c2];exact h3,h4.ba hE.S hE.cell⟩
 |front e k len=>
  obtain⟨h1,hm,h2⟩:=h;refine⟨f1.trans h1,hm,?_⟩;rcases h2 with⟨h2,A,h3⟩|⟨g,cap,cur,h2,h3,h4,h5,h6,h7,h8,h9⟩
  ·exact .inl ⟨f3.trans h2,A,f2.trans h3⟩
  ·obtain⟨f5,f6⟩:=ho g h2;exact .inr ⟨g,cap,cur,f3.trans h2,f2.trans h3,hE.lv (agI.1 h5).1 h4,f5.trans h5,h6,h7,h8,fun o ho=>f6 o (h9 o ho)⟩
 |vec e k cs=>
  obtain⟨h1,hm,hk,h2⟩:=h;refine⟨f1.trans h1,hm,hk,?_⟩;rcases h2 with⟨h2,e2,A,h3⟩|⟨g,cap,cur,h2,h3,h4,h5,h6,h7,h8,h9,az⟩
  ·exact .inl ⟨f3.trans h2,e2,A,f2.trans h3⟩
  ·obtain⟨f5,f6⟩:=ho g h2;exact .inr ⟨g,cap,cur,f3.trans h2,f2.trans h3,hE.lv (agI.1 h5).1 h4,f5.trans h5,h6,h7,h8,fun o=>f6 o (h9 o),fun i j c x u hc hx hu=>(az i j c x u hc hx hu).ba hE hN⟩
theorem c7.put{G:Gh}{w:World}{a:Act}{s:St}(h:c7 G w a s){v:Value}{x:AV}(hv:aG G w v x)(dst:Option Nat):c7 G w (a.put dst v) (s.put dst x):=by
 cases dst with
 |none=>exact h
 |some d=>
  by_cases hd:d<s.n
  ·have e1:s.put (some d) x={s with t:=(d,x)::s.t}:=pD hd x;rw[e1];refine⟨by simp [Act.put,h.size],fun i=> ?_,h.inv,h.df⟩;by_cases hi:i=d
   ·subst hi;have:(a.tmps.setIfInBounds i v).getD i undef=v:=by simp [Array.getD,h.size,hd]
    simp only[Act.put,this,jX,if_true];exact hv
   ·have:(a.tmps.setIfInBounds d v).getD i undef=a.tmps.getD i undef:=by simp [Array.getElem?_setIfInBounds_ne (Ne.symm hi)]
    simp only[Act.put,this,jX,if_neg hi];exact h.tmp i
  ·have e1:s.put (some d) x=s:=Bm hd x;have e2:a.put (some d) v=a:=by
    have:a.tmps.setIfInBounds d v=a.tmps:=Array.setIfInBounds_eq_of_size_le (by rw[h.size];omega);simp [Act.put,this]
   rw[e1,e2];exact h
theorem c7.move{G G':Gh}{w w':World}{a:Act}{s:St}(h:c7 G w a s)(hE:bZ G.N G w G' w')(hN:G.N≤G'.N){h':List ak}(hi:cf G' w' h'):c7 G' w' a {s with h:=h'}:=
 ⟨h.size,fun i=>(h.tmp i).ba hE hN,hi,h.df.ba hE⟩
theorem c7.ev{G:Gh}{w:World}{a:Act}{s:St}(h:c7 G w a s)(x:Operand):aG G w (a.eval x) (ev s x):=by
 cases x with
 |tmp t=>exact h.tmp t
 |const v=>
  show aG G w v (Lz v);unfold Lz;split
  ·rename_i vs
   exact .agg vs _ (by simp) fun i u c hu hc=>by
    simp only[agA,agQ,hu,Option.map_some,Option.some.injEq]at hc;subst hc;exact .d (.v u)
  ·rename_i vs
   exact .bX vs _ (by simp) fun i u c hu hc=>by
    simp only[agA,agQ,hu,Option.map_some,Option.some.injEq]at hc;subst hc;exact .d (.v u)
  ·exact .d (.v v)
 |global g=>
  show aG G w (.pointer (some ⟨g,0,none⟩)) (match yr yw g with|some l=> .bn [l.map .v] 0 0|none=> .dead);split
  ·next l hl=>
   have hg:=h.inv.gl.1 g l (MT hl);have:=aG.bn (G:=G) (w:=w) [l.map .v] 0 0 g 0 (fun j=>l.getD j undef) (l.map .v) rfl (fun j hj=> ?_) (fun j d hd=> ?_)
   ·exact this
   ·rw[agy]at hj;have e:l[j]?=some l[j]:=agx hj;rw[agN];refine⟨(hg j _ e).1,?_⟩;rw[(hg j _ e).2];simp [hj]
   ·rw[agA]at hd;cases e:l[j]? with
    |none=>rw[e]at hd;cases hd
    |some v=>
     rw[e]at hd;cases hd
     have:l.getD j undef=v:=by simp [List.getD,e]
     rw[this];exact .v v
  ·exact .dead _
 |func f=>exact .fn f #[] [] rfl fun i u c hu=>by simp at hu
def Gh.dD(G:Gh)(b:Nat):Gh:={G with N:=G.N+1,bo:=fun n=>if n=G.N then b else G.bo n}
theorem Aj(G:Gh)(w:World)(hz:∀b,G.Z b→b<w.heap.size)(hS:∀b o,G.S b o→b<w.heap.size)(o:Obj):bZ G.N G w (G.dD w.heap.size) (w.alloc o):=
 ⟨by simp,fun _ _ h=>h,fun b _ h=>World.cell?_alloc_lt _ _ _ (hS _ _ h),fun n hn=>by simp [Gh.dD,Nat.ne_of_lt hn],fun _ _=> .inl ⟨rfl,rfl⟩,gq rfl,
  fun b hb=>Below.heap_alloc w o b (hz b hb),rfl,rfl,rfl,fun _ _ h=> .inl h⟩
theorem PY{G:Gh}{w:World}{h:List ak}(hi:cf G w h)(vs:Array Value)(T:TypeId)(cs:List AV)(hl:vs.size=cs.length)
 (hr:∀(i:Nat)(u:Value)(c:AV),vs[i]?=some u→cs[i]?=some c→aG G w u c):
 cf (G.dD w.heap.size) (w.alloc (.cells vs T)) (h++[.cells cs])∧aG (G.dD w.heap.size) (w.alloc (.cells vs T)) (.pointer (some ⟨w.heap.size,0,none⟩)) (.ptr h.length 0):=by
 have hE:=Aj G w hi.z hi.S (.cells vs T);have hN:G.N≤(G.dD w.heap.size).N:=Nat.le_succ _;have gR:(G.dD w.heap.size).bo h.length=w.heap.size:=by simp [Gh.dD,hi.len]
 have lh:∀n(B:ak),n<G.N→B.ep (G.dD w.heap.size) n=B.ep G n:=fun n B hn=>by
  cases B<;>simp [ak.ep,Gh.dD,Nat.ne_of_lt hn]
 have gh:∀n,n<G.N→cl (h++[.cells cs]) (G.dD w.heap.size) n=cl h G n:=fun n hn=>by
  have aO:n<h.length:=by rw[hi.len];exact hn
  unfold cl;rw[agD aO,agx aO];exact lh n _ hn
 have xc:cl (h++[.cells cs]) (G.dD w.heap.size) h.length=some w.heap.size:=by
  rw[dU (B:= .cells cs) (by simp)];exact congrArg some gR
 refine⟨⟨by simp [Gh.dD,hi.len],fun b hb=>agR (hi.z b hb) hE.size,fun b o hs=>agR (hi.S b o hs) hE.size,fun n B hB=> ?_,fun m n b hm hn=> ?_,hi.gl.ba hE⟩,?_⟩
 ·by_cases hn:n<h.length
  ·rw[agD hn]at hB;have eS:n<G.N:=hi.len▸hn;exact eB.ba eS hE hN ⟨rfl,rfl,rfl⟩ (fun b hb=>⟨Below.heap_alloc w _ _ (hi.hO (n:=n) ((dU hB).trans hb)),fun o h=>h⟩) (hi.dp n B hB)
  ·have k9:n=h.length:=by
    have:=(agt.1 hB).1;simp at this;omega
   subst k9;simp at hB;subst hB;exact⟨by rw[gR];exact fun hz=>ag7 _ (hi.z _ hz),fun o hs=>by rw[gR]at hs;exact ag7 _ (hi.S _ _ hs),vs,T,by rw[gR];exact World.alloc_heap_new w _,hl,fun i u c hu hc=>(hr i u c hu hc).ba hE hN⟩
 ·have key:∀n b,cl (h++[.cells cs]) (G.dD w.heap.size) n=some b→(n<G.N∧cl h G n=some b)∨(n=h.length∧b=w.heap.size):=fun n b hn=>by
   by_cases aO:n<G.N
   ·exact .inl ⟨aO,by rw[←gh n aO];exact hn⟩
   ·by_cases e:n=h.length
    ·subst e;rw[xc]at hn;cases hn;exact .inr ⟨rfl,rfl⟩
    ·rw[xm (agZ (by simp;have:=hi.len;omega))]at hn;cases hn
  rcases key m b hm with⟨_,jD⟩|⟨rfl,rfl⟩<;>rcases key n _ hn with⟨_,eS⟩|⟨rfl,hb⟩
  ·exact hi.inj m n b jD eS
  ·have:=hi.hO jD;omega
  ·have:=hi.hO eS;omega
  ·rfl
 ·have:=aG.ptr (G:=G.dD w.heap.size) (w:=w.alloc (.cells vs T)) h.length 0 (by simp [Gh.dD,hi.len])
  rwa [gR]at this
theorem Ip(w:World)(g:Nat)(cs:Array Value):(w.setRow g cs).heap.size=w.heap.size:=by simp [World.setRow]
theorem Vi(w:World)(g:Nat)(cs:Array Value)(b o:Nat)(h:b≠g):(w.setRow g cs).cell? ⟨b,o,none⟩=w.cell? ⟨b,o,none⟩:=World.cell?_of_block (setRow_other w g b cs h)
theorem adr{G:Gh}{w:World}{g:Nat}(cs:Array Value)(hg:¬G.Z g)(hS:∀b o,G.S b o→(w.setRow g cs).cell? ⟨b,o,none⟩=w.cell? ⟨b,o,none⟩):bZ G.N G w G (w.setRow g cs):=
 ⟨by rw[Ip];exact agE _,fun _ _ h=>h,hS,fun _ _=>rfl,fun _ _=> .inl ⟨rfl,rfl⟩,gq rfl,fun b hb=>setRow_other w g b cs (fun e=>hg (e▸hb)),rfl,rfl,rfl,fun _ _ h=> .inl h⟩
theorem CW(cs ys:List AV)(off:Nat)(h:off+ys.length≤cs.length):(gy cs off ys).length=cs.length:=by
 simp [gy];omega
theorem Xo{R:Value→AV→Prop}(vs us:Array Value)(cs ys:List AV)(off:Nat)(hl:vs.size=cs.length)(hu:us.size=ys.length)(hb:off+ys.length≤cs.length)
 (hr:∀(i:Nat)(u:Value)(c:AV),vs[i]?=some u→cs[i]?=some c→R u c) (l5:∀(i:Nat)(u:Value)(c:AV),us[i]?=some u→ys[i]?=some c→R u c):
 ∀(i:Nat)(u:Value)(c:AV),(vs.toList.take off++us.toList++vs.toList.drop (off+us.toList.length)).toArray[i]?=some u→(gy cs off ys)[i]?=some c→R u c:=by
 intro i u c h1 h2;have mI:us.toList.length=ys.length:=by rw[ag0,hu]
 rw[mI]at h1;rw[List.getElem?_toArray]at h1;unfold gy at h2;simp only[agK]at h1 h2;have vC:vs.toList.length=cs.length:=by rw[ag0,hl]
 by_cases h:i<off
 ·rw[agD (by simp;omega),List.getElem?_take_of_lt h]at h1;rw[agD (by simp;omega),List.getElem?_take_of_lt h]at h2;exact hr i u c (by rw[←agQ];exact h1) h2
 ·rw[agJ (by simp;omega)]at h1 h2;simp only[List.length_take,vC]at h1 h2;rw[Nat.min_eq_left (by omega)]at h1 h2;by_cases h':i-off<ys.length
  ·rw[agD (by rw[mI];exact h')]at h1;rw[agD h']at h2;exact l5 (i-off) u c (by rw[←agQ];exact h1) h2
  ·rw[agJ (by rw[mI];omega),List.getElem?_drop]at h1;rw[agJ (by omega),List.getElem?_drop]at h2;rw[mI]at h1;rw[show off+ys.length+(i-off-ys.length)=i by omega]at h1 h2;exact hr i u c (by rw[←agQ];exact h1) h2
theorem afj{P:Program}{G:Gh}{w:World}{h:List ak}(hi:cf G w h){n off:Nat}{cs:List AV}(hn:h[n]?=some (.cells cs)){t:TypeId}{v:Value}{x:AV}
 (hv:aG G w v x) (hb:x.iy=true) (ht:fA P t=some x.cells.length) (ho:off+x.cells.length≤cs.length):
 ∃w',(storeVar t ⟨G.bo n,off,none⟩ v).run P w= .ok () w'∧bZ G.N G w G w'∧cf G w' (h.set n (.cells (gy cs off x.cells))):=by
 obtain⟨hz,hS,vs,T,hh,hl,hr⟩:=hi.dp n _ hn;obtain⟨yV,Ub⟩:=hv.cells hb;obtain⟨i,iU,jJ⟩:∃i,P.info? t=some i∧i.size=x.cells.length:=by
  unfold fA at ht;cases hq:P.info? t with
  |none=>rw[hq]at ht;cases ht
  |some i=>rw[hq]at ht;exact⟨i,rfl,by simpa using ht⟩
 have fE:=run_storeCells_at P (G.bo n) off T v.cells.toList 0 vs w hh (by rw[ag0,yV,hl];simpa using ho) (fun u hu=>by
  obtain⟨j,hj⟩:=List.mem_iff_getElem?.1 hu;have ib:v.cells[j]?=some u:=by rw[←agQ];exact hj
  have su:j<x.cells.length:=by rw[←yV];exact(agI.1 ib).1
  exact(Ub j u _ ib (agx su)).2)
 simp only[Nat.add_zero]at fE;obtain⟨w',eH⟩:∃w',w'=w.setRow (G.bo n) (vs.toList.take off++v.cells.toList++vs.toList.drop (off+v.cells.toList.length)).toArray:=⟨_,rfl⟩;rw[←eH]at fE;have hE:bZ G.N G w G w':=by
  rw[eH];exact adr _ hz fun b o hs=>Vi w _ _ b o (fun e=>hS o (e▸hs))
 have e8:∀m,m≠n→(h.set n (.cells (gy cs off x.cells)))[m]?=h[m]?:=fun m hm=>by rw[ag1 (Ne.symm hm)]
 have lB:(h.set n (.cells (gy cs off x.cells)))[n]?=some (.cells (gy cs off x.cells)):=by
  rw[agW (agt.1 hn).1]
 have eh:∀m,cl (h.set n (.cells (gy cs off x.cells))) G m=cl h G m:=fun m=>by
  by_cases e:m=n
  ·subst e;rw[dU lB,dU hn];rfl
  ·unfold cl;rw[e8 m e]
 have lP:cl h G n=some (G.bo n):=dU hn;refine⟨w',?_,hE,⟨by rw[List.length_set];exact hi.len,fun b hb=>agR (hi.z b hb) hE.size,fun b o hs=>agR (hi.S b o hs) hE.size,fun m B hB=> ?_,fun m m' b h1 h2=>hi.inj m m' b (by rw[←eh];exact h1) (by rw[←eh];exact h2),hi.gl.ba hE⟩⟩
 ·unfold storeVar;simp only[sizeOf,typeInfo,Sem.run_bind,yV];simp [iU,jJ,fE]
 ·by_cases e:m=n
  ·subst e;rw[lB]at hB;cases hB
   refine⟨hz,hS,_,T,by rw[eH];exact setRow_heap w _ vs _ T _ hh,?_,fun i u c hu hc=> ?_⟩
   ·rw[CW _ _ _ ho];have:v.cells.toList.length=x.cells.length:=by rw[ag0];exact yV
    simp only[List.size_toArray,agu,List.length_take,List.length_drop,ag0,hl,yV];omega
   ·exact(Xo (R:=aG G w) vs v.cells cs x.cells off hl yV ho hr (fun i u c h1 h2=>(Ub i u c h1 h2).1) i u c hu hc).ba hE (agE _)
  ·rw[e8 m e]at hB;have da:∀b,cl h G m=some b→b≠G.bo n:=fun b hb eb=>e (hi.inj m n b hb (by rw[eb];exact lP));refine eB.ba (hi.lt hB) hE (agE _) ⟨rfl,rfl,rfl⟩ (fun b hb=>⟨?_,fun o h=>h⟩) (hi.dp m B hB);rw[eH];exact setRow_other w _ _ _ (da _ ((dU hB).trans hb))
theorem dC.nW{S:Nat→Nat→Prop}{w:World}{v:Value}{xs:List (List D)}(h:dC S w v (.sl xs)):
 ∃(A:Option Addr)(b o c k:Nat)(u:Nat→Nat→Value),v= .slice A xs.length c∧(xs≠ []→A=some ⟨b,o,none⟩)∧xs.length≤c∧c≤maxLen∧(∀x∈xs,x.length=k)∧
  (∀i j,i<xs.length→j<k→S b (o+i*k+j)∧w.cell? ⟨b,o+i*k+j,none⟩=some (u i j)∧(u i j).oneCell'=true)∧
  (∀(i j:Nat)(x:List D)(d:D),xs[i]?=some x→x[j]?=some d→dC S w (u i j) d):=by
 cases h with
 |sl A b o c k xs u hA hc hm hk hS hu=>exact⟨A,b,o,c,k,u,rfl,hA,hc,hm,hk,hS,hu⟩
structure Rd(S:Nat→Nat→Prop)(w:World)(k:Nat)(xs:List (List D))(us:List Value):Prop where
 len:us.length=xs.length*k
 wid:∀x∈xs,x.length=k
 one:∀u∈us,u.oneCell'=true
 rel:∀(i j:Nat)(x:List D)(d:D),xs[i]?=some x→x[j]?=some d→∃u,us[i*k+j]?=some u∧dC S w u d
theorem Rd.ba{S S':Nat→Nat→Prop}{w w':World}{k:Nat}{xs:List (List D)}{us:List Value}(h:Rd S w k xs us)(hS:∀b o,S b o→S' b o)(hc:∀b o,S b o→w'.cell? ⟨b,o,none⟩=w.cell? ⟨b,o,none⟩):Rd S' w' k xs us:=
 ⟨h.len,h.wid,h.one,fun i j x d hx hd=>let ⟨u,h1,h2⟩:=h.rel i j x d hx hd;⟨u,h1,h2.ba hS hc⟩⟩
theorem Rd.append{S:Nat→Nat→Prop}{w:World}{k:Nat}{xs ys:List (List D)}{us vs:List Value}(h:Rd S w k xs us)(h':Rd S w k ys vs):Rd S w k (xs++ys) (us++vs):=by
 refine⟨by rw[agu,agu,h.len,h'.len,Nat.add_mul],fun x hx=> ?_,fun u hu=> ?_,fun i j x d hx hd=> ?_⟩
 ·rcases ag5.1 hx with hx|hx
  ·exact h.wid x hx
  ·exact h'.wid x hx
 ·rcases ag5.1 hu with hu|hu
  ·exact h.one u hu
  ·exact h'.one u hu
 ·by_cases hi:i<xs.length
  ·rw[agD hi]at hx;obtain⟨u,h1,h2⟩:=h.rel i j x d hx hd;exact⟨u,by rw[agD (agt.1 h1).1];exact h1,h2⟩
  ·rw[agJ (by omega)]at hx;obtain⟨u,h1,h2⟩:=h'.rel (i-xs.length) j x d hx hd;refine⟨u,?_,h2⟩;have e:i*k+j=xs.length*k+((i-xs.length)*k+j):=by rw[Nat.sub_mul];have:=Nat.mul_le_mul_right k (Nat.le_of_not_lt hi);omega
   rw[e,agJ (by rw[h.len];omega),h.len,Nat.add_sub_cancel_left];exact h1
theorem Rd.Lh{S:Nat→Nat→Prop}{w:World}{k:Nat}{xs:List (List D)}{us:List Value}(h:Rd S w k xs us)(b c:Nat)(hc:xs.length≤c)(hm:c≤maxLen)
 (hS:∀o,o<xs.length*k→S b o) (fV:∀(o:Nat)(u:Value),us[o]?=some u→w.cell? ⟨b,o,none⟩=some u):dC S w (.slice (some ⟨b,0,none⟩) xs.length c) (.sl xs):=by
 refine .sl _ b 0 c k xs (fun i j=>us.getD (i*k+j) undef) (fun _=>rfl) hc hm h.wid (fun i j hi hj=> ?_) (fun i j x d hx hd=> ?_)
 ·have aO:i*k+j<xs.length*k:=by
   have:(i+1)*k≤xs.length*k:=Nat.mul_le_mul_right k hi;rw[Nat.add_mul]at this;omega
  have hg:us[i*k+j]?=some (us[i*k+j]'(by rw[h.len];exact aO)):=agx (by rw[h.len];exact aO);rw[agN];refine⟨hS _ aO,?_,?_⟩
  ·rw[fV _ _ hg];simp [hg]
  ·simp only[List.getD_eq_getElem?_getD,hg,Option.getD_some];exact h.one _ (List.getElem_mem _)
 ·obtain⟨u,h1,h2⟩:=h.rel i j x d hx hd;simp only[List.getD_eq_getElem?_getD,h1,Option.getD_some];exact h2
theorem dC.rd{S:Nat→Nat→Prop}{w:World}{v:Value}{xs:List (List D)}{k:Nat}(h:dC S w v (.sl xs))(gp:0<k)(hk:∀x∈xs,x.length=k):
 ∃us,Rd S w k xs us∧∃A c,v= .slice A xs.length c∧xs.length≤c∧c≤maxLen∧(xs≠ []→∃b o,A=some ⟨b,o,none⟩∧∀(j:Nat)(u:Value),us[j]?=some u→S b (o+j)∧w.cell? ⟨b,o+j,none⟩=some u):=by
 obtain⟨A,b,o,c,k',u,rfl,hA,hc,hm,lJ,hS,hu⟩:=h.nW;by_cases hx:xs=[]
 ·subst hx;exact⟨[],⟨by simp,(fun _ h=>by cases h),(fun _ h=>by cases h),fun i j x d hx=>by simp at hx⟩,A,c,rfl,hc,hm,fun h=>absurd rfl h⟩
 ·have ek:k'=k:=by
   obtain⟨x,lM⟩:=List.exists_mem_of_ne_nil xs hx;rw[←lJ x lM,hk x lM]
  subst ek;refine⟨(List.range (xs.length*k')).map fun t=>u (t / k') (t%k'),⟨by simp,hk,fun v hv=> ?_,fun i j x d hx hd=> ?_⟩,A,c,rfl,hc,hm,fun da=>⟨b,o,hA da,fun j v hv=> ?_⟩⟩
  ·obtain⟨t,ht,rfl⟩:=List.mem_map.1 hv;have pA:=List.mem_range.1 ht;exact(hS (t / k') (t%k') (Nat.div_lt_of_lt_mul (by rw[Nat.mul_comm];exact pA)) (Nat.mod_lt _ gp)).2.2
  ·have hj:j<k':=by rw[←hk x (agG hx)];exact(agt.1 hd).1
   have hi:i<xs.length:=(agt.1 hx).1;refine⟨u i j,?_,hu i j x d hx hd⟩;have aO:i*k'+j<xs.length*k':=by
    have:(i+1)*k'≤xs.length*k':=Nat.mul_le_mul_right k' hi;rw[Nat.add_mul]at this;omega
   rw[agA,List.getElem?_range aO];simp only[Option.map_some,Option.some.injEq];rw[show(i*k'+j)/ k'=i by rw[Nat.add_comm,Nat.add_mul_div_right _ _ gp,Nat.div_eq_of_lt hj,agN],show(i*k'+j)%k'=j by rw[Nat.add_comm,Nat.add_mul_mod_self_right,Nat.mod_eq_of_lt hj]]
  ·rw[agA]at hv;by_cases hj:j<xs.length*k'
   ·rw[List.getElem?_range hj]at hv;simp only[Option.map_some,Option.some.injEq]at hv;subst hv;have:=hS (j / k') (j%k') (Nat.div_lt_of_lt_mul (by rw[Nat.mul_comm];exact hj)) (Nat.mod_lt _ gp);have e:o+j / k'*k'+j%k'=o+j:=by have:=Nat.div_add_mod j k';rw[Nat.mul_comm]at this;omega
    rw[e]at this;exact⟨this.1,this.2.1⟩
   ·rw[agZ (by simp;omega)]at hv;cases hv
theorem dC.src{P:Program}{S:Nat→Nat→Prop}{w:World}{v:Value}{xs:List (List D)}{k:Nat}(h:dC S w v (.sl xs))(gp:0<k)(hk:∀x∈xs,x.length=k){tx e':TypeId}(ht:P.underlying tx=some (.slice e')):
 ∃us,Rd S w k xs us∧Src P k tx v xs.length us w:=by
 obtain⟨us,hr,A,c,rfl,_,_,hA⟩:=h.rd gp hk;refine⟨us,hr,?_⟩;by_cases hx:xs=[]
 ·subst hx;have kM:us=[]:=List.eq_nil_of_length_eq_zero (by rw[hr.len];simp);subst kM;cases A with
  |none=>exact Src.ofNil w ht c
  |some a=>exact Src.ofSlice w ht a 0 c [] (by simp) (fun j u hu=>by simp at hu) (fun u hu=>by cases hu)
 ·obtain⟨b,o,rfl,hc⟩:=hA hx;exact Src.ofSlice w ht _ _ c us hr.len (fun j u hu=>by rw[kG];exact(hc j u hu).2) hr.one
def Gh.gL(G:Gh)(v:Value)(len:Nat):Gh:=
 {G with N:=G.N+1,sg:=fun n=>if n=G.N then v else G.sg n,fl:=fun n=>if n=G.N then len else G.fl n,ow:=fun n=>if n=G.N then none else G.ow n}
theorem KO{G:Gh}{w:World}{h:List ak}(hi:cf G w h){v:Value}{xs:List (List D)}(hv:dC G.S w v (.sl xs))(hf:∃A,v= .slice A xs.length xs.length)(e:TypeId)(k:Nat):
 bZ G.N G w (G.gL v xs.length) w∧G.N≤(G.gL v xs.length).N∧cf (G.gL v xs.length) w (h++[.front e k xs.length])∧aG (G.gL v xs.length) w v (.own h.length xs):=by
 have da:∀n,n<G.N→n≠G.N:=fun n hn=>Nat.ne_of_lt hn;have hE:bZ G.N G w (G.gL v xs.length) w:=⟨agE _,fun _ _ h=>h,fun _ _ _=>rfl,fun _ _=>rfl,fun n hn=> .inl ⟨by simp [Gh.gL,da n hn],by simp [Gh.gL,da n hn]⟩,gq rfl,fun _ _=>rfl,rfl,rfl,rfl,fun _ _ h=> .inl h⟩;have hN:G.N≤(G.gL v xs.length).N:=Nat.le_succ _;have Ry:xs.length≤maxLen:=by
  obtain⟨A,b,o,c,k',u,_,_,h1,h2,_⟩:=hv.nW;exact agL h1 h2
 have lh:∀n(B:ak),n<G.N→B.ep (G.gL v xs.length) n=B.ep G n:=fun n B hn=>by
  cases B<;>simp [ak.ep,Gh.gL,Nat.ne_of_lt hn]
 have hold:∀n b,cl (h++[.front e k xs.length]) (G.gL v xs.length) n=some b→cl h G n=some b:=fun n b hb=>by
  by_cases hn:n<h.length
  ·unfold cl at hb ⊢;rw[agD hn,agx hn]at hb;rw[agx hn];rw[←hb];exact(lh n _ (hi.len▸hn)).symm
  ·by_cases en:n=h.length
   ·subst en;rw[dU (B:= .front e k xs.length) (by simp)]at hb;simp [ak.ep,Gh.gL,hi.len]at hb
   ·rw[xm (agZ (by simp;omega))]at hb;cases hb
 refine⟨hE,hN,⟨by simp [Gh.gL,hi.len],hi.z,hi.S,fun n B hB=> ?_,fun m n b hm hn=>hi.inj m n b (hold m b hm) (hold n b hn),hi.gl.ba hE⟩,?_⟩
 ·by_cases hn:n<h.length
  ·rw[agD hn]at hB;have eS:n<G.N:=hi.len▸hn;exact eB.ba eS hE hN ⟨by simp [Gh.gL,da n eS],by simp [Gh.gL,da n eS],by simp [Gh.gL,da n eS]⟩ (fun b hb=>⟨rfl,fun o h=>h⟩) (hi.dp n B hB)
  ·have k9:n=h.length:=by
    have:=(agt.1 hB).1;simp at this;omega
   subst k9;simp at hB;subst hB;obtain⟨A,hA⟩:=hf;exact⟨by simp [Gh.gL,hi.len],Ry, .inl ⟨by simp [Gh.gL,hi.len],A,by simp [Gh.gL,hi.len,hA]⟩⟩
 ·exact .own h.length xs (by simp [Gh.gL,hi.len]) hv (by simp [Gh.gL,hi.len]) (fun _=>by simp [Gh.gL,hi.len])
theorem IT{P:Program}{e k b:Nat}(hk:fA P e=some k)(hb:mw P e=some b):∃i,P.info? e=some i∧i.size=k∧i.bytes=b:=by
 unfold fA at hk;unfold mw at hb;cases hq:P.info? e with
 |none=>rw[hq]at hk;cases hk
 |some i=>rw[hq]at hk hb;exact⟨i,rfl,by simpa using hk,by simpa using hb⟩
def Gh.grow(G:Gh)(n:Nat)(S:Nat→Nat→Prop)(v:Value)(len:Nat)(ow:Option Nat):Gh:=
 {G with S:=S,sg:=fun m=>if m=n then v else G.sg m,fl:=fun m=>if m=n then len else G.fl m,ow:=fun m=>if m=n then ow else G.ow m}
theorem Sv{G:Gh}{w w':World}{h:List ak}(hi:cf G w h){n e k len gm:Nat}(hn:h[n]?=some (.front e k len))(S:Nat→Nat→Prop)(v:Value)(g:Nat)
 (hE:bZ G.N G w (G.grow n S v gm (some g)) w') (hg:g=w.heap.size∨G.ow n=some g) (XH:g<w'.heap.size)
 (hS:∀b o,S b o→G.S b o∨b=g) (ic:∀b,b<w.heap.size→b≠g→w'.heap[b]?=w.heap[b]?)
 (hB:eB (G.grow n S v gm (some g)) w' n (.front e k gm)):cf (G.grow n S v gm (some g)) w' (h.set n (.front e k gm)):=by
 have e8:∀m,m≠n→(h.set n (.front e k gm))[m]?=h[m]?:=fun m hm=>by rw[ag1 (Ne.symm hm)]
 have lB:(h.set n (.front e k gm))[n]?=some (.front e k gm):=by rw[agW (agt.1 hn).1]
 have lh:∀m(B:ak),m≠n→B.ep (G.grow n S v gm (some g)) m=B.ep G m:=fun m B hm=>by
  cases B<;>simp [ak.ep,Gh.grow,hm]
 have eh:∀m,m≠n→cl (h.set n (.front e k gm)) (G.grow n S v gm (some g)) m=cl h G m:=fun m hm=>by
  unfold cl;rw[e8 m hm];cases h[m]? with
  |none=>rfl
  |some B=>exact lh m B hm
 have oh:∀m,m≠n→cl h G m≠some g:=fun m hm hb=>by
  rcases hg with hg|hg
  ·have:=hi.hO hb;omega
  ·exact hm (hi.inj m n g hb ((dU hn).trans hg))
 refine⟨by rw[List.length_set];exact hi.len,fun b hb=>agR (hi.z b hb) hE.size,fun b o hs=> ?_,fun m B hm=> ?_,fun m m' b h1 h2=> ?_,hi.gl.ba hE⟩
 ·rcases hS b o hs with hs|hs
  ·exact agR (hi.S b o hs) hE.size
  ·rw[hs];exact XH
 ·by_cases em:m=n
  ·subst em;rw[lB]at hm;cases hm;exact hB
  ·rw[e8 m em]at hm;refine eB.ba (hi.lt hm) hE (agE _) ⟨by simp [Gh.grow,em],by simp [Gh.grow,em],by simp [Gh.grow,em]⟩ (fun b hb=> ?_) (hi.dp m B hm);have hr:cl h G m=some b:=(dU hm).trans hb;have da:b≠g:=fun e'=>oh m em (by rw[hr,e']);refine⟨ic _ (hi.hO hr) da,fun o kx hs=> ?_⟩;rcases hS _ o hs with hs|hs
   ·exact kx hs
   ·exact da hs
 ·by_cases e1:m=n<;>by_cases e2:m'=n
  ·rw[e1,e2]
  ·subst e1;rw[eh m' e2]at h2;have:cl (h.set m (.front e k gm)) (G.grow m S v gm (some g)) m=some g:=by rw[dU lB];simp [ak.ep,Gh.grow]
   rw[this]at h1;cases h1;exact absurd h2 (oh m' e2)
  ·subst e2;rw[eh m e1]at h1;have:cl (h.set m' (.front e k gm)) (G.grow m' S v gm (some g)) m'=some g:=by rw[dU lB];simp [ak.ep,Gh.grow]
   rw[this]at h2;cases h2;exact absurd h1 (oh m e1)
  ·rw[eh m e1]at h1;rw[eh m' e2]at h2;exact hi.inj m m' b h1 h2
set_option maxHeartbeats 1000000 in
theorem RR{P:Program}{G:Gh}{w:World}{h:List ak}(hi:cf G w h){T tx ty e k c9:Nat}{i:TypeInfo}{z:Value}(hT:P.underlying T=some (.slice e))(j9:P.info? e=some i)(hz:i.zero=some z)(mm:i.size=k)(vD:i.bytes=c9)(iO:z.cells.size=k)
 (gp:0<k) {n:Nat} {xs ys:List (List D)} (hn:h[n]?=some (.front e k xs.length)) {u v:Value} (hu:aG G w u (.own n xs)) (iH:∀x∈xs,x.length=k)
 {us:List Value} (hr:Rd G.S w k ys us) (hs:Src P k tx v ys.length us w) (wx:xs.length+ys.length≤maxLen) (nG:(xs.length+ys.length)*c9≤140737488355328):
 ∃r w' G',(Builtin.append_ #[T,tx] ty #[u,v]).run P w= .ok r w'∧bZ G.N G w G' w'∧G.N≤G'.N∧cf G' w' (h.set n (.front e k (xs.length+ys.length)))∧aG G' w' r (.own n (xs++ys)):=by
 subst mm;subst vD;have mz:=hi.lt hn;obtain⟨fM,Ry,YE⟩:=hi.dp n _ hn;obtain⟨hp,Ng⟩:dC G.S w u (.sl xs)∧u=G.sg n:=by
  cases hu with
  |own _ _ _ hp hle hf=>exact⟨hp,hf fM.symm⟩
 obtain⟨olds,zy,A,c,zb,kr,qq,hA⟩:=hp.rd gp iH;have IK:h.set n (.front e i.size (xs.length+0))=h:=by
  rw[Nat.add_zero];refine List.ext_getElem? fun m=> ?_;by_cases em:m=n
  ·subst em;rw[agW (agt.1 hn).1,hn]
  ·rw[ag1 (Ne.symm em)]
 by_cases hy:ys.length=0
 ·have iF:ys=[]:=List.eq_nil_of_length_eq_zero hy;subst iF;have kM:us=[]:=List.eq_nil_of_length_eq_zero (by rw[hr.len];simp);subst kM;have:=run_append_nothing (P:=P) w T tx ty e i hT j9 A xs.length c kr v hs;refine⟨u,w,G,by rw[zb];exact this,bZ.refl _ _ _,agE _,?_,by rw[agO];exact hu⟩;simp only[agF];rw[IK];exact hi
 ·have hy0:0<ys.length:=Nat.pos_of_ne_zero hy;have Jx:xs.length+ys.length≤9223372036854775807:=by simp only[maxLen]at wx;omega
  have JQ:Rd G.S w i.size (xs++ys) (olds++us):=zy.append hr;have grow:c<xs.length+ys.length→∃r w' G',(Builtin.append_ #[T,tx] ty #[u,v]).run P w= .ok r w'∧bZ G.N G w G' w'∧G.N≤G'.N∧cf G' w' (h.set n (.front e i.size (xs.length+ys.length)))∧aG G' w' r (.own n (xs++ys)):=by
   intro hg;have hold:(Builtin.firstCells i.size xs.length (.slice A xs.length c)).run P w.drew= .ok olds.toArray w.drew:=by
    by_cases hx:xs=[]
    ·subst hx;have:olds=[]:=List.eq_nil_of_length_eq_zero (by rw[zy.len];simp);subst this;cases A with
     |none=>exact run_firstCells_none _ _ _ _ _
     |some a=>exact run_firstCells_some _ _ _ _ _ _ [] (by simp) (fun j u hu=>by simp at hu)
    ·obtain⟨b,o,rfl,hc⟩:=hA hx;exact run_firstCells_some _ _ _ _ _ _ olds zy.len (fun j u hu=>by rw[kG];exact(hc j u hu).2)
   have dL:=run_append_grow_src (P:=P) w T tx ty e i z hT j9 hz A xs.length c olds hold v ys.length us hs hg (by omega) (growslice_fits hg nG);obtain⟨cap,jc⟩:∃cap,cap=grownCap w (xs.length+ys.length) c e:=⟨_,rfl⟩;have jr:xs.length+ys.length≤cap:=by rw[jc];exact grownCap_ge _ _ _ _
   have hle:cap≤maxLen:=by rw[jc];exact grownCap_le_maxLen _ _ _ _ wx
   rw[←jc]at dL;obtain⟨cur,jE⟩:∃cur,cur=(olds++us).toArray++Builtin.zeroCells z.cells (cap-(xs.length+ys.length)):=⟨_,rfl⟩;rw[←jE]at dL;obtain⟨w',eH⟩:∃w',w'=w.drew.alloc (.cells cur e):=⟨_,rfl⟩;rw[←eH]at dL;have fK:cur.size=cap*i.size:=by
     have:=size_zeroCells z.cells (cap-(xs.length+ys.length));rw[jE,Array.size_append,this,List.size_toArray,JQ.len,iO,agu,←Nat.add_mul]
     congr 1
     omega
   have gh:w'.heap[w.heap.size]?=some (.cells cur e (0,0)):=by rw[eH];exact World.alloc_heap_new w.drew _
   have K7:∀b,b<w.heap.size→w'.heap[b]?=w.heap[b]?:=fun b hb=>by rw[eH];exact Below.heap_alloc w.drew _ b hb
   have g7:w'.heap.size=w.heap.size+1:=by rw[eH];simp
   obtain⟨S,hS⟩:∃S:Nat→Nat→Prop,S=fun b o=>G.S b o∨(b=w.heap.size∧o<(xs.length+ys.length)*i.size):=⟨_,rfl⟩;have fV:∀b o,G.S b o→w'.cell? ⟨b,o,none⟩=w.cell? ⟨b,o,none⟩:=fun b o hs=>World.cell?_of_block (K7 b (hi.S b o hs));have hE:bZ G.N G w (G.grow n S (.slice (some ⟨w.heap.size,0,none⟩) (xs.length+ys.length) cap) (xs.length+ys.length) (some w.heap.size)) w':=
    ⟨by rw[g7];exact Nat.le_succ _,fun b o h=>by show S b o;rw[hS];exact .inl h,fV,fun _ _=>rfl,
     fun m _=>by
      by_cases em:m=n
      ·right;subst em;simp only[Gh.grow,if_true,fM];omega
      ·left;exact⟨by simp [Gh.grow,em],by simp [Gh.grow,em]⟩,
     gq rfl,fun b hb=>K7 b (hi.z b hb),by rw[eH];rfl,by rw[eH];rfl,by rw[eH];rfl,fun b o hs=>by
      have cM:S b o:=hs;rw[hS]at cM;rcases cM with h|⟨rfl,_⟩
      ·exact .inl h
      ·exact .inr fun hz=>ag7 _ (hi.z _ hz)⟩
   have hP:dC S w' (.slice (some ⟨w.heap.size,0,none⟩) (xs++ys).length cap) (.sl (xs++ys)):=by
    refine(JQ.ba (S':=S) (w':=w') (fun b o h=>by rw[hS];exact .inl h) fV).Lh w.heap.size cap (by rw[agu];exact jr) hle (fun o ho=>by rw[hS];exact .inr ⟨rfl,by rw[agu]at ho;exact ho⟩) (fun o x ho=> ?_);rw[cell_of_row w' w.heap.size o cur e (0,0) gh,jE,Array.getElem?_append_left (by simp only[List.size_toArray];exact(agt.1 ho).1),List.getElem?_toArray];exact ho
   rw[agu]at hP;refine⟨_,w',_,by rw[zb];exact dL,hE,agE _,Sv hi hn S _ w.heap.size hE (.inl rfl) (by rw[g7];exact ahf _) (fun b o hs=> ?_) (fun b hb _=>K7 b hb) ?_,?_⟩
   ·rw[hS]at hs;exact hs.imp id And.left
   ·refine⟨by simp [Gh.grow],wx, .inr ⟨w.heap.size,cap,cur,by simp [Gh.grow],by simp [Gh.grow],fun hz=>ag7 _ (hi.z _ hz),gh,jr,hle,fK,fun o ho hs=> ?_⟩⟩;have cM:S w.heap.size o:=hs;rw[hS]at cM;rcases cM with cM|⟨_,cM⟩
    ·have:=hi.S _ _ cM;omega
    ·omega
   ·exact .own n (xs++ys) mz hP (by simp [Gh.grow]) (fun _=>by simp [Gh.grow])
  rcases YE with⟨hb1,A',ju⟩|⟨g,cap,cur,hb1,ju,Dl,nX,Aa,DL,NQ,MU⟩
  ·refine grow ?_;rw[Ng,ju]at zb;cases zb
   omega
  ·have P5:=zb;rw[Ng,ju]at P5;injection P5 with YN _ e1;have e2:=e1.symm;subst e2;subst YN;by_cases mK:xs.length+ys.length≤c
   ·
    have jF:xs.length*i.size+us.length≤cur.size:=by rw[hr.len,NQ,←Nat.add_mul];exact Nat.mul_le_mul_right _ mK
    have AL:∀o,w.cell? ⟨g,o,none⟩=cur[o]?:=fun o=>cell_of_row w g o cur e (0,0) nX;have zd:∀j,j<us.length→(w.cell? ⟨g,0+xs.length*i.size+j,none⟩).isSome=true:=fun j hj=>by
     rw[AL,agN,agP (by omega)];rfl
    have dL:=run_append_room_src (P:=P) w T tx ty e i hT j9 g 0 xs.length c v ys.length us hs mK zd
     (fun j hj=>by unfold World.frozen?;rw[nX];simp)
    rw[agN]at dL zd;obtain⟨w',eH⟩:∃w',w'=w.setCells g (xs.length*i.size) us:=⟨_,rfl⟩;rw[←eH]at dL;have Wl:g<w.heap.size:=(agI.1 nX).1;have fE:=run_storeCells_at P g (xs.length*i.size) e us 0 cur w nX (by simpa using jF) hs.one;have vA:=run_storeCells_cells (P:=P) g (xs.length*i.size) us 0 w (by simpa using zd) (fun j hj=>by unfold World.frozen?;rw[nX];simp) hs.one;simp only[Nat.add_zero]at fE vA;rw[fE]at vA;have xF:w'=w.setRow g (cur.toList.take (xs.length*i.size)++us++cur.toList.drop (xs.length*i.size+us.length)).toArray:=by
      rw[eH];injection vA with _ e2;exact e2.symm
    obtain⟨m5,Is⟩:∃m5:Array Value,m5=(cur.toList.take (xs.length*i.size)++us++cur.toList.drop (xs.length*i.size+us.length)).toArray:=⟨_,rfl⟩;rw[←Is]at xF;have mO:w'.heap[g]?=some (.cells m5 e (0,0)):=by rw[xF];exact setRow_heap w g cur m5 e _ nX
    have ic:∀b,b≠g→w'.heap[b]?=w.heap[b]?:=fun b hb=>by rw[xF];exact setRow_other w g b m5 hb
    have g7:w'.heap.size=w.heap.size:=by rw[xF];exact Ip w g m5
    have jx:∀o,m5[o]?=if o<xs.length*i.size then cur[o]? else if o<xs.length*i.size+us.length then us[o-xs.length*i.size]? else cur[o]?:=fun o=>by
     rw[Is,List.getElem?_toArray,agK];have hl:cur.toList.length=cur.size:=ag0;by_cases h1:o<xs.length*i.size
     ·rw[if_pos h1,agD (by simp;omega),List.getElem?_take_of_lt h1,agQ]
     ·rw[if_neg h1,agJ (by simp;omega)];simp only[List.length_take,hl];rw[Nat.min_eq_left (by omega)];by_cases h2:o<xs.length*i.size+us.length
      ·rw[if_pos h2,agD (by omega)]
      ·rw[if_neg h2,agJ (by omega),List.getElem?_drop,show xs.length*i.size+us.length+(o-xs.length*i.size-us.length)=o by omega,agQ]
    have afK:m5.size=cur.size:=by
     rw[Is];simp only[List.size_toArray,agu,List.length_take,List.length_drop,ag0];omega
    have fV:∀b o,G.S b o→w'.cell? ⟨b,o,none⟩=w.cell? ⟨b,o,none⟩:=fun b o hs=>by
     by_cases eb:b=g
     ·subst eb;have ho:o<xs.length*i.size:=Nat.lt_of_not_le fun hle=>MU o hle hs;rw[AL,cell_of_row w' b o m5 e (0,0) mO,jx,if_pos ho]
     ·exact World.cell?_of_block (ic b eb)
    obtain⟨S,hS⟩:∃S:Nat→Nat→Prop,S=fun b o=>G.S b o∨(b=g∧o<(xs.length+ys.length)*i.size):=⟨_,rfl⟩;have hE:bZ G.N G w (G.grow n S (.slice (some ⟨g,0,none⟩) (xs.length+ys.length) c) (xs.length+ys.length) (some g)) w':=
     ⟨by rw[g7];exact agE _,fun b o h=>by show S b o;rw[hS];exact .inl h,fV,fun _ _=>rfl,
      fun m _=>by
       by_cases em:m=n
       ·right;subst em;simp only[Gh.grow,if_true,fM];omega
       ·left;exact⟨by simp [Gh.grow,em],by simp [Gh.grow,em]⟩,
      gq rfl,fun b hb=>ic b (fun e=>Dl (e▸hb)),by rw[xF];rfl,by rw[xF];rfl,by rw[xF];rfl,fun b o hs=>by
       have cM:S b o:=hs;rw[hS]at cM;rcases cM with h|⟨rfl,_⟩
       ·exact .inl h
       ·exact .inr Dl⟩
    have hP:dC S w' (.slice (some ⟨g,0,none⟩) (xs++ys).length c) (.sl (xs++ys)):=by
     refine(JQ.ba (S':=S) (w':=w') (fun b o h=>by rw[hS];exact .inl h) fV).Lh g c (by rw[agu];exact mK) DL (fun o ho=>by rw[hS];exact .inr ⟨rfl,by rw[agu]at ho;exact ho⟩) (fun o x ho=> ?_);rw[cell_of_row w' g o m5 e (0,0) mO,jx];have hY:olds.length=xs.length*i.size:=zy.len;by_cases h1:o<xs.length*i.size
     ·rw[if_pos h1];rw[agD (by omega)]at ho;have hx:xs≠ []:=fun e=>by subst e;simp at h1
      obtain⟨b,o',eA,hc⟩:=hA hx;cases eA
      have:=(hc o x ho).2;rw[agN,AL]at this;exact this
     ·rw[if_neg h1];rw[agJ (by omega),hY]at ho;have:=(agt.1 ho).1;rw[if_pos (by omega)];exact ho
    rw[agu]at hP;refine⟨_,w',_,by rw[zb];exact dL,hE,agE _,Sv hi hn S _ g hE (.inr hb1) (by rw[g7];exact Wl) (fun b o hs=> ?_) (fun b _ hb=>ic b hb) ?_,?_⟩
    ·rw[hS]at hs;exact hs.imp id And.left
    ·refine⟨by simp [Gh.grow],wx, .inr ⟨g,c,m5,by simp [Gh.grow],by simp [Gh.grow],Dl,mO,mK,DL,by rw[afK,NQ],fun o ho hs=> ?_⟩⟩;have cM:S g o:=hs;rw[hS]at cM;rcases cM with cM|⟨_,cM⟩
     ·exact MU o (agL (Nat.mul_le_mul_right _ (ag8 _ _)) ho) cM
     ·omega
    ·exact .own n (xs++ys) mz hP (by simp [Gh.grow]) (fun _=>by simp [Gh.grow])
   ·exact grow (by omega)
def WF(r:Option Nat):Fence:={Fence.wide with round:=r}
def iq(N0:Nat)(G:Gh)(w:World)(K:St→Prop)(a':Act)(w':World):Prop:=∃G' s',bZ N0 G w G' w'∧N0≤G'.N∧c7 G' w' a' s'∧K s'
section
variable {P:Program} {r:Option Nat} {n N0:Nat} {G:Gh} {w:World} {a:Act} {s:St} {o:Oper} {K:St→Prop} {Q:Exit→Act→World→Prop}
theorem l8(eW:∀c,o.op≠ .defer c)(hs:c7 G w a s)(cJ:N0≤G.N){v:Value}{x:AV}{w':World}{G':Gh}{h':List ak}(hr:(execOp a.eval o).run P w= .ok (.value v) w')
 (hE:bZ G.N G w G' w') (hN:G.N≤G'.N) (hi:cf G' w' h') (hv:aG G' w' v x) (hK:K ((s.wh h').put o.dst x)):o.wpIn (WF r) n P a w (iq N0 G w K) Q:=by
 refine⟨fun _ _=>trivial,?_⟩;rw[Oper.semAt_eq _ _ _ eW,hr];exact⟨G',_,hE.less cJ,agL cJ hN,((hs.move hE hN hi).put hv o.dst),hK⟩
theorem fc(eW:∀c,o.op≠ .defer c)(hs:c7 G w a s)(cJ:N0≤G.N){v:Value}{x:AV}(hr:(execOp a.eval o).run P w= .ok (.value v) w)(hv:aG G w v x)(hK:K (s.put o.dst x)):
 o.wpIn (WF r) n P a w (iq N0 G w K) Q:=
 l8 eW hs cJ hr (bZ.refl _ _ _) (agE _) hs.inv hv hK
theorem Mr(eW:∀c,o.op≠ .defer c)(hs:c7 G w a s)(cJ:N0≤G.N){w':World}{G':Gh}{h':List ak}(hr:(execOp a.eval o).run P w= .ok .skip w')
 (hE:bZ G.N G w G' w') (hN:G.N≤G'.N) (hi:cf G' w' h') (hK:K ((s.wh h').put o.dst (.d (.v undef)))):o.wpIn (WF r) n P a w (iq N0 G w K) Q:=by
 refine⟨fun _ _=>trivial,?_⟩;rw[Oper.semAt_eq _ _ _ eW,hr];exact⟨G',_,hE.less cJ,agL cJ hN,((hs.move hE hN hi).put (.d (.v undef)) o.dst),hK⟩
theorem M6{t k:Nat}(h:fA P t=some k):∃i,P.info? t=some i∧i.size=k:=by
 unfold fA at h;cases hq:P.info? t with
 |none=>rw[hq]at h;cases h
 |some i=>rw[hq]at h;exact⟨i,rfl,by simpa using h⟩
theorem Ie{t:Nat}{z:Value}(h:gO P t=some z):∃i,P.info? t=some i∧i.zero=some z:=by
 unfold gO at h;cases hq:P.info? t with
 |none=>rw[hq]at h;cases h
 |some i=>rw[hq]at h;exact⟨i,rfl,by simpa using h⟩
theorem Fg{t:Nat}{z:Value}(h:gO P t=some z)(w:World):(zeroValue t).run P w= .ok z w:=by
 obtain⟨i,h1,h2⟩:=Ie h;simp [zeroValue,typeInfo,h1,h2]
theorem lC{t k:Nat}(h:fA P t=some k)(w:World):(sizeOf t).run P w= .ok k w:=by
 obtain⟨i,h1,h2⟩:=M6 h;simp [sizeOf,typeInfo,h1,h2]
theorem DE{t:Nat}{g:Bool}(h:kW P t=some g)(w:World):(isAgg t).run P w= .ok g w:=by
 unfold kW at h;cases hq:P.underlying t with
 |none=>rw[hq]at h;cases h
 |some d=>
  rw[hq]at h;unfold isAgg;rw[Sem.run_bind,run_underlying hq w];simp only[Option.map_some,Option.some.injEq]at h;subst h;cases d<;>rfl
theorem WW{t:Nat}(h:kW P t=some true):∃d,P.underlying t=some d∧d.isRow=true:=by
 unfold kW at h;cases hq:P.underlying t with
 |none=>rw[hq]at h;cases h
 |some d=>rw[hq]at h;refine⟨d,rfl,?_⟩;cases d<;>simp_all [TypeDesc.isRow]
theorem Tj{t:Nat}{C:AV→Prop}:∀(b o:Nat)(cs:List AV)(off:Nat)(us:Nat→Value),(∀j,j<cs.length→w.cell? ⟨b,o+j,none⟩=some (us j))→(∀(j:Nat)(c:AV),cs[j]?=some c→aG G w (us j) c)→
 (match kW P t,fA P t with
  |some true,some k=>gd (cd (off+k) cs.length) (C (.agg ((cs.drop off).take k)))
  |some false,some _=>match cs[off]? with
   |some c=>C c
   |none=>False
  |_,_=>False)→∃u x,(loadVar t ⟨b,o+off,none⟩).run P w= .ok u w∧aG G w u x∧C x:=by
 intro b o cs off us h1 h2 h3;split at h3
 ·rename_i k hg hk
  obtain⟨hlen,hC⟩:=bY.1 h3;rw[cZ]at hlen;obtain⟨d,uV,mW⟩:=WW hg;have F1:((List.range k).map fun j=>us (off+j)).length=k:=by simp
  have dL:=run_loadVar_mid (P:=P) w b (o+off) t ((List.range k).map fun j=>us (off+j)) d (fun j u hu=>by
   rw[agA]at hu;by_cases hj:j<k
   ·rw[List.getElem?_range hj]at hu;simp only[Option.map_some,Option.some.injEq]at hu;subst hu;have:=h1 (off+j) (by omega)
    rwa [←Nat.add_assoc]at this
   ·rw[agZ (by simp;omega)]at hu;cases hu) uV mW (by rw[F1];exact hk)
  refine⟨_,_,dL, .agg _ _ (by simp;omega) fun i u c hu hc=> ?_,hC⟩;rw[List.getElem?_toArray,agA]at hu;rw[List.getElem?_take]at hc;split at hc
  ·rename_i mm
   rw[List.getElem?_range mm]at hu;simp only[Option.map_some,Option.some.injEq]at hu;subst hu;rw[List.getElem?_drop]at hc;exact h2 (off+i) c hc
  ·cases hc
 ·rename_i k hg hk
  split at h3
  ·rename_i c hc
   refine⟨us off,c,?_,h2 off c hc,h3⟩;unfold loadVar;rw[Sem.run_bind,DE hg w];simp only[Result.andThen_ok,Bool.false_eq_true,if_false];unfold load;simp only[Sem.run,h1 off (agt.1 hc).1]
  ·exact h3.elim
 ·exact h3.elim
theorem Nm{t:Nat}{p:AV}{v:Value}{C:AV→Prop}(hi:cf G w s.h)(hv:aG G w v p)(h:mG P t s.h p C):∃u x,(Instr.loadAt t v).run P w= .ok u w∧aG G w u x∧C x:=by
 have key:=Tj (P:=P) (G:=G) (w:=w) (t:=t) (C:=C);unfold mG qV at h;cases p with
 |ptr m off=>
  simp only at h;split at h
  ·rename_i cs hm
   obtain⟨_,_,vs,T,hh,hl,hr⟩:=hi.dp m _ hm;cases hv with
   |ptr _ _ wj=>
    obtain⟨u,x,h1,h2,h3⟩:=key (G.bo m) 0 cs off (fun j=>vs.getD j undef) (fun j hj=>by
     have ib:j<vs.size:=by rw[hl];exact hj
     rw[agN,cell_of_row w (G.bo m) j vs T (0,0) hh];simp [Array.getD,ib]) (fun j c hc=>by
     have ib:j<vs.size:=by rw[hl];exact(agt.1 hc).1
     exact hr j _ c (by simp [Array.getD,ib]) hc) h
    rw[agN]at h1;exact⟨u,x,by simp [Instr.loadAt,Instr.sureAddr,h1],h2,h3⟩
  ·exact h.elim
 |bn xs i off=>
  simp only at h;split at h
  ·rename_i cs fK
   cases hv with
   |bn _ _ _ b o us x hx hS hu=>
    rw[hx]at fK;cases fK
    obtain⟨u,y,h1,h2,h3⟩:=key b o (cs.map .d) off us (fun j hj=>(hS j (by simpa using hj)).2) (fun j c hc=>by
     rw[agA]at hc;cases hd:cs[j]? with
     |none=>rw[hd]at hc;cases hc
     |some d=>rw[hd]at hc;cases hc;exact .d (hu j d hd)) h
    exact⟨u,y,by simp [Instr.loadAt,Instr.sureAddr,h1],h2,h3⟩
  ·exact h.elim
 |_=>exact h.elim
theorem aG.list{u:Value}{x:AV}{xs:List (List D)}(h:aG G w u x)(hx:x.fG=some xs):dC G.S w u (.sl xs):=by
 unfold AV.fG at hx;split at hx
 ·cases hx;cases h with|d h=>exact h
 ·cases hx;cases h with|own _ _ _ h=>exact h
 ·cases hx;cases h with|full _ h=>exact h
 ·cases hx
  cases h with
  |d h=>
   cases h with
   |v=>exact .sl none 0 0 0 0 [] (fun _ _=>undef) (fun h=>absurd rfl h) (agE _) (by simp) (fun _ h=>by cases h) (fun i j hi=>by simp at hi) (fun i j x d hx=>by simp at hx)
 ·cases hx
theorem aG.int{u:Value}{x:AV}{z:Int}(h:aG G w u x)(hx:x.int?=some z):∃k,u= .int k z:=by
 unfold AV.int? at hx;split at hx
 ·rename_i k m
  cases hx
  cases h with
  |d h=>cases h with|v=>exact⟨k,rfl⟩
 ·cases hx
theorem aG.bool{u:Value}{t:Bool}(h:aG G w u (.d (.v (.bool t)))):u= .bool t:=by
 cases h with|d h=>cases h with|v=>rfl
theorem aG.val{u v:Value}(h:aG G w u (.d (.v v))):u=v:=by
 cases h with|d h=>cases h with|v=>rfl
theorem jm{T e k:Nat}(h:dY P T=some (e,k)):P.underlying T=some (.slice e)∧fA P e=some k:=by
 unfold dY at h;split at h
 ·rename_i e' he
  cases hq:fA P e' with
  |none=>rw[hq]at h;cases h
  |some k'=>rw[hq]at h;simp at h;obtain⟨rfl,rfl⟩:=h;exact⟨he,hq⟩
 ·cases h
theorem KK{T m e k:Nat}(h:rV P T=some (m,e,k)):P.underlying T=some (.array m e)∧fA P e=some k:=by
 unfold rV at h;split at h
 ·rename_i m' e' he
  cases hq:fA P e' with
  |none=>rw[hq]at h;cases h
  |some k'=>rw[hq]at h;simp at h;obtain⟨rfl,rfl,rfl⟩:=h;exact⟨he,hq⟩
 ·cases h
theorem aaT{T:Nat}{x i:AV}{u v:Value}{C:AV→Prop}(hu:aG G w u x)(hv:aG G w v i)(h:qD P T x i C):∃p y,(Instr.indexAt T u v).run P w= .ok p w∧aG G w p y∧C y:=by
 unfold qD at h;split at h
 ·rename_i e k hT
  obtain⟨ff,fB⟩:=jm hT;split at h
  ·rename_i m off len cap k'
   split at h
   ·rename_i z hz
    obtain⟨tT,h0,aO,hC⟩:=bY.1 h;rw[beq_iff_eq]at tT;subst tT;obtain⟨kz,rfl⟩:=hv.int hz;cases hu with
    |row _ _ _ _ _ hm hl nH=>
     have hN:(z.toNat:Int)=z:=Int.toNat_of_nonneg h0;refine⟨_,_,?_, .ptr m (off+z.toNat*k') hm,hC⟩;simp [Instr.indexAt,asIntOf,run_underlying ff,h0,aO,lC fB,kG]
   ·exact h.elim
  ·split at h
   ·rename_i xs z kR hz
    obtain⟨h0,h⟩:=h;obtain⟨kz,rfl⟩:=hv.int hz;split at h
    ·rename_i c hc
     obtain⟨hk,hC⟩:=h;obtain⟨A,b,o,cc,k',us,rfl,hA,kr,qq,lJ,hS,kM⟩:=(hu.list kR).nW;have aO:z.toNat<xs.length:=(agt.1 hc).1;have da:xs≠ []:=fun e=>by subst e;simp at aO
     have ek:k'=k:=by rw[←lJ c (agG hc),hk]
     subst ek;rw[hA da];have IN:z<(xs.length:Int):=by omega
     refine⟨_, .bn [c] 0 0,?_, .bn [c] 0 0 b (o+z.toNat*k') (us z.toNat) c rfl (fun j hj=> ?_) (fun j d hd=>kM _ _ _ _ hc hd),hC⟩
     ·simp [Instr.indexAt,asIntOf,run_underlying ff,h0,IN,lC fB,kG]
     ·have:=hS z.toNat j aO (by rw[hk]at hj;exact hj);exact⟨this.1,this.2.1⟩
    ·exact h.elim
   ·exact h.elim
 ·split at h
  ·rename_i m e k b off z hT hz
   obtain⟨h0,aO,hC⟩:=h;obtain⟨ff,fB⟩:=KK hT;obtain⟨kz,rfl⟩:=hv.int hz;cases hu with
   |ptr _ _ hb=>
    refine⟨_,_,?_, .ptr b (off+z.toNat*k) hb,hC⟩;simp [Instr.indexAt,Instr.sureAddr,asIntOf,run_underlying ff,h0,aO,lC fB,kG]
  ·rename_i m e k xs i' off z hT hz
   obtain⟨mD,h0,aO,h9⟩:=bY.1 h;rw[beq_iff_eq]at mD;subst mD;obtain⟨ff,fB⟩:=KK hT;obtain⟨kz,rfl⟩:=hv.int hz;split at h9
   ·rename_i c hc
    split at h9
    ·rename_i d hd
     cases hu with
     |bn _ _ _ b o us c' jx hS kM=>
      rw[hc]at jx;cases jx
      have ZX:=(agt.1 hd).1;refine⟨_, .bn [[d]] 0 0,?_, .bn [[d]] 0 0 b (o+(off+z.toNat)) (fun _=>us (off+z.toNat)) [d] rfl (fun j hj=> ?_) (fun j d' eR=> ?_),h9⟩
      ·simp [Instr.indexAt,Instr.sureAddr,asIntOf,run_underlying ff,h0,aO,lC fB,kG,Nat.add_assoc]
      ·simp at hj;subst hj;exact hS _ ZX
      ·match j with
       |0=>simp at eR;subst eR;exact kM _ _ hd
       |j+1=>simp at eR
    ·exact h9.elim
   ·exact h9.elim
  ·exact h.elim
theorem q6{T:Nat}(h:gr P T=true):P.underlying T=some .string:=by
 unfold gr at h;split at h
 ·assumption
 ·cases h
theorem Wr{T:Nat}{x:AV}{u:Value}{ty:Nat}{C:Nat→Prop}(hu:aG G w u x)(h:qf P T x C):∃m:Nat,(Builtin.len_ #[T] ty #[u]).run P w= .ok (.int .i64 m) w∧C m:=by
 have R2:∀(A:Option Addr)(l c:Nat),(dY P T).isSome=true→(Builtin.len_ #[T] ty #[.slice A l c]).run P w= .ok (.int .i64 l) w:=by
  intro A l c hT;obtain⟨⟨e,k⟩,hT⟩:=Option.isSome_iff_exists.1 hT;simp [Builtin.len_,run_underlying (jm hT).1,goInt]
 unfold qf at h;split at h
 ·rename_i b
  have:=hu.val;subst this;obtain⟨hT,hC⟩:=bY.1 h;exact⟨b.size,by simp [Builtin.len_,run_underlying (q6 hT),goInt],hC⟩
 ·cases hu with
  |row=>exact⟨_,R2 _ _ _ (bY.1 h).1,(bY.1 h).2⟩
 ·split at h
  ·rename_i xs kR
   obtain⟨A,b,o,c,k,us,rfl,_⟩:=(hu.list kR).nW;exact⟨_,R2 _ _ _ (bY.1 h).1,(bY.1 h).2⟩
  ·exact h.elim
def AF(a:Act)(x:Option Operand)(d m:Nat):Prop:=match x with|none=>m=d|some y=>∃k z,a.eval y= .int k z∧0≤z∧m=z.toNat
theorem tk{x:Option Operand}{d:Nat}{C:Nat→Prop}(hs:c7 G w a s)(h:iu (ev s) x d C):∃m,C m∧AF a x d m:=by
 cases x with
 |none=>exact⟨_,h,rfl⟩
 |some y=>
  unfold iu at h;simp only at h;split at h
  ·rename_i z hz
   obtain⟨k,hk⟩:=(hs.ev y).int hz;exact⟨_,h.2,k,z,hk,h.1,rfl⟩
  ·exact h.elim
theorem zH{k:IntKind}{z:Int}{y:Nat}{code:BoundsCode}(h0:0≤z)(h:z.toNat≤y)(w:World):(Instr.sliceBound (.int k z) y code).run P w= .ok z.toNat w:=by
 have:z≤(y:Int):=by omega
 simp [Instr.sliceBound,asIntOf,h0,this]
theorem CS{lo hi:Option Operand}{len cap l h:Nat}{zo:Bool}(hY:AF a lo 0 l)(oK:AF a hi len h)(hl:l≤h)(hh:h≤cap)(w:World):
 (Instr.sliceBounds zo len cap (lo.map a.eval) (hi.map a.eval) none).run P w= .ok (l,h,cap) w:=by
 unfold AF at hY oK;cases lo with
 |none=>
  subst hY;cases hi with
  |none=>subst oK;simp [Instr.sliceBounds]
  |some y=>
   obtain⟨k,z,e,h0,rfl⟩:=oK;simp [Instr.sliceBounds,e,zH h0 hh]
 |some x=>
  obtain⟨k',z',e',PM,rfl⟩:=hY;cases hi with
  |none=>subst oK;simp [Instr.sliceBounds,e',zH PM hl]
  |some y=>
   obtain⟨k,z,e,h0,rfl⟩:=oK;simp [Instr.sliceBounds,e,e',zH h0 hh,zH PM hl]
theorem dC.part{S:Nat→Nat→Prop}{v:Value}{xs:List (List D)}{k:Nat}(hp:dC S w v (.sl xs))(hk:∀c∈xs,c.length=k){l h:Nat}(hl:l≤h)(hh:h≤xs.length):
 ∃A c,v= .slice A xs.length c∧xs.length≤c∧dC S w (.slice (if c=l then A else A.map (·.add (l*k))) (h-l) (c-l)) (.sl ((xs.take h).drop l)):=by
 obtain⟨A,b,o,c,k',us,rfl,hA,kr,qq,lJ,hS,kM⟩:=hp.nW;refine⟨A,c,rfl,kr,?_⟩;have hlen:((xs.take h).drop l).length=h-l:=by simp;omega
 rw[←hlen];by_cases hx:xs=[]
 ·subst hx;have e:((([]:List (List D)).take h).drop l)=[]:=by simp
  rw[e];exact .sl _ 0 0 (c-l) 0 [] (fun _ _=>undef) (fun h=>absurd rfl h) (Nat.zero_le _) (by omega) (fun _ h=>by cases h) (fun i j hi=>by simp at hi) (fun i j x d hx=>by simp at hx)
 ·have ek:k'=k:=by
   obtain⟨x,lM⟩:=List.exists_mem_of_ne_nil xs hx;rw[←lJ x lM,hk x lM]
  subst ek;have e8:∀i,i<h-l→((xs.take h).drop l)[i]?=xs[l+i]?:=fun i hi=>by
   rw[List.getElem?_drop,List.getElem?_take_of_lt (by omega)]
  refine .sl _ b (o+l*k') (c-l) k' _ (fun i j=>us (l+i) j) (fun da=> ?_) (by rw[hlen];omega) (by omega) (fun x hx=>hk x (List.mem_of_mem_take (List.mem_of_mem_drop hx))) (fun i j hi hj=> ?_) (fun i j x d hx hd=> ?_)
  ·have It:0<((xs.take h).drop l).length:=List.length_pos_iff.2 da;rw[hlen]at It;rw[if_neg (by omega),hA hx];simp [kG]
  ·rw[hlen]at hi;have:=hS (l+i) j (by omega) hj;rw[Nat.add_mul,←Nat.add_assoc]at this;exact this
  ·have hi:=(agt.1 hx).1;rw[hlen]at hi;rw[e8 i hi]at hx;exact kM _ _ _ _ hx hd
theorem Y9{T:Nat}{x:AV}{u:Value}{lo hi mx:Option Operand}{C:AV→Prop}(hs:c7 G w a s)(hu:aG G w u x)(h:o9 P T (ev s) x lo hi mx C):
 ∃p y,(Instr.sliceAt T u (lo.map a.eval) (hi.map a.eval) (mx.map a.eval)).run P w= .ok p w∧aG G w p y∧C y:=by
 unfold o9 at h;split at h
 ·split at h
  ·rename_i b
   obtain⟨hT,h⟩:=bY.1 h;have hT:=q6 hT;have:=hu.val;subst this;obtain⟨m,h,hm⟩:=tk hs h;obtain⟨uu,h⟩:=h;obtain⟨l,h,hl⟩:=tk hs h;obtain⟨p5,h⟩:=h;refine⟨_,_,?_, .d (.v _),h⟩;have hb:=CS (P:=P) (zo:=false) hl hm p5 uu w;simp [Instr.sliceAt,Instr.slice,run_underlying hT,hb]
  ·rename_i m off
   split at h
   ·rename_i c e k hT
    rw[bY,cZ]at h;obtain⟨qq,h⟩:=h;have qq:c≤maxLen:=by unfold maxLen;omega
    obtain⟨ff,fB⟩:=KK hT;obtain⟨hh,h,hm⟩:=tk hs h;obtain⟨uu,h⟩:=bY.1 h;rw[cZ]at uu;obtain⟨l,h,hl⟩:=tk hs h;obtain⟨p5,h⟩:=bY.1 h;simp only[agv,cZ,Bool.not_eq_true',←Bool.not_eq_true,Nat.not_le]at p5;obtain⟨p5,kr⟩:=p5;have hb:=CS (P:=P) (zo:=false) hl hm p5 uu w;cases hu with
    |ptr _ _ wj=>
     refine⟨_,_,?_, .row m (off+l*k) (hh-l) (c-l) k wj (by omega) (by omega),h⟩;simp [Instr.sliceAt,Instr.sureAddr,run_underlying ff,hb,lC fB,kG,Nat.ne_of_gt kr]
   ·exact h.elim
  ·split at h
   ·rename_i xs e k kR hT
    obtain⟨hk,h⟩:=h;obtain⟨ff,fB⟩:=jm hT;obtain⟨hh,h,hm⟩:=tk hs h;obtain⟨uu,h⟩:=h;obtain⟨l,h,hl⟩:=tk hs h;obtain⟨p5,h⟩:=h;obtain⟨A,c,rfl,kr,hp⟩:=(hu.list kR).part hk p5 uu;have hb:=CS (P:=P) (zo:=true) hl hm p5 (agL uu kr) w;refine⟨_,_,?_, .d hp,h⟩;simp [Instr.sliceAt,Instr.slice,run_underlying ff,hb,lC fB]
   ·exact h.elim
 ·rename_i y
  split at h
  case h_2=>exact h.elim
  rename_i yh
  split at h
  ·rename_i xs e k kR hT
   obtain⟨hk,h⟩:=h;obtain⟨ff,fB⟩:=jm hT;obtain⟨c',h3,hc⟩:=tk hs h;obtain⟨fY,h3⟩:=h3;obtain⟨hh,h4,hm⟩:=tk hs h3;obtain⟨rfl,h5⟩:=h4;clear h h3;obtain⟨k1,z1,e1,p1,q1⟩:=hc;obtain⟨k2,z2,e2,p2,q2⟩:=hm;obtain⟨A,c,rfl,kr,hp⟩:=(hu.list kR).part hk (Nat.zero_le hh) fY;have hp':dC G.S w (.slice A hh hh) (.sl (xs.take hh)):=by
    have h1:(if c=0 then A else A.map (·.add (0*k)))=A:=by
     split
     ·rfl
     ·cases A<;>simp [Addr.add]
    rw[h1,ag2]at hp;obtain⟨A',b,o,c2,k',us,e,r1,r2,r3,r4,r5,r6⟩:=hp.nW;have hl:(xs.take hh).length=hh:=by simp;omega
    injection e with eA e3 e4;subst eA;have:=dC.sl (S:=G.S) (w:=w) A b o hh k' (xs.take hh) us r1 (by omega) (by omega) r4 r5 r6
    rwa [hl]at this
   refine⟨.slice A hh hh, .full (xs.take hh),?_, .full _ hp' ⟨A,by simp;omega⟩,h5⟩;have b1:(Instr.sliceBound (.int k1 z1) c .slice3Acap).run P w= .ok hh w:=by rw[zH p1 (by omega),q1]
   have b2:(Instr.sliceBound (.int k2 z2) hh .slice3B).run P w= .ok hh w:=by rw[zH p2 (by omega),←q2]
   simp only[Option.map_some,Option.map_none,e1,e2];have hA:A.map (·.add 0)=A:=by cases A<;>simp [Addr.add]
   simp [Instr.sliceAt,Instr.slice,Instr.sliceBounds,run_underlying ff,b1,b2,lC fB,hA]
  ·exact h.elim
theorem Li:∀{cs:List AV}{ds:List D},mq cs=some ds→ds.length=cs.length∧∀(i:Nat)(c:AV)(d:D),cs[i]?=some c→ds[i]?=some d→c.rz=some d
 |[],ds,h=>by simp [mq]at h;subst h;simp
 |c::cs,ds,h=>by
  unfold mq at h;split at h
  ·rename_i d l hd hl
   cases h
   obtain⟨h1,h2⟩:=Li hl;refine⟨by simp [h1],fun i c' d' hc eR=> ?_⟩
   match i with
   |0=>simp at hc eR;subst hc;subst eR;exact hd
   |i+1=>exact h2 i c' d' (by simpa using hc) (by simpa using eR)
  ·cases h
theorem dC.zB{S:Nat→Nat→Prop}{w:World}{u:Value}{x:D}(h:dC S w u x):dC S w u x.zB:=by
 unfold D.zB;split
 ·cases h with
  |v=>exact .sl none 0 0 0 0 [] (fun _ _=>undef) (fun h=>absurd rfl h) (agE _) (Nat.zero_le _) (fun _ h=>absurd h ag9) (fun i j hi=>absurd hi (agV _)) (fun i j x d hx=>by simp at hx)
 ·exact h
theorem aG.IW{u:Value}{x:AV}{d:D}(h:aG G w u x)(hx:x.rz=some d):dC G.S w u d:=by
 unfold AV.rz at hx;split at hx
 ·cases hx;cases h with|d h=>exact h.zB
 ·cases hx;cases h with|own _ _ _ h=>exact h
 ·cases hx;cases h with|full _ h=>exact h
 ·cases hx
theorem qU(k:Nat):∀(m:Nat)(l:List D),(my k m l).length=m
 |0,_=>rfl
 |m+1,l=>by simp [my,qU k m]
theorem Kk(k:Nat):∀(m:Nat)(l:List D)(i:Nat),i<m→(my k m l)[i]?=some ((l.drop (i*k)).take k)
 |0,_,_,h=>by omega
 |m+1,l,0,_=>by simp [my]
 |m+1,l,i+1,h=>by
  have:=Kk k m (l.drop k) i (by omega);rw[my,ag4,this,List.drop_drop,Nat.add_mul,Nat.one_mul,Nat.add_comm k]
theorem Rt{k m:Nat}{us:List Value}{ds:List D}(hl:ds.length=m*k)(hu:us.length=m*k)(h1:∀u∈us,u.oneCell'=true)
 (hr:∀(i:Nat)(u:Value)(d:D),us[i]?=some u→ds[i]?=some d→dC G.S w u d):Rd G.S w k (my k m ds) us:=by
 have hb:∀i,i<m→(i+1)*k≤m*k:=fun i hi=>Nat.mul_le_mul_right k hi;refine⟨by rw[qU,hu],fun x hx=> ?_,h1,fun i j x d hx hd=> ?_⟩
 ·obtain⟨i,hi⟩:=List.mem_iff_getElem?.1 hx;have E7:i<m:=by have:=(agt.1 hi).1;rwa [qU]at this
  rw[Kk k m ds i E7]at hi;cases hi
  have:=hb i E7;rw[Nat.add_mul]at this;simp;omega
 ·have E7:i<m:=by have:=(agt.1 hx).1;rwa [qU]at this
  rw[Kk k m ds i E7]at hx;cases hx
  rw[List.getElem?_take]at hd;split at hd
  ·rw[List.getElem?_drop]at hd;have:=(agt.1 hd).1;have aO:i*k+j<us.length:=by omega
   exact⟨us[i*k+j],agx aO,hr _ _ _ (agx aO) hd⟩
  ·cases hd
theorem YF{k U e':Nat}{y:AV}{v:Value}{C:List (List D)→Prop}(hi:cf G w s.h)(hv:aG G w v y)(hk:0<k)(hU:P.underlying U=some (.slice e'))(h:rD s.h k y C):
 ∃ys us,Rd G.S w k ys us∧Src P k U v ys.length us w∧C ys:=by
 unfold rD at h;split at h
 ·rename_i m off len cap k'
  split at h
  ·rename_i cs hm
   split at h
   ·rename_i ds s7
    obtain⟨eZ,hC⟩:=bY.1 h;simp only[agv,beq_iff_eq,cZ]at eZ;obtain⟨⟨rfl,hlen⟩,fw⟩:=eZ;obtain⟨h1,h2⟩:=Li s7;obtain⟨_,_,vs,T,hh,hl,hr⟩:=hi.dp m _ hm;cases hv with
    |row _ _ _ _ _ wj kr nH=>
     have YR:ds.length=len*k':=by rw[h1];simp;omega
     have mI:((vs.toList.drop off).take (len*k')).length=len*k':=by simp;omega
     have xY:∀(i:Nat)(u:Value)(c:AV),((vs.toList.drop off).take (len*k'))[i]?=some u→((cs.drop off).take (len*k'))[i]?=some c→aG G w u c:=fun i u c hu hc=>by
      rw[List.getElem?_take]at hu hc;split at hu
      ·rename_i mm
       rw[if_pos mm]at hc;rw[List.getElem?_drop]at hu hc;exact hr _ u c (by rw[←agQ];exact hu) hc
      ·cases hu
     have fY:((cs.drop off).take (len*k')).length=len*k':=by simp;omega
     have Sc:∀u∈(vs.toList.drop off).take (len*k'),u.oneCell'=true:=fun u hu=>by
      obtain⟨i,hi⟩:=List.mem_iff_getElem?.1 hu;have je:i<len*k':=by rw[←mI];exact(agt.1 hi).1
      have AR:=agx (l:=(cs.drop off).take (len*k')) (i:=i) (by rw[fY];exact je);exact(xY i u _ hi AR).iS (agT.1 fw _ (agG AR))
     have JK:=Rt (G:=G) (w:=w) (k:=k') (m:=len) YR mI Sc (fun i u d hu hd=>by
      have je:i<len*k':=by rw[←mI];exact(agt.1 hu).1
      have AR:=agx (l:=(cs.drop off).take (len*k')) (i:=i) (by rw[fY];exact je);exact(xY i u _ hu AR).IW (h2 i _ d AR hd))
     refine⟨_,_,JK,?_,hC⟩;rw[qU];refine Src.ofSlice w hU _ len cap _ mI (fun j u hu=> ?_) Sc;rw[List.getElem?_take]at hu;split at hu
     ·rw[List.getElem?_drop,agQ]at hu;rw[kG,cell_of_row w _ _ vs T (0,0) hh];exact hu
     ·cases hu
   ·exact h.elim
  ·exact h.elim
 ·split at h
  ·rename_i ys iF
   obtain⟨us,h1,h2⟩:=(hv.list iF).src (P:=P) hk h.1 hU;exact⟨ys,us,h1,h2,h.2⟩
  ·exact h.elim
theorem BQ:dC G.S w (.slice none 0 0) (.sl []):=
 .sl none 0 0 0 0 [] (fun _ _=>undef) (fun h=>absurd rfl h) (agE _) (by simp) (fun _ h=>by cases h) (fun i j hi=>by simp at hi) (fun i j x d hx=>by simp at hx)
theorem ada(h:List ak)(x y:ak):(h++[x]).set h.length y=h++[y]:=by simp
theorem aa2{T U ty e':Nat}{x y:AV}{u v:Value}{C:AV→List ak→Prop}(hi:cf G w s.h)(hu:aG G w u x)(hv:aG G w v y)(hU:P.underlying U=some (.slice e'))(h:py P T s.h x y C):
 ∃p w' G' q h',(Builtin.append_ #[T,U] ty #[u,v]).run P w= .ok p w'∧bZ G.N G w G' w'∧G.N≤G'.N∧cf G' w' h'∧aG G' w' p q∧C q h':=by
 unfold py at h;split at h
 ·rename_i e k hT
  obtain⟨ff,fB⟩:=jm hT;split at h
  ·rename_i z c9 hz nG
   obtain⟨eZ,h⟩:=bY.1 h;simp only[agv,beq_iff_eq,cZ,ag0]at eZ;obtain⟨hk,iO⟩:=eZ;obtain⟨i,iU,jJ,Gq⟩:=IT fB nG;have P6:i.zero=some z:=by
    obtain⟨i',h1,h2⟩:=Ie hz;rw[iU]at h1;cases h1;exact h2
   obtain⟨ys,us,hr,hs,h2⟩:=YF hi hv hk hU h;clear h;have fresh:∀(xs:List (List D)),dC G.S w u (.sl xs)→(∃A,u= .slice A xs.length xs.length)→(∀c∈xs,c.length=k)→xs.length+ys.length≤maxLen→(xs.length+ys.length)*c9≤140737488355328→
    C (.own s.h.length (xs++ys)) (s.h++[.front e k (xs.length+ys.length)])→
    ∃p w' G' q h',(Builtin.append_ #[T,U] ty #[u,v]).run P w= .ok p w'∧bZ G.N G w G' w'∧G.N≤G'.N∧cf G' w' h'∧aG G' w' p q∧C q h':=by
    intro xs hp hf iH hm hb hC;obtain⟨a1,a2,a3,a4⟩:=KO hi hp hf e k;obtain⟨p,w',G',r1,r2,r3,r4,r5⟩:=RR (P:=P) (ty:=ty) a3 ff iU P6 jJ Gq iO hk (n:=s.h.length) (xs:=xs) (ys:=ys) (by simp) a4 iH (hr.ba a1.S a1.cell) hs hm hb;rw[ada]at r4;exact⟨p,w',G',_,_,r1,a1.trans (r2.less a2),agL a2 r3,r4,r5,hC⟩
   split at h2
   ·rename_i m xs
    split at h2
    ·rename_i e2 k2 len hm
     obtain⟨eZ,rfl,iH,nH,hb,hC⟩:=bY.1 h2;simp only[agv,beq_iff_eq]at eZ;obtain⟨rfl,rfl⟩:=eZ;obtain⟨p,w',G',r1,r2,r3,r4,r5⟩:=RR (P:=P) (ty:=ty) hi ff iU P6 jJ Gq iO hk hm hu iH hr hs nH hb;exact⟨p,w',G',_,_,r1,r2,r3,r4,r5,hC⟩
    ·exact h2.elim
   ·have:=hu.val;subst this;obtain⟨nH,hb,hC⟩:=h2;exact fresh [] BQ ⟨none,rfl⟩ (fun _ h=>by cases h) (by simpa using nH) (by simpa using hb) (by simpa using hC)
   ·rename_i xs
    obtain⟨iH,nH,hb,hC⟩:=h2;cases hu with
    |full _ hp hf=>exact fresh xs hp hf iH nH hb hC
   ·exact h2.elim
  ·exact h.elim
 ·exact h.elim
end
theorem Uc(off:Nat):∀(l:List Value)(k:Nat)(cs:Array Value),((l.zipIdx k).foldl (fun cs(p:Value×Nat)=>cs.setIfInBounds (off+p.2) p.1) cs).size=cs.size∧
 ∀i,off+k+l.length≤cs.size→((l.zipIdx k).foldl (fun cs(p:Value×Nat)=>cs.setIfInBounds (off+p.2) p.1) cs)[i]?=if off+k≤i∧i<off+k+l.length then l[i-(off+k)]? else cs[i]?
 |[],k,cs=>⟨rfl,fun i _=>by
    have h:¬(off+k≤i∧i<off+k+([]:List Value).length):=by simp
    rw[if_neg h];rfl⟩
 |u::l,k,cs=>by
  obtain⟨h1,h2⟩:=Uc off l (k+1) (cs.setIfInBounds (off+k) u);simp only[List.zipIdx_cons,List.foldl_cons];refine⟨by rw[h1];simp,fun i hi=> ?_⟩;simp only[agw]at hi ⊢;rw[h2 i (by simp;omega)];by_cases ha:off+(k+1)≤i∧i<off+(k+1)+l.length
  ·rw[if_pos ha,if_pos ⟨by omega,by omega⟩];rw[show i-(off+k)=i-(off+(k+1))+1 by omega,ag4]
  ·rw[if_neg ha];by_cases hb:i=off+k
   ·subst hb;rw[if_pos ⟨agE _,by omega⟩,Nat.sub_self,List.getElem?_cons_zero,Array.getElem?_setIfInBounds_self_of_lt (by omega)]
   ·rw[if_neg (by omega),Array.getElem?_setIfInBounds_ne (Ne.symm hb)]
section
variable {P:Program} {G:Gh} {w:World}
structure Row(G:Gh)(w:World)(vs:Array Value)(cs:List AV):Prop where
 len:vs.size=cs.length
 rel:∀(i:Nat)(u:Value)(c:AV),vs[i]?=some u→cs[i]?=some c→aG G w u c
 one:∀(i:Nat)(u:Value),vs[i]?=some u→u.oneCell'=true
theorem adW{vs us:Array Value}{cs ys:List AV}(h:Row G w vs cs)(h':Row G w us ys){off:Nat}(hb:off+ys.length≤cs.length):
 Row G w (us.zipIdx.foldl (fun cs(p:Value×Nat)=>cs.setIfInBounds (off+p.2) p.1) vs) (gy cs off ys):=by
 have e:us.zipIdx.foldl (fun cs(p:Value×Nat)=>cs.setIfInBounds (off+p.2) p.1) vs=(us.toList.zipIdx 0).foldl (fun cs(p:Value×Nat)=>cs.setIfInBounds (off+p.2) p.1) vs:=by
  rw[←Array.foldl_toList,Array.toList_zipIdx]
 obtain⟨h1,h2⟩:=Uc off us.toList 0 vs;rw[←e]at h1 h2;have hl:us.toList.length=ys.length:=by rw[ag0,h'.len]
 have hle:off+0+us.toList.length≤vs.size:=by rw[hl,h.len];omega
 have hs:∀i,(gy cs off ys)[i]?=if off+0≤i∧i<off+0+us.toList.length then ys[i-off]? else cs[i]?:=fun i=>by
  unfold gy;rw[agK];by_cases ha:i<off
  ·rw[agD (by simp;omega),List.getElem?_take_of_lt ha,if_neg (by omega)]
  ·rw[agJ (by simp;omega)];simp only[List.length_take];rw[Nat.min_eq_left (by omega)];by_cases hb:i-off<ys.length
   ·rw[agD hb,if_pos (by omega)]
   ·rw[agJ (by omega),List.getElem?_drop,if_neg (by omega),show off+ys.length+(i-off-ys.length)=i by omega]
 refine⟨by rw[h1,CW _ _ _ hb,h.len],fun i u c hu hc=> ?_,fun i u hu=> ?_⟩
 ·rw[h2 i hle]at hu;rw[hs]at hc;split at hu
  ·rename_i hp
   rw[if_pos hp]at hc;exact h'.rel _ _ _ (by rw[←agQ];exact hu) hc
  ·rename_i hp
   rw[if_neg hp]at hc;exact h.rel _ _ _ hu hc
 ·rw[h2 i hle]at hu;split at hu
  ·exact h'.one _ _ (by rw[←agQ];exact hu)
  ·exact h.one _ _ hu
theorem aG.QS{u:Value}{x:AV}(h:aG G w u x)(hb:x.iy=true):Row G w u.cells x.cells:=by
 obtain⟨h1,h2⟩:=h.cells hb;refine⟨h1,fun i v c hv hc=>(h2 i v c hv hc).1,fun i v hv=> ?_⟩;have aO:i<x.cells.length:=by rw[←h1];exact(agI.1 hv).1
 exact(h2 i v _ hv (agx aO)).2
theorem Ix(place:Nat→Option (Nat×Nat))(places:List (Nat×Nat))(hp:∀i pl,places[i]?=some pl→place i=some pl):∀(ps:List (Nat×AV))(qs:List (Nat×Value))(cs cp:List AV)(vs:Array Value),Row G w vs cs→
 qs.length=ps.length→(∀(i:Nat)(p:Nat×AV)(q:Nat×Value),ps[i]?=some p→qs[i]?=some q→q.1=p.1∧aG G w q.2 p.2)→(ps.all fun p=>p.2.iy)=true→ni places cs ps=some cp→
 ∃fW,Instr.fill place vs qs=some fW∧Row G w fW cp
 |[],[],cs,cp,vs,h,_,_,_,hf=>by
  simp only[ni,Option.some.injEq]at hf;subst hf;exact⟨vs,rfl,h⟩
 |[],_::_,_,_,_,_,hl,_,_,_=>by simp at hl
 |_::_,[],_,_,_,_,hl,_,_,_=>by simp at hl
 |(j,x)::ps,(j',u)::qs,cs,cp,vs,h,hl,hr,hb,hf=>by
  obtain⟨e1,e2⟩:=hr 0 (j,x) (j',u) rfl rfl;simp only at e1 e2;subst e1;simp only[ahd,agv]at hb;unfold ni at hf;split at hf
  ·rename_i off k Cs
   rw[cond_eq_ite]at hf;split at hf
   ·rename_i hc
    simp only[agv,beq_iff_eq,cZ]at hc;have mO:=e2.QS hb.1;obtain⟨fW,h1,h2⟩:=Ix place places hp ps qs _ cp _ (adW h mO (by rw[hc.1];exact hc.2)) (by simpa using hl) (fun i p q hp hq=>hr (i+1) p q (by simpa using hp) (by simpa using hq)) hb.2 hf;refine⟨fW,?_,h2⟩;unfold Instr.fill;rw[hp _ _ Cs];have h3:¬(u.cells.size≠k||decide (off+u.cells.size>vs.size))=true:=by
     rw[mO.len,hc.1,h.len];simp;exact hc.2
    simp only[h3];exact h1
   ·cases hf
  ·cases hf
theorem Vd{z:Array Value}(h:z.toList.all Value.oneCell'=true):z.all (·.oneCell')=true:=by
 rw[agT]at h;exact Array.all_eq_true_iff_forall_mem.2 fun u hu=>h u (Array.mem_toList_iff.2 hu)
theorem Yu(z:Value)(h:z.cells.all (·.oneCell')=true):Row G w z.cells (z.cells.toList.map fun u=> .d (.v u)):=by
 refine⟨by simp,fun i u c hu hc=> ?_,fun i u hu=>Array.all_eq_true_iff_forall_mem.1 h u (Array.mem_of_getElem? hu)⟩;rw[agA,agQ,hu]at hc;cases hc
 exact .d (.v u)
theorem OQ:∀(fs:List Field)(ps:List (Nat×Nat))(w:World),Cm P fs=some ps→(fs.mapM (m:=Sem) fun f=>do pure (f.offset,←sizeOf f.type)).run P w= .ok ps w
 |[],ps,w,h=>by simp [Cm]at h;subst h;simp
 |f::fs,ps,w,h=>by
  unfold Cm at h;simp only[List.mapM_cons,Option.bind_eq_bind,Option.bind_eq_some_iff,Option.map_eq_some_iff,Option.pure_def,Option.some.injEq]at h;obtain⟨p,⟨k,hk,rfl⟩,qs,hq,rfl⟩:=h;have ih:=OQ fs qs w hq;simp only[List.mapM_cons,Sem.run_bind,lC hk,Sem.run_pure,Result.andThen_ok,ih]
theorem XW{T:Nat}{ps:List (Nat×AV)}{qs:Array (Nat×Value)}{C:AV→Prop}(hl:qs.toList.length=ps.length)
 (hr:∀(i:Nat)(p:Nat×AV)(q:Nat×Value),ps[i]?=some p→qs.toList[i]?=some q→q.1=p.1∧aG G w q.2 p.2) (h:wL P T ps C):∃u y,(Instr.build T qs).run P w= .ok u w∧aG G w u y∧C y:=by
 unfold wL at h;split at h
 ·rename_i places z Ig hz
  obtain⟨fs,hT,Cs⟩:∃fs,P.underlying T=some (.struct fs)∧Cm P fs.toList=some places:=by
   unfold LL at Ig;split at Ig
   ·exact⟨_,by assumption,Ig⟩
   ·cases Ig
  ·split at h
   ·rename_i cs hf
    obtain⟨eZ,hC⟩:=bY.1 h;simp only[agv]at eZ;obtain⟨hb,fw⟩:=eZ;have fw:=Vd fw;have fM:(fs.mapM (m:=Sem) fun f=>do pure (f.offset,←sizeOf f.type)).run P w= .ok places.toArray w:=by
     rw[Array.mapM_eq_mapM_toList];have:=OQ fs.toList places w Cs;have e:(Functor.map List.toArray (fs.toList.mapM (m:=Sem) fun f=>do pure (f.offset,←sizeOf f.type)):Sem _)=(fs.toList.mapM (m:=Sem) fun f=>do pure (f.offset,←sizeOf f.type))>>=fun l=>pure l.toArray:=rfl;rw[e,Sem.run_bind,this];rfl
    obtain⟨fW,h1,h2⟩:=Ix (fun i=>places.toArray[i]?) places (fun i pl h=>by simpa using h) ps qs.toList _ cs z.cells (Yu (G:=G) (w:=w) z fw) hl hr hb hf;refine⟨.agg fW, .agg cs,?_, .agg fW cs h2.len h2.rel,hC⟩;unfold Instr.build;simp only[Sem.run_bind,Fg hz,Result.andThen_ok,run_underlying hT,fM,h1,Sem.run_pure]
   ·exact h.elim
 ·exact h.elim
theorem RZ{T:Nat}(h:yI P T=true):P.underlying T=some .bool:=by
 unfold yI at h;split at h
 ·assumption
 ·cases h
theorem FG{T:Nat}{k:IntKind}(h:oz P T=some k):P.underlying T=some (.int k):=by
 unfold oz at h;split at h
 ·cases h;assumption
 ·cases h
theorem Rs{t off:Nat}{vs:Array Value}{u:Value}(ha:kW P t=some false)(hu:vs[off]?=some u):(part t vs off).run P w= .ok u w:=by
 unfold part;rw[Sem.run_bind,DE ha w];simp [hu]
theorem Wj{t:Nat}{u v:Value}{x y:AV}{b:Bool}(d:Nat)(hu:aG G w u x)(hv:aG G w v y)(h:El P t x y=some b):(Op.equalIn (d+1) t u v).run P w= .ok b w:=by
 unfold El at h;split at h
 ·have e1:=hu.val;have e2:=hv.val;subst e1;subst e2
  rename_i k a k' b'
  cases hc:xu k k'&&(oz P t).isSome with
  |false=>rw[hc]at h;cases h
  |true=>
   rw[hc]at h;cases h;rw[agv,K6]at hc;obtain⟨rfl,hc⟩:=hc;obtain⟨k2,hk⟩:=Option.isSome_iff_exists.1 hc;exact run_equalIn_int w d t k k2 a b' (FG hk)
 ·have e1:=hu.val;have e2:=hv.val;subst e1;subst e2;cases hc:gr P t with
  |false=>rw[hc]at h;cases h
  |true=>rw[hc]at h;cases h;rw[←Mc,←Mc];exact run_equalIn_string w d t _ _ (q6 hc)
 ·have e1:=hu.val;have e2:=hv.val;subst e1;subst e2;cases hc:yI P t with
  |false=>rw[hc]at h;cases h
  |true=>rw[hc]at h;cases h;exact run_equalIn_bool w d t _ _ (RZ hc)
 ·cases h
theorem aa6{t off k:Nat}{vs:Array Value}(ha:kW P t=some true)(hk:fA P t=some k):(part t vs off).run P w= .ok (.agg (vs.extract off (off+k))) w:=by
 unfold part;rw[Sem.run_bind,DE ha w];simp [lC hk]
theorem Ug{us:Array Value}{xs:List AV}{off k:Nat}(hx:us.size=xs.length)(hb:off+k≤xs.length)(hu:∀(i:Nat)(u:Value)(c:AV),us[i]?=some u→xs[i]?=some c→aG G w u c):
 (us.extract off (off+k)).size=((xs.drop off).take k).length∧∀(i:Nat)(u:Value)(c:AV),(us.extract off (off+k))[i]?=some u→((xs.drop off).take k)[i]?=some c→aG G w u c:=by
 refine⟨by simp;omega,fun i u c h1 h2=> ?_⟩;rw[List.getElem?_take]at h2;split at h2
 ·next hi=>
  rw[List.getElem?_drop]at h2;rw[Array.getElem?_extract]at h1;split at h1
  ·exact hu _ _ _ h1 h2
  ·cases h1
 ·cases h2
theorem Gt{sub:TypeId→List AV→List AV→Option Bool}(d:Nat)
 (A6:∀(T:Nat)(us vs:Array Value)(xs ys:List AV)(b:Bool),us.size=xs.length→vs.size=ys.length→(∀(i:Nat)(u:Value)(c:AV),us[i]?=some u→xs[i]?=some c→aG G w u c)→(∀(i:Nat)(u:Value)(c:AV),vs[i]?=some u→ys[i]?=some c→aG G w u c)→sub T xs ys=some b→(Op.equalIn (d+1) T (.agg us) (.agg vs)).run P w= .ok b w)
 {us vs:Array Value} {xs ys:List AV} (hx:us.size=xs.length) (hy:vs.size=ys.length)
 (hu:∀(i:Nat)(u:Value)(c:AV),us[i]?=some u→xs[i]?=some c→aG G w u c) (hv:∀(i:Nat)(u:Value)(c:AV),vs[i]?=some u→ys[i]?=some c→aG G w u c):
 ∀(fs:List Field)(b:Bool),As P sub fs xs ys=some b→(Op.eqFields (d+1) us vs fs).run P w= .ok b w
 |[],b,h=>by cases h;simp [Op.eqFields]
 |f::fs,b,h=>by
  unfold As at h;cases hn:f.name== "_" with
  |true=>rw[hn]at h;cases h
  |false=>
   rw[hn]at h;simp only[cond_false]at h;have da:f.name≠ "_" :=by simpa using hn
   split at h
   ·next e1=>
    split at h
    ·next x y e2 e3=>
     split at h
     ·next a c e4 e5=>
      cases h
      have l1:f.offset<us.size:=by rw[hx];exact(agt.1 e2).1
      have l2:f.offset<vs.size:=by rw[hy];exact(agt.1 e3).1
      have g1:=agP l1;have g2:=agP l2;simp only[Op.eqFields,if_pos da,Sem.run_bind,Rs (w:=w) e1 g1,Rs (w:=w) e1 g2,Result.andThen_ok,Wj d (hu _ _ _ g1 e2) (hv _ _ _ g2 e3) e4];cases a with
      |true=>simp only[Bool.not_true,Bool.false_eq_true,if_false,Bool.true_and];exact Gt d A6 hx hy hu hv fs c e5
      |false=>simp
     ·cases h
    ·cases h
   ·next e1=>
    split at h
    ·next k e2=>
     cases lV:cd (f.offset+k) xs.length&&cd (f.offset+k) ys.length with
     |false=>rw[lV]at h;cases h
     |true=>
      rw[lV]at h;rw[agv,cZ,cZ]at lV;simp only[cond_true]at h;split at h
      ·next a c e4 e5=>
       cases h
       obtain⟨p1,p2⟩:=Ug hx lV.1 hu;obtain⟨q1,q2⟩:=Ug hy lV.2 hv;simp only[Op.eqFields,if_pos da,Sem.run_bind,aa6 (w:=w) e1 e2,Result.andThen_ok,A6 _ _ _ _ _ a p1 q1 p2 q2 e4];cases a with
       |true=>simp only[Bool.not_true,Bool.false_eq_true,if_false,Bool.true_and];exact Gt d A6 hx hy hu hv fs c e5
       |false=>simp
      ·cases h
    ·cases h
   ·cases h
theorem Re:∀(n d:Nat)(T:Nat)(us vs:Array Value)(xs ys:List AV)(b:Bool),us.size=xs.length→vs.size=ys.length→(∀(i:Nat)(u:Value)(c:AV),us[i]?=some u→xs[i]?=some c→aG G w u c)→(∀(i:Nat)(u:Value)(c:AV),vs[i]?=some u→ys[i]?=some c→aG G w u c)→Gs P n T xs ys=some b→(Op.equalIn (d+n+1) T (.agg us) (.agg vs)).run P w= .ok b w
 |0,_,_,_,_,_,_,_,_,_,_,_,h=>by cases h
 |n+1,d,T,us,vs,xs,ys,b,hx,hy,hu,hv,h=>by
  unfold Gs at h;split at h
  ·next fs hT=>
   cases hc:P.stoodInHeld T with
   |true=>rw[hc]at h;cases h
   |false=>
    rw[hc]at h;have hf:P.fieldsOf T=fs:=by unfold Program.fieldsOf;rw[hT]
    rw[show d+(n+1)+1=(d+n+1)+1 by omega,run_equalIn_struct w (d+n+1) T us vs (by rw[hf];exact hT) hc,hf];exact Gt (d+n) (fun T' LB fW Mw J9 b'=>Re n d T' LB fW Mw J9 b') hx hy hu hv _ b h
  ·cases h
theorem aeE{T:Nat}{us vs:Array Value}{xs ys:List AV}{b:Bool}(hx:us.size=xs.length)(hy:vs.size=ys.length)
 (hu:∀(i:Nat)(u:Value)(c:AV),us[i]?=some u→xs[i]?=some c→aG G w u c) (hv:∀(i:Nat)(u:Value)(c:AV),vs[i]?=some u→ys[i]?=some c→aG G w u c) (h:Gn P T xs ys=some b):
 P.eqGuardType P.depth T=false∧(Op.equalIn 10000 T (.agg us) (.agg vs)).run P w= .ok b w:=by
 unfold Gn at h;split at h
 ·next fs hT=>
  cases hc:P.stoodInHeld T||P.eqGuardType P.depth T with
  |true=>rw[hc]at h;cases h
  |false=>
   rw[hc]at h;rw[ahg]at hc;refine⟨hc.2,?_⟩;have hf:P.fieldsOf T=fs:=by unfold Program.fieldsOf;rw[hT]
   rw[run_equalIn_struct w 9999 T us vs (by rw[hf];exact hT) hc.1,hf];exact Gt 9998 (fun T' LB fW Mw J9 b'=>Re 4 9994 T' LB fW Mw J9 b') hx hy hu hv _ b h
 ·cases h
theorem ab7{op:BinOp}{x y:AV}{u v:Value}{T:Nat}{X Y:Operand}{C:AV→Prop}(hu:aG G w u x)(hv:aG G w v y)(h:wq P T op x y C):
 ∃r z,(do eqGuard op T X Y u v;binOp op T u v:Sem Value).run P w= .ok r w∧aG G w r z∧C z:=by
 unfold wq at h;split at h
 ·rename_i k a k' b
  have e1:=hu.val;have e2:=hv.val;subst e1;subst e2;have hg:(eqGuard op T X Y (.int k a) (.int k' b)).run P w= .ok () w:=by unfold eqGuard;cases op<;>simp
  rw[Sem.run_bind,hg];simp only[Result.andThen_ok];split at h
  ·rename_i z hq
   obtain⟨tT,hp,hC⟩:=bY.1 h;rw[K6]at tT;subst tT;refine⟨z,_,?_, .d (.v z),hC⟩;cases op<;>simp [I6]at hq<;>subst hq<;>simp [binOp,Op.intDiv,hp]
  ·split at h
   ·rename_i z hq
    refine⟨z,_,?_, .d (.v z),h.2⟩;have hb:¬b<0:=by omega
    cases op<;>simp [KX]at hq<;>subst hq<;>simp [binOp,Op.shift,hb]
   ·split at h
    ·rename_i z hq
     obtain⟨tT,hC⟩:=bY.1 h;rw[K6]at tT;subst tT;refine⟨z,_,?_, .d (.v z),hC⟩;cases op<;>simp [Ll]at hq<;>subst hq<;>simp [binOp,Op.intArith,Op.intCmp,Op.intBits]
    ·exact h.elim
 ·rename_i a b
  have e1:=hu.val;have e2:=hv.val;subst e1;subst e2;have hg:(eqGuard op T X Y (.string a) (.string b)).run P w= .ok () w:=by unfold eqGuard;cases op<;>simp
  rw[Sem.run_bind,hg];simp only[Result.andThen_ok];split at h
  ·rename_i z hq
   refine⟨z,_,?_, .d (.v z),h⟩;cases op<;>simp [Kx]at hq<;>subst hq<;>simp [binOp,Op.stringOp,Mc]
  ·split at h
   ·refine⟨_,_,?_, .d (.v _),h.2⟩;have hm:¬(((a.size+b.size:Nat):Int)>IntKind.i64.max):=by
     have:=h.1;unfold maxLen at this;have e:IntKind.i64.max=9223372036854775807:=by decide
     rw[e];omega
    simp only[binOp,Op.stringOp];rw[if_neg hm];rfl
   ·exact h.elim
 ·rename_i a b
  have e1:=hu.val;have e2:=hv.val;subst e1;subst e2;have hg:(eqGuard op T X Y (.bool a) (.bool b)).run P w= .ok () w:=by unfold eqGuard;cases op<;>simp
  rw[Sem.run_bind,hg];simp only[Result.andThen_ok];split at h
  ·rename_i z hq
   obtain⟨hT,hC⟩:=bY.1 h;have hT:=RZ hT;refine⟨z,_,?_, .d (.v z),hC⟩;have hb:=run_equalIn_bool (P:=P) w 9999 T a b hT;cases op<;>simp [L2]at hq<;>subst hq<;>simp [binOp,Op.equal,Op.maxDepth,hb]
  ·exact h.elim
 ·rename_i xs ys
  cases hu with
  |agg us _ Co sZ=>
   cases hv with
   |agg vs _ zL GB=>
    split at h
    ·next b hb=>
     obtain⟨hg,he⟩:=aeE Co zL sZ GB hb;rw[Sem.run_bind,run_eqGuard_agg w op T X Y us vs hg];simp only[Result.andThen_ok];split at h
     ·next z hz=>
      refine⟨z,_,?_, .d (.v z),h⟩;cases op<;>simp [ql]at hz<;>subst hz
      ·rw[run_eql_struct,he];rfl
      ·rw[run_neq_struct,he];rfl
     ·exact h.elim
    ·exact h.elim
 ·exact h.elim
theorem acQ{op:UnOp}{x:AV}{u:Value}{C:AV→Prop}(hu:aG G w u x)(h:w5 op x C):∃r z,(Op.unary op u).run P w= .ok r w∧aG G w r z∧C z:=by
 unfold w5 at h;split at h
 ·rename_i v
  have e:=hu.val;subst e;split at h
  ·rename_i z hq
   refine⟨z,_,?_, .d (.v z),h⟩;unfold Ho at hq;split at hq
   ·cases hq;simp [Op.unary]
   ·cases hq;simp [Op.unary,Op.intArith]
   ·cases hq;simp [Op.unary,Op.intBits]
   ·cases hq
  ·exact h.elim
 ·exact h.elim
theorem abC{T:Nat}(h:DR P T=true):P.underlying T=some (.int .u8):=by
 unfold DR at h;split at h
 ·assumption
 ·cases h
theorem acb{a b:Nat}{x:AV}{u:Value}{C:AV→Prop}(hu:aG G w u x)(h:qp P a b x C):∃r z,(convert a b u).run P w= .ok r w∧aG G w r z∧C z:=by
 unfold qp at h;split at h
 ·rename_i k2 m
  have e:=hu.val;subst e;split at h
  ·rename_i k1 k h1 h2
   refine⟨_,_,?_, .d (.v _),h⟩;simp [convert,run_underlying (FG h1),run_underlying (FG h2),Conv.intToInt]
  ·exact h.elim
 ·rename_i s
  have e:=hu.val;subst e;obtain⟨eZ,hC⟩:=bY.1 h;rw[agv]at eZ;refine⟨_,_,?_, .d (.v _),hC⟩;simp [convert,run_underlying (q6 eZ.1),run_underlying (q6 eZ.2)]
 ·split at h
  ·rename_i xs e k kR hT
   obtain⟨eZ,ns,rfl,hC⟩:=bY.1 h;rw[agv]at eZ;refine⟨_,_,?_, .d (.v _),hC⟩;obtain⟨A,bb,o,cc,k',us,rfl,hA,kr,qq,lJ,hS,kM⟩:=(hu.list kR).nW;rw[run_convert_bytes_string w a b e A _ cc (jm hT).1 (abC eZ.1) (q6 eZ.2)];simp only[agy]at hA kr hS ⊢;cases ns with
   |nil=>
    cases A with
    |none=>rfl
    |some ad=>
     have hl:=run_loadCells_list (P:=P) w ad (([]:List Int).map (Value.int .u8)) (fun j v hj=>by simp at hj);simp only[List.map_nil,agF]at hl;have:=run_bytesToString (P:=P) w ad 0 cc [] (by simpa using hl);exact this
   |cons n0 ns=>
    have tB:=hA (by simp);subst tB;have mD:k'=1:=(lJ [.v (.int .u8 n0)] (by simp)).symm;subst mD;have hl:=run_loadCells_list (P:=P) w ⟨bb,o,none⟩ ((n0::ns).map (Value.int .u8)) (fun j v hj=>by
     have aO:=(agt.1 hj).1;rw[agy]at aO;have h1:=(hS j 0 aO (by omega)).2.1;rw[agA,agx aO]at hj;cases hj
     have h2:=kM j 0 [.v (.int .u8 ((n0::ns)[j]))] (.v (.int .u8 ((n0::ns)[j]))) (by rw[agA,agx aO];rfl) rfl;have h3:us j 0= .int .u8 ((n0::ns)[j]):=by
      generalize us j 0=q at h2;cases h2;rfl
     rw[kG];rw[h3]at h1
     simpa using h1)
    rw[agy]at hl;rw[run_bytesToString w _ _ cc _ hl];have key:∀(l:List Int)(r:ByteArray),l.foldl (fun r n=>r.push (UInt8.ofNat n.toNat)) r=⟨r.data++(l.map fun n=>UInt8.ofNat n.toNat).toArray⟩:=by
      intro l
      induction l with
      |nil=>intro r;simp
      |cons x l ih=>intro r;rw[List.foldl_cons,ih];simp [ByteArray.push]
    rw[key];have Cc:ByteArray.empty.data= #[]:=rfl;rw[Cc];simp
  ·exact h.elim
theorem I5{T f off k:Nat}{g:Bool}(h:pe P T f=some (off,k,g)):∃fs fd,P.underlying T=some (.struct fs)∧fs[f]?=some fd∧fA P fd.type=some k∧0<k∧kW P fd.type=some g∧fd.offset=off:=by
 unfold pe at h;split at h
 ·rename_i fs hT
  split at h
  ·rename_i fd hf
   split at h
   ·rename_i k' g' h1 h2
    cases h
    exact⟨fs,fd,hT,hf,h1,Nat.succ_pos _,h2,rfl⟩
   ·cases h
  ·cases h
 ·cases h
theorem Mh{T f off k o b:Nat}{g:Bool}(h:pe P T f=some (off,k,g)):(Instr.fieldAt T (.pointer (some ⟨b,o,none⟩)) f).run P w= .ok (.pointer (some ⟨b,o+off,none⟩)) w:=by
 obtain⟨fs,fd,h1,h2,h3,h4,h5,rfl⟩:=I5 h;simp [Instr.fieldAt,run_underlying h1,h2,Instr.sureAddr,fieldPlace,lC h3,Nat.ne_of_gt h4,kG]
theorem aaj{T f:Nat}{x:AV}{u:Value}{C:AV→Prop}(hu:aG G w u x)(h:wF P T x f C):∃r z,(Instr.field T u f).run P w= .ok r w∧aG G w r z∧C z:=by
 unfold wF at h;split at h
 ·rename_i off k cs hT
  obtain⟨hl,hC⟩:=bY.1 h;rw[cZ]at hl;obtain⟨fs,fd,h1,h2,h3,h4,h5,rfl⟩:=I5 hT;cases hu with
  |agg vs _ hlen hr=>
   refine⟨.agg (vs.extract fd.offset (fd.offset+k)),_,?_, .agg _ _ ?_ fun i u c hu hc=> ?_,hC⟩
   ·simp [Instr.field,run_underlying h1,h2,asAgg,part,DE h5,lC h3]
   ·simp;omega
   ·rw[Array.getElem?_extract]at hu;rw[List.getElem?_take]at hc;split at hc
    ·rw[List.getElem?_drop]at hc;split at hu
     ·exact hr _ u c hu hc
     ·cases hu
    ·cases hc
 ·rename_i off k cs hT
  obtain⟨fs,fd,h1,h2,h3,h4,h5,rfl⟩:=I5 hT;split at h
  ·rename_i c hc
   cases hu with
   |agg vs _ hlen hr=>
    have aO:fd.offset<vs.size:=by rw[hlen];exact(agt.1 hc).1
    refine⟨vs[fd.offset],c,?_,hr _ _ c (agP aO) hc,h⟩;simp [Instr.field,run_underlying h1,h2,asAgg,part,DE h5,agP aO]
  ·exact h.elim
 ·exact h.elim
end
def Gh.wD(G:Gh)(b m:Nat):Gh:={G with S:=fun c o=>G.S c o∨(c=b∧o<m)}
theorem aaF{G:Gh}{w:World}{h:List ak}(hi:cf G w h)(ob:Obj)(m:Nat):bZ G.N G w (G.wD w.heap.size m) (w.alloc ob)∧cf (G.wD w.heap.size m) (w.alloc ob) h:=by
 have hE:bZ G.N G w (G.wD w.heap.size m) (w.alloc ob):=
  ⟨by simp,fun _ _ h=> .inl h,fun b _ h=>World.cell?_alloc_lt _ _ _ (hi.S _ _ h),fun _ _=>rfl,fun _ _=> .inl ⟨rfl,rfl⟩,gq rfl,fun b hb=>Below.heap_alloc w ob b (hi.z b hb),rfl,rfl,rfl,fun b o hs=>hs.imp id fun⟨e,_⟩ hz=>ag7 _ (hi.z _ (e▸hz))⟩
 refine⟨hE,hi.len,fun b hb=>agR (hi.z b hb) hE.size,fun b o hs=> ?_,fun n B hB=> ?_,fun m n b h1 h2=>hi.inj m n b h1 h2,hi.gl.ba hE⟩
 ·rcases hs with hs|⟨rfl,_⟩
  ·exact agR (hi.S b o hs) hE.size
  ·simp
 ·refine eB.ba (hi.lt hB) hE (agE _) ⟨rfl,rfl,rfl⟩ (fun b hb=> ?_) (hi.dp n B hB);have aO:=hi.hO (n:=n) (b:=b) ((dU hB).trans hb);refine⟨Below.heap_alloc w _ _ aO,fun o kx hs=> ?_⟩;rcases hs with hs|⟨e,_⟩
  ·exact kx hs
  ·omega
theorem Qp(k:Nat):∀(n o i:Nat)(pl:Nat×Nat),(rO k o n)[i]?=some pl→pl=(o+i*k,k)
 |0,_,_,_,h=>by simp [rO]at h
 |n+1,o,0,pl,h=>by simp [rO]at h;rw[←h];simp
 |n+1,o,i+1,pl,h=>by
  have:=Qp k n (o+k) i pl (by simpa [rO]using h);rw[this,Nat.add_mul];simp;omega
theorem Rq(l:List AV):∀n,(qI n l).length=n*l.length
 |0=>by simp [qI]
 |n+1=>by rw[qI,agu,Rq l n,Nat.add_mul];omega
theorem QW(l:List AV):∀(n i:Nat),i<n*l.length→(qI n l)[i]?=l[i%l.length]?
 |0,i,h=>by omega
 |n+1,i,h=>by
  rw[qI];by_cases hi:i<l.length
  ·rw[agD hi,Nat.mod_eq_of_lt hi]
  ·rw[agJ (by omega),QW l n _ (by rw[Nat.add_mul]at h;omega),←Nat.mod_eq_sub_mod (by omega)]
theorem acI(z:Value){k:Nat}(hz:z.cells.size=k)(n:Nat):qI n (z.cells.toList.map fun u=> .d (.v u))=(List.range (n*k)).map fun i=> .d (.v (z.cells[i%z.cells.size]!)):=by
 have hl:(z.cells.toList.map fun u=>AV.d (.v u)).length=k:=by simp [hz]
 refine List.ext_getElem? fun i=> ?_;by_cases hi:i<n*k
 ·rw[QW _ _ _ (by rw[hl];exact hi),agA,agA,List.getElem?_range hi,hl,hz,agQ];have hk:0<k:=Nat.pos_of_ne_zero fun e=>by subst e;simp at hi
  have aO:i%k<z.cells.size:=by rw[hz];exact Nat.mod_lt _ hk
  rw[agP aO];simp only[Option.map_some];rw[getElem!_pos z.cells (i%k) aO]
 ·rw[agZ (by rw[Rq,hl];omega),agZ (by simp;omega)]
theorem OV:∀{ps:List (Nat×AV)}{places:List (Nat×Nat)}{cs cp:List AV},ni places cs ps=some cp→cp.length=cs.length
 |[],_,_,_,h=>by simp only[ni,Option.some.injEq]at h;rw[h]
 |(i,x)::ps,places,cs,cp,h=>by
  unfold ni at h;split at h
  ·rw[cond_eq_ite]at h;split at h
   ·rename_i hc
    simp only[agv,beq_iff_eq,cZ]at hc;rw[OV h,CW _ _ _ (by rw[hc.1];exact hc.2)]
   ·cases h
  ·cases h
section
variable {P:Program} {r:Option Nat} {n N0:Nat} {G:Gh} {w:World} {a:Act} {s:St} {o:Oper} {K:St→Prop} {Q:Exit→Act→World→Prop}
theorem VR{T len:Nat}{h:List ak}{ps:List (Nat×AV)}{qs:Array (Nat×Value)}{C:AV→Prop}(hi:cf G w h)(hl:qs.toList.length=ps.length)
 (hr:∀(i:Nat)(p:Nat×AV)(q:Nat×Value),ps[i]?=some p→qs.toList[i]?=some q→q.1=p.1∧aG G w q.2 p.2) (hC:wJ P T len ps C):
 ∃u w' G' y,(Instr.buildSlice T len qs).run P w= .ok u w'∧bZ G.N G w G' w'∧G.N≤G'.N∧cf G' w' h∧aG G' w' u y∧C y:=by
 unfold wJ at hC;split at hC
 ·rename_i e k hT
  obtain⟨ff,fB⟩:=jm hT;split at hC
  ·rename_i z hz
   split at hC
   ·rename_i cs hf
    split at hC
    ·rename_i ds s7
     obtain⟨eZ,hC⟩:=bY.1 hC;simp only[agv,beq_iff_eq,cZ,ag0]at eZ;obtain⟨⟨⟨⟨hk,hsm⟩,iO⟩,fw⟩,hb⟩:=eZ;have fw:=Vd fw;rw[acI z iO]at hf;have Cs:=Qp k;obtain⟨z0,w9⟩:∃z0:Array Value,z0=if len*k=0 then #[]else z.cells:=⟨_,rfl⟩
     obtain⟨zr,BA⟩:∃zr:Array Value,zr=(Array.range (len*k)).map (z0[·%z0.size]!):=⟨_,rfl⟩;have mO:Row G w zr ((List.range (len*k)).map fun i=> .d (.v (z.cells[i%z.cells.size]!))):=by
      have Cr:∀i,i<len*k→z0[i%z0.size]! =z.cells[i%z.cells.size]! :=fun i hi=>by rw[w9,if_neg (by omega)]
      refine⟨by rw[BA];simp,fun i u c hu hc=> ?_,fun i u hu=> ?_⟩
      ·rw[BA,Array.getElem?_map]at hu;rw[agA]at hc;by_cases hi:i<len*k
       ·rw[List.getElem?_range hi]at hc;rw[Array.getElem?_range,if_pos hi]at hu;simp only[Option.map_some,Option.some.injEq]at hu hc;subst hu;subst hc;rw[Cr i hi];exact .d (.v _)
       ·rw[agZ (by simp;omega)]at hc;cases hc
      ·rw[BA,Array.getElem?_map]at hu;by_cases hi:i<len*k
       ·rw[Array.getElem?_range,if_pos hi]at hu;simp only[Option.map_some,Option.some.injEq]at hu;subst hu;rw[Cr i hi];have aO:i%z.cells.size<z.cells.size:=Nat.mod_lt _ (by omega);rw[getElem!_pos z.cells _ aO];exact Array.all_eq_true_iff_forall_mem.1 fw _ (Array.getElem_mem _)
       ·rw[Array.getElem?_eq_none (by simp;omega)]at hu;cases hu
     obtain⟨fW,h1,h2⟩:=Ix (fun i=>some (i*k,k)) (rO k 0 len) (fun i pl h=>by
      have:=Cs len 0 i pl h;rw[this];simp) ps qs.toList _ cs zr mO hl hr hb hf
     obtain⟨d1,d2⟩:=Li s7;have fY:cs.length=len*k:=by
      have:=OV hf;rw[this];simp
     have vC:fW.size=len*k:=by rw[h2.len,fY]
     obtain⟨i1,i2⟩:=aaF hi (.cells fW e) (len*k);have JK:Rd G.S w k (my k len ds) fW.toList:=Rt (by rw[d1,fY]) (by rw[ag0,vC]) (fun u hu=>by
      obtain⟨j,hj⟩:=List.mem_iff_getElem?.1 hu;exact h2.one j u (by rw[←agQ];exact hj)) (fun i u d hu hd=>by
      have aO:i<cs.length:=by rw[←d1];exact(agt.1 hd).1
      exact(h2.rel i u _ (by rw[←agQ];exact hu) (agx aO)).IW (d2 i _ d (agx aO) hd))
     have hp:dC (G.wD w.heap.size (len*k)).S (w.alloc (.cells fW e)) (.slice (some ⟨w.heap.size,0,none⟩) len len) (.sl (my k len ds)):=by
      have:=(JK.ba i1.S i1.cell).Lh w.heap.size len (by rw[qU];exact agE _) (by have:=Nat.le_mul_of_pos_right len hk;simp only[maxLen];omega) (fun o ho=> .inr ⟨rfl,by rw[qU]at ho;exact ho⟩) (fun o u hu=>by
       rw[World.cell?_alloc_new];rw[←agQ];exact hu)
      rwa [qU]at this
     refine⟨_,_,_,_,?_,i1,agE _,i2, .full _ hp ⟨some ⟨w.heap.size,0,none⟩,by rw[qU]⟩,hC⟩;have kx:¬(len*k>2^24):=by omega
     unfold Instr.buildSlice;simp only[Sem.run_bind,run_underlying ff,Result.andThen_ok,lC fB,kx,if_false];by_cases h0:len*k=0
     ·rw[if_pos h0]at w9;subst w9;subst BA;simp [h0]at h1;simp [h0,h1,newRow]
     ·rw[if_neg h0]at w9;subst w9;subst BA;simp [h0,Fg hz,h1,newRow]
    ·exact hC.elim
   ·exact hC.elim
  ·exact hC.elim
 ·exact hC.elim
end
section
variable {P:Program} {G:Gh} {w:World} {h:List ak}
theorem yK(k s:ByteArray)(d:D)(l:List (ByteArray×D)):jL ((k,d)::l) s=if k=s then some d else jL l s:=by
 have e1:jL ((k,d)::l) s=bif bL k==bL s then some d else jL l s:=rfl;rw[e1];by_cases e:k=s
 ·subst e;rw[if_pos rfl];simp
 ·rw[if_neg e];have:(bL k==bL s)=false:=by rw[beq_eq_false_iff_ne];exact fun he=>e (L7 he)
  rw[this];rfl
theorem Cy{T k e:TypeId}(h:o6 P T=some (k,e)):P.underlying T=some (.map k e):=by
 unfold o6 at h;split at h
 ·next k' e' hT=>cases h;exact hT
 ·cases h
theorem Vq(hi:cf G w h):bZ G.N G w (G.dD w.heap.size) (w.alloc (.map #[] 0))∧cf (G.dD w.heap.size) (w.alloc (.map #[] 0)) (h++[.map []])∧aG (G.dD w.heap.size) (w.alloc (.map #[] 0)) (.map (some w.heap.size)) (.mp h.length):=by
 have hE:=Aj G w hi.z hi.S (.map #[] 0);have hN:G.N≤(G.dD w.heap.size).N:=Nat.le_succ _;have gR:(G.dD w.heap.size).bo h.length=w.heap.size:=by simp [Gh.dD,hi.len]
 have lh:∀n(B:ak),n<G.N→B.ep (G.dD w.heap.size) n=B.ep G n:=fun n B hn=>by
  cases B<;>simp [ak.ep,Gh.dD,Nat.ne_of_lt hn]
 have gh:∀n,n<G.N→cl (h++[.map []]) (G.dD w.heap.size) n=cl h G n:=fun n hn=>by
  have aO:n<h.length:=by rw[hi.len];exact hn
  unfold cl;rw[agD aO,agx aO];exact lh n _ hn
 have xc:cl (h++[.map []]) (G.dD w.heap.size) h.length=some w.heap.size:=by
  rw[dU (B:= .map []) (by simp)];exact congrArg some gR
 refine⟨hE,⟨by simp [Gh.dD,hi.len],fun b hb=>agR (hi.z b hb) hE.size,fun b o hs=>agR (hi.S b o hs) hE.size,fun n B hB=> ?_,fun m n b hm hn=> ?_,hi.gl.ba hE⟩,?_⟩
 ·by_cases hn:n<h.length
  ·rw[agD hn]at hB;have eS:n<G.N:=hi.len▸hn;exact eB.ba eS hE hN ⟨rfl,rfl,rfl⟩ (fun b hb=>⟨Below.heap_alloc w _ _ (hi.hO (n:=n) ((dU hB).trans hb)),fun o h=>h⟩) (hi.dp n B hB)
  ·have k9:n=h.length:=by
    have:=(agt.1 hB).1;simp at this;omega
   subst k9;simp at hB;subst hB;exact⟨by rw[gR];exact fun hz=>ag7 _ (hi.z _ hz),fun o hs=>by rw[gR]at hs;exact ag7 _ (hi.S _ _ hs), #[],0,by rw[gR];exact World.alloc_heap_new w _,
    ⟨by simp,MapKept.stamped_empty 0,fun e he=>(by simp at he),fun s d hs=>(by cases hs),by simp,fun i e he=>(by simp at he),rfl⟩⟩
 ·have key:∀n b,cl (h++[.map []]) (G.dD w.heap.size) n=some b→(n<G.N∧cl h G n=some b)∨(n=h.length∧b=w.heap.size):=fun n b hn=>by
   by_cases aO:n<G.N
   ·exact .inl ⟨aO,by rw[←gh n aO];exact hn⟩
   ·by_cases e:n=h.length
    ·subst e;rw[xc]at hn;cases hn;exact .inr ⟨rfl,rfl⟩
    ·rw[xm (agZ (by simp;have:=hi.len;omega))]at hn;cases hn
  rcases key m b hm with⟨_,jD⟩|⟨rfl,rfl⟩<;>rcases key n _ hn with⟨_,eS⟩|⟨rfl,hb⟩
  ·exact hi.inj m n b jD eS
  ·have:=hi.hO jD;omega
  ·have:=hi.hO eS;omega
  ·rfl
 ·have:=aG.mp (G:=G.dD w.heap.size) (w:=w.alloc (.map #[] 0)) h.length (by simp [Gh.dD,hi.len])
  rwa [gR]at this
theorem qo{s:ByteArray}:MapKept.IsKey .string (.string s):=trivial
theorem Zx{T k e:TypeId}{z:Value}{n:Nat}{kv:List (ByteArray×D)}{s:ByteArray}{ok:Bool}(hi:cf G w h)(hT:o6 P T=some (k,e))(hz:gO P e=some z)(hk:gr P k=true)(hn:h[n]?=some (.map kv)):
 ∃v,(Instr.lookup T (.map (some (G.bo n))) (.string s) ok).run P w= .ok v w∧aG G w v (vE ok z (jL kv s)):=by
 obtain⟨_,_,es,clock,hh,hm⟩:=hi.dp n _ hn;have xy:∀x∈es.toList,MapKept.IsKey .string x.key:=fun x hx=>by
  obtain⟨s',d,h1,_⟩:=hm.xe x hx;rw[h1];exact qo
 have qn:=q6 hk;have one:∀(v:Value)(d:D)(b:Bool),dC G.S w v d→aG G w (if ok then .tuple #[v, .bool b]else v) (bif ok then .bX [.d d, .d (.v (.bool b))]else .d d):=fun v d b hp=>by
  cases ok with
  |false=>exact .d hp
  |true=>
   refine .bX #[v, .bool b] _ rfl fun i u c hu hc=> ?_
   match i with
   |0=>simp at hu hc;subst hu;subst hc;exact .d hp
   |1=>simp at hu hc;subst hu;subst hc;exact .d (.v _)
   |i+2=>simp at hu
 rcases MapKept.findNow_spec (qo (s:=s)) es.toList 0 xy with⟨h1,h2⟩|⟨j,e0,h1,h2,h3⟩
 ·have LW:jL kv s=none:=by
   cases hq:jL kv s with
   |none=>rfl
   |some d=>
    obtain⟨x,hx,iH⟩:=hm.all s d hq;exact absurd iH (h2 x hx)
  refine⟨if ok then .tuple #[z, .bool false]else z,?_,?_⟩
  ·simp [Instr.lookup,run_underlying (Cy hT),MapKept.run_getObj_map hh,MapKept.run_checkKey qn qo,MapKept.run_findKey qn h1,Fg hz,Result.andThen]
  ·rw[LW];have:=one z (.v z) false (.v z);unfold vE;exact this
 ·have iC:e0∈es.toList:=agG h2;obtain⟨s',d,k1,k2,k3⟩:=hm.xe e0 iC;rw[h3]at k1;cases k1
  refine⟨if ok then .tuple #[e0.val, .bool true]else e0.val,?_,?_⟩
  ·simp [Instr.lookup,run_underlying (Cy hT),MapKept.run_getObj_map hh,MapKept.run_checkKey qn qo,MapKept.run_findKey qn h1,Result.andThen]
  ·rw[k2];have:=one e0.val d true k3;unfold vE;exact this
theorem aar{T k e:TypeId}{n:Nat}{kv:List (ByteArray×D)}{s:ByteArray}{v:Value}{d:D}(hi:cf G w h)(hT:o6 P T=some (k,e))(hk:gr P k=true)(hn:h[n]?=some (.map kv))(hv:dC G.S w v d)(hlen:kv.length<maxLen):
 ∃w',(Instr.mapUpdate T (.map (some (G.bo n))) (.string s) v).run P w= .ok () w'∧bZ G.N G w G w'∧cf G w' (h.set n (.map ((s,d)::kv))):=by
 obtain⟨hZ,hS,es,clock,hh,hm⟩:=hi.dp n _ hn;have xy:∀x∈es.toList,MapKept.IsKey .string x.key:=fun x hx=>by
  obtain⟨s',d,h1,_⟩:=hm.xe x hx;rw[h1];exact qo
 have qn:=q6 hk;have fin:∀(uL:Array MapEntry)(CH:Nat)(w':World),w'=ChangeMaps.setBlock w (G.bo n) (.map uL CH)→uO G.S w uL CH ((s,d)::kv)→bZ G.N G w G w'∧cf G w' (h.set n (.map ((s,d)::kv))):=by
  intro uL CH w' eH jD;have ic:∀b,b≠G.bo n→w'.heap[b]?=w.heap[b]?:=fun b hb=>by rw[eH];exact ChangeMaps.heap_setBlock_other hh _ hb
  have IK:w'.heap[G.bo n]?=some (.map uL CH):=by rw[eH];exact ChangeMaps.heap_setBlock_same hh _
  have g7:w'.heap.size=w.heap.size:=by rw[eH];simp [ChangeMaps.setBlock]
  have fV:∀b o,G.S b o→w'.cell? ⟨b,o,none⟩=w.cell? ⟨b,o,none⟩:=fun b o hs=>World.cell?_of_block (ic b (fun e=>hS o (e▸hs)));have hE:bZ G.N G w G w':=⟨by rw[g7];exact agE _,fun _ _ h=>h,fV,fun _ _=>rfl,fun _ _=> .inl ⟨rfl,rfl⟩,gq rfl,fun b hb=>ic b (fun e=>hZ (e▸hb)),by rw[eH];rfl,by rw[eH];rfl,by rw[eH];rfl,fun _ _ h=> .inl h⟩;refine⟨hE,?_⟩;have lP:cl h G n=some (G.bo n):=dU hn;have lB:(h.set n (.map ((s,d)::kv)))[n]?=some (.map ((s,d)::kv)):=by rw[agW (agt.1 hn).1]
  have e8:∀m,m≠n→(h.set n (.map ((s,d)::kv)))[m]?=h[m]?:=fun m hm=>by rw[ag1 (Ne.symm hm)]
  have eh:∀m,cl (h.set n (.map ((s,d)::kv))) G m=cl h G m:=fun m=>by
   by_cases e:m=n
   ·subst e;rw[dU lB,dU hn];rfl
   ·unfold cl;rw[e8 m e]
  refine⟨by rw[List.length_set];exact hi.len,fun b hb=>agR (hi.z b hb) hE.size,fun b o hs=>agR (hi.S b o hs) hE.size,fun m B hB=> ?_,fun m m' b h1 h2=>hi.inj m m' b (by rw[←eh];exact h1) (by rw[←eh];exact h2),hi.gl.ba hE⟩;by_cases e:m=n
  ·subst e;rw[lB]at hB;cases hB
   exact⟨hZ,hS,uL,CH,IK,jD.ba (fun _ _ h=>h) fV⟩
  ·rw[e8 m e]at hB;have da:∀b,cl h G m=some b→b≠G.bo n:=fun b hb eb=>e (hi.inj m n b hb (by rw[eb];exact lP));exact eB.ba (hi.lt hB) hE (agE _) ⟨rfl,rfl,rfl⟩ (fun b hb=>⟨ic b (da _ ((dU hB).trans hb)),fun o h=>h⟩) (hi.dp m B hB)
 rcases MapKept.findNow_spec (qo (s:=s)) es.toList 0 xy with⟨h1,h2⟩|⟨j,e0,h1,h2,h3⟩
 ·have jD:uO G.S w (es.push ⟨.string s,v,clock⟩) (clock+1) ((s,d)::kv):=by
   refine⟨by have:=hm.len;simp;omega,MapKept.stamped_push hm.stamped h2,fun x hx=> ?_,fun s' d' cM=> ?_,by have:=hm.len;simp;omega,fun i e he=> ?_,by rw[hm.Cv];simp⟩
   ·simp only[Array.toList_push,ag5,List.mem_singleton]at hx;rcases hx with hx|rfl
    ·obtain⟨s',d',k1,k2,k3⟩:=hm.xe x hx;refine⟨s',d',k1,?_,k3⟩;rw[yK,if_neg (fun e=>h2 x hx (by rw[k1,e]))];exact k2
    ·exact⟨s,d,rfl,by rw[yK,if_pos rfl],hv⟩
   ·rw[yK]at cM;simp only[Array.toList_push,ag5,List.mem_singleton];split at cM
    ·next e=>subst e;exact⟨_, .inr rfl,rfl⟩
    ·obtain⟨x,hx,hk⟩:=hm.all s' d' cM;exact⟨x, .inl hx,hk⟩
   ·rw[Array.getElem?_push]at he;split at he
    ·next ei=>cases he;rw[ei];exact hm.Cv
    ·exact hm.born i e he
  obtain⟨f1,f2⟩:=fin _ _ _ rfl jD;refine⟨_,?_,f1,f2⟩;simp [Instr.mapUpdate,run_underlying (Cy hT),MapKept.run_getObj_map hh,MapKept.run_checkKey qn qo,MapKept.run_findKey qn h1,MapKept.run_setObj_map _ hh,Result.andThen,ChangeMaps.setBlock]
 ·have hj:es[j]?=some e0:=by simpa using h2
  have su:j<es.toList.length:=(agt.1 h2).1;have adi:∀e',es[j]?=some e'→({e' with key:= .string s,val:=v}:MapEntry).key=e'.key:=fun e' s6=>by rw[hj]at s6;cases s6;exact h3.symm
  have F1:(es.modify j (fun e'=>{e' with key:= .string s,val:=v})).toList=es.toList.set j {e0 with key:= .string s,val:=v}:=by
   rw[Array.toList_modify];exact ChangeMaps.modify_eq_set _ _ _ _ h2
  have jK:(es.toList.map (·.key)).Nodup:=hm.stamped.2.2;have jD:uO G.S w (es.modify j (fun e'=>{e' with key:= .string s,val:=v})) clock ((s,d)::kv):=by
   refine⟨by simpa using hm.size,MapKept.stamped_modify hm.stamped _ _ (fun _ _=>rfl) (fun e' _ s6=>adi e' s6),fun x hx=> ?_,fun s' d' cM=> ?_,by have:=hm.len;simp;omega,fun i e he=> ?_,by rw[hm.Cv];simp⟩
   ·rw[F1]at hx;obtain⟨i,dR,ex⟩:=List.getElem_of_mem hx;rw[List.getElem_set]at ex;split at ex
    ·rw[←ex];exact⟨s,d,rfl,by rw[yK,if_pos rfl],hv⟩
    ·next da=>
     have jJ:i<es.toList.length:=by simpa using dR
     have lM:x∈es.toList:=by rw[←ex];exact List.getElem_mem jJ
     obtain⟨s',d',k1,k2,k3⟩:=hm.xe x lM;refine⟨s',d',k1,?_,k3⟩;rw[yK,if_neg ?_]
     ·exact k2
     ·intro uL;have a1:(es.toList.map (·.key))[i]?=some (.string s):=by rw[agA,agx jJ,ex];simp [k1,uL]
      have a2:(es.toList.map (·.key))[j]?=some (.string s):=by rw[agA,h2];simp [h3]
      have hii:i<(es.toList.map (·.key)).length:=by simpa using jJ
      exact da ((List.getElem?_inj hii jK).1 (a1.trans a2.symm)).symm
   ·rw[F1];rw[yK]at cM;split at cM
    ·next e=>subst e;exact⟨_,List.mem_iff_getElem?.2 ⟨j,agW su⟩,rfl⟩
    ·next da=>
     obtain⟨x,hx,hk⟩:=hm.all s' d' cM;obtain⟨i,dR,ex⟩:=List.getElem_of_mem hx;refine⟨x,List.mem_iff_getElem.2 ⟨i,by simpa using dR,?_⟩,hk⟩;rw[List.getElem_set];split
     ·next e=>
      subst e;exfalso;have:es.toList[j]?=some x:=by rw[agx dR,ex]
      rw[this]at h2;cases h2
      rw[h3]at hk;injection hk with hk;exact da hk
     ·exact ex
   ·rw[Array.getElem?_modify]at he;split at he
    ·next ei=>
     subst ei;rw[hj]at he;cases he
     exact hm.born _ e0 hj
    ·exact hm.born i e he
  obtain⟨f1,f2⟩:=fin _ _ _ rfl jD;refine⟨_,?_,f1,f2⟩;simp [Instr.mapUpdate,run_underlying (Cy hT),MapKept.run_getObj_map hh,MapKept.run_checkKey qn qo,MapKept.run_findKey qn h1,hj,h3,MapKept.run_keyThatStays qo,MapKept.run_setObj_map _ hh,Result.andThen,ChangeMaps.setBlock]
end
set_option linter.unusedVariables false
set_option linter.unusedSimpArgs false
section
variable {P:Program} {G:Gh} {w:World} {h:List ak}
theorem GP{w':World}(hi:cf G w h){n:Nat}{B B':ak}(hn:h[n]?=some B)(px:∀G':Gh,B.ep G' n=G'.ow n)(Lt:∀G':Gh,B'.ep G' n=G'.ow n)(S:Nat→Nat→Prop)(v:Value)(len:Nat)(ow:Option Nat)
 (hE:bZ G.N G w (G.grow n S v len ow) w') (hg:∀g,ow=some g→(g=w.heap.size∨G.ow n=some g)∧g<w'.heap.size)
 (hS:∀b o,S b o→G.S b o∨ow=some b) (ic:∀b,b<w.heap.size→ow≠some b→w'.heap[b]?=w.heap[b]?)
 (hB:eB (G.grow n S v len ow) w' n B'):cf (G.grow n S v len ow) w' (h.set n B'):=by
 have e8:∀m,m≠n→(h.set n B')[m]?=h[m]?:=fun m hm=>by rw[ag1 (Ne.symm hm)]
 have lB:(h.set n B')[n]?=some B':=by rw[agW (agt.1 hn).1]
 have lh:∀m(C:ak),m≠n→C.ep (G.grow n S v len ow) m=C.ep G m:=fun m C hm=>by
  cases C<;>simp [ak.ep,Gh.grow,hm]
 have eh:∀m,m≠n→cl (h.set n B') (G.grow n S v len ow) m=cl h G m:=fun m hm=>by
  unfold cl;rw[e8 m hm];cases h[m]? with
  |none=>rfl
  |some C=>exact lh m C hm
 have C6:cl (h.set n B') (G.grow n S v len ow) n=ow:=by rw[dU lB,Lt];simp [Gh.grow]
 have oh:∀m b,m≠n→ow=some b→cl h G m≠some b:=fun m b hm ho hb=>by
  rcases (hg b ho).1 with hg|hg
  ·have:=hi.hO hb;omega
  ·exact hm (hi.inj m n b hb ((dU hn).trans ((px G).trans hg)))
 refine⟨by rw[List.length_set];exact hi.len,fun b hb=>agR (hi.z b hb) hE.size,fun b o hs=> ?_,fun m C hm=> ?_,fun m m' b h1 h2=> ?_,hi.gl.ba hE⟩
 ·rcases hS b o hs with hs|hs
  ·exact agR (hi.S b o hs) hE.size
  ·exact(hg b hs).2
 ·by_cases em:m=n
  ·subst em;rw[lB]at hm;cases hm;exact hB
  ·rw[e8 m em]at hm;refine eB.ba (hi.lt hm) hE (agE _) ⟨by simp [Gh.grow,em],by simp [Gh.grow,em],by simp [Gh.grow,em]⟩ (fun b hb=> ?_) (hi.dp m C hm);have hr:cl h G m=some b:=(dU hm).trans hb;have da:ow≠some b:=fun e'=>oh m b em e' hr;refine⟨ic _ (hi.hO hr) da,fun o kx hs=> ?_⟩;rcases hS _ o hs with hs|hs
   ·exact kx hs
   ·exact da hs
 ·by_cases e1:m=n<;>by_cases e2:m'=n
  ·rw[e1,e2]
  ·subst e1;rw[eh m' e2]at h2;rw[C6]at h1;exact absurd h2 (oh m' b e2 h1)
  ·subst e2;rw[eh m e1]at h1;rw[C6]at h2;exact absurd h1 (oh m b e1 h2)
  ·rw[eh m e1]at h1;rw[eh m' e2]at h2;exact hi.inj m m' b h1 h2
def Gh.eJ(G:Gh)(v:Value)(len:Nat)(ow:Option Nat):Gh:=
 {G with N:=G.N+1,sg:=fun n=>if n=G.N then v else G.sg n,fl:=fun n=>if n=G.N then len else G.fl n,ow:=fun n=>if n=G.N then ow else G.ow n}
theorem JP{w':World}(hi:cf G w h)(B:ak)(px:∀(G':Gh) n,B.ep G' n=G'.ow n)(v:Value)(len:Nat)(ow:Option Nat)(hw:(∀b,b<w.heap.size→w'.heap[b]?=w.heap[b]?)∧w.heap.size≤w'.heap.size∧w'.os=w.os∧w'.tape=w.tape∧w'.output=w.output)
 (how:∀g,ow=some g→w.heap.size≤g)
 (hB:eB (G.eJ v len ow) w' G.N B):bZ G.N G w (G.eJ v len ow) w'∧cf (G.eJ v len ow) w' (h++[B]):=by
 have da:∀n,n<G.N→n≠G.N:=fun n hn=>Nat.ne_of_lt hn;have hE:bZ G.N G w (G.eJ v len ow) w':=⟨hw.2.1,fun _ _ h=>h,fun b o hs=>World.cell?_of_block (hw.1 b (hi.S b o hs)),fun _ _=>rfl,fun n hn=> .inl ⟨by simp [Gh.eJ,da n hn],by simp [Gh.eJ,da n hn]⟩,gq rfl,fun b hb=>hw.1 b (hi.z b hb),hw.2.2.1,hw.2.2.2.1,hw.2.2.2.2,fun _ _ h=> .inl h⟩;have hN:G.N≤(G.eJ v len ow).N:=Nat.le_succ _;have lh:∀n(C:ak),n<G.N→C.ep (G.eJ v len ow) n=C.ep G n:=fun n C hn=>by
  cases C<;>simp [ak.ep,Gh.eJ,Nat.ne_of_lt hn]
 have key:∀n b,cl (h++[B]) (G.eJ v len ow) n=some b→(n<G.N∧cl h G n=some b)∨(n=G.N∧ow=some b):=fun n b hb=>by
  by_cases hn:n<h.length
  ·unfold cl at hb;rw[agD hn,agx hn]at hb;exact .inl ⟨hi.len▸hn,by unfold cl;rw[agx hn,←hb];exact(lh n _ (hi.len▸hn)).symm⟩
  ·by_cases en:n=h.length
   ·subst en;rw[dU (B:=B) (by simp),px]at hb;exact .inr ⟨hi.len,by simpa [Gh.eJ,hi.len]using hb⟩
   ·rw[xm (agZ (by simp;omega))]at hb;cases hb
 refine⟨hE,by simp [Gh.eJ,hi.len],fun b hb=>agR (hi.z b hb) hw.2.1,fun b o hs=>agR (hi.S b o hs) hw.2.1,fun n C hC=> ?_,fun m n b h1 h2=> ?_,hi.gl.ba hE⟩
 ·by_cases hn:n<h.length
  ·rw[agD hn]at hC;have eS:n<G.N:=hi.len▸hn;exact eB.ba eS hE hN ⟨by simp [Gh.eJ,da n eS],by simp [Gh.eJ,da n eS],by simp [Gh.eJ,da n eS]⟩ (fun b hb=>⟨hw.1 b (hi.hO ((dU hC).trans hb)),fun o h=>h⟩) (hi.dp n C hC)
  ·have k9:n=h.length:=by
    have:=(agt.1 hC).1;simp at this;omega
   subst k9;simp at hC;subst hC;rw[hi.len];exact hB
 ·rcases key m b h1 with⟨_,a1⟩|⟨rfl,a1⟩<;>rcases key n b h2 with⟨_,b1⟩|⟨rfl,b1⟩
  ·exact hi.inj m n b a1 b1
  ·have:=hi.hO a1;have:=how b b1;omega
  ·have:=hi.hO b1;have:=how b a1;omega
  ·rfl
theorem aG.qQ{n o len L k:Nat}{e:TypeId}{cs:List (List AV)}{u:Value}(hi:cf G w h)(hn:h[n]?=some (.vec e k cs))(hL:cs.length=L)(hv:aG G w u (.vec n o len L k)):Ou (G.sg n) u o len L k:=by
 have hb:=(hi.dp n _ hn).1;cases hv with|vec _ _ _ _ _ h1 h2 h3 h4=>exact h4 (by rw[←hL,hb])
theorem aG.UZ{n i j L k:Nat}{e:TypeId}{k':Nat}{cs:List (List AV)}{u:Value}(hi:cf G w h)(hn:h[n]?=some (.vec e k' cs))(hL:cs.length=L)(hv:aG G w u (.di n i j L k)):PS (G.sg n) u i j L k:=by
 have hb:=(hi.dp n _ hn).1;cases hv with|di _ _ _ _ _ h1 h2 h3 h4=>exact h4 (by rw[←hL,hb])
theorem Ax{n:Nat}{e k:Nat}{cs:List (List AV)}(hi:cf G w h)(hn:h[n]?=some (.vec e k cs))(da:cs≠ []):∃(g cap:Nat)(cur:Array Value),G.ow n=some g∧G.sg n= .slice (some ⟨g,0,none⟩) cs.length cap∧¬G.Z g∧w.heap[g]?=some (.cells cur e (0,0))∧cs.length≤cap∧cap≤maxLen∧cur.size=cap*k∧(∀o,¬G.S g o)∧
        ∀(i j:Nat)(c:List AV)(x:AV)(u:Value),cs[i]?=some c→c[j]?=some x→cur[i*k+j]?=some u→aG G w u x:=by
 obtain⟨_,_,_,h4|h4⟩:=hi.dp n _ hn
 ·exact absurd h4.2.1 da
 ·exact h4
theorem xk{n:Nat}{e k:Nat}{cs:List (List AV)}(hi:cf G w h)(hn:h[n]?=some (.vec e k cs)):∀c∈cs,c.length=k:=(hi.dp n _ hn).2.2.1
theorem jG{i k L j:Nat}(hi:i<L)(hj:j<k):i*k+j<L*k:=by
 have:(i+1)*k≤L*k:=Nat.mul_le_mul_right k hi;rw[Nat.add_mul]at this;omega
theorem Fc{i k j:Nat}(hj:j<k):(i*k+j)/ k=i∧(i*k+j)%k=j:=by
 have hk:0<k:=by omega
 exact⟨by rw[Nat.add_comm,Nat.add_mul_div_right _ _ hk,Nat.div_eq_of_lt hj,agN],by rw[Nat.add_comm,Nat.add_mul_mod_self_right,Nat.mod_eq_of_lt hj]⟩
theorem adf{i i' j j' k:Nat}(hj:j<k)(ib:j'<k)(e:i*k+j=i'*k+j'):i=i'∧j=j':=by
 have h1:=Fc (i:=i) hj;have h2:=Fc (i:=i') ib;exact⟨by rw[←h1.1,←h2.1,e],by rw[←h1.2,←h2.2,e]⟩
theorem aeN{t n i j L k:Nat}{e:TypeId}{cs:List (List AV)}{c:List AV}{x:AV}{v:Value}(hi:cf G w h)(hn:h[n]?=some (.vec e k cs))(hL:cs.length=L)(hc:cs[i]?=some c)(hx:E0 P t c j=some x)(hv:aG G w v (.di n i j L k)):
 ∃u,(Instr.loadAt t v).run P w= .ok u w∧aG G w u x:=by
 have je:i<cs.length:=(agt.1 hc).1;have SV:c.length=k:=xk hi hn c (agG hc);obtain⟨g,cap,cur,r1,r2,r3,r4,r5,r6,r7,r8,r9⟩:=Ax hi hn (fun e=>by subst e;simp at je);obtain⟨_,g',xZ,p1,p2⟩:=hv.UZ hi hn hL;rw[r2]at p1;cases p1
 have h1:∀q,q<c.length→w.cell? ⟨g,i*k+q,none⟩=some (cur.getD (i*k+q) undef):=fun q hq=>by
  rw[cell_of_row w g _ cur e (0,0) r4];have:i*k+q<cur.size:=by
    rw[r7];exact agR (jG je (by omega)) (Nat.mul_le_mul_right k r5)
  simp [Array.getD,this]
 have h2:∀(q:Nat)(y:AV),c[q]?=some y→aG G w (cur.getD (i*k+q) undef) y:=fun q y hq=>by
  have JX:=(agt.1 hq).1;have aO:i*k+q<cur.size:=by
   rw[r7];exact agR (jG je (by omega)) (Nat.mul_le_mul_right k r5)
  have e1:cur[i*k+q]?=some (cur.getD (i*k+q) undef):=by simp [Array.getD,aO]
  exact r9 i q c y _ hc hq e1
 have key:=Tj (P:=P) (G:=G) (w:=w) (t:=t) (C:=(·=x)) g (i*k) c j (fun q=>cur.getD (i*k+q) undef) h1 h2 (by
  unfold E0 at hx;revert hx;cases kW P t with
  |none=>intro hx;cases hx
  |some ag=>
   cases fA P t with
   |none=>cases ag<;>(intro hx;cases hx)
   |some kk=>
    cases ag with
    |true=>
     simp only;intro hx;cases hb:cd (j+kk) c.length with
     |false=>rw[hb]at hx;cases hx
     |true=>rw[hb]at hx;cases hx;exact rfl
    |false=>
     simp only;intro hx;rw[hx])
 obtain⟨u,y,k1,k2,rfl⟩:=key;refine⟨u,?_,k2⟩;rw[p2];simp [Instr.loadAt,Instr.sureAddr,k1]
theorem XV{t b off k:Nat}{T:TypeId}{v:Value}{vs:Array Value}(hh:w.heap[b]?=some (.cells vs T (0,0)))(ht:fA P t=some k)(hk:v.cells.size=k)(fw:∀u∈v.cells.toList,u.oneCell'=true)(hb:off+k≤vs.size):
 (storeVar t ⟨b,off,none⟩ v).run P w= .ok () (w.setRow b (vs.toList.take off++v.cells.toList++vs.toList.drop (off+v.cells.toList.length)).toArray):=by
 obtain⟨i,iU,jJ⟩:=M6 ht;have fE:=run_storeCells_at P b off T v.cells.toList 0 vs w hh (by rw[ag0,hk];simpa using hb) fw;simp only[Nat.add_zero]at fE;unfold storeVar;simp only[sizeOf,typeInfo,Sem.run_bind,hk];simp [iU,jJ,fE]
theorem T3(vs:Array Value)(us:List Value)(off q:Nat)(hb:off+us.length≤vs.size):(vs.toList.take off++us++vs.toList.drop (off+us.length)).toArray[q]?=if off≤q∧q<off+us.length then us[q-off]? else vs[q]?:=by
 rw[List.getElem?_toArray,agK];have vC:vs.toList.length=vs.size:=ag0;by_cases h1:q<off
 ·rw[agD (by simp;omega),List.getElem?_take_of_lt h1,if_neg (by omega),agQ]
 ·rw[agJ (by simp;omega)];simp only[List.length_take,vC];rw[Nat.min_eq_left (by omega)];by_cases h2:q<off+us.length
  ·rw[agD (by omega),if_pos (by omega)]
  ·rw[agJ (by omega),List.getElem?_drop,if_neg (by omega),show off+us.length+(q-off-us.length)=q by omega,agQ]
theorem S5(vs:Array Value)(us:List Value)(off:Nat)(hb:off+us.length≤vs.size):(vs.toList.take off++us++vs.toList.drop (off+us.length)).toArray.size=vs.size:=by
 simp only[List.size_toArray,agu,List.length_take,List.length_drop,ag0];omega
theorem Wz(cs ys:List AV)(off q:Nat)(hb:off+ys.length≤cs.length):(gy cs off ys)[q]?=if off≤q∧q<off+ys.length then ys[q-off]? else cs[q]?:=by
 unfold gy;rw[agK];by_cases h1:q<off
 ·rw[agD (by simp;omega),List.getElem?_take_of_lt h1,if_neg (by omega)]
 ·rw[agJ (by simp;omega)];simp only[List.length_take];rw[Nat.min_eq_left (by omega)];by_cases h2:q<off+ys.length
  ·rw[agD (by omega),if_pos (by omega)]
  ·rw[agJ (by omega),List.getElem?_drop,if_neg (by omega),show off+ys.length+(q-off-ys.length)=q by omega]
theorem Mq{n e k g cap:Nat}{cs cp:List (List AV)}{cur:Array Value}{us:List Value}{off:Nat}(hi:cf G w h)(hn:h[n]?=some (.vec e k cs))(gp:0<k)(r1:G.ow n=some g)(r2:G.sg n= .slice (some ⟨g,0,none⟩) cs.length cap)(r3:¬G.Z g)(r4:w.heap[g]?=some (.cells cur e (0,0)))(r5:cs.length≤cap)(r6:cap≤maxLen)(r7:cur.size=cap*k)(r8:∀o,¬G.S g o)
 (hb:off+us.length≤cur.size) (hl:cp.length=cs.length) (gS:∀c∈cp,c.length=k)
 (xY:∀(i j:Nat)(c:List AV)(x:AV)(u:Value),cp[i]?=some c→c[j]?=some x→(if off≤i*k+j∧i*k+j<off+us.length then us[i*k+j-off]? else cur[i*k+j]?)=some u→aG G w u x):
 ∃G',bZ G.N G w G' (w.setRow g (cur.toList.take off++us++cur.toList.drop (off+us.length)).toArray)∧G'.N=G.N∧cf G' (w.setRow g (cur.toList.take off++us++cur.toList.drop (off+us.length)).toArray) (h.set n (.vec e k cp))∧(∀m,G'.sg m=G.sg m)∧(∀m,G'.fl m=G.fl m):=by
 obtain⟨w',eH⟩:∃w',w'=w.setRow g (cur.toList.take off++us++cur.toList.drop (off+us.length)).toArray:=⟨_,rfl⟩;rw[←eH];have ic:∀b,b≠g→w'.heap[b]?=w.heap[b]?:=fun b hb=>by rw[eH];exact setRow_other w g b _ hb
 have mO:w'.heap[g]?=some (.cells (cur.toList.take off++us++cur.toList.drop (off+us.length)).toArray e (0,0)):=by rw[eH];exact setRow_heap w g cur _ e _ r4
 have g7:w'.heap.size=w.heap.size:=by rw[eH];exact Ip w g _
 obtain⟨G',fZ⟩:∃G',G'=G.grow n G.S (G.sg n) (G.fl n) (some g):=⟨_,rfl⟩;have La:∀m,G'.sg m=G.sg m:=fun m=>by rw[fZ];simp only[Gh.grow];split<;>simp_all
 have fM:∀m,G'.fl m=G.fl m:=fun m=>by rw[fZ];simp only[Gh.grow];split<;>simp_all
 have hE:bZ G.N G w G' w':=⟨by rw[g7];exact agE _,fun b o h=>by rw[fZ];exact h,fun b o hs=>World.cell?_of_block (ic b (fun e=>r8 o (e▸hs))),fun _ _=>by rw[fZ];rfl,fun m _=> .inl ⟨fM m,La m⟩,gq (by rw[fZ];rfl) (by rw[fZ];rfl),fun b hb=>ic b (fun e=>r3 (e▸hb)),by rw[eH];rfl,by rw[eH];rfl,by rw[eH];rfl,fun b o hs=> .inl (by rw[fZ]at hs;exact hs)⟩;have qY:=hi.dp n _ hn;refine⟨G',hE,by rw[fZ];rfl,?_,La,fM⟩;subst fZ;refine GP hi hn (fun _=>rfl) (fun _=>rfl) _ _ _ _ hE (fun g' qG=> ?_) (fun b o hs=> .inl hs) (fun b _ fU=>ic b (fun e=>fU (by rw[e]))) ?_
 ·cases qG;exact⟨.inr r1,by rw[g7];exact(agI.1 r4).1⟩
 ·refine⟨by rw[fM,hl];exact qY.1,by rw[hl];exact qY.2.1,gS, .inr ⟨g,cap,_,by simp [Gh.grow],by rw[La,hl];exact r2,r3,mO,by rw[hl];exact r5,r6,by rw[S5 _ _ _ hb];exact r7,r8,fun i j c x u hc hx hu=> ?_⟩⟩;rw[T3 _ _ _ _ hb]at hu;exact(xY i j c x u hc hx hu).ba hE (agE _)
theorem XL{t n i j L k:Nat}{e:TypeId}{cs:List (List AV)}{c:List AV}{x:AV}{v u:Value}(hi:cf G w h)(hn:h[n]?=some (.vec e k cs))(hL:cs.length=L)(hc:cs[i]?=some c)(hv:aG G w v (.di n i j L k))(hx:aG G w u x)(Ka:x.iy=true)(ht:fA P t=some x.cells.length)(hj:j+x.cells.length≤k)(gp:0<k):
 ∃w' G',(Instr.storeAt t v u).run P w= .ok () w'∧bZ G.N G w G' w'∧G.N≤G'.N∧cf G' w' (h.set n (.vec e k (cs.set i (gy c j x.cells)))):=by
 have je:i<cs.length:=(agt.1 hc).1;have gS:=xk hi hn;have SV:c.length=k:=gS c (agG hc);obtain⟨g,cap,cur,r1,r2,r3,r4,r5,r6,r7,r8,r9⟩:=Ax hi hn (fun e=>by subst e;simp at je);obtain⟨_,g',xZ,p1,p2⟩:=hv.UZ hi hn hL;rw[r2]at p1;cases p1
 obtain⟨c1,c2⟩:=hx.cells Ka;have mI:u.cells.toList.length=x.cells.length:=by rw[ag0,c1]
 have fw:∀y∈u.cells.toList,y.oneCell'=true:=fun y hy=>by
  obtain⟨q,hq⟩:=List.mem_iff_getElem?.1 hy;have JX:u.cells[q]?=some y:=by rw[←agQ];exact hq
  have hql:q<x.cells.length:=by rw[←c1];exact(agI.1 JX).1
  exact(c2 q y _ JX (agx hql)).2
 have jF:i*k+j+x.cells.length≤cur.size:=by
  have h1:(i+1)*k≤cap*k:=Nat.mul_le_mul_right k (agR je r5);rw[Nat.add_mul]at h1;rw[r7];omega
 have dL:=XV (P:=P) (off:=i*k+j) r4 ht c1 fw jF;obtain⟨G',e1,e2,e3,_⟩:=Mq (us:=u.cells.toList) (off:=i*k+j) (cp:=cs.set i (gy c j x.cells)) hi hn gp r1 r2 r3 r4 r5 r6 r7 r8 (by rw[mI];exact jF) (by rw[List.length_set]) (fun d hd=>by
     obtain⟨q,hq⟩:=List.mem_iff_getElem?.1 hd;by_cases e:i=q
     ·subst e;rw[agW je]at hq;cases hq
      rw[CW _ _ _ (by omega)];exact SV
     ·rw[ag1 e]at hq;exact gS d (agG hq)) (fun a b d y z hd hy hz=>by
     have iv:b<k:=by
      by_cases e:i=a
      ·subst e;rw[agW je]at hd;cases hd
       have:=(agt.1 hy).1;rw[CW _ _ _ (by omega)]at this;omega
      ·rw[ag1 e]at hd;rw[←gS d (agG hd)];exact(agt.1 hy).1
     rw[mI]at hz;by_cases e:i=a
     ·subst e;rw[agW je]at hd;cases hd
      rw[Wz _ _ _ _ (by omega)]at hy;by_cases hb:j≤b∧b<j+x.cells.length
      ·rw[if_pos hb]at hy;rw[if_pos (by omega),show i*k+b-(i*k+j)=b-j by omega,agQ]at hz;exact(c2 _ _ _ hz hy).1
      ·rw[if_neg hb]at hy;rw[if_neg (by omega)]at hz;exact r9 i b c y z hc hy hz
     ·rw[ag1 e]at hd;rw[if_neg ?_]at hz
      ·exact r9 a b d y z hd hy hz
      ·intro hh;have:a*k+b=i*k+(a*k+b-i*k):=by omega
       exact e ((adf (i:=a) (i':=i) (j:=b) (j':=a*k+b-i*k) iv (by omega) this).1.symm))
 refine⟨_,G',?_,e1,by rw[e2];exact agE _,e3⟩;rw[p2];simp [Instr.storeAt,Instr.sureAddr,dL]
end
section
variable {P:Program} {G:Gh} {w:World} {h:List ak}
structure yC(G:Gh)(w:World)(k:Nat)(ys:List (List AV))(us:List Value):Prop where
 len:us.length=ys.length*k
 wid:∀c∈ys,c.length=k
 one:∀u∈us,u.oneCell'=true
 rel:∀(i j:Nat)(c:List AV)(x:AV)(u:Value),ys[i]?=some c→c[j]?=some x→us[i*k+j]?=some u→aG G w u x
theorem JR{k tx e':Nat}{y:AV}{v:Value}{ys:List (List AV)}(hi:cf G w h)(hv:aG G w v y)(hs:vU h k y ys)(gp:0<k)(hT:P.underlying tx=some (.slice e')):
 ∃us,yC G w k ys us∧Src P k tx v ys.length us w:=by
 rcases hs with⟨xs,h1,h2,rfl⟩|⟨n,o,len,L,e,cs,rfl,h2,h3,h4,h5⟩
 ·obtain⟨us,hr,vo⟩:=(hv.list h1).src gp h2 hT;have hl:(aK xs).length=xs.length:=by unfold aK;rw[agy]
  refine⟨us,⟨by rw[hl];exact hr.len,fun c hc=> ?_,hr.one,fun i j c x u hc hx hu=> ?_⟩,by rw[hl];exact vo⟩
  ·unfold aK at hc;obtain⟨d,hd,rfl⟩:=List.mem_map.1 hc;rw[agy];exact h2 d hd
  ·unfold aK at hc;rw[agA]at hc;cases lM:xs[i]? with
   |none=>rw[lM]at hc;cases hc
   |some d=>
    rw[lM]at hc;cases hc
    rw[agA]at hx;cases hy:d[j]? with
    |none=>rw[hy]at hx;cases hx
    |some z=>
     rw[hy]at hx;cases hx
     obtain⟨u',a1,a2⟩:=hr.rel i j d z lM hy;rw[a1]at hu;cases hu
     exact .d a2
 ·have jR:=hv.qQ hi h2 h3;obtain⟨A,c,rfl,c1,c2,c3,c4⟩:=jR.sl;have wi:ys.length=len:=by rw[h4,List.length_take,List.length_drop,h3];have:=jR.ol;omega
  by_cases h0:len=0
  ·subst h0;have:ys=[]:=List.eq_nil_of_length_eq_zero wi;subst this;refine⟨[],⟨by simp,(fun _ h=>by cases h),(fun _ h=>by cases h),fun i j c x u hc=>by simp at hc⟩,?_⟩;cases A with
   |none=>exact Src.ofNil w hT c
   |some a=>exact Src.ofSlice w hT a 0 c [] (by simp) (fun j u hu=>by simp at hu) (fun u hu=>by cases hu)
  ·have ho:o<L:=by have:=jR.ol;omega
   obtain⟨g,cap,p1,rfl,p3⟩:=c4 ho;have da:cs≠ []:=fun e=>by subst e;simp at h3;omega
   obtain⟨g',xZ,cur,r1,r2,r3,r4,r5,r6,r7,r8,r9⟩:=Ax hi h2 da;rw[r2]at p1;cases p1
   have gS:=xk hi h2;have fV:∀q,q<len*k→o*k+q<cur.size:=fun q hq=>by
    have h1:(o+len)*k≤cap*k:=Nat.mul_le_mul_right k (by have:=jR.ol;omega);rw[Nat.add_mul]at h1;rw[r7];omega
   have iF:∀i,i<len→ys[i]?=cs[o+i]?:=fun i dR=>by rw[h4,List.getElem?_take_of_lt dR,List.getElem?_drop]
   have fw:∀q,q<len*k→(cur.getD (o*k+q) undef).oneCell'=true:=fun q hq=>by
    have Iw:q / k<len:=Nat.div_lt_of_lt_mul (by rw[Nat.mul_comm];exact hq);have VH:q%k<k:=Nat.mod_lt _ gp;obtain⟨d,fK⟩:∃d,cs[o+q / k]?=some d:=⟨_,agx (by have:=jR.ol;omega)⟩;have AL:=gS _ (agG fK);obtain⟨x,hx⟩:∃x,d[q%k]?=some x:=⟨_,agx (by rw[AL];exact VH)⟩;have e1:(o+q / k)*k+q%k=o*k+q:=by
     rw[Nat.add_mul];have:=Nat.div_add_mod q k;rw[Nat.mul_comm]at this;omega
    have zZ:cur[(o+q / k)*k+q%k]?=some (cur.getD (o*k+q) undef):=by
     rw[e1];simp [Array.getD,fV q hq]
    refine(r9 _ _ _ _ _ fK hx zZ).iS ?_;have iC:d∈ys:=agG ((iF _ Iw).trans fK);have:=h5 _ iC;rw[agT]at this;exact this _ (agG hx)
   refine⟨(List.range (len*k)).map fun q=>cur.getD (o*k+q) undef,⟨by rw[wi];simp,fun c hc=>gS c ?_,fun u hu=> ?_,fun i j c x u hc hx hu=> ?_⟩,?_⟩
   ·rw[h4]at hc;exact List.mem_of_mem_drop (List.mem_of_mem_take hc)
   ·obtain⟨q,hq,rfl⟩:=List.mem_map.1 hu;exact fw q (List.mem_range.1 hq)
   ·have je:i<len:=by rw[←wi];exact(agt.1 hc).1
    rw[iF i je]at hc;have Fy:j<k:=by rw[←gS c (agG hc)];exact(agt.1 hx).1
    have aO:i*k+j<len*k:=jG je Fy;rw[agA,List.getElem?_range aO]at hu;simp only[Option.map_some,Option.some.injEq]at hu;refine r9 (o+i) j c x u hc hx ?_;rw[←hu,show(o+i)*k+j=o*k+(i*k+j) by rw[Nat.add_mul];omega];simp [Array.getD,fV _ aO]
   ·rw[wi];refine Src.ofSlice w hT _ len c _ (by simp) (fun j u hu=> ?_) (fun u hu=> ?_)
    ·rw[kG,cell_of_row w g _ cur e (0,0) r4];rw[agA]at hu;by_cases hj:j<len*k
     ·rw[List.getElem?_range hj]at hu;simp only[Option.map_some,Option.some.injEq]at hu;rw[←hu];simp [Array.getD,fV _ hj]
     ·rw[agZ (by simp;omega)]at hu;cases hu
    ·obtain⟨q,hq,rfl⟩:=List.mem_map.1 hu;exact fw q (List.mem_range.1 hq)
theorem yC.ba{G':Gh}{w':World}{k:Nat}{ys:List (List AV)}{us:List Value}(h:yC G w k ys us)(hE:bZ G.N G w G' w')(hN:G.N≤G'.N):yC G' w' k ys us:=
 ⟨h.len,h.wid,h.one,fun i j c x u h1 h2 h3=>(h.rel i j c x u h1 h2 h3).ba hE hN⟩
theorem ad9{α:Type}{k:Nat}(l:List α)(us:List α)(m i j:Nat)(hl:l.length=m*k)(hj:j<k):(l++us)[i*k+j]?=if i<m then l[i*k+j]? else us[(i-m)*k+j]?:=by
 by_cases h:i<m
 ·rw[if_pos h,agD (by rw[hl];exact jG h hj)]
 ·have h1:m*k≤i*k:=Nat.mul_le_mul_right k (by omega);rw[if_neg h,agJ (by rw[hl];omega),hl,Nat.sub_mul,show i*k+j-m*k=i*k-m*k+j by omega]
theorem Lm{e k cap:Nat}{cs:List (List AV)}{cur:Array Value}(hi:cf G w h)(h1:cs.length≤cap)(h2:cap≤maxLen)(h3:cur.size=cap*k)(gS:∀c∈cs,c.length=k)(w0:World)(pC:w0.heap=w.heap∧w0.os=w.os∧w0.tape=w.tape∧w0.output=w.output)
 (xY:∀(i j:Nat)(c:List AV)(x:AV)(u:Value),cs[i]?=some c→c[j]?=some x→cur[i*k+j]?=some u→aG G w u x):
 ∃G',bZ G.N G w G' (w0.alloc (.cells cur e))∧G.N≤G'.N∧cf G' (w0.alloc (.cells cur e)) (h++[.vec e k cs])∧∀len,len≤cs.length→aG G' (w0.alloc (.cells cur e)) (.slice (some ⟨w.heap.size,0,none⟩) len cap) (.vec h.length 0 len cs.length k):=by
 have g7:w0.heap.size=w.heap.size:=by rw[pC.1]
 have gh:(w0.alloc (.cells cur e)).heap[w.heap.size]?=some (.cells cur e (0,0)):=by rw[←g7];exact World.alloc_heap_new w0 _
 have hold:∀b,b<w.heap.size→(w0.alloc (.cells cur e)).heap[b]?=w.heap[b]?:=fun b hb=>by rw[Below.heap_alloc w0 _ b (by rw[g7];exact hb),pC.1]
 have hw:(∀b,b<w.heap.size→(w0.alloc (.cells cur e)).heap[b]?=w.heap[b]?)∧w.heap.size≤(w0.alloc (.cells cur e)).heap.size∧(w0.alloc (.cells cur e)).os=w.os∧(w0.alloc (.cells cur e)).tape=w.tape∧(w0.alloc (.cells cur e)).output=w.output:=
  ⟨hold,by simp [g7],pC.2.1,pC.2.2.1,pC.2.2.2⟩
 obtain⟨sv,lr⟩:∃sv,sv=Value.slice (some ⟨w.heap.size,0,none⟩) cs.length cap:=⟨_,rfl⟩;obtain⟨BF,_⟩:bZ G.N G w (G.eJ sv cs.length (some w.heap.size)) (w0.alloc (.cells cur e))∧True:=by
  refine⟨⟨hw.2.1,fun _ _ h=>h,fun b o hs=>World.cell?_of_block (hw.1 b (hi.S b o hs)),fun _ _=>rfl,fun n hn=> .inl ⟨by simp [Gh.eJ,Nat.ne_of_lt hn],by simp [Gh.eJ,Nat.ne_of_lt hn]⟩,gq rfl,fun b hb=>hw.1 b (hi.z b hb),hw.2.2.1,hw.2.2.2.1,hw.2.2.2.2,fun _ _ h=> .inl h⟩,trivial⟩
 obtain⟨hE,hI⟩:=JP (w':=w0.alloc (.cells cur e)) hi (.vec e k cs) (fun _ _=>rfl) sv cs.length (some w.heap.size) hw (fun g hg=>by cases hg;exact agE _) (by
  refine⟨by simp [Gh.eJ],agL h1 h2,gS, .inr ⟨w.heap.size,cap,cur,by simp [Gh.eJ],by simp [Gh.eJ,lr],fun hz=>ag7 _ (hi.z _ hz),gh,h1,h2,h3,fun o hs=>ag7 _ (hi.S _ _ hs),fun i j c x u hc hx hu=>(xY i j c x u hc hx hu).ba BF (Nat.le_succ _)⟩⟩)
 refine⟨_,hE,Nat.le_succ _,hI,fun len hlen=> ?_⟩;rw[hi.len];refine .vec G.N 0 len cs.length k (by simp [Gh.eJ]) ⟨_,_,_,rfl⟩ (by simp [Gh.eJ]) fun _=>⟨by omega,⟨_,_,rfl,agL hlen h1,h2,h1,fun _=>⟨w.heap.size,cap,by simp [Gh.eJ,lr],by simp,by simp⟩⟩,fun _ e=>by subst e;simp [Gh.eJ,lr]⟩
theorem aaz{T e k len m c9:Nat}{i:TypeInfo}{z:Value}{kl kc:IntKind}{l c:Int}(hi:cf G w h)(hT:P.underlying T=some (.slice e))(j9:P.info? e=some i)(hz:i.zero=some z)(mm:i.size=k)(vD:i.bytes=c9)(iO:z.cells.toList.length=k)(gp:0<k)
 (h0:0≤l) (kr:l≤c) (hl:l.toNat=len) (hc:c.toNat=m) (hm:m≤maxLen) (hb:c9*m≤281474976710656):
 ∃u w' G',(Instr.makeSlice T (.int kl l) (.int kc c)).run P w= .ok u w'∧bZ G.N G w G' w'∧G.N≤G'.N∧cf G' w' (h++[.vec e k (List.replicate m (z.cells.toList.map fun u=> .d (.v u)))])∧aG G' w' u (.vec h.length 0 len m k):=by
 subst mm;subst vD;have fU:(i.bytes:Int)*c≤281474976710656:=by
  have:((i.bytes*m:Nat):Int)≤281474976710656:=by omega
  rw[Int.natCast_mul,←hc,Int.toNat_of_nonneg (by omega)]at this;exact this
 have h63:c≤9223372036854775807:=by have h:=hm;simp [maxLen]at h;omega
 have dL:=run_make (P:=P) w T e i z hT j9 hz kl kc l c h0 kr fU h63;rw[hl,hc]at dL;have fY:(List.replicate m (z.cells.toList.map fun u=>AV.d (.v u))).length=m:=ag3;obtain⟨G',g1,g2,g3,g4⟩:=Lm (e:=e) (k:=i.size) (cap:=m) (cs:=List.replicate m (z.cells.toList.map fun u=>AV.d (.v u))) (cur:=madeCells z.cells (m*i.size)) hi (by rw[fY];exact agE _) hm (size_madeCells _ _) (fun c hc=>by
  rw[List.eq_of_mem_replicate hc,agy];exact iO) w ⟨rfl,rfl,rfl,rfl⟩ (fun a b c x u hc hx hu=>by
  have:=List.eq_of_mem_replicate (agG hc);subst this;rw[agA]at hx;cases hq:z.cells.toList[b]? with
  |none=>rw[hq]at hx;cases hx
  |some y=>
   rw[hq]at hx;cases hx
   have iv:b<i.size:=by rw[←iO];exact(agt.1 hq).1
   have MD:a<m:=by have:=(agt.1 hc).1;rwa [fY]at this
   unfold madeCells at hu;have aO:a*i.size+b<m*i.size:=jG MD iv;rw[Array.getElem?_map,Array.getElem?_range,if_pos aO]at hu;simp only[Option.map_some,Option.some.injEq]at hu;have jd:z.cells.size=i.size:=by rw[←ag0];exact iO
   rw[jd,(Fc (i:=a) iv).2]at hu;have CY:z.cells[b]?=some y:=by rw[←agQ];exact hq
   rw[getElem!_pos z.cells b (by rw[jd];exact iv)]at hu;rw[agP (by rw[jd];exact iv)]at CY;cases CY
   subst hu;exact .d (.v _))
 rw[fY]at g4;refine⟨_,_,G',dL,g1,g2,g3,g4 len ?_⟩;rw[←hl,←hc];omega
theorem Zr{T tx ty e k c9 n o len L:Nat}{i:TypeInfo}{z:Value}{u v:Value}{cs ys:List (List AV)}{us:List Value}(hi:cf G w h)(hT:P.underlying T=some (.slice e))(j9:P.info? e=some i)(hz:i.zero=some z)(mm:i.size=k)(vD:i.bytes=c9)(iO:z.cells.size=k)(gp:0<k)
 (hn:h[n]?=some (.vec e k cs)) (hL:cs.length=L) (hu:aG G w u (.vec n o len L k)) (hr:yC G w k ys us) (hs:Src P k tx v ys.length us w)
 {L':Nat} {cp:List (List AV)} (oP:(o+len+ys.length≤L∧L'=L∧cp=cs.take (o+len)++ys++cs.drop (o+len+ys.length))∨(o=0∧len=L∧L'=L+ys.length∧cp=cs++ys∧L'≤maxLen∧L'*c9≤140737488355328)):
 ∃r w' G',(Builtin.append_ #[T,tx] ty #[u,v]).run P w= .ok r w'∧bZ G.N G w G' w'∧G.N≤G'.N∧cf G' w' (h.set n (.vec e k cp))∧aG G' w' r (.vec n o (len+ys.length) L' k):=by
 subst mm;subst vD;have mz:=hi.lt hn;have gS:=xk hi hn;have jR:=hu.qQ hi hn hL;have qY:=hi.dp n _ hn;have agr:=jR;obtain⟨wI,⟨A,c,rfl,c1,c2,c3,c4⟩,call⟩:=jR;by_cases hy:ys.length=0
 ·have iF:ys=[]:=List.eq_nil_of_length_eq_zero hy;subst iF;have kM:us=[]:=List.eq_nil_of_length_eq_zero (by rw[hr.len];simp);subst kM;have dL:=run_append_nothing (P:=P) w T tx ty e i hT j9 A len c c1 v hs;have e1:cp=cs:=by
   rcases oP with⟨_,_,e⟩|⟨_,_,_,e,_⟩
   ·rw[e];simp
   ·rw[e];simp
  have e2:L'=L:=by
   rcases oP with⟨_,e,_⟩|⟨_,_,e,_⟩
   ·exact e
   ·rw[e];simp
  subst e1;subst e2;refine⟨_,w,G,dL,bZ.refl _ _ _,agE _,?_,by simpa using hu⟩;have:h.set n (.vec e i.size cp)=h:=by
   refine List.ext_getElem? fun m=> ?_;by_cases em:m=n
   ·subst em;rw[agW (agt.1 hn).1,hn]
   ·rw[ag1 (Ne.symm em)]
  rw[this];exact hi
 ·have hy0:0<ys.length:=Nat.pos_of_ne_zero hy;have room:len+ys.length≤c→∀g cap cur,G.ow n=some g→G.sg n= .slice (some ⟨g,0,none⟩) cs.length cap→¬G.Z g→w.heap[g]?=some (.cells cur e (0,0))→cs.length≤cap→cap≤maxLen→cur.size=cap*i.size→(∀o,¬G.S g o)→
      (∀(a b:Nat)(d:List AV)(x:AV)(q:Value),cs[a]?=some d→d[b]?=some x→cur[a*i.size+b]?=some q→aG G w q x)→A=some ⟨g,o*i.size,none⟩→o+c=cap→
      ∃r w' G',(Builtin.append_ #[T,tx] ty #[.slice A len c,v]).run P w= .ok r w'∧bZ G.N G w G' w'∧G.N≤G'.N∧cf G' w' (h.set n (.vec e i.size cp))∧aG G' w' r (.vec n o (len+ys.length) L' i.size):=by
   intro mK g cap cur r1 r2 r3 r4 r5 r6 r7 r8 r9 rA rc;have jF:(o+len)*i.size+us.length≤cur.size:=by
    rw[hr.len,r7,←Nat.add_mul];exact Nat.mul_le_mul_right _ (by omega)
   have zd:∀j,j<us.length→(w.cell? ⟨g,o*i.size+len*i.size+j,none⟩).isSome=true:=fun j hj=>by
    rw[cell_of_row w g _ cur e (0,0) r4,agP (by rw[Nat.add_mul]at jF;omega)];rfl
   have dL:=run_append_room_src (P:=P) w T tx ty e i hT j9 g (o*i.size) len c v ys.length us hs mK zd (fun j hj=>by unfold World.frozen?;rw[r4];simp);have fE:=run_storeCells_at P g (o*i.size+len*i.size) e us 0 cur w r4 (by rw[Nat.add_mul]at jF;simpa using jF) hr.one;have vA:=run_storeCells_cells (P:=P) g (o*i.size+len*i.size) us 0 w (by simpa using zd) (fun j hj=>by unfold World.frozen?;rw[r4];simp) hr.one;simp only[Nat.add_zero]at fE vA;rw[fE]at vA;injection vA with _ e2;rw[←e2,←Nat.add_mul]at dL;rw[rA];have gh:∀(a b:Nat)(d:List AV)(x:AV)(q:Value),cp[a]?=some d→d[b]?=some x→(if(o+len)*i.size≤a*i.size+b∧a*i.size+b<(o+len)*i.size+us.length then us[a*i.size+b-(o+len)*i.size]? else cur[a*i.size+b]?)=some q→aG G w q x:=by
    intro a b d x q hd hx hq;have K8:d.length=i.size:=by
     have hm:=agG hd;rcases oP with⟨_,_,e⟩|⟨_,_,_,e,_⟩
     ·rw[e]at hm;rcases ag5.1 hm with hm|hm
      ·rcases ag5.1 hm with hm|hm
       ·exact gS d (List.mem_of_mem_take hm)
       ·exact hr.wid d hm
      ·exact gS d (List.mem_of_mem_drop hm)
     ·rw[e]at hm;rcases ag5.1 hm with hm|hm
      ·exact gS d hm
      ·exact hr.wid d hm
    have iv:b<i.size:=by rw[←K8];exact(agt.1 hx).1
    have Gj:(a<o+len∧cs[a]?=some d)∨(o+len≤a∧a<o+len+ys.length∧ys[a-(o+len)]?=some d)∨(o+len+ys.length≤a∧cs[a]?=some d):=by
     rcases oP with⟨hf,_,e⟩|⟨e0,e1,_,e,_⟩
     ·rw[e]at hd;have Ju:(cs.take (o+len)).length=o+len:=by rw[List.length_take];omega
      by_cases h1:a<o+len
      ·rw[agK,agD (by rw[Ju];exact h1),List.getElem?_take_of_lt h1]at hd;exact .inl ⟨h1,hd⟩
      ·rw[agK,agJ (by rw[Ju];omega),Ju]at hd;by_cases h2:a-(o+len)<ys.length
       ·rw[agD h2]at hd;exact .inr (.inl ⟨by omega,by omega,hd⟩)
       ·rw[agJ (by omega),List.getElem?_drop,show o+len+ys.length+(a-(o+len)-ys.length)=a by omega]at hd;exact .inr (.inr ⟨by omega,hd⟩)
     ·rw[e]at hd;by_cases h1:a<cs.length
      ·rw[agD h1]at hd;exact .inl ⟨by omega,hd⟩
      ·rw[agJ (by omega)]at hd;have:=(agt.1 hd).1;exact .inr (.inl ⟨by omega,by omega,by rw[show a-(o+len)=a-cs.length by omega];exact hd⟩)
    rcases Gj with⟨h1,h2⟩|⟨h1,h2,h3⟩|⟨h1,h2⟩
    ·rw[if_neg (by have:=jG h1 iv;omega)]at hq;exact r9 a b d x q h2 hx hq
    ·have hle:(o+len)*i.size≤a*i.size:=Nat.mul_le_mul_right _ h1;have aO:a*i.size+b<(o+len+ys.length)*i.size:=jG h2 iv;rw[Nat.add_mul (o+len)]at aO;rw[if_pos ⟨by omega,by rw[hr.len];exact aO⟩]at hq;refine hr.rel (a-(o+len)) b d x q h3 hx ?_;rw[Nat.sub_mul,show a*i.size-(o+len)*i.size+b=a*i.size+b-(o+len)*i.size by omega];exact hq
    ·have hle:(o+len+ys.length)*i.size≤a*i.size:=Nat.mul_le_mul_right _ h1;rw[Nat.add_mul (o+len)]at hle;rw[if_neg (by rw[hr.len];omega)]at hq;exact r9 a b d x q h2 hx hq
   have Qr:∀d∈cp,d.length=i.size:=fun d hm=>by
    rcases oP with⟨_,_,e⟩|⟨_,_,_,e,_⟩
    ·rw[e]at hm;rcases ag5.1 hm with hm|hm
     ·rcases ag5.1 hm with hm|hm
      ·exact gS d (List.mem_of_mem_take hm)
      ·exact hr.wid d hm
     ·exact gS d (List.mem_of_mem_drop hm)
    ·rw[e]at hm;rcases ag5.1 hm with hm|hm
     ·exact gS d hm
     ·exact hr.wid d hm
   rcases oP with⟨hf,eL,ec⟩|⟨e0,e1,eL,ec,jO,mN⟩
   ·have fY:cp.length=cs.length:=by rw[ec];simp;omega
    obtain⟨G',k1,k2,k3,k4,k5⟩:=Mq (us:=us) (off:=(o+len)*i.size) (cp:=cp) hi hn gp r1 r2 r3 r4 r5 r6 r7 r8 jF fY Qr gh;refine⟨_,_,G',dL,k1,by rw[k2];exact agE _,k3,?_⟩;refine .vec n o (len+ys.length) L' i.size (by rw[k2];exact mz) ⟨_,_,_,rfl⟩ (by rw[k5,eL,qY.1,hL];exact agE _) fun _=> ?_;rw[k4];refine⟨by omega,⟨_,_,rfl,mK,c2,by omega,fun ho=> ?_⟩,fun ho hl=> ?_⟩
    ·rw[eL]at ho ⊢;obtain⟨g2,NN,q1,q2,q3⟩:=c4 ho;exact⟨g2,NN,q1,by rw[←q2,rA],q3⟩
    ·subst ho;rw[r2,hL,←eL,←hl];simp at rc;subst rc;simp
   ·subst e0;subst e1;simp only[agN,Nat.zero_mul]at*;subst rc;obtain⟨w',eH⟩:∃w',w'=w.setRow g (cur.toList.take (len*i.size)++us++cur.toList.drop (len*i.size+us.length)).toArray:=⟨_,rfl⟩;rw[←eH]at dL;have ic:∀b,b≠g→w'.heap[b]?=w.heap[b]?:=fun b hb=>by rw[eH];exact setRow_other w g b _ hb
    have mO:w'.heap[g]?=some (.cells (cur.toList.take (len*i.size)++us++cur.toList.drop (len*i.size+us.length)).toArray e (0,0)):=by rw[eH];exact setRow_heap w g cur _ e _ r4
    have g7:w'.heap.size=w.heap.size:=by rw[eH];exact Ip w g _
    obtain⟨sv,lr⟩:∃sv,sv=Value.slice (some ⟨g,0,none⟩) L' c:=⟨_,rfl⟩;have fY:cp.length=L':=by rw[ec,agu,hL,eL]
    have fM:G.fl n=len:=by rw[qY.1,hL]
    have hE:bZ G.N G w (G.grow n G.S sv L' (some g)) w':=⟨by rw[g7];exact agE _,fun _ _ h=>h,fun b q hs=>World.cell?_of_block (ic b (fun e=>r8 q (e▸hs))),fun _ _=>rfl,fun m _=>by
        by_cases em:m=n
        ·right;subst em;simp only[Gh.grow,if_true,fM];omega
        ·left;exact⟨by simp [Gh.grow,em],by simp [Gh.grow,em]⟩,gq rfl,fun b hb=>ic b (fun e=>r3 (e▸hb)),by rw[eH];rfl,by rw[eH];rfl,by rw[eH];rfl,fun b q hs=> .inl hs⟩
    refine⟨_,w',_,dL,hE,agE _,GP hi hn (fun _=>rfl) (fun _=>rfl) _ _ _ _ hE (fun g' qG=>by cases qG;exact⟨.inr r1,by rw[g7];exact(agI.1 r4).1⟩) (fun b q hs=> .inl hs) (fun b _ fU=>ic b (fun e=>fU (by rw[e]))) ?_,?_⟩
    ·refine⟨by simp [Gh.grow,fY],by rw[fY];exact jO,Qr, .inr ⟨g,c,_,by simp [Gh.grow],by simp [Gh.grow,lr,fY],r3,mO,by rw[fY];omega,r6,by rw[S5 _ _ _ jF];exact r7,r8,fun a b d x q hd hx hq=> ?_⟩⟩;rw[T3 _ _ _ _ jF]at hq;exact(gh a b d x q hd hx hq).ba hE (agE _)
    ·refine .vec n 0 (len+ys.length) L' i.size mz ⟨_,_,_,rfl⟩ (by simp [Gh.grow]) fun _=>⟨by omega,⟨_,_,rfl,mK,c2,by omega,fun _=>⟨g,c,by simp [Gh.grow,lr],by simp,by simp⟩⟩,fun _ e=> ?_⟩;simp [Gh.grow,lr,eL]
  rcases qY.2.2.2 with⟨b1,b2,A',b3⟩|⟨g,cap,cur,r1,r2,r3,r4,r5,r6,r7,r8,r9⟩
  ·
   subst b2;simp at hL;subst hL;have ho:o=0:=by omega
   have Hm:len=0:=by omega
   subst ho;subst Hm;have:=call rfl rfl;rw[b3]at this;injection this with q1 _ q2;subst q2;rcases oP with⟨hf,_,_⟩|⟨_,_,eL,ec,jO,mN⟩
   ·omega
   ·simp only[agN,List.nil_append]at eL ec;subst ec;rw[eL]at jO mN;have Jx:cp.length≤9223372036854775807:=by simp only[maxLen]at jO;omega
    have hold:(Builtin.firstCells i.size 0 (.slice A 0 0)).run P w.drew= .ok ([]:List Value).toArray w.drew:=by
     cases A with
     |none=>exact run_firstCells_none _ _ _ _ _
     |some a=>exact run_firstCells_some _ _ _ _ _ _ [] (by simp) (fun j u hu=>by simp at hu)
    have dL:=run_append_grow_src (P:=P) w T tx ty e i z hT j9 hz A 0 0 [] hold v cp.length us hs (by omega) (by omega) (growslice_fits (by omega) (by simpa using mN));simp only[agN,List.nil_append]at dL;obtain⟨cap,jc⟩:∃cap,cap=grownCap w cp.length 0 e:=⟨_,rfl⟩;have jr:cp.length≤cap:=by rw[jc];exact grownCap_ge _ _ _ _
    have hle:cap≤maxLen:=by rw[jc];exact grownCap_le_maxLen _ _ _ _ jO
    rw[←jc]at dL;obtain⟨cur,jE⟩:∃cur,cur=us.toArray++Builtin.zeroCells z.cells (cap-cp.length):=⟨_,rfl⟩;rw[←jE]at dL;have fK:cur.size=cap*i.size:=by
      have:=size_zeroCells z.cells (cap-cp.length);rw[jE,Array.size_append,this,List.size_toArray,hr.len,iO,←Nat.add_mul]
      congr 1
      omega
    have gh:(w.drew.alloc (.cells cur e)).heap[w.heap.size]?=some (.cells cur e (0,0)):=World.alloc_heap_new w.drew _;have wC:∀b,b<w.heap.size→(w.drew.alloc (.cells cur e)).heap[b]?=w.heap[b]?:=fun b hb=>Below.heap_alloc w.drew _ b hb;obtain⟨sv,lr⟩:∃sv,sv=Value.slice (some ⟨w.heap.size,0,none⟩) L' cap:=⟨_,rfl⟩;have fM:G.fl n=0:=by rw[qY.1];rfl
    have hE:bZ G.N G w (G.grow n G.S sv L' (some w.heap.size)) (w.drew.alloc (.cells cur e)):=⟨by simp,fun _ _ h=>h,fun b q hs=>World.cell?_of_block (wC b (hi.S b q hs)),fun _ _=>rfl,fun m _=>by
        by_cases em:m=n
        ·right;subst em;simp only[Gh.grow,if_true,fM];omega
        ·left;exact⟨by simp [Gh.grow,em],by simp [Gh.grow,em]⟩,gq rfl,fun b hb=>wC b (hi.z b hb),rfl,rfl,rfl,fun b q hs=> .inl hs⟩
    refine⟨_,_,_,dL,hE,agE _,GP hi hn (fun _=>rfl) (fun _=>rfl) _ _ _ _ hE (fun g' qG=>by cases qG;exact⟨.inl rfl,by simp⟩) (fun b q hs=> .inl hs) (fun b hb _=>wC b hb) ?_,?_⟩
    ·refine⟨by simp [Gh.grow,eL],jO,hr.wid, .inr ⟨w.heap.size,cap,cur,by simp [Gh.grow],by simp [Gh.grow,lr,eL],fun hz=>ag7 _ (hi.z _ hz),gh,jr,hle,fK,fun q hs=>ag7 _ (hi.S _ _ hs),fun a b d x q hd hx hq=> ?_⟩⟩;have iv:b<i.size:=by rw[←hr.wid d (agG hd)];exact(agt.1 hx).1
     have aO:a*i.size+b<us.length:=by rw[hr.len];exact jG (agt.1 hd).1 iv
     rw[jE,Array.getElem?_append_left (by simpa using aO),List.getElem?_toArray]at hq;exact(hr.rel a b d x q hd hx hq).ba hE (agE _)
    ·rw[agN];refine .vec n 0 cp.length L' i.size mz ⟨_,_,_,rfl⟩ (by simp [Gh.grow]) fun _=>⟨by omega,⟨_,_,rfl,jr,hle,by omega,fun _=>⟨w.heap.size,cap,by simp [Gh.grow,lr],by simp,by simp⟩⟩,fun _ e=> ?_⟩;simp [Gh.grow,lr,eL]
  ·
   rcases oP with⟨hf,eL,ec⟩|⟨e0,e1,eL,ec,jO,mN⟩
   ·obtain⟨g2,NN,q1,q2,q3⟩:=c4 (by omega);rw[r2]at q1;injection q1 with q4 _ q5;cases q4
    subst q5;exact room (by omega) g cap cur r1 r2 r3 r4 r5 r6 r7 r8 r9 q2 q3
   ·have:=call e0 e1;rw[r2]at this;injection this with q2 _ q3;by_cases mK:len+ys.length≤c
    ·exact room mK g cap cur r1 r2 r3 r4 r5 r6 r7 r8 r9 (by rw[q2,e0];simp) (by omega)
    ·subst e0;subst q2;subst q3;rw[eL]at jO mN;have Jx:L+ys.length≤9223372036854775807:=by simp only[maxLen]at jO;omega
     have FN:(cur.toList.take (len*i.size)).length=len*i.size:=by
      rw[List.length_take,ag0,r7];exact Nat.min_eq_left (Nat.mul_le_mul_right _ c1)
     have hold:(Builtin.firstCells i.size len (.slice (some ⟨g,0,none⟩) len c)).run P w.drew= .ok (cur.toList.take (len*i.size)).toArray w.drew:=
      run_firstCells_some _ _ _ _ _ _ _ FN (fun j q hq=>by
       rw[kG,agN];show w.cell? ⟨g,j,none⟩=some q;rw[cell_of_row w g _ cur e (0,0) r4,←agQ];have su:=(agt.1 hq).1;rw[FN]at su;rw[List.getElem?_take_of_lt su]at hq;exact hq)
     have dL:=run_append_grow_src (P:=P) w T tx ty e i z hT j9 hz (some ⟨g,0,none⟩) len c _ hold v ys.length us hs (by omega) (by omega) (growslice_fits (by omega) (by rw[e1];exact mN));obtain⟨cap,jc⟩:∃cap,cap=grownCap w (len+ys.length) c e:=⟨_,rfl⟩;have jr:len+ys.length≤cap:=by rw[jc];exact grownCap_ge _ _ _ _
     have hle:cap≤maxLen:=by rw[jc];exact grownCap_le_maxLen _ _ _ _ (by rw[e1];exact jO)
     rw[←jc]at dL;obtain⟨s9,jE⟩:∃s9,s9=(cur.toList.take (len*i.size)++us).toArray++Builtin.zeroCells z.cells (cap-(len+ys.length)):=⟨_,rfl⟩;rw[←jE]at dL;have zL:(cur.toList.take (len*i.size)++us).length=(len+ys.length)*i.size:=by rw[agu,FN,hr.len,←Nat.add_mul]
     have fK:s9.size=cap*i.size:=by
      have:=size_zeroCells z.cells (cap-(len+ys.length));rw[jE,Array.size_append,this,List.size_toArray,zL,iO,←Nat.add_mul]
      congr 1
      omega
     have gh:(w.drew.alloc (.cells s9 e)).heap[w.heap.size]?=some (.cells s9 e (0,0)):=World.alloc_heap_new w.drew _;have wC:∀b,b<w.heap.size→(w.drew.alloc (.cells s9 e)).heap[b]?=w.heap[b]?:=fun b hb=>Below.heap_alloc w.drew _ b hb;obtain⟨sv,lr⟩:∃sv,sv=Value.slice (some ⟨w.heap.size,0,none⟩) L' cap:=⟨_,rfl⟩;have fM:G.fl n=L:=by rw[qY.1,hL]
     have fY:cp.length=L':=by rw[ec,agu,hL,eL]
     have hE:bZ G.N G w (G.grow n G.S sv L' (some w.heap.size)) (w.drew.alloc (.cells s9 e)):=⟨by simp,fun _ _ h=>h,fun b q hs=>World.cell?_of_block (wC b (hi.S b q hs)),fun _ _=>rfl,fun m _=>by
         by_cases em:m=n
         ·right;subst em;simp only[Gh.grow,if_true,fM];omega
         ·left;exact⟨by simp [Gh.grow,em],by simp [Gh.grow,em]⟩,gq rfl,fun b hb=>wC b (hi.z b hb),rfl,rfl,rfl,fun b q hs=> .inl hs⟩
     refine⟨_,_,_,dL,hE,agE _,GP hi hn (fun _=>rfl) (fun _=>rfl) _ _ _ _ hE (fun g' qG=>by cases qG;exact⟨.inl rfl,by simp⟩) (fun b q hs=> .inl hs) (fun b hb _=>wC b hb) ?_,?_⟩
     ·refine⟨by simp [Gh.grow,fY],by rw[fY,eL];exact jO,fun d hd=> ?_, .inr ⟨w.heap.size,cap,s9,by simp [Gh.grow],by simp [Gh.grow,lr,fY],fun hz=>ag7 _ (hi.z _ hz),gh,by rw[fY];omega,hle,fK,fun q hs=>ag7 _ (hi.S _ _ hs),fun a b d x q hd hx hq=> ?_⟩⟩
      ·rw[ec]at hd;rcases ag5.1 hd with hd|hd
       ·exact gS d hd
       ·exact hr.wid d hd
      ·refine aG.ba hE (agE _) ?_;have K8:d.length=i.size:=by
        have hm:=agG hd;rw[ec]at hm;rcases ag5.1 hm with hm|hm
        ·exact gS d hm
        ·exact hr.wid d hm
       have iv:b<i.size:=by rw[←K8];exact(agt.1 hx).1
       have hal:a<len+ys.length:=by
        have:=(agt.1 hd).1;rw[fY,eL]at this;omega
       have aO:a*i.size+b<(cur.toList.take (len*i.size)++us).length:=by rw[zL];exact jG hal iv
       rw[jE,Array.getElem?_append_left (by simpa using aO),List.getElem?_toArray,ad9 _ us len a b FN iv]at hq;rw[ec]at hd;by_cases h1:a<len
       ·rw[if_pos h1,List.getElem?_take_of_lt (jG h1 iv),agQ]at hq;rw[agD (by omega)]at hd;exact r9 a b d x q hd hx hq
       ·rw[if_neg h1]at hq;rw[agJ (by omega)]at hd;exact hr.rel (a-len) b d x q (by rw[←hd];congr 1;omega) hx hq
     ·refine .vec n 0 (len+ys.length) L' i.size mz ⟨_,_,_,rfl⟩ (by simp [Gh.grow]) fun _=>⟨by omega,⟨_,_,rfl,jr,hle,by omega,fun _=>⟨w.heap.size,cap,by simp [Gh.grow,lr],by simp,by simp⟩⟩,fun _ e=> ?_⟩;simp [Gh.grow,lr,eL,e1]
theorem SD{T tx ty e k c9:Nat}{i:TypeInfo}{z:Value}{A:Option Addr}{v:Value}{ys:List (List AV)}{us:List Value}(hi:cf G w h)(hT:P.underlying T=some (.slice e))(j9:P.info? e=some i)(hz:i.zero=some z)(mm:i.size=k)(vD:i.bytes=c9)(iO:z.cells.size=k)(gp:0<k)
 (hr:yC G w k ys us) (hs:Src P k tx v ys.length us w) (jO:ys.length≤maxLen) (mN:ys.length*c9≤140737488355328):
 ∃r w' G',(Builtin.append_ #[T,tx] ty #[.slice A 0 0,v]).run P w= .ok r w'∧bZ G.N G w G' w'∧G.N≤G'.N∧cf G' w' (h++[.vec e k ys])∧aG G' w' r (.vec h.length 0 ys.length ys.length k):=by
 subst mm;subst vD;by_cases hy:ys.length=0
 ·have iF:ys=[]:=List.eq_nil_of_length_eq_zero hy;subst iF;have kM:us=[]:=List.eq_nil_of_length_eq_zero (by rw[hr.len];simp);subst kM;have dL:=run_append_nothing (P:=P) w T tx ty e i hT j9 A 0 0 (agE _) v hs;obtain⟨hE,hI⟩:=JP (w':=w) hi (.vec e i.size []) (fun _ _=>rfl) (.slice A 0 0) 0 none ⟨fun _ _=>rfl,agE _,rfl,rfl,rfl⟩ (fun g hg=>by cases hg) ⟨by simp [Gh.eJ],by simp,(fun _ h=>by cases h), .inl ⟨by simp [Gh.eJ],rfl,A,by simp [Gh.eJ]⟩⟩;refine⟨_,w,_,dL,hE,Nat.le_succ _,hI,?_⟩;rw[hi.len];exact .vec G.N 0 0 0 i.size (by simp [Gh.eJ]) ⟨_,_,_,rfl⟩ (by simp) fun _=>⟨by omega,⟨A,0,rfl,agE _,Nat.zero_le _,by omega,fun h=>by omega⟩,fun _ _=>by simp [Gh.eJ]⟩
 ·have Jx:ys.length≤9223372036854775807:=by simp only[maxLen]at jO;omega
  have hold:(Builtin.firstCells i.size 0 (.slice A 0 0)).run P w.drew= .ok ([]:List Value).toArray w.drew:=by
   cases A with
   |none=>exact run_firstCells_none _ _ _ _ _
   |some a=>exact run_firstCells_some _ _ _ _ _ _ [] (by simp) (fun j u hu=>by simp at hu)
  have dL:=run_append_grow_src (P:=P) w T tx ty e i z hT j9 hz A 0 0 [] hold v ys.length us hs (by omega) (by omega) (growslice_fits (by omega) (by simpa using mN));simp only[agN,List.nil_append]at dL;obtain⟨cap,jc⟩:∃cap,cap=grownCap w ys.length 0 e:=⟨_,rfl⟩;have jr:ys.length≤cap:=by rw[jc];exact grownCap_ge _ _ _ _
  have hle:cap≤maxLen:=by rw[jc];exact grownCap_le_maxLen _ _ _ _ jO
  rw[←jc]at dL;obtain⟨cur,jE⟩:∃cur,cur=us.toArray++Builtin.zeroCells z.cells (cap-ys.length):=⟨_,rfl⟩;rw[←jE]at dL;have fK:cur.size=cap*i.size:=by
    have:=size_zeroCells z.cells (cap-ys.length);rw[jE,Array.size_append,this,List.size_toArray,hr.len,iO,←Nat.add_mul]
    congr 1
    omega
  obtain⟨G',g1,g2,g3,g4⟩:=Lm (e:=e) (k:=i.size) (cap:=cap) (cs:=ys) (cur:=cur) hi jr hle fK hr.wid w.drew ⟨rfl,rfl,rfl,rfl⟩ (fun a b d x q hd hx hq=>by
   have iv:b<i.size:=by rw[←hr.wid d (agG hd)];exact(agt.1 hx).1
   have aO:a*i.size+b<us.length:=by rw[hr.len];exact jG (agt.1 hd).1 iv
   rw[jE,Array.getElem?_append_left (by simpa using aO),List.getElem?_toArray]at hq;exact hr.rel a b d x q hd hx hq)
  exact⟨_,_,G',dL,g1,g2,g3,g4 _ (agE _)⟩
end
section
variable {P:Program} {r:Option Nat} {n N0:Nat} {G:Gh} {w:World} {a:Act} {s:St} {o:Oper} {K:St→Prop} {Q:Exit→Act→World→Prop}
theorem DF(hs:c7 G w a s)(l:Array Operand):(l.map a.eval).size=(l.toList.map (ev s)).length∧∀(i:Nat)(u:Value)(c:AV),(l.map a.eval)[i]?=some u→(l.toList.map (ev s))[i]?=some c→aG G w u c:=by
 refine⟨by simp,fun i u c hu hc=> ?_⟩;rw[Array.getElem?_map]at hu;rw[agA,agQ]at hc;cases hx:l[i]? with
 |none=>rw[hx]at hu;cases hu
 |some x=>rw[hx]at hu hc;cases hu;cases hc;exact hs.ev x
theorem TD(hs:c7 G w a s)(l:Array (Nat×Operand)):(l.map fun(i,x)=>(i,a.eval x)).toList.length=(l.toList.map fun p=>(p.1,ev s p.2)).length∧
 ∀(i:Nat)(p:Nat×AV)(q:Nat×Value),(l.toList.map fun p=>(p.1,ev s p.2))[i]?=some p→(l.map fun(i,x)=>(i,a.eval x)).toList[i]?=some q→q.1=p.1∧aG G w q.2 p.2:=by
 refine⟨by simp,fun i p q hp hq=> ?_⟩;rw[agQ,Array.getElem?_map]at hq;rw[agA,agQ]at hp;cases hx:l[i]? with
 |none=>rw[hx]at hp;cases hp
 |some x=>rw[hx]at hp hq;cases hp;cases hq;exact⟨rfl,hs.ev x.2⟩
theorem Be{x y:Operand}{T U:TypeId}(c:Call)(hc:c.callee= .builtin .append)(h1:c.args.toList=[x,y])(h2:c.argTypes.toList=[T,U])(ho:o.op= .call c):
 (execOp a.eval o).run P w=((Builtin.append_ #[T,U] o.type #[a.eval x,a.eval y]).run P w).andThen fun v w'=> .ok (.value v) w':=by
 have e1:c.args= #[x,y]:=by rw[←Array.toList_inj];exact h1
 have e2:c.argTypes= #[T,U]:=by rw[←Array.toList_inj];exact h2
 unfold execOp;simp only[ho,resolve,hc,e1,e2,invoke,builtin,Sem.run_bind,Sem.run_pure,Result.andThen_ok,List.map_toArray,agS,List.map_nil]
theorem Ty{x:Operand}{T:TypeId}(c:Call)(hc:c.callee= .builtin .len)(h1:c.args.toList=[x])(h2:c.argTypes.toList=[T])(ho:o.op= .call c):
 (execOp a.eval o).run P w=((Builtin.len_ #[T] o.type #[a.eval x]).run P w).andThen fun v w'=> .ok (.value v) w':=by
 have e1:c.args= #[x]:=by rw[←Array.toList_inj];exact h1
 have e2:c.argTypes= #[T]:=by rw[←Array.toList_inj];exact h2
 unfold execOp;simp only[ho,resolve,hc,e1,e2,invoke,builtin,Sem.run_bind,Sem.run_pure,Result.andThen_ok,List.map_toArray,agS,List.map_nil]
theorem abq(c:Call)(hc:c.callee= .builtin .max)(ho:o.op= .call c):
 (execOp a.eval o).run P w=((Builtin.max_ c.argTypes o.type (c.args.map a.eval)).run P w).andThen fun v w'=> .ok (.value v) w':=by
 unfold execOp;simp only[ho,resolve,hc,invoke,builtin,Sem.run_bind,Sem.run_pure,Result.andThen_ok]
theorem ZF(c:Call)(hc:c.callee= .builtin .min)(ho:o.op= .call c):
 (execOp a.eval o).run P w=((Builtin.min_ c.argTypes o.type (c.args.map a.eval)).run P w).andThen fun v w'=> .ok (.value v) w':=by
 unfold execOp;simp only[ho,resolve,hc,invoke,builtin,Sem.run_bind,Sem.run_pure,Result.andThen_ok]
theorem NS{mx:Bool}{k k':IntKind}{z:Int}:∀(l:List AV)(vs:List Value)(x:Int),vs.length=l.length→(∀(i:Nat)(u:Value)(c:AV),vs[i]?=some u→l[i]?=some c→aG G w u c)→ET mx k x l=some (k',z)→
 (vs.foldlM (if mx then Builtin.max2 else Builtin.min2) (.int k x)).run P w= .ok (.int k' z) w
 |[],[],x,_,_,h=>by cases h;simp
 |[],_::_,_,hl,_,_=>by simp at hl
 |_::_,[],_,hl,_,_=>by simp at hl
 |y::l,u::vs,x,hl,hr,h=>by
  unfold ET at h;split at h
  ·next e=>cases e
  ·next k2 b l' e=>
   cases e
   have e1:=(hr 0 u _ rfl rfl).val;subst e1;have ih:=NS l vs _ (by simpa using hl) (fun i u c hu hc=>hr (i+1) u c (by simpa using hu) (by simpa using hc)) h;rw[List.foldlM_cons,Sem.run_bind];cases mx with
   |true=>simp only[if_true,cond_true]at ih ⊢;simp only[Builtin.max2,Sem.run_pure,Result.andThen_ok];exact ih
   |false=>simp only[Bool.false_eq_true,if_false,cond_false]at ih ⊢;simp only[Builtin.min2,Sem.run_pure,Result.andThen_ok];exact ih
  ·cases h
theorem QG{mx:Bool}{k:IntKind}{z:Int}{l:List AV}{vs:Array Value}(hl:vs.size=l.length)(hr:∀(i:Nat)(u:Value)(c:AV),vs[i]?=some u→l[i]?=some c→aG G w u c)(h:uf mx l=some (k,z)):
 ∃u us,vs.toList=u::us∧(us.foldlM (if mx then Builtin.max2 else Builtin.min2) u).run P w= .ok (.int k z) w:=by
 unfold uf at h;split at h
 ·next k2 x l'=>
  cases hv:vs.toList with
  |nil=>rw[←ag0,hv]at hl;simp at hl
  |cons u us=>
   refine⟨u,us,rfl,?_⟩;have l5:∀(i:Nat)(v:Value)(c:AV),(u::us)[i]?=some v→(AV.d (.v (.int k2 x))::l')[i]?=some c→aG G w v c:=fun i v c h1 h2=>hr i v c (by rw[←agQ,hv];exact h1) h2;have e1:=(l5 0 u _ rfl rfl).val;subst e1;refine NS l' us x ?_ (fun i v c h1 h2=>l5 (i+1) v c (by simpa using h1) (by simpa using h2)) h;rw[←ag0,hv]at hl;simpa using hl
 ·cases h
theorem NU{f:FuncId}(h:ym P f=true)(args:Array Value)(w:World):(callFunc f args).run P w= .ok (.enter f args) w:=by
 unfold ym at h;cases hq:P.funcs[f]? with
 |none=>rw[hq]at h;simp at h
 |some fn=>
  rw[hq]at h;simp only[agv,Bool.not_eq_true']at h;obtain⟨h1,h2⟩:=h;have h3:fn.body≠none:=by intro e;rw[e]at h1;cases h1
  have h4:fn.name≠ "runtime.NumGoroutine" :=by simpa using h2
  simp [callFunc,hq,h4,h3]
theorem Yy(hs:c7 G w a s)(cJ:N0≤G.N){x:AV}{h':List ak}{p:Sd}(hx:lq P o.op (ev s) s.h=some (x,h',p))(hp:p.ok)(hK:K ((s.wh h').put o.dst x)):o.wpIn (WF r) n P a w (iq N0 G w K) Q:=by
 have dz:=hs.ev;unfold lq at hx;split at hx
 next T ho=>
  split at hx
  ·next q hT=>
   cases hx
   obtain⟨i1,i2,i3⟩:=Vq hs.inv;exact l8 (by rw[ho];simp) hs cJ (v:= .map (some w.heap.size)) (by unfold execOp;simp [ho,run_makeMap,Result.andThen]) i1 (Nat.le_succ _) i2 i3 hK
  ·cases hx
 next T m i ok ho=>
  split at hx
  ·next k e hT=>
   split at hx
   ·next z hz=>
    split at hx
    ·next b s' hm hi=>
     split at hx
     ·next kv hn=>
      cases hc:gr P k&&z.oneCell' with
      |false=>rw[hc]at hx;cases hx
      |true=>
       rw[hc]at hx;cases hx
       rw[agv]at hc;obtain⟨v,r1,r2⟩:=Zx (ok:=ok) (s:=s') hs.inv hT hz hc.1 hn;have e1:=dz m;rw[hm]at e1;have e2:=dz i;rw[hi]at e2;have e2:=e2.val;have JN:a.eval m= .map (some (G.bo b)):=by
         generalize a.eval m=u at e1;cases e1 with|mp _ _=>rfl
       exact fc (by rw[ho];simp) hs cJ (by unfold execOp;simp [ho,JN,e2,r1,Result.andThen]) r2 hK
     ·cases hx
    ·cases hx
   ·cases hx
  ·cases hx
 next T m i y ho=>
  split at hx
  ·next k e hT=>
   split at hx
   ·next b s' d hm hi hd=>
    split at hx
    ·next kv hn=>
     cases hc:gr P k with
     |false=>rw[hc]at hx;cases hx
     |true=>
      rw[hc]at hx;cases hx
      obtain⟨w',r1,r2,r3⟩:=aar (s:=s') hs.inv hT hc hn ((dz y).IW hd) hp;have e1:=dz m;rw[hm]at e1;have e2:=dz i;rw[hi]at e2;have e2:=e2.val;have JN:a.eval m= .map (some (G.bo b)):=by
       generalize a.eval m=u at e1;cases e1 with|mp _ _=>rfl
      exact Mr (by rw[ho];simp) hs cJ (by unfold execOp;simp [ho,JN,e2,r1,Result.andThen]) r2 (agE _) r3 hK
    ·cases hx
   ·cases hx
  ·cases hx
 next=>cases hx
theorem P8(hs:c7 G w a s)(cJ:N0≤G.N)(h:kX P o K s):o.wpIn (WF r) n P a w (iq N0 G w K) Q:=by
 have dz:=hs.ev;unfold kX cO at h;split at h
 next x ho=>exact fc (by rw[ho];simp) hs cJ (v:=a.eval x) (by unfold execOp;rw[ho];rfl) (dz x) h
 next x ho=>exact fc (by rw[ho];simp) hs cJ (v:=a.eval x) (by unfold execOp;rw[ho];rfl) (dz x) h
 next c x y ho=>
  split at h
  next t hc=>
   have hb:=dz c;rw[hc]at hb;have e:=hb.bool;cases t with
   |true=>exact fc (by rw[ho];simp) hs cJ (v:=a.eval x) (by unfold execOp;simp [ho,e,asBool]) (dz x) (h.1 rfl)
   |false=>exact fc (by rw[ho];simp) hs cJ (v:=a.eval y) (by unfold execOp;simp [ho,e,asBool]) (dz y) (h.2 rfl)
  next=>exact h.elim
 next e ho=>
  split at h
  next z hz=>
   obtain⟨i1,i2⟩:=PY hs.inv z.cells e (z.cells.toList.map fun u=> .d (.v u)) (by simp) (fun i u c hu hc=>by
    rw[agA,agQ,hu]at hc;cases hc;exact .d (.v u))
   exact l8 (by rw[ho];simp) hs cJ (by unfold execOp;simp [ho,Instr.alloc,Fg hz,newVar,newRow]) (Aj G w hs.inv.z hs.inv.S _) (Nat.le_succ _) i1 i2 h
  next=>exact h.elim
 next e x ho=>
  obtain⟨hb,hK⟩:=bY.1 h;have hr:=(dz x).QS hb;obtain⟨i1,i2⟩:=PY hs.inv (a.eval x).cells e (ev s x).cells hr.len hr.rel;exact l8 (by rw[ho];simp) hs cJ (by unfold execOp;simp [ho,Instr.box,newVar,newRow]) (Aj G w hs.inv.z hs.inv.S _) (Nat.le_succ _) i1 i2 hK
 next t x ho=>
  obtain⟨u,y,h1,h2,h3⟩:=Nm hs.inv (dz x) h;exact fc (by rw[ho];simp) hs cJ (by unfold execOp;simp [ho,h1]) h2 h3
 next t x y ho=>
  unfold vg at h;split at h
  next m off hm=>
   split at h
   next cs fK=>
    split at h
    case h_2=>exact h.elim
    rename_i k hk
    obtain⟨eZ,h4⟩:=bY.1 h;simp only[agv,beq_iff_eq,cZ]at eZ;obtain⟨⟨rfl,h2⟩,h3⟩:=eZ;have h1:=hk;have hx:=dz x;rw[hm]at hx;obtain⟨w',r1,r2,r3⟩:=afj (P:=P) hs.inv fK (dz y) h2 h1 h3;have ex:a.eval x= .pointer (some ⟨G.bo m,off,none⟩):=by
     generalize a.eval x=u at hx;cases hx with
     |ptr=>rfl
    exact Mr (by rw[ho];simp) hs cJ (by unfold execOp;simp [ho,Instr.storeAt,Instr.sureAddr,ex,r1]) r2 (agE _) r3 h4
   next=>exact h.elim
  next=>exact h.elim
 next x ho=>
  have hx:=dz x;split at h
  next m off hm=>
   rw[hm]at hx;generalize ea:a.eval x=u at hx;cases hx with
   |ptr _ _ wj=>exact fc (by rw[ho];simp) hs cJ (by unfold execOp;simp [ho,ea]) (.ptr m off wj) h
  next xs i off hm=>
   rw[hm]at hx;generalize ea:a.eval x=u at hx;have zR:=hx;cases hx with
   |bn=>exact fc (by rw[ho];simp) hs cJ (by unfold execOp;simp [ho,ea]) zR h
  next f cs hm=>
   rw[hm]at hx;generalize ea:a.eval x=u at hx;have zR:=hx;cases hx with
   |fn=>exact fc (by rw[ho];simp) hs cJ (by unfold execOp;simp [ho,ea]) zR h
  next=>exact h.elim
 next T x f ho=>
  split at h
  next fo k g hT=>
   have hx:=dz x;split at h
   next m off hm=>
    rw[hm]at hx;generalize ea:a.eval x=u at hx;cases hx with
    |ptr _ _ wj=>exact fc (by rw[ho];simp) hs cJ (by unfold execOp;simp [ho,ea,Mh hT]) (.ptr m (off+fo) wj) h
   next xs i off hm=>
    rw[hm]at hx;generalize ea:a.eval x=u at hx;cases hx with
    |bn _ _ _ b oo us c hx hS hu=>exact fc (by rw[ho];simp) hs cJ (by unfold execOp;simp [ho,ea,Mh hT];rfl) (by rw[Nat.add_assoc];exact .bn xs i (off+fo) b oo us c hx hS hu) h
   next=>exact h.elim
  next=>exact h.elim
 next T x f ho=>
  obtain⟨u,y,h1,h2,h3⟩:=aaj (dz x) h;exact fc (by rw[ho];simp) hs cJ (by unfold execOp;simp [ho,h1]) h2 h3
 next T x i ho=>
  obtain⟨u,y,h1,h2,h3⟩:=aaT (dz x) (dz i) h;exact fc (by rw[ho];simp) hs cJ (by unfold execOp;simp [ho,h1]) h2 h3
 next T x i ho=>
  split at h
  next b z hb hz=>
   obtain⟨hT,h0,h⟩:=bY.1 h;have hT:=q6 hT;have hx:=dz x;rw[hb]at hx;have ex:=hx.val;obtain⟨k,ei⟩:=(dz i).int hz;split at h
   next c hc=>
    refine fc (by rw[ho];simp) hs cJ (v:= .int .u8 c.toNat) ?_ (.d (.v _)) h;unfold execOp;simp [ho,Instr.index,ex,ei,asIntOf,run_underlying hT,h0,hc]
   next=>exact h.elim
  next=>exact h.elim
 next T ps ho=>
  obtain⟨p1,p2⟩:=TD hs ps;obtain⟨u,y,h1,h2,h3⟩:=XW p1 p2 h;exact fc (by rw[ho];simp) hs cJ (by unfold execOp;simp only[ho,Sem.run_bind,h1];rfl) h2 h3
 next T len ps ho=>
  obtain⟨p1,p2⟩:=TD hs ps;obtain⟨u,w',G',y,h1,h2,h3,h4,h5,h6⟩:=VR (T:=T) hs.inv p1 p2 h;exact l8 (by rw[ho];simp) hs cJ (by unfold execOp;simp only[ho,Sem.run_bind,h1];rfl) h2 h3 h4 h5 h6
 next T x lo hi mx ho=>
  obtain⟨u,y,h1,h2,h3⟩:=Y9 hs (dz x) h;exact fc (by rw[ho];simp) hs cJ (by unfold execOp;simp [ho,h1]) h2 h3
 next x i ho=>
  have hx:=dz x;split at h
  next cs fK=>
   rw[fK]at hx;generalize ea:a.eval x=u at hx;split at h
   next c hc=>
    cases hx with
    |bX vs _ hl hr=>
     have aO:i<vs.size:=by rw[hl];exact(agt.1 hc).1
     exact fc (by rw[ho];simp) hs cJ (v:=vs[i]) (by unfold execOp;simp [ho,ea,Instr.extract,aO]) (hr i _ c (agP aO) hc) h
   next=>exact h.elim
  next=>exact h.elim
 next f first dt ho=>
  split at h
  case h_2=>exact h.elim
  rename_i Ir
  have Ir:first= #[]:=by rw[←Array.toList_inj];exact Ir
  subst Ir;obtain⟨p1,p2⟩:=DF hs dt;exact fc (by rw[ho];simp) hs cJ (v:= .func (.func f) #[] (dt.map a.eval)) (by unfold execOp;simp [ho,Instr.makeFunc]) (.fn f _ _ p1 p2) h
 next op T x y U ho=>
  obtain⟨u,z,h1,h2,h3⟩:=ab7 (X:=x) (Y:=y) (dz x) (dz y) h;refine fc (by rw[ho];simp) hs cJ ?_ h2 h3;unfold execOp;simp only[ho];rw[Sem.run_bind,h1];rfl
 next op T x ho=>
  obtain⟨u,z,h1,h2,h3⟩:=acQ (P:=P) (dz x) h;exact fc (by rw[ho];simp) hs cJ (by unfold execOp;simp [ho,h1]) h2 h3
 next t u x ho=>
  obtain⟨u,z,h1,h2,h3⟩:=acb (dz x) h;exact fc (by rw[ho];simp) hs cJ (by unfold execOp;simp [ho,h1]) h2 h3
 next c ho=>
  have jK:∀c,o.op≠ .defer c:=by rw[ho];simp
  split at h
  next hc=>
   split at h
   next x T h1 h2=>
    obtain⟨m,r1,r2⟩:=Wr (ty:=o.type) (dz x) h;exact fc jK hs cJ (by rw[Ty c hc h1 h2 ho,r1];rfl) (.d (.v _)) r2
   next=>exact h.elim
  next hc=>
   split at h
   next x y T U h1 h2=>
    obtain⟨hU,h⟩:=bY.1 h;obtain⟨⟨e',k'⟩,hU⟩:=Option.isSome_iff_exists.1 hU;obtain⟨p,w',G',q,h',r1,r2,r3,r4,r5,r6⟩:=aa2 (ty:=o.type) hs.inv (dz x) (dz y) (jm hU).1 h;exact l8 jK hs cJ (by rw[Be c hc h1 h2 ho,r1];rfl) r2 r3 r4 r5 r6
   next=>exact h.elim
  next hc=>
   split at h
   next k z hf=>
    obtain⟨p1,p2⟩:=DF hs c.args;obtain⟨u,us,e1,e2⟩:=QG (P:=P) p1 p2 hf;refine fc jK hs cJ (v:= .int k z) ?_ (.d (.v _)) h;rw[abq c hc ho];unfold Builtin.max_;rw[e1];simp only[if_true]at e2;rw[e2];rfl
   next=>exact h.elim
  next hc=>
   split at h
   next k z hf=>
    obtain⟨p1,p2⟩:=DF hs c.args;obtain⟨u,us,e1,e2⟩:=QG (P:=P) p1 p2 hf;refine fc jK hs cJ (v:= .int k z) ?_ (.d (.v _)) h;rw[ZF c hc ho];unfold Builtin.min_;rw[e1];simp only[Bool.false_eq_true,if_false]at e2;rw[e2];rfl
   next=>exact h.elim
  next f hc=>
   have call:∀(g:FuncId)(dt:List AV)(vs:Array Value),a.eval f= .func (.func g) #[] vs→vs.size=dt.length→(∀(i:Nat)(u:Value)(c:AV),vs[i]?=some u→dt[i]?=some c→aG G w u c)→
       bW P g (c.args.toList.map (ev s)++dt) s.h (fun r h'=>K ((s.wh h').put o.dst r))→o.wpIn (WF r) n P a w (iq N0 G w K) Q:=by
       intro g dt vs ea hl hr h;obtain⟨p1,p2⟩:=DF hs c.args;obtain⟨CB,jC⟩:=h;have xJ:=jC G w (c.args.map a.eval++vs) hs.inv (by rw[Array.size_append,agu,p1,hl]) (fun i u x hu hx=>by
        by_cases hi:i<(c.args.map a.eval).size
        ·rw[Array.getElem?_append_left hi]at hu;rw[agD (by rw[←p1];exact hi)]at hx;exact p2 i u x hu hx
        ·rw[Array.getElem?_append_right (by omega)]at hu;rw[agJ (by rw[←p1];omega)]at hx;rw[p1]at hu;exact hr _ u x hu hx)
       refine⟨fun _ _=>trivial,?_⟩;have dL:(o.semAt (WF r).round a.eval).run P w= .ok (.enter g (c.args.map a.eval++vs)) w:=by
        rw[Oper.semAt_eq _ _ _ jK];unfold execOp;simp only[ho,resolve,hc,ea];simp [Deferred.ofValue,invoke,NU CB]
       rw[dL];refine⟨fun h=>(by simp [WF,Fence.wide]at h),?_⟩;have h2:=callsIn_wide (n:=n-1).2 xJ;refine CallsIn.mono (F:=WF r) h2 ?_;rintro e w' ⟨v,G',x,h',rfl,x1,x2,x3,x4,x5⟩;exact⟨G',_,x1.less cJ,agL cJ x2,(hs.move x1 x2 x3).put x4 o.dst,x5⟩
   split at h
   next g dt hg=>
    have hf:=dz f;rw[hg]at hf;generalize ea:a.eval f=u at hf;cases hf with
    |fn _ vs _ hl hr=>exact call g dt vs ea hl hr h
   next q hg=>
    obtain⟨g,cs,rfl,h⟩:=h;have hf:=dz f;rw[hg]at hf;generalize ea:a.eval f=u at hf;cases hf with
    |hid hq h1=>
     cases hq with
     |fn _ vs _ hl hr=>exact call g (cs.map gG.av) vs ea (by rw[agy];exact hl) (fun i u c hu hc=>by
        rw[agA]at hc;cases hx:cs[i]? with
        |none=>rw[hx]at hc;cases hc
        |some d=>rw[hx]at hc;cases hc;exact(hr i u d hu hx).av) h
   next=>exact h.elim
  next=>exact h.elim
 next op _=>
  split at h
  next x h' p hx=>exact Yy hs cJ hx h.1 h.2
  next=>exact h.elim
theorem L9(hs:c7 G w a s){x:Option Operand}{d:Nat}{z:Int}(h:oM (ev s) d x=some z)(h0:0≤z):AF a x d z.toNat:=by
 cases x with
 |none=>
  simp only[oM,Option.some.injEq]at h;subst h;show _=d;exact agU d
 |some y=>
  simp only[oM]at h;obtain⟨k,e⟩:=(hs.ev y).int h;exact⟨k,z,e,h0,rfl⟩
theorem lg{α:Type}{b:Bool}{x y:α}(h:(bif b then some x else none)=some y):b=true∧x=y:=by
 cases b with
 |true=>exact⟨rfl,agM h⟩
 |false=>cases h
theorem abn{α:Type}{b:Bool}{x:Option α}{y:α}(h:(bif b then x else none)=some y):b=true∧x=some y:=by
 cases b with
 |true=>exact⟨rfl,h⟩
 |false=>cases h
theorem UQ(hs:c7 G w a s)(cJ:N0≤G.N)(h:vL P o K s):o.wpIn (WF r) n P a w (iq N0 G w K) Q:=by
 obtain⟨va,x,h',p,hx,hp,hK⟩:=h;have dz:=hs.ev;unfold fm at hx;split at hx
 next T y i ho=>
  split at hx
  ·next n' o' len L k z e k' i' e1 e2 e3=>
   split at hx
   ·next e4 k2 cs hn=>
    obtain⟨hb,he⟩:=lg hx;cases he
    rw[agv,beq_iff_eq,beq_iff_eq]at hb;obtain⟨rfl,rfl⟩:=hb;obtain⟨hL,h0,aO,rfl⟩:=hp;obtain⟨ff,fB⟩:=jm e3;obtain⟨kz,ez⟩:=(dz i).int e2;have hv:=dz y;rw[e1]at hv;have jR:=hv.qQ hs.inv hn hL;obtain⟨wI,⟨A,c,q1,q2,q3,q4,q5⟩,_⟩:=jR;obtain⟨g,cap,s1,rfl,s3⟩:=q5 (by omega);have IN:z<(len:Int):=aO;refine fc (by rw[ho];simp) hs cJ (v:= .pointer (some ⟨g,o'*k2+z.toNat*k2,none⟩)) ?_ (.di n' (o'+z.toNat) 0 L k2 (hs.inv.lt hn) ⟨_,_,rfl⟩ (by rw[(hs.inv.dp n' _ hn).1,hL];exact agE _) fun _=>⟨by omega,g,cap,s1,?_⟩) hK
    ·unfold execOp;simp [ho,q1,ez,Instr.indexAt,asIntOf,run_underlying ff,h0,IN,lC fB,kG]
    ·rw[Nat.add_mul];rfl
   ·cases hx
  ·cases hx
 next T y f ho=>
  split at hx
  ·next n' i j L k fo q g e1 hT=>
   cases hx
   have hv:=dz y;rw[e1]at hv;generalize ea:a.eval y=u at hv;cases hv with
   |di _ _ _ _ _ mz MJ hL hf=>
    obtain⟨pb,pq,rfl⟩:=MJ;refine fc (by rw[ho];simp) hs cJ (v:= .pointer (some ⟨pb,pq+fo,none⟩)) (by unfold execOp;simp [ho,ea,Mh hT]) (.di n' i (j+fo) L k mz ⟨_,_,rfl⟩ hL fun e=> ?_) hK;obtain⟨a1,g2,cap,a2,a3⟩:=hf e;refine⟨a1,g2,cap,a2,?_⟩;injection a3 with a3;injection a3 with a3;injection a3 with a4 a5;subst a4;subst a5;rw[Nat.add_assoc]
  ·cases hx
 next y ho=>
  split at hx
  ·next n' i j L k e1=>
   cases hx
   have hv:=dz y;rw[e1]at hv;have Te:=hv;generalize ea:a.eval y=u at hv Te;cases hv with
   |di _ _ _ _ _ mz MJ hL hf=>
    obtain⟨pb,pq,rfl⟩:=MJ;exact fc (by rw[ho];simp) hs cJ (by unfold execOp;simp [ho,ea]) Te hK
  ·cases hx
 next t y ho=>
  split at hx
  ·next n' i j L k c e1=>
   split at hx
   ·next e k' cs z hn hz=>
    obtain⟨hb,he⟩:=lg hx;cases he
    rw[beq_iff_eq]at hb;subst hb;have hv:=dz y;rw[e1]at hv;obtain⟨u,r1,r2⟩:=aeN hs.inv hn hp.1 hp.2 hz hv;exact fc (by rw[ho];simp) hs cJ (by unfold execOp;simp [ho,r1]) r2 hK
   ·cases hx
  ·cases hx
 next t y z ho=>
  split at hx
  ·next n' i j L k c cp e1=>
   split at hx
   ·next e k' cs q hn hq=>
    obtain⟨hb,he⟩:=lg hx;cases he
    simp only[agv,beq_iff_eq,cZ]at hb;obtain⟨⟨⟨⟨rfl,rfl⟩,Ka⟩,hj⟩,gp⟩:=hb;obtain⟨hL,hc,rfl⟩:=hp;have hv:=dz y;rw[e1]at hv;obtain⟨w',G',r1,r2,r3,r4⟩:=XL hs.inv hn hL hc hv (dz z) Ka hq hj gp;exact Mr (by rw[ho];simp) hs cJ (by unfold execOp;simp [ho,r1]) r2 r3 r4 hK
   ·cases hx
  ·cases hx
 next T y lo hi ho=>
  split at hx
  ·next n' o' len L k e k' oo ll e1 hT=>
   split at hx
   ·next l u hl hu=>
    split at hx
    ·next e4 k2 cs hn=>
     obtain⟨hb,he⟩:=lg hx;cases he
     rw[agv,beq_iff_eq,beq_iff_eq]at hb;obtain⟨rfl,rfl⟩:=hb;obtain⟨hL,h0,hlu,huL,rfl,rfl⟩:=hp;obtain⟨ff,fB⟩:=jm hT;have hv:=dz y;rw[e1]at hv;have jR:=hv.qQ hs.inv hn hL;obtain⟨wI,⟨A,c,q1,q2,q3,q4,q5⟩,_⟩:=jR;have hb:=CS (P:=P) (zo:=true) (L9 hs hl h0) (L9 hs hu (by omega)) (by omega) (show u.toNat≤c by omega) w;refine fc (by rw[ho];simp) hs cJ (v:= .slice (if c=l.toNat then A else A.map (·.add (l.toNat*k2))) (u.toNat-l.toNat) (c-l.toNat)) ?_ (.vec n' (o'+l.toNat) (u.toNat-l.toNat) L k2 (hs.inv.lt hn) ⟨_,_,_,rfl⟩ (by rw[(hs.inv.dp n' _ hn).1,hL];exact agE _) fun _=>⟨by omega,⟨_,_,rfl,by omega,by omega,by omega,fun ho2=> ?_⟩,fun h1 h2=> ?_⟩) hK
     ·unfold execOp;simp [ho,q1,Instr.sliceAt,Instr.slice,run_underlying ff,hb,lC fB]
     ·obtain⟨g,cap,s1,rfl,s3⟩:=q5 (by omega);refine⟨g,cap,s1,?_,by omega⟩;rw[if_neg (by omega)];simp [kG,Nat.add_mul]
     ·have Wv:o'=0:=by omega
      have Hm:l.toNat=0:=by omega
      subst Wv;rw[Hm];rw[Hm]at h2;simp only[Nat.sub_zero]at h2 ⊢;by_cases xn:L=0
      ·subst xn;have:len=0:=by omega
       subst this
       rename_i eZ
       rw[←eZ rfl rfl,q1,h2];split
       ·rfl
       ·cases A<;>simp [Addr.add]
      ·obtain⟨g,cap,s1,rfl,s3⟩:=q5 (by omega);rw[s1,h2];have:c=cap:=by omega
       subst this;split<;>simp [kG]
    ·cases hx
   ·cases hx
  ·cases hx
 next T l c ho=>
  split at hx
  ·next e k z1 z2 cs len m hT e1 e2=>
   split at hx
   ·next z c9 hz nG=>
    obtain⟨hb,he⟩:=lg hx;cases he
    simp only[agv,beq_iff_eq,cZ]at hb;obtain⟨⟨gp,iO⟩,_⟩:=hb;obtain⟨h0,kr,hl,hc,rfl,hm,lV⟩:=hp;obtain⟨ff,fB⟩:=jm hT;obtain⟨inf,i1,i2,i3⟩:=IT fB nG;have BD:inf.zero=some z:=by
     obtain⟨i',j1,j2⟩:=Ie hz;rw[i1]at j1;cases j1;exact j2
    obtain⟨k1,ez1⟩:=(dz l).int e1;obtain⟨k2,XM⟩:=(dz c).int e2;obtain⟨u,w',G',r1,r2,r3,r4,r5⟩:=aaz (kl:=k1) (kc:=k2) hs.inv ff i1 BD i2 i3 iO gp h0 kr hl hc hm lV;exact l8 (by rw[ho];simp) hs cJ (by unfold execOp;simp [ho,ez1,XM,r1]) r2 r3 r4 r5 hK
   ·cases hx
  ·cases hx
 next c ho=>
  have jK:∀c,o.op≠ .defer c:=by rw[ho];simp
  split at hx
  next hc=>
   split at hx
   ·next y T h1 h2=>
    split at hx
    ·next n' oo len L k e1=>
     split at hx
     ·next e4 k2 cs hn=>
      obtain⟨hb,he⟩:=lg hx;cases he
      rw[agv,beq_iff_eq]at hb;obtain⟨hT,rfl⟩:=hb;obtain⟨⟨e,q⟩,hT⟩:=Option.isSome_iff_exists.1 hT;have hv:=dz y;rw[e1]at hv;have jR:=hv.qQ hs.inv hn hp;obtain⟨wI,⟨A,cc,q1,q2,q3,q4,q5⟩,_⟩:=jR;exact fc jK hs cJ (v:= .int .i64 len) (by rw[Ty c hc h1 h2 ho,q1];simp [Builtin.len_,run_underlying (jm hT).1,goInt]) (.d (.v _)) hK
     ·cases hx
    ·cases hx
   ·cases hx
  next hc=>
   split at hx
   ·next y z T U h1 h2=>
    split at hx
    ·next e k pU cp ys L' gm hT hU=>
     split at hx
     ·next z0 c9 hz nG=>
      obtain⟨hb,hx⟩:=abn hx;rw[agv,beq_iff_eq,cZ]at hb;obtain⟨gp,iO⟩:=hb;obtain⟨ff,fB⟩:=jm hT;obtain⟨inf,i1,i2,i3⟩:=IT fB nG;have BD:inf.zero=some z0:=by
       obtain⟨i',j1,j2⟩:=Ie hz;rw[i1]at j1;cases j1;exact j2
      have jd:z0.cells.size=k:=by rw[←ag0];exact iO
      obtain⟨eU,kU⟩:=pU;split at hx
      ·next n' oo len L k1 e1=>
       split at hx
       ·next e4 k2 cs hn=>
        obtain⟨hb,he⟩:=lg hx;cases he
        simp only[agv,beq_iff_eq]at hb;obtain⟨⟨rfl,rfl⟩,rfl⟩:=hb;obtain⟨hL,vo,rfl,oP⟩:=hp;obtain⟨us,hr,Bz⟩:=JR (tx:=U) hs.inv (dz z) vo gp (jm hU).1;have hv:=dz y;rw[e1]at hv;obtain⟨u,w',G',r1,r2,r3,r4,r5⟩:=Zr (ty:=o.type) hs.inv ff i1 BD i2 i3 jd gp hn hL hv hr Bz oP;exact l8 jK hs cJ (by rw[Be c hc h1 h2 ho,r1];rfl) r2 r3 r4 r5 hK
       ·cases hx
      ·next e1=>
       cases hx
       obtain⟨vo,rfl,rfl,rfl,jO,mN⟩:=hp;obtain⟨us,hr,Bz⟩:=JR (tx:=U) hs.inv (dz z) vo gp (jm hU).1;have hv:=dz y;rw[e1]at hv;have ev:=hv.val;obtain⟨u,w',G',r1,r2,r3,r4,r5⟩:=SD (ty:=o.type) (A:=none) hs.inv ff i1 BD i2 i3 jd gp hr Bz jO mN;exact l8 jK hs cJ (by rw[Be c hc h1 h2 ho,ev,r1];rfl) r2 r3 r4 r5 hK
      ·next xs e1=>
       cases hx
       obtain⟨rfl,vo,rfl,rfl,rfl,jO,mN⟩:=hp;obtain⟨us,hr,Bz⟩:=JR (tx:=U) hs.inv (dz z) vo gp (jm hU).1;have hv:=dz y;rw[e1]at hv;obtain⟨A,eA⟩:∃A,a.eval y= .slice A 0 0:=by
        generalize a.eval y=u at hv;cases hv with|full _ _ hf=>exact hf
       obtain⟨u,w',G',r1,r2,r3,r4,r5⟩:=SD (ty:=o.type) (A:=A) hs.inv ff i1 BD i2 i3 jd gp hr Bz jO mN;exact l8 jK hs cJ (by rw[Be c hc h1 h2 ho,eA,r1];rfl) r2 r3 r4 r5 hK
      ·cases hx
     ·cases hx
    ·cases hx
   ·cases hx
  next=>cases hx
 next=>cases hx
theorem acL(hs:c7 G w a s)(cJ:N0≤G.N)(h:uX P o K s):o.wpIn (WF r) n P a w (iq N0 G w K) Q:=by
 have dz:=hs.ev;unfold uX at h;split at h
 ·next op T x y U ho=>
  split at h
  ·next xs pT v1 v2 hx hy hT h1 h2=>
   obtain⟨e,k⟩:=pT;have ff:=(jm hT).1;have hv:=dz y;rw[hy]at hv;have ey:=hv.val;obtain⟨A,b,oo,c,k',u,ex,hA,_,_,_,_,_⟩:=((dz x).list hx).nW;have hg:(eqGuard op T x y (a.eval x) (a.eval y)).run P w= .ok () w:=by rw[ex,ey];unfold eqGuard;cases op<;>simp
   have dL:(binOp op T (a.eval x) (a.eval y)).run P w= .ok (if A.isNone then v1 else v2) w:=by
    rw[ex,ey];have hq:=run_equal_slice_nil (P:=P) (w:=w) T e A xs.length c ff;cases op<;>simp [ql]at h1 h2<;>subst h1<;>subst h2<;>simp [binOp,hq]<;>cases A<;>rfl
   have hex:(execOp a.eval o).run P w= .ok (.value (if A.isNone then v1 else v2)) w:=by
    unfold execOp;simp only[ho];rw[Sem.run_bind,Sem.run_bind,hg];simp only[Result.andThen_ok];rw[dL];rfl
   cases A with
   |none=>
    have kR:xs=[]:=Classical.byContradiction fun da=>by have:=hA da;cases this
    exact fc (by rw[ho];simp) hs cJ hex (.d (.v _)) (h.1 kR)
   |some ad=>exact fc (by rw[ho];simp) hs cJ hex (.d (.v _)) h.2
  ·exact h.elim
 ·exact h.elim
theorem Jl(hs:c7 G w a s)(cJ:N0≤G.N)(h:YX P o K s):o.wpIn (WF r) n P a w (iq N0 G w K) Q:=by
 rcases h with h|h|h
 ·exact UQ hs cJ h
 ·exact acL hs cJ h
 ·exact P8 hs cJ h
end
theorem aG.zm{G:Gh}{w:World}{u:Value}{x:AV}(Z:Nat→Prop)(M:Nat)(h:aG G w u x):aG {G with Z:=Z,M:=M} w u x:=by
 induction h with
 |agg vs cs hl _ ih=>exact .agg vs cs hl ih
 |bX vs cs hl _ ih=>exact .bX vs cs hl ih
 |fn f vs cs hl _ ih=>exact .fn f vs cs hl ih
 |own n xs h hp hle hf=>exact .own n xs h hp hle hf
 |ptr n off h=>exact .ptr (G:={G with Z:=Z,M:=M}) n off h
 |row n off len cap k h hl hm=>exact .row (G:={G with Z:=Z,M:=M}) n off len cap k h hl hm
 |mp n h=>exact .mp (G:={G with Z:=Z,M:=M}) n h
 |dj n h=>exact .dj (G:={G with Z:=Z,M:=M}) n h
 |vec n o len L k h hs hL hf=>exact .vec (G:={G with Z:=Z,M:=M}) n o len L k h hs hL hf
 |di n i j L k h hs hL hf=>exact .di (G:={G with Z:=Z,M:=M}) n i j L k h hs hL hf
 |hid h h1=>exact .hid h h1
 |d h=>exact .d h
 |bn xs i off b o u x hx hS hu=>exact .bn xs i off b o u x hx hS hu
 |full xs hp hf=>exact .full xs hp hf
 |dead u=>exact .dead u
theorem eB.zm{G:Gh}{w:World}{n:Nat}{B:ak}(Z:Nat→Prop)(M:Nat)(hz:∀b,Z b→G.Z b)(h:eB G w n B):eB {G with Z:=Z,M:=M} w n B:=by
 cases B with
 |gone=>trivial
 |cells cs=>
  obtain⟨h1,h2,vs,T,h3,h4,h5⟩:=h;exact⟨fun k=>h1 (hz _ k),h2,vs,T,h3,h4,fun i u c hu hc=>(h5 i u c hu hc).zm Z M⟩
 |lp ls p as bd cs=>
  obtain⟨h1,h2,fn,vs,T,h3,h4,h5⟩:=h;exact⟨fun k=>h1 (hz _ k),h2,fn,vs,T,h3,h4,fun i u c hu hc=>(h5 i u c hu hc).zm Z M⟩
 |it sn cs=>
  obtain⟨h1,h2,fn,vs,T,h3,h4,h5⟩:=h;exact⟨fun k=>h1 (hz _ k),h2,fn,vs,T,h3,h4,fun i u c hu hc=>(h5 i u c hu hc).zm Z M⟩
 |map kv=>
  obtain⟨h1,h2,es,c,h3,h4⟩:=h;exact⟨fun k=>h1 (hz _ k),h2,es,c,h3,h4⟩
 |front e k len=>
  obtain⟨h1,hm,h2⟩:=h;refine⟨h1,hm,?_⟩;rcases h2 with h2|⟨g,cap,cur,h2,h3,h4,h5⟩
  ·exact .inl h2
  ·exact .inr ⟨g,cap,cur,h2,h3,fun k=>h4 (hz _ k),h5⟩
 |vec e k cs=>
  obtain⟨h1,hm,hk,h2⟩:=h;refine⟨h1,hm,hk,?_⟩;rcases h2 with h2|⟨g,cap,cur,h2,h3,h4,h5,h6,h7,h8,h9,az⟩
  ·exact .inl h2
  ·exact .inr ⟨g,cap,cur,h2,h3,fun k=>h4 (hz _ k),h5,h6,h7,h8,h9,fun i j c x u hc hx hu=>(az i j c x u hc hx hu).zm Z M⟩
theorem Hv{h:List ak}{G:Gh}{n:Nat}(Z:Nat→Prop)(M:Nat):cl h {G with Z:=Z,M:=M} n=cl h G n:=by
 unfold cl;cases h[n]? with
 |none=>rfl
 |some B=>cases B<;>rfl
theorem cf.zm{G:Gh}{w:World}{h:List ak}(hi:cf G w h)(Z:Nat→Prop)(M:Nat)(hz:∀b,Z b→G.Z b)(hM:M≤w.heap.size):cf {G with Z:=Z,M:=M} w h:=
 ⟨hi.len,fun b hb=>hi.z b (hz b hb),hi.S,fun n B hB=>(hi.dp n B hB).zm Z M hz,fun m n b h1 h2=>hi.inj m n b (by rw[←Hv Z M];exact h1) (by rw[←Hv Z M];exact h2),⟨hi.gl.1,hM⟩⟩
def oV(l:List Nat)(w:World):World:=l.foldl (fun w D=>w.putObj D (.deferred none)) w
theorem Nh:∀(l:List Nat)(w:World),(∀D∈l,w.heap[D]?=some (.deferred (some [])))→l.Nodup→
 (oV l w).heap.size=w.heap.size∧(∀b,b ∉ l→(oV l w).heap[b]?=w.heap[b]?)∧(∀b o,(oV l w).cell? ⟨b,o,none⟩=w.cell? ⟨b,o,none⟩)∧(oV l w).os=w.os∧(oV l w).tape=w.tape∧(oV l w).output=w.output
 |[],w,_,_=>⟨rfl,fun _ _=>rfl,fun _ _=>rfl,rfl,rfl,rfl⟩
 |D::l,w,hd,hn=>by
  rw[List.nodup_cons]at hn;have hD:=hd D agz;have aO:=(agI.1 hD).1;obtain⟨h1,h2,h3,h4,h5,h6⟩:=Nh l (w.putObj D (.deferred none)) (fun E hE=>by
    have da:E≠D:=fun e=>hn.1 (e▸hE);rw[World.putObj_heap_other da];exact hd E (agC _ hE)) hn.2
  refine⟨h1.trans (by simp),fun b hb=> ?_,fun b o=> ?_,h4,h5,h6⟩
  ·exact(h2 b fun h=>hb (agC _ h)).trans (World.putObj_heap_other fun e=>hb (e▸agz))
  ·refine(h3 b o).trans ?_;by_cases e:b=D
   ·subst e;unfold World.cell?;simp only[World.putObj_heap_same aO,hD]
   ·exact World.cell?_of_block (World.putObj_heap_other e)
theorem NC{F:Fence}{n:Nat}{P:Program}{fn:Func}{tmps:Array Value}{R:Ending→World→Prop}:∀(l:List Nat)(w:World),(∀D∈l,w.heap[D]?=some (.deferred (some [])))→l.Nodup→
 LeavesIn F n P fn tmps R [] .returning (oV l w)→LeavesInM F n P fn tmps R (l.map fun D=>{target:= .collected D,args:= #[]}) .returning w
 |[],w,_,_,h=>h
 |D::l,w,hd,hn,h=>by
  rw[List.nodup_cons]at hn;exact⟨by simp, .inl ⟨D,_,rfl,run_takeDeferred (hd D agz),NC l _ (fun E hE=>by
    have da:E≠D:=fun e=>hn.1 (e▸hE);rw[World.putObj_heap_other da];exact hd E (agC _ hE)) hn.2 h⟩⟩
theorem PR{N0:Nat}{G G1:Gh}{w w':World}{a':Act}{s1:St}(hE:bZ N0 {G with M:=w.heap.size} w G1 w')(hN:N0≤G1.N)(hz:∀b,G.Z b→b<w.heap.size)(hMw:G.M≤w.heap.size)(hs:c7 G1 w' a' s1):
 ∃(w2:World)(G2:Gh),(∀(F:Fence)(n:Nat)(P:Program)(fn:Func)(R:Ending→World→Prop),(∃v,(results fn a'.tmps).run P w2= .ok v w2∧R (.returned v) w2)→LeavesInM F n P fn a'.tmps R a'.defers .returning w')∧
  bZ N0 G w G2 w2∧G2.N=G1.N∧c7 G2 w2 {a' with defers:=[]} s1:=by
 obtain⟨l,l1,l2,l3⟩:=hs.df;have hd:∀D∈l,w'.heap[D]?=some (.deferred (some [])):=fun D hD=>(l3 D hD).2.2;obtain⟨h1,h2,h3,h4,h5,h6⟩:=Nh l w' hd l1;have hM:G1.M=w.heap.size:=hE.Z.2;have jd:∀b,G.Z b→b ∉ l:=fun b hb hl=>by
  have:=(l3 b hl).1;have:=hz b hb;omega
 obtain⟨G2,g0⟩:∃G2:Gh,G2={G1 with Z:=G.Z,M:=G.M}:=⟨_,rfl⟩;have A6:∀b,G.Z b→G1.Z b:=hE.Z.1.1;have jJ:cf G2 w' s1.h:=by rw[g0];exact hs.inv.zm _ _ A6 (agL hMw hE.size)
 have ia:bZ N0 G w G2 w':=by
  rw[g0];exact⟨hE.size,hE.S,hE.cell,hE.bo,hE.fr,gq rfl,hE.old,hE.os,hE.tape,hE.output,hE.new⟩
 have gY:bZ G2.N G2 w' G2 (oV l w'):=⟨by rw[h1];exact agE _,fun _ _ h=>h,fun b o _=>h3 b o,fun _ _=>rfl,fun _ _=> .inl ⟨rfl,rfl⟩,gq rfl,fun b hb=>h2 b (jd b (by rw[g0]at hb;exact hb)),h4,h5,h6,fun _ _ h=> .inl h⟩;have Gq:cf G2 (oV l w') s1.h:=⟨jJ.len,fun b hb=>by rw[h1];exact jJ.z b hb,fun b o hb=>by rw[h1];exact jJ.S b o hb,fun n B hB=>eB.ba (jJ.lt hB) gY (agE _) ⟨rfl,rfl,rfl⟩ (fun b hb=>⟨h2 b fun hl=>(hs.inv.dp n B hB).lv (by rw[g0]at hb;cases B<;>exact hb) (l3 b hl).2.1,fun _ h=>h⟩) (jJ.dp n B hB),jJ.inj,jJ.gl.ba gY⟩;refine⟨oV l w',G2,fun F n P fn R h=> ?_,ia.trans (gY.less (by rw[g0];exact hN)),by rw[g0],⟨hs.size,fun i=>aG.ba gY (agE _) (by rw[g0];exact(hs.tmp i).zm _ _),Gq,n7.nil _ _⟩⟩;rw[l2];exact NC l w' hd l1 h
section
variable {G:Gh} {w:World} {h:List ak}
theorem YA(hi:cf G w h)(fn:FuncId)(tm:Array Value)(D p:Nat)(as bd:Code)(cs:List AV)(hl:tm.size=cs.length)(hr:∀(i:Nat)(u:Value)(c:AV),tm[i]?=some u→cs[i]?=some c→aG G w u c):bZ G.N G w (G.dD w.heap.size) (w.alloc (.loop {state:= .ready,pending:=none,fn:=fn,tmps:=tm,params:= #[p],assign:=as,body:=bd,defers:=D}))∧cf (G.dD w.heap.size) (w.alloc (.loop {state:= .ready,pending:=none,fn:=fn,tmps:=tm,params:= #[p],assign:=as,body:=bd,defers:=D})) (h++[.lp .ready p as bd cs])∧aG (G.dD w.heap.size) (w.alloc (.loop {state:= .ready,pending:=none,fn:=fn,tmps:=tm,params:= #[p],assign:=as,body:=bd,defers:=D})) (.func (.yield w.heap.size) #[] #[]) (.dj h.length):=by
 have hE:=Aj G w hi.z hi.S (.loop {state:= .ready,pending:=none,fn:=fn,tmps:=tm,params:= #[p],assign:=as,body:=bd,defers:=D});have hN:G.N≤(G.dD w.heap.size).N:=Nat.le_succ _;have gR:(G.dD w.heap.size).bo h.length=w.heap.size:=by simp [Gh.dD,hi.len]
 have lh:∀n(B:ak),n<G.N→B.ep (G.dD w.heap.size) n=B.ep G n:=fun n B hn=>by
  cases B<;>simp [ak.ep,Gh.dD,Nat.ne_of_lt hn]
 have gh:∀n,n<G.N→cl (h++[.lp .ready p as bd cs]) (G.dD w.heap.size) n=cl h G n:=fun n hn=>by
  have aO:n<h.length:=by rw[hi.len];exact hn
  unfold cl;rw[agD aO,agx aO];exact lh n _ hn
 have xc:cl (h++[.lp .ready p as bd cs]) (G.dD w.heap.size) h.length=some w.heap.size:=by
  rw[dU (B:= .lp .ready p as bd cs) (by simp)];exact congrArg some gR
 refine⟨hE,⟨by simp [Gh.dD,hi.len],fun b hb=>agR (hi.z b hb) hE.size,fun b o hs=>agR (hi.S b o hs) hE.size,fun n B hB=> ?_,fun m n b hm hn=> ?_,hi.gl.ba hE⟩,?_⟩
 ·by_cases hn:n<h.length
  ·rw[agD hn]at hB;have eS:n<G.N:=hi.len▸hn;exact eB.ba eS hE hN ⟨rfl,rfl,rfl⟩ (fun b hb=>⟨Below.heap_alloc w _ _ (hi.hO (n:=n) ((dU hB).trans hb)),fun o h=>h⟩) (hi.dp n B hB)
  ·have k9:n=h.length:=by
    have:=(agt.1 hB).1;simp at this;omega
   subst k9;simp at hB;subst hB;exact⟨by rw[gR];exact fun hz=>ag7 _ (hi.z _ hz),fun o hs=>by rw[gR]at hs;exact ag7 _ (hi.S _ _ hs),fn,tm,D,by rw[gR];exact World.alloc_heap_new w _,hl,fun i u c hu hc=>(hr i u c hu hc).ba hE hN⟩
 ·have key:∀n b,cl (h++[.lp .ready p as bd cs]) (G.dD w.heap.size) n=some b→(n<G.N∧cl h G n=some b)∨(n=h.length∧b=w.heap.size):=fun n b hn=>by
   by_cases aO:n<G.N
   ·exact .inl ⟨aO,by rw[←gh n aO];exact hn⟩
   ·by_cases e:n=h.length
    ·subst e;rw[xc]at hn;cases hn;exact .inr ⟨rfl,rfl⟩
    ·rw[xm (agZ (by simp;have:=hi.len;omega))]at hn;cases hn
  rcases key m b hm with⟨_,jD⟩|⟨rfl,rfl⟩<;>rcases key n _ hn with⟨_,eS⟩|⟨rfl,hb⟩
  ·exact hi.inj m n b jD eS
  ·have:=hi.hO jD;omega
  ·have:=hi.hO eS;omega
  ·rfl
 ·have:=aG.dj (G:=G.dD w.heap.size) (w:=w.alloc (.loop {state:= .ready,pending:=none,fn:=fn,tmps:=tm,params:= #[p],assign:=as,body:=bd,defers:=D})) h.length (by simp [Gh.dD,hi.len])
  rwa [gR]at this
theorem J3{k:Nat}{B B':ak}{ob ur:Obj}(hi:cf G w h)(hk:h[k]?=some B)(px:B.ep G k=some (G.bo k))(hS:∀o,¬G.S (G.bo k) o)(lG:w.heap[G.bo k]?=some ob)(hn:B'= .gone∨B'.ep G k=some (G.bo k))
 (hB:∀w',(∀b o,G.S b o→w'.cell? ⟨b,o,none⟩=w.cell? ⟨b,o,none⟩)→w'.heap[G.bo k]?=some ur→bZ G.N G w G w'→eB G w' k B'):bZ G.N G w G (w.putObj (G.bo k) ur)∧cf G (w.putObj (G.bo k) ur) (h.set k B'):=by
 have aO:=(agI.1 lG).1;have hZ:¬G.Z (G.bo k):=(hi.dp k B hk).lv px;have ic:∀b,b≠G.bo k→(w.putObj (G.bo k) ur).heap[b]?=w.heap[b]?:=fun b hb=>World.putObj_heap_other hb;have fV:∀b o,G.S b o→(w.putObj (G.bo k) ur).cell? ⟨b,o,none⟩=w.cell? ⟨b,o,none⟩:=fun b o hs=>World.cell?_of_block (ic b (fun e=>hS o (e▸hs)));have hE:bZ G.N G w G (w.putObj (G.bo k) ur):=⟨by simp,fun _ _ h=>h,fV,fun _ _=>rfl,fun _ _=> .inl ⟨rfl,rfl⟩,gq rfl,fun b hb=>ic b (fun e=>hZ (e▸hb)),rfl,rfl,rfl,fun _ _ h=> .inl h⟩;refine⟨hE,?_⟩;have PF:=(agt.1 hk).1;have lB:(h.set k B')[k]?=some B':=by rw[agW PF]
 have e8:∀m,m≠k→(h.set k B')[m]?=h[m]?:=fun m hm=>by rw[ag1 (Ne.symm hm)]
 have lP:cl h G k=some (G.bo k):=(dU hk).trans px;have eh:∀m b,cl (h.set k B') G m=some b→cl h G m=some b:=fun m b hb=>by
  by_cases e:m=k
  ·subst e;rw[dU lB]at hb;rcases hn with rfl|hn
   ·cases hb
   ·rw[hn]at hb;cases hb;exact lP
  ·unfold cl at hb ⊢;rw[e8 m e]at hb;exact hb
 refine⟨by rw[List.length_set];exact hi.len,fun b hb=>agR (hi.z b hb) hE.size,fun b o hs=>agR (hi.S b o hs) hE.size,fun m C hC=> ?_,fun m m' b h1 h2=>hi.inj m m' b (eh m b h1) (eh m' b h2),hi.gl.ba hE⟩;by_cases e:m=k
 ·subst e;rw[lB]at hC;cases hC
  exact hB _ fV (World.putObj_heap_same aO) hE
 ·rw[e8 m e]at hC;have da:∀b,cl h G m=some b→b≠G.bo k:=fun b hb eb=>e (hi.inj m k b hb (by rw[eb];exact lP));exact eB.ba (hi.lt hC) hE (agE _) ⟨rfl,rfl,rfl⟩ (fun b hb=>⟨ic b (da _ ((dU hC).trans hb)),fun o h=>h⟩) (hi.dp m C hC)
theorem Gm{k:Nat}{ls:LS}{p:Nat}{as bd:Code}{cs:List AV}(hi:cf G w h)(hk:h[k]?=some (.lp ls p as bd cs)):
 (∀o,¬G.S (G.bo k) o)∧∃(fn:FuncId)(tm:Array Value)(D:Nat),w.heap[G.bo k]?=some (.loop {state:=ls.st,pending:=ls.pd,fn:=fn,tmps:=tm,params:= #[p],assign:=as,body:=bd,defers:=D})∧tm.size=cs.length∧(∀(i:Nat)(u:Value)(c:AV),tm[i]?=some u→cs[i]?=some c→aG G w u c)∧
   ∀(yH:LS),bZ G.N G w G (w.putObj (G.bo k) (.loop {state:=yH.st,pending:=yH.pd,fn:=fn,tmps:=tm,params:= #[p],assign:=as,body:=bd,defers:=D}))∧cf G (w.putObj (G.bo k) (.loop {state:=yH.st,pending:=yH.pd,fn:=fn,tmps:=tm,params:= #[p],assign:=as,body:=bd,defers:=D})) (h.set k (.lp yH p as bd cs)):=by
 obtain⟨h1,h2,fn,tm,D,h3,h4,h5⟩:=hi.dp k _ hk;refine⟨h2,fn,tm,D,h3,h4,h5,fun yH=>J3 hi hk rfl h2 h3 (.inr rfl) fun w' hc eH hE=>⟨h1,h2,fn,tm,D,eH,h4,fun i u c hu jx=>(h5 i u c hu jx).ba hE (agE _)⟩⟩
theorem V2{k:Nat}{ls:LS}{p:Nat}{as bd:Code}{cs:List AV}(hi:cf G w h)(hk:h[k]?=some (.lp ls p as bd cs))(ob:Obj):bZ G.N G w G (w.putObj (G.bo k) ob)∧cf G (w.putObj (G.bo k) ob) (h.set k .gone):=by
 obtain⟨h1,h2,fn,tm,D,h3,h4,h5⟩:=hi.dp k _ hk;exact J3 hi hk rfl h2 h3 (.inl rfl) fun _ _ _ _=>trivial
theorem YJ(hi:cf G w h):bZ G.N G w {G with Z:=fun b=>G.Z b∨b=w.heap.size} (w.alloc (.deferred (some [])))∧cf {G with Z:=fun b=>G.Z b∨b=w.heap.size} (w.alloc (.deferred (some []))) h:=by
 have hE:bZ G.N G w {G with Z:=fun b=>G.Z b∨b=w.heap.size} (w.alloc (.deferred (some []))):=
  ⟨by simp,fun _ _ h=>h,fun b _ h=>World.cell?_alloc_lt _ _ _ (hi.S _ _ h),fun _ _=>rfl,fun _ _=> .inl ⟨rfl,rfl⟩,⟨⟨fun _ h=> .inl h,fun b h=>h.imp id fun e=>Nat.le_of_eq e.symm⟩,rfl⟩,fun b hb=>Below.heap_alloc w _ b (hi.z b hb),rfl,rfl,rfl,fun _ _ h=> .inl h⟩
 refine⟨hE,hi.len,fun b hb=> ?_,fun b o hs=>agR (hi.S b o hs) hE.size,fun n B hB=> ?_,fun m n b h1 h2=>hi.inj m n b (by rw[←Hv (fun b=>G.Z b∨b=w.heap.size) G.M];exact h1) (by rw[←Hv (fun b=>G.Z b∨b=w.heap.size) G.M];exact h2),hi.gl.ba hE⟩
 ·rcases hb with hb|rfl
  ·exact agR (hi.z b hb) hE.size
  ·simp
 ·exact eB.ba (hi.lt hB) hE (agE _) ⟨rfl,rfl,rfl⟩ (fun b hb=>⟨Below.heap_alloc w _ _ (hi.hO (n:=n) ((dU hB).trans hb)),fun o h=>h⟩) (hi.dp n B hB)
end
end Go.Proofs.YtphmhnabilhbgaaGreatDoor
