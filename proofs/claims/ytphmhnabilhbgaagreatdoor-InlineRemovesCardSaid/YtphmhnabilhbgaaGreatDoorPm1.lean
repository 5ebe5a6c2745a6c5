/-
  Part 1 of the proof: AbsGlob, AbsCore, AbsOps, AbsHeap, AbsStore, AbsApp, AbsOp, AbsOp2, AbsOp3, AbsMap, AbsVec, AbsVec2, AbsOp4, AbsLeave, AbsLoop.
-/
import Derived.WalkKit
import Derived.Laws.Strings
import Derived.Lib.Hide
import Derived.OrdersIn
import Derived.RangeFuncIn
import Derived.RangeFuncCalls
import Derived.RangeFuncLeaves
import Derived.RangeFuncFrom
import Derived.Deep.MidRow
import Derived.Laws.AppendOwn
import Derived.Maps.OwnOps
import Derived.KernelRfl
import Derived.Deep.AppendSrc
import Derived.Deep.Upon
import Derived.Laws.BytesString
import Derived.Laws.StructEq
import Derived.Laws.MakeOwn
import Derived.Laws.Cover3
namespace Go.Proofs.YtphmhnabilhbgaaGreatDoor
open Go.RowKit
abbrev af4:=@Option.bind_some
abbrev af5:=@List.getElem?_eq_some_iff
abbrev af6:=@List.length_append
abbrev af7:=@Bool.and_eq_true
abbrev af8:=@List.length_cons
abbrev af9:=@List.getElem?_eq_getElem
abbrev aga:=@List.length_map
abbrev agb:=@List.mem_cons_self
abbrev agc:=@List.getElem?_map
abbrev agd:=@Nat.le_of_ble_eq_true
abbrev age:=@List.mem_cons_of_mem
abbrev agf:=@List.getElem?_append_left
abbrev agh:=@Nat.le_refl
abbrev agi:=@List.length_nil
abbrev agj:=@List.mem_of_getElem?
abbrev agk:=@Nat.eq_of_beq_eq_true
abbrev agl:=@Array.getElem?_eq_some_iff
abbrev agm:=@List.getElem?_append_right
abbrev agn:=@List.append_assoc
abbrev ago:=@Nat.le_trans
abbrev agp:=@Option.some.inj
abbrev agq:=@Nat.zero_add
abbrev agr:=@List.append_nil
abbrev ags:=@Array.getElem?_eq_getElem
abbrev agt:=@Array.getElem?_toList
abbrev agu:=@Nat.lt_of_lt_of_le
abbrev agv:=@List.map_cons
abbrev agw:=@List.all_eq_true
abbrev agx:=@Int.toNat_natCast
abbrev agy:=@Nat.not_lt_zero
abbrev agz:=@List.getElem?_set_self
abbrev agA:=@List.mem_cons
abbrev agB:=@List.map_congr_left
abbrev agC:=@List.getElem?_eq_none
abbrev agD:=@Array.length_toList
abbrev agE:=@List.getElem?_set_ne
abbrev agF:=@List.drop_zero
abbrev agG:=@List.length_replicate
abbrev agH:=@List.getElem?_cons_succ
abbrev agI:=@List.mem_append
abbrev agJ:=@List.take_append_drop
abbrev agK:=@Nat.lt_irrefl
abbrev agL:=@Nat.le_add_right
abbrev agM:=@List.not_mem_nil
abbrev agN:=@decide_eq_true
abbrev agO:=@decide_eq_false
abbrev agP:=@beq_self_eq_true
abbrev agQ:=@List.all_cons
abbrev agR:=@List.any_cons
abbrev agS:=@Nat.lt_succ_self
abbrev agT:=@Bool.or_eq_false_iff
abbrev agU:Type→Type:=List
abbrev agV:=ByteArray
abbrev agW:Type→Type:=Option
abbrev agX:=Program
abbrev agY:=Value
abbrev agZ:=World
def bL(a:agV):agU UInt8:=a.data.toList
theorem Lg(a:agV):a.toList=bL a:=ByteArray.toList_eq a
theorem JE{a b:agV}(h:bL a=bL b):a=b:=by cases a;cases b;simp only[bL,Array.toList_inj]at h;rw[h]
def uf(l:agU Nat):agU agY:=l.map fun n=>Value.int .u8 (Int.ofNat n)
def AL:agU Nat:=(List.range 256).map fun n=>bif (Nat.ble 9 n&&Nat.ble n 13)||n==32 then 1 else 0
def wL:agU (Nat×agU agY):=
 (0,uf AL)::
  []
def xO:agU (Nat×agU agY)→Nat→agW (agU agY)
 |[],_=>none
 |(k,l)::r,g=>bif k==g then some l else xO r g
theorem O4:∀{t:agU (Nat×agU agY)}{g:Nat}{l:agU agY},xO t g=some l→(g,l)∈t
 |[],g,l,h=>by cases h
 |(k,l')::r,g,l,h=>by
  unfold xO at h;cases e:k==g with
  |true=>rw[e]at h;cases h;rw[beq_iff_eq]at e;subst e;simp
  |false=>rw[e]at h;exact age _ (O4 h)
inductive D where
 |v (u:Value)
 |sl (xs:List (List D))
inductive gC where
 |d (x:D)
 |aW (c:List D) (off:Nat)
 |fn (f:FuncId) (cs:List gC)
inductive AV where
 |d (x:D)
 |agg (cs:List AV)
 |bU (cs:List AV)
 |ptr (n off:Nat)
 |aW (xs:List (List D)) (i off:Nat)
 |own (n:Nat) (xs:List (List D))
 |full (xs:List (List D))
 |row (n off len cap k:Nat)
 |fn (f:FuncId) (dy:List AV)
 |mp (n:Nat)
 |c7 (n:Nat)
 |vec (n o len L k:Nat)
 |de (n i j L k:Nat)
 |hid (c:gC)
 |dead
inductive LS where
 |ready
 |busy
 |done (c:Code)
def LS.st:LS→LoopState
 | .ready=> .ready
 | .busy=> .busy
 | .done _=> .done
def LS.pd:LS→agW Code
 | .done c=>some c
 |_=>none
inductive an where
 |cells (cs:List AV)
 |front (e:TypeId) (k len:Nat)
 |vec (e:TypeId) (k:Nat) (cs:List (List AV))
 |map (kv:List (ByteArray×D))
 |lp (ls:LS) (p:Nat) (as bd:Code) (cs:List AV)
 |it (sn:Bool) (cs:List AV)
 |gone
structure Gh where
 N:Nat
 Z:Nat→Prop
 S:Nat→Nat→Prop
 bg:Nat→Nat
 sg:Nat→Value
 ow:Nat→Option Nat
 fl:Nat→Nat
 M:Nat
inductive dq(S:Nat→Nat→Prop)(w:World):Value→D→Prop
 |v (u:Value):dq S w u (.v u)
 |sl (A:Option Addr) (b o c k:Nat) (xs:List (List D)) (u:Nat→Nat→Value)
    (hA:xs≠ []→A=some ⟨b,o,none⟩) (hc:xs.length≤c) (hm:c≤maxLen)
    (hk:∀x∈xs,x.length=k)
    (hS:∀i j,i<xs.length→j<k→S b (o+i*k+j)∧w.cell? ⟨b,o+i*k+j,none⟩=some (u i j)∧(u i j).oneCell'=true)
    (hu:∀(i j:Nat)(x:List D)(d:D),xs[i]?=some x→x[j]?=some d→dq S w (u i j) d):dq S w (.slice A xs.length c) (.sl xs)
inductive nt(S:Nat→Nat→Prop)(w:World):Value→gC→Prop
 |d {u:Value} {x:D} (h:dq S w u x):nt S w u (.d x)
 |aW (c:List D) (off b o:Nat) (u:Nat→Value) (hS:∀j,j<c.length→S b (o+j)∧w.cell? ⟨b,o+j,none⟩=some (u j)) (hu:∀(j:Nat)(d:D),c[j]?=some d→dq S w (u j) d):nt S w (.pointer (some ⟨b,o+off,none⟩)) (.aW c off)
 |fn (f:FuncId) (vs:Array Value) (cs:List gC) (hl:vs.size=cs.length) (h:∀(i:Nat)(u:Value)(c:gC),vs[i]?=some u→cs[i]?=some c→nt S w u c):nt S w (.func (.func f) #[] vs) (.fn f cs)
structure Tn(s u:Value)(o len L k:Nat):Prop where
 ol:o+len≤L
 sl:∃A c,u= .slice A len c∧len≤c∧c≤maxLen∧L≤c+o∧(o<L→∃g cap,s= .slice (some ⟨g,0,none⟩) L cap∧A=some ⟨g,o*k,none⟩∧o+c=cap)
 all:o=0→len=L→u=s
structure QU(s u:Value)(i j L k:Nat):Prop where
 il:i<L
 pt:∃g cap,s= .slice (some ⟨g,0,none⟩) L cap∧u= .pointer (some ⟨g,i*k+j,none⟩)
inductive aE(G:Gh)(w:World):Value→AV→Prop
 |d {u:Value} {x:D} (h:dq G.S w u x):aE G w u (.d x)
 |agg (vs:Array Value) (cs:List AV) (hl:vs.size=cs.length) (h:∀(i:Nat)(u:Value)(c:AV),vs[i]?=some u→cs[i]?=some c→aE G w u c):aE G w (.agg vs) (.agg cs)
 |bU (vs:Array Value) (cs:List AV) (hl:vs.size=cs.length) (h:∀(i:Nat)(u:Value)(c:AV),vs[i]?=some u→cs[i]?=some c→aE G w u c):aE G w (.tuple vs) (.bU cs)
 |ptr (n off:Nat) (h:n<G.N):aE G w (.pointer (some ⟨G.bg n,off,none⟩)) (.ptr n off)
 |aW (xs:List (List D)) (i off b o:Nat) (u:Nat→Value) (x:List D) (hx:xs[i]?=some x)
  (hS:∀j,j<x.length→G.S b (o+j)∧w.cell? ⟨b,o+j,none⟩=some (u j)) (hu:∀(j:Nat)(d:D),x[j]?=some d→dq G.S w (u j) d):aE G w (.pointer (some ⟨b,o+off,none⟩)) (.aW xs i off)
 |own {u:Value} (n:Nat) (xs:List (List D)) (h:n<G.N) (hp:dq G.S w u (.sl xs)) (hle:xs.length≤G.fl n) (hf:xs.length=G.fl n→u=G.sg n):aE G w u (.own n xs)
 |full {u:Value} (xs:List (List D)) (hp:dq G.S w u (.sl xs)) (hf:∃A,u= .slice A xs.length xs.length):aE G w u (.full xs)
 |row (n off len cap k:Nat) (h:n<G.N) (hl:len≤cap) (hm:cap≤maxLen):aE G w (.slice (some ⟨G.bg n,off,none⟩) len cap) (.row n off len cap k)
 |fn (f:FuncId) (vs:Array Value) (cs:List AV) (hl:vs.size=cs.length) (h:∀(i:Nat)(u:Value)(c:AV),vs[i]?=some u→cs[i]?=some c→aE G w u c):aE G w (.func (.func f) #[] vs) (.fn f cs)
 |mp (n:Nat) (h:n<G.N):aE G w (.map (some (G.bg n))) (.mp n)
 |c7 (n:Nat) (h:n<G.N):aE G w (.func (.yield (G.bg n)) #[] #[]) (.c7 n)
 |vec {u:Value} (n o len L k:Nat) (h:n<G.N) (hs:∃A l c,u= .slice A l c) (hL:L≤G.fl n) (hf:L=G.fl n→Tn (G.sg n) u o len L k):aE G w u (.vec n o len L k)
 |de {u:Value} (n i j L k:Nat) (h:n<G.N) (hs:∃b q,u= .pointer (some ⟨b,q,none⟩)) (hL:L≤G.fl n) (hf:L=G.fl n→QU (G.sg n) u i j L k):aE G w u (.de n i j L k)
 |hid {u:Value} {c:gC} (h:nt G.S w u c) (h1:u.oneCell'=true):aE G w u (.hid c)
 |dead (u:Value):aE G w u .dead
def kh:agU (agV×D)→agV→agW D
 |[],_=>none
 |(k,d)::l,s=>bif bL k==bL s then some d else kh l s
structure ui(S:Nat→Nat→Prop)(w:World)(es:Array MapEntry)(clock:Nat)(kv:List (ByteArray×D)):Prop where
 size:es.size≤maxLen
 stamped:MapKept.Stamped es clock
 vS:∀e∈es.toList,∃s d,e.key= .string s∧kh kv s=some d∧dq S w e.val d
 all:∀s d,kh kv s=some d→∃e∈es.toList,e.key= .string s
 len:es.size≤kv.length
 born:∀(i:Nat)(e:MapEntry),es[i]?=some e→e.born=i
 C0:clock=es.size
def an.dU(G:Gh)(n:Nat):an→agW Nat
 | .cells _=>some (G.bg n)
 | .front _ _ _=>G.ow n
 | .vec _ _ _=>G.ow n
 | .map _=>some (G.bg n)
 | .lp _ _ _ _ _=>some (G.bg n)
 | .it _ _=>some (G.bg n)
 | .gone=>none
def bR(h:agU an)(G:Gh)(n:Nat):agW Nat:=(h[n]?).bind (an.dU G n)
theorem dC{h:agU an}{G:Gh}{n:Nat}{B:an}(e:h[n]?=some B):bR h G n=B.dU G n:=by unfold bR;rw[e];rfl
theorem vF{h:agU an}{G:Gh}{n:Nat}(e:h[n]?=none):bR h G n=none:=by unfold bR;rw[e];rfl
theorem j7{h:agU an}{G:Gh}{n b:Nat}(e:bR h G n=some b):∃B,h[n]?=some B∧B.dU G n=some b:=by
 unfold bR at e;cases hx:h[n]? with
 |none=>rw[hx]at e;cases e
 |some B=>rw[hx]at e;exact⟨B,rfl,e⟩
def dY(G:Gh)(w:agZ)(n:Nat):an→Prop
 | .cells cs=>¬G.Z (G.bg n)∧(∀o,¬G.S (G.bg n) o)∧∃(vs:Array agY)(T:TypeId),w.heap[G.bg n]?=some (.cells vs T (0,0))∧vs.size=cs.length∧∀(i:Nat)(u:agY)(c:AV),vs[i]?=some u→cs[i]?=some c→aE G w u c
 | .front e k len=>G.fl n=len∧len≤maxLen∧((G.ow n=none∧∃A,G.sg n= .slice A len len)∨
  ∃(g cap:Nat)(cur:Array agY),G.ow n=some g∧G.sg n= .slice (some ⟨g,0,none⟩) len cap∧¬G.Z g∧w.heap[g]?=some (.cells cur e (0,0))∧len≤cap∧cap≤maxLen∧cur.size=cap*k∧∀o,len*k≤o→¬G.S g o)
 | .vec e k cs=>G.fl n=cs.length∧cs.length≤maxLen∧(∀c∈cs,c.length=k)∧((G.ow n=none∧cs=[]∧∃A,G.sg n= .slice A 0 0)∨
  ∃(g cap:Nat)(cur:Array agY),G.ow n=some g∧G.sg n= .slice (some ⟨g,0,none⟩) cs.length cap∧¬G.Z g∧w.heap[g]?=some (.cells cur e (0,0))∧cs.length≤cap∧cap≤maxLen∧cur.size=cap*k∧(∀o,¬G.S g o)∧
   ∀(i j:Nat)(c:agU AV)(x:AV)(u:agY),cs[i]?=some c→c[j]?=some x→cur[i*k+j]?=some u→aE G w u x)
 | .map kv=>¬G.Z (G.bg n)∧(∀o,¬G.S (G.bg n) o)∧∃(es:Array MapEntry)(clock:Nat),w.heap[G.bg n]?=some (.map es clock)∧ui G.S w es clock kv
 | .lp ls p as bd cs=>¬G.Z (G.bg n)∧(∀o,¬G.S (G.bg n) o)∧∃(fn:FuncId)(tm:Array agY)(D:Nat),w.heap[G.bg n]?=some (.loop {state:=ls.st,pending:=ls.pd,fn:=fn,tmps:=tm,params:= #[p],assign:=as,body:=bd,defers:=D})∧tm.size=cs.length∧∀(i:Nat)(u:agY)(c:AV),tm[i]?=some u→cs[i]?=some c→aE G w u c
 | .it sn cs=>¬G.Z (G.bg n)∧(∀o,¬G.S (G.bg n) o)∧∃(fn:Nat)(vs:Array agY)(_:Unit),w.heap[G.bg n]?=some (.mapIter (some fn) 1 (if sn then #[0]else #[]) 1)∧(vs.size=cs.length∧vs= #[.map (some fn)])∧∀(i:Nat)(u:agY)(c:AV),vs[i]?=some u→cs[i]?=some c→aE G w u c
 | .gone=>True
def DC(G:Gh)(w:agZ):Prop:=(∀(g:Nat)(l:agU agY),(g,l)∈wL→∀(j:Nat)(v:agY),l[j]?=some v→G.S g j∧w.cell? ⟨g,j,none⟩=some v)∧G.M≤w.heap.size
structure bO(G:Gh)(w:World)(h:List an):Prop where
 len:h.length=G.N
 z:∀b,G.Z b→b<w.heap.size
 S:∀b o,G.S b o→b<w.heap.size
 dh:∀(n:Nat)(B:an),h[n]?=some B→dY G w n B
 inj:∀(m n b:Nat),bR h G m=some b→bR h G n=some b→m=n
 gl:DC G w
structure bK(N:Nat)(G:Gh)(w:World)(G':Gh)(w':World):Prop where
 size:w.heap.size≤w'.heap.size
 S:∀b o,G.S b o→G'.S b o
 cell:∀b o,G.S b o→w'.cell? ⟨b,o,none⟩=w.cell? ⟨b,o,none⟩
 bg:∀n,n<N→G'.bg n=G.bg n
 fr:∀n,n<N→(G'.fl n=G.fl n∧G'.sg n=G.sg n)∨G.fl n<G'.fl n
 Z:((∀b,G.Z b→G'.Z b)∧∀b,G'.Z b→G.Z b∨w.heap.size≤b)∧G'.M=G.M
 old:∀b,G.Z b→w'.heap[b]?=w.heap[b]?
 os:w'.os=w.os
 tape:w'.tape=w.tape
 output:w'.output=w.output
 new:∀b o,G'.S b o→G.S b o∨¬G.Z b
theorem fM{Z Z':Nat→Prop}{m M M':Nat}(h:Z'=Z)(hM:M'=M:=by rfl):((∀b,Z b→Z' b)∧∀b,Z' b→Z b∨m≤b)∧M'=M:=⟨⟨fun _ k=>h▸k,fun _ k=> .inl (h▸k)⟩,hM⟩
theorem bK.refl(N:Nat)(G:Gh)(w:agZ):bK N G w G w:=
 ⟨agh _,fun _ _ h=>h,fun _ _ _=>rfl,fun _ _=>rfl,fun _ _=> .inl ⟨rfl,rfl⟩,fM rfl,fun _ _=>rfl,rfl,rfl,rfl,fun _ _ h=> .inl h⟩
theorem bK.trans{N:Nat}{G G1 G2:Gh}{w w1 w2:agZ}(h:bK N G w G1 w1)(k:bK N G1 w1 G2 w2):bK N G w G2 w2:=
 ⟨ago h.size k.size,fun b o hs=>k.S b o (h.S b o hs),fun b o hs=>(k.cell b o (h.S b o hs)).trans (h.cell b o hs),fun n hn=>(k.bg n hn).trans (h.bg n hn),
  fun n hn=>by
   rcases h.fr n hn with⟨h1,h2⟩|h1<;>rcases k.fr n hn with⟨k1,k2⟩|k1
   ·exact .inl ⟨k1.trans h1,k2.trans h2⟩
   ·exact .inr (h1▸k1)
   ·exact .inr (k1▸h1)
   ·exact .inr (Nat.lt_trans h1 k1),
  ⟨⟨fun b hb=>k.Z.1.1 b (h.Z.1.1 b hb),fun b hb=>(k.Z.1.2 b hb).elim (h.Z.1.2 b) fun hs=> .inr (ago h.size hs)⟩,k.Z.2.trans h.Z.2⟩,fun b hb=>(k.old b (h.Z.1.1 b hb)).trans (h.old b hb),k.os.trans h.os,k.tape.trans h.tape,k.output.trans h.output,fun b o hs=>(k.new b o hs).elim (h.new b o) (fun hn=> .inr fun hz=>hn (h.Z.1.1 b hz))⟩
theorem bK.less{N M:Nat}{G G':Gh}{w w':agZ}(h:bK N G w G' w')(hM:M≤N):bK M G w G' w':=
 ⟨h.size,h.S,h.cell,fun n hn=>h.bg n (agu hn hM),fun n hn=>h.fr n (agu hn hM),h.Z,h.old,h.os,h.tape,h.output,h.new⟩
theorem bK.kD{N:Nat}{G G':Gh}{w w':agZ}(h:bK N G w G' w'){b:Nat}(hb:b<w.heap.size)(hz:¬G.Z b):¬G'.Z b:=fun k=>(h.Z.1.2 b k).elim hz fun hs=>agK _ (agu hb hs)
def oF(G:Gh)(w:agZ)(ds:agU Deferred):Prop:=∃l:agU Nat,l.Nodup∧ds=l.map (fun D=>{target:= .collected D,args:= #[]})∧∀D∈l,G.M≤D∧G.Z D∧w.heap[D]?=some (.deferred (some []))
theorem oF.nil(G:Gh)(w:agZ):oF G w []:=⟨[],List.nodup_nil,rfl,fun _ h=>absurd h agM⟩
theorem oF.keep{N:Nat}{G G':Gh}{w w':agZ}{ds:agU Deferred}(h:oF G w ds)(hE:bK N G w G' w'):oF G' w' ds:=
 let ⟨l,h1,h2,h3⟩:=h
 ⟨l,h1,h2,fun D hD=>⟨hE.Z.2▸(h3 D hD).1,hE.Z.1.1 D (h3 D hD).2.1,(hE.old D (h3 D hD).2.1).trans (h3 D hD).2.2⟩⟩
theorem DC.keep{N:Nat}{G G':Gh}{w w':agZ}(h:DC G w)(hE:bK N G w G' w'):DC G' w':=⟨fun g l hm j v hv=>
 ⟨hE.S _ _ (h.1 g l hm j v hv).1,(hE.cell _ _ (h.1 g l hm j v hv).1).trans (h.1 g l hm j v hv).2⟩,by rw[hE.Z.2];exact ago h.2 hE.size⟩
theorem dq.keep{S S':Nat→Nat→Prop}{w w':agZ}(hS:∀b o,S b o→S' b o)(hc:∀b o,S b o→w'.cell? ⟨b,o,none⟩=w.cell? ⟨b,o,none⟩){u:agY}{x:D}(h:dq S w u x):dq S' w' u x:=by
 induction h with
 |v u=>exact .v u
 |sl A b o c k xs u hA jk hm hk oc _ ih=>
  exact .sl A b o c k xs u hA jk hm hk (fun i j hi hj=>⟨hS _ _ (oc i j hi hj).1,(hc _ _ (oc i j hi hj).1).trans (oc i j hi hj).2.1,(oc i j hi hj).2.2⟩) ih
theorem nt.keep{S S':Nat→Nat→Prop}{w w':agZ}(hS:∀b o,S b o→S' b o)(hc:∀b o,S b o→w'.cell? ⟨b,o,none⟩=w.cell? ⟨b,o,none⟩){u:agY}{x:gC}(h:nt S w u x):nt S' w' u x:=by
 induction h with
 |d h=>exact .d (h.keep hS hc)
 |aW c off b o u h1 h2=>exact .aW c off b o u (fun j hj=>⟨hS _ _ (h1 j hj).1,(hc _ _ (h1 j hj).1).trans (h1 j hj).2⟩) (fun j d hd=>(h2 j d hd).keep hS hc)
 |fn f vs cs hl _ ih=>exact .fn f vs cs hl ih
theorem aE.keep{G G':Gh}{w w':agZ}(hE:bK G.N G w G' w')(hN:G.N≤G'.N){u:agY}{x:AV}(h:aE G w u x):aE G' w' u x:=by
 induction h with
 |d h=>exact .d (h.keep hE.S hE.cell)
 |agg vs cs hl _ ih=>exact .agg vs cs hl ih
 |bU vs cs hl _ ih=>exact .bU vs cs hl ih
 |ptr n off h=>rw[←hE.bg n h];exact .ptr n off (agu h hN)
 |aW xs i off b o u x hx hS hu=>exact .aW xs i off b o u x hx (fun j hj=>⟨hE.S _ _ (hS j hj).1,(hE.cell _ _ (hS j hj).1).trans (hS j hj).2⟩) (fun j d hd=>(hu j d hd).keep hE.S hE.cell)
 |own n xs h hp hle hf=>
  refine .own n xs (agu h hN) (hp.keep hE.S hE.cell) ?_ ?_
  ·rcases hE.fr n h with⟨h1,_⟩|h1
   ·omega
   ·omega
  ·intro e;rcases hE.fr n h with⟨h1,h2⟩|h1
   ·rw[h2];exact hf (e.trans h1)
   ·omega
 |full xs hp hf=>exact .full xs (hp.keep hE.S hE.cell) hf
 |row n off len cap k h hl hm=>rw[←hE.bg n h];exact .row n off len cap k (agu h hN) hl hm
 |fn f vs cs hl _ ih=>exact .fn f vs cs hl ih
 |mp n h=>rw[←hE.bg n h];exact .mp n (agu h hN)
 |c7 n h=>rw[←hE.bg n h];exact .c7 n (agu h hN)
 |vec n o len L k h hs hL hf=>
  refine .vec n o len L k (agu h hN) hs ?_ ?_
  ·rcases hE.fr n h with⟨h1,_⟩|h1<;>omega
  ·intro e;rcases hE.fr n h with⟨h1,h2⟩|h1
   ·rw[h2];exact hf (e.trans h1)
   ·omega
 |de n i j L k h hs hL hf=>
  refine .de n i j L k (agu h hN) hs ?_ ?_
  ·rcases hE.fr n h with⟨h1,_⟩|h1<;>omega
  ·intro e;rcases hE.fr n h with⟨h1,h2⟩|h1
   ·rw[h2];exact hf (e.trans h1)
   ·omega
 |hid h h1=>exact .hid (h.keep hE.S hE.cell) h1
 |dead u=>exact .dead u
structure St where
 n:Nat
 t:List (Nat×AV)
 h:List an
def bm:agU (Nat×AV)→Nat→AV
 |[],_=> .dead
 |(k,x)::l,i=>bif i==k then x else bm l i
theorem kL(k:Nat)(x:AV)(l:agU (Nat×AV))(i:Nat):bm ((k,x)::l) i=if i=k then x else bm l i:=by
 simp only[bm,cond_eq_ite,beq_iff_eq]
def fK(b:Bool)(p:Prop):Prop:=cond b p False
theorem bM{b:Bool}{p:Prop}:fK b p↔b=true∧p:=by cases b<;>simp [fK]
def b8(a b:Nat):Bool:=a-b==0
theorem dA{a b:Nat}:b8 a b=true↔a≤b:=by simp [b8];omega
def OS:IntKind→Nat
 | .i8=>0| .i16=>1| .i32=>2| .i64=>3| .u8=>4| .u16=>5| .u32=>6| .u64=>7
def uv(a b:IntKind):Bool:=OS a==OS b
theorem Is{a b:IntKind}:uv a b=true↔a=b:=by cases a<;>cases b<;>decide
def St.put(s:St)(dst:agW Nat)(x:AV):St:=
 match dst with
 |none=>s
 |some d=>bif s.n-d==0 then s else{s with t:=(d,x)::s.t}
theorem oC{s:St}{d:Nat}(h:d<s.n)(x:AV):s.put (some d) x={s with t:=(d,x)::s.t}:=by
 have:(s.n-d==0)=false:=by simp;omega
 simp only[St.put,this,cond_false]
theorem Ch{s:St}{d:Nat}(h:¬d<s.n)(x:AV):s.put (some d) x=s:=by
 have:(s.n-d==0)=true:=by simp;omega
 simp only[St.put,this,cond_true]
def St.wh(s:St)(h:agU an):St:={s with h:=h}
def LX:agY→AV
 | .agg vs=> .agg (vs.toList.map fun u=> .d (.v u))
 | .tuple vs=> .bU (vs.toList.map fun u=> .d (.v u))
 |u=> .d (.v u)
def ev(s:St):Operand→AV
 | .tmp t=>bm s.t t
 | .const v=>LX v
 | .func f=> .fn f []
 | .global g=>match xO wL g with
   |some l=> .aW [l.map .v] 0 0
   |none=> .dead
def AV.iZ:AV→Bool
 | .d (.v u)=>u.oneCell'
 | .d (.sl _)| .ptr .. | .aW .. | .own .. | .full _| .row .. | .fn .. | .mp _| .c7 _| .hid _| .vec .. | .de .. =>true
 | .agg _| .bU _| .dead=>false
def AV.cells:AV→agU AV
 | .agg cs=>cs
 |x=>[x]
def AV.iL:AV→Bool
 | .agg cs=>cs.all AV.iZ
 |x=>x.iZ
def D.vD:D→D
 | .v (.slice none 0 0)=> .sl []
 |x=>x
def AV.uM:AV→agW D
 | .d x=>some x.vD
 | .own _ xs=>some (.sl xs)
 | .full xs=>some (.sl xs)
 |_=>none
def AV.fw:AV→agW (agU (agU D))
 | .d (.sl xs)=>some xs
 | .own _ xs=>some xs
 | .full xs=>some xs
 | .d (.v (.slice none 0 0))=>some []
 |_=>none
def AV.int?:AV→agW Int
 | .d (.v (.int _ n))=>some n
 |_=>none
def gC.av:gC→AV
 | .d x=> .d x
 | .aW c off=> .aW [c] 0 off
 | .fn f cs=> .hid (.fn f cs)
def fh(P:agX)(t:TypeId):agW Nat:=(P.info? t).map (·.size)
def kE(P:agX)(t:TypeId):agW Bool:=(P.underlying t).map fun| .struct _=>true| .array .. =>true|_=>false
def pE(P:agX)(t:TypeId)(i:Nat):agW (Nat×Nat×Bool):=
 match P.underlying t with
 |some (.struct fs)=>match fs[i]? with
  |some f=>match fh P f.type,kE P f.type with
   |some (k+1),some g=>some (f.offset,k+1,g)
   |_,_=>none
  |none=>none
 |_=>none
def ej(P:agX)(t:TypeId):agW (TypeId×Nat):=
 match P.underlying t with
 |some (.slice e)=>(fh P e).map fun k=>(e,k)
 |_=>none
def sy(P:agX)(t:TypeId):agW (Nat×TypeId×Nat):=
 match P.underlying t with
 |some (.array n e)=>(fh P e).map fun k=>(n,e,k)
 |_=>none
def gg(P:agX)(t:TypeId):Bool:=match P.underlying t with|some .string=>true|_=>false
def xY(P:agX)(t:TypeId):Bool:=match P.underlying t with|some .bool=>true|_=>false
def nC(P:agX)(t:TypeId):agW IntKind:=match P.underlying t with|some (.int k)=>some k|_=>none
def B3(P:agX)(t:TypeId):Bool:=match P.underlying t with|some (.int .u8)=>true|_=>false
def zeroT(P:agX)(t:TypeId):agW agY:=(P.info? t).bind (·.zero)
def oA(P:agX)(t:TypeId):agW Nat:=(P.info? t).map (·.bytes)
def Hv(op:BinOp)(k:IntKind)(a b:Int):agW agY:=
 match op with
 | .add=>some (.int k (k.wrap (a+b)))
 | .sub=>some (.int k (k.wrap (a-b)))
 | .mul=>some (.int k (k.wrap (a*b)))
 | .eql=>some (.bool (a==b))
 | .neq=>some (.bool (a !=b))
 | .lss=>some (.bool (a<b))
 | .leq=>some (.bool (a≤b))
 | .gtr=>some (.bool (a>b))
 | .geq=>some (.bool (a≥b))
 | .and=>some (.int k (k.wrap (BitVec.ofInt k.bits a&&&BitVec.ofInt k.bits b).toNat))
 | .or=>some (.int k (k.wrap (BitVec.ofInt k.bits a|||BitVec.ofInt k.bits b).toNat))
 | .xor=>some (.int k (k.wrap (BitVec.ofInt k.bits a^^^BitVec.ofInt k.bits b).toNat))
 | .andNot=>some (.int k (k.wrap (BitVec.ofInt k.bits a&&& ~~~BitVec.ofInt k.bits b).toNat))
 |_=>none
def Ku(op:BinOp)(a b:agV):agW agY:=
 match op with
 | .eql=>some (.bool (bL a==bL b))
 | .neq=>some (.bool (!(bL a==bL b)))
 | .lss=>some (.bool (Op.bytesLess (bL a) (bL b)))
 | .leq=>some (.bool (Op.bytesLess (bL a) (bL b)||bL a==bL b))
 | .gtr=>some (.bool (!(Op.bytesLess (bL a) (bL b)||bL a==bL b)))
 | .geq=>some (.bool (!Op.bytesLess (bL a) (bL b)))
 |_=>none
def Lh(op:BinOp)(a b:Bool):agW agY:=
 match op with
 | .eql=>some (.bool (a==b))
 | .neq=>some (.bool (!(a==b)))
 |_=>none
def KL(op:BinOp)(k:IntKind)(a b:Int):agW agY:=
 match op with
 | .quo=>some (.int k (k.wrap (a.tdiv b)))
 | .rem=>some (.int k (a.tmod b))
 |_=>none
def I7(op:BinOp)(k:IntKind)(a b:Int):agW agY:=
 match op with
 | .shl=>some (.int k (k.wrap (a*2^(min b.toNat k.bits))))
 | .shr=>some (.int k (a.fdiv (2^(min b.toNat k.bits))))
 |_=>none
def CV(op:UnOp)(x:agY):agW agY:=
 match op,x with
 | .not, .bool b=>some (.bool (!b))
 | .neg, .int k n=>some (.int k (k.wrap (0-n)))
 | .xor, .int k n=>some (.int k (k.wrap (BitVec.ofInt k.bits (if k.signed then-1 else k.max)^^^BitVec.ofInt k.bits n).toNat))
 |_,_=>none
def gq(cs:agU AV)(off:Nat)(ys:agU AV):agU AV:=cs.take off++ys++cs.drop (off+ys.length)
def lR(k:Nat):Nat→agU D→agU (agU D)
 |0,_=>[]
 |n+1,l=>l.take k::lR k n (l.drop k)
def mQ(places:agU (Nat×Nat)):agU AV→agU (Nat×AV)→agW (agU AV)
 |cs,[]=>some cs
 |cs,(i,x)::r=>
  match places[i]? with
  |some (off,k)=>bif x.cells.length==k&&b8 (off+k) cs.length then mQ places (gq cs off x.cells) r else none
  |none=>none
def lN:agU AV→agW (agU D)
 |[]=>some []
 |x::r=>match x.uM,lN r with
  |some d,some l=>some (d::l)
  |_,_=>none
def Cz(P:agX)(fs:agU Field):agW (agU (Nat×Nat)):=fs.mapM fun f=>(fh P f.type).map fun k=>(f.offset,k)
def Cx(P:agX)(f:FuncId):Bool:=
 match P.funcs[f]? with
 |some fn=>fn.body.isSome&& !(fn.name== "runtime.NumGoroutine")
 |none=>false
def bD(P:agX)(f:FuncId)(args:agU AV)(h:agU an)(K:AV→agU an→Prop):Prop:=
 Cx P f=true∧∀(G:Gh)(w:agZ)(vs:Array agY),bO G w h→vs.size=args.length→(∀(i:Nat)(u:agY)(c:AV),vs[i]?=some u→args[i]?=some c→aE G w u c)→
  Calls P f vs w fun e w'=>∃v G' r h',e= .returned v∧bK G.N G w G' w'∧G.N≤G'.N∧bO G' w' h'∧aE G' w' v r∧K r h'
theorem bD.mono{P:agX}{f:FuncId}{args:agU AV}{h:agU an}{K K':AV→agU an→Prop}(hc:bD P f args h K)(hk:∀r h',K r h'→K' r h'):bD P f args h K':=
 ⟨hc.1,fun G w vs hi hl hr=>(hc.2 G w vs hi hl hr).mono fun _ _ ⟨v,G',r,h',e,x1,x2,x3,x4,x5⟩=>⟨v,G',r,h',e,x1,x2,x3,x4,hk _ _ x5⟩⟩
def px(h:agU an)(p:AV)(K:agU AV→Nat→Prop):Prop:=
 match p with
 | .ptr n off=>match h[n]? with
   |some (.cells cs)=>K cs off
   |_=>False
 | .aW xs i off=>match xs[i]? with
   |some cs=>K (cs.map .d) off
   |none=>False
 |_=>False
def mg(P:agX)(t:TypeId)(h:agU an)(p:AV)(K:AV→Prop):Prop:=
 px h p fun cs off=>match kE P t,fh P t with
  |some true,some k=>fK (b8 (off+k) cs.length) (K (.agg ((cs.drop off).take k)))
  |some false,some _=>match cs[off]? with
   |some c=>K c
   |none=>False
  |_,_=>False
def ue(P:agX)(t:TypeId)(h:agU an)(p x:AV)(K:agU an→Prop):Prop:=
 match p with
 | .ptr n off=>match h[n]? with
   |some (.cells cs)=>match fh P t with
    |some k=>fK (k==x.cells.length&&x.iL&&b8 (off+x.cells.length) cs.length) (K (h.set n (.cells (gq cs off x.cells))))
    |none=>False
   |_=>False
 |_=>False
def oI(P:agX)(T:TypeId)(x i:AV)(K:AV→Prop):Prop:=
 match ej P T with
 |some (_,k)=>
  match x with
  | .row n off len _ k'=>match i.int? with
    |some z=>fK (k'==k) (0≤z∧z<len∧K (.ptr n (off+z.toNat*k)))
    |none=>False
  |_=>match x.fw,i.int? with
   |some xs,some z=>0≤z∧(match xs[z.toNat]? with|some c=>c.length=k∧K (.aW [c] 0 0)|none=>False)
   |_,_=>False
 |none=>match sy P T,x,i.int? with
  |some (n,_,k), .ptr b off,some z=>0≤z∧z<n∧K (.ptr b (off+z.toNat*k))
  |some (n,_,k), .aW xs i off,some z=>fK (k==1) (0≤z∧z<n∧(match xs[i]? with|some c=>(match c[off+z.toNat]? with|some d=>K (.aW [[d]] 0 0)|none=>False)|none=>False))
  |_,_,_=>False
def qm(P:agX)(T:TypeId)(x:AV)(K:Nat→Prop):Prop:=
 match x with
 | .d (.v (.string s))=>fK (gg P T) (K s.size)
 | .row _ _ len _ _=>fK (ej P T).isSome (K len)
 |x=>match x.fw with
  |some xs=>fK (ej P T).isSome (K xs.length)
  |none=>False
def iT(ρ:Operand→AV)(x:agW Operand)(ae3:Nat)(K:Nat→Prop):Prop:=
 match x with
 |none=>K ae3
 |some y=>match (ρ y).int? with
  |some z=>0≤z∧K z.toNat
  |none=>False
def sr(P:agX)(T:TypeId)(ρ:Operand→AV)(x:AV)(lo hi mx:agW Operand)(K:AV→Prop):Prop:=
 match mx with
 |none=>
  match x with
  | .d (.v (.string b))=>fK (gg P T) (iT ρ hi b.size fun h=>h≤b.size∧iT ρ lo 0 fun l=>l≤h∧K (.d (.v (.string (b.extract l h)))))
  | .ptr n off=>match sy P T with
    |some (m,_,k)=>fK (b8 m 4096) (iT ρ hi m fun h=>fK (b8 h m) (iT ρ lo 0 fun l=>fK (b8 l h&& !b8 m l) (K (.row n (off+l*k) (h-l) (m-l) k))))
    |none=>False
  |x=>match x.fw,ej P T with
   |some xs,some (_,k)=>(∀c∈xs,c.length=k)∧iT ρ hi xs.length fun h=>h≤xs.length∧iT ρ lo 0 fun l=>l≤h∧K (.d (.sl ((xs.take h).drop l)))
   |_,_=>False
 |some m=>match lo,hi with
  |none,some y=>match x.fw,ej P T with
   |some xs,some (_,k)=>(∀c∈xs,c.length=k)∧iT ρ (some m) 0 fun c=>c≤xs.length∧iT ρ (some y) 0 fun h=>h=c∧K (.full (xs.take h))
   |_,_=>False
  |_,_=>False
def rI(h:agU an)(k:Nat)(x:AV)(K:agU (agU D)→Prop):Prop:=
 match x with
 | .row n off len _ k'=>match h[n]? with
   |some (.cells cs)=>match lN ((cs.drop off).take (len*k))with
    |some ds=>fK (k'==k&&b8 (off+len*k) cs.length&&((cs.drop off).take (len*k)).all AV.iZ) (K (lR k len ds))
    |none=>False
   |_=>False
 |x=>match x.fw with
  |some ys=>(∀c∈ys,c.length=k)∧K ys
  |none=>False
def sx(P:agX)(T:TypeId)(h:agU an)(x y:AV)(K:AV→agU an→Prop):Prop:=
 match ej P T with
 |some (e,k)=>match zeroT P e,oA P e with
  |some z,some dc=>fK (b8 1 k&&z.cells.toList.length==k)<|rI h k y fun ys=>
   match x with
   | .own n xs=>match h[n]? with
     |some (.front e' k' len)=>fK (e'==e&&k'==k)<|len=xs.length∧(∀c∈xs,c.length=k)∧xs.length+ys.length≤maxLen∧(xs.length+ys.length)*dc≤140737488355328∧K (.own n (xs++ys)) (h.set n (.front e k (xs.length+ys.length)))
     |_=>False
   | .d (.v (.slice none 0 0))=>ys.length≤maxLen∧ys.length*dc≤140737488355328∧K (.own h.length ys) (h++[.front e k ys.length])
   | .full xs=>(∀c∈xs,c.length=k)∧xs.length+ys.length≤maxLen∧(xs.length+ys.length)*dc≤140737488355328∧K (.own h.length (xs++ys)) (h++[.front e k (xs.length+ys.length)])
   |_=>False
  |_,_=>False
 |none=>False
def Kb(P:agX)(T:TypeId):agW (agU (Nat×Nat)):=
 match P.underlying T with
 |some (.struct fs)=>Cz P fs.toList
 |_=>none
def uG(P:agX)(T:TypeId)(ps:agU (Nat×AV))(K:AV→Prop):Prop:=
 match Kb P T,zeroT P T with
 |some places,some z=>match mQ places (z.cells.toList.map fun u=> .d (.v u)) ps with
  |some cs=>fK ((ps.all fun p=>p.2.iL)&&z.cells.toList.all Value.oneCell') (K (.agg cs))
  |none=>False
 |_,_=>False
def sk(k:Nat):Nat→Nat→agU (Nat×Nat)
 |_,0=>[]
 |o,n+1=>(o,k)::sk k (o+k) n
def pG:Nat→agU AV→agU AV
 |0,_=>[]
 |n+1,l=>l++pG n l
def uI(P:agX)(T:TypeId)(len:Nat)(ps:agU (Nat×AV))(K:AV→Prop):Prop:=
 match ej P T with
 |some (e,k)=>match zeroT P e with
  |some z=>match mQ (sk k 0 len) (pG len (z.cells.toList.map fun u=> .d (.v u))) ps with
   |some cs=>match lN cs with
    |some ds=>fK (b8 1 k&&b8 (len*k) 16777216&&z.cells.toList.length==k&&z.cells.toList.all Value.oneCell'&&(ps.all fun p=>p.2.iL)) (K (.full (lR k len ds)))
    |none=>False
   |none=>False
  |none=>False
 |none=>False
def Ct(P:agX)(t:TypeId)(x y:AV):agW Bool:=
 match x,y with
 | .d (.v (.int k a)), .d (.v (.int k' b))=>bif uv k k'&&(nC P t).isSome then some (a==b)else none
 | .d (.v (.string a)), .d (.v (.string b))=>bif gg P t then some (bL a==bL b)else none
 | .d (.v (.bool a)), .d (.v (.bool b))=>bif xY P t then some (a==b)else none
 |_,_=>none
def we(P:agX)(sub:TypeId→agU AV→agU AV→agW Bool):agU Field→agU AV→agU AV→agW Bool
 |[],_,_=>some true
 |f::fs,xs,ys=>bif f.name== "_" then none else
  match kE P f.type with
  |some false=>match xs[f.offset]?,ys[f.offset]? with
   |some x,some y=>match Ct P f.type x y,we P sub fs xs ys with
    |some a,some b=>some (a&&b)
    |_,_=>none
   |_,_=>none
  |some true=>match fh P f.type with
   |some k=>bif b8 (f.offset+k) xs.length&&b8 (f.offset+k) ys.length then match sub f.type ((xs.drop f.offset).take k) ((ys.drop f.offset).take k),we P sub fs xs ys with
    |some a,some b=>some (a&&b)
    |_,_=>none
    else none
   |none=>none
  |none=>none
def D8(P:agX):Nat→TypeId→agU AV→agU AV→agW Bool
 |0=>fun _ _ _=>none
 |d+1=>fun T xs ys=>match P.underlying T with
  |some (.struct fs)=>bif P.stoodInHeld T then none else we P (D8 P d) fs.toList xs ys
  |_=>none
def Dz(P:agX)(T:TypeId)(xs ys:agU AV):agW Bool:=
 match P.underlying T with
 |some (.struct fs)=>bif P.stoodInHeld T||P.eqGuardType P.depth T then none else we P (D8 P 4) fs.toList xs ys
 |_=>none
def uX(op:BinOp)(b:Bool):agW agY:=
 match op with
 | .eql=>some (.bool b)
 | .neq=>some (.bool (!b))
 |_=>none
def uA(P:agX)(T:TypeId)(op:BinOp)(x y:AV)(K:AV→Prop):Prop:=
 match x,y with
 | .d (.v (.int k a)), .d (.v (.int k' b))=>
   match KL op k a b with
   |some v=>fK (uv k k') (b≠0∧K (.d (.v v)))
   |none=>match I7 op k a b with
    |some v=>0≤b∧K (.d (.v v))
    |none=>match Hv op k a b with
     |some v=>fK (uv k k') (K (.d (.v v)))
     |none=>False
 | .d (.v (.string a)), .d (.v (.string b))=>match Ku op a b with
   |some v=>K (.d (.v v))
   |none=>match op with
    | .add=>a.size+b.size≤maxLen∧K (.d (.v (.string (a++b))))
    |_=>False
 | .d (.v (.bool a)), .d (.v (.bool b))=>match Lh op a b with
   |some v=>fK (xY P T) (K (.d (.v v)))
   |none=>False
 | .agg xs, .agg ys=>match Dz P T xs ys with
   |some b=>match uX op b with
    |some v=>K (.d (.v v))
    |none=>False
   |none=>False
 |_,_=>False
def uO(op:UnOp)(x:AV)(K:AV→Prop):Prop:=
 match x with
 | .d (.v u)=>match CV op u with
   |some v=>K (.d (.v v))
   |none=>False
 |_=>False
def uo(P:agX)(src dst:TypeId)(x:AV)(K:AV→Prop):Prop:=
 match x with
 | .d (.v (.int _ n))=>match nC P src,nC P dst with
   |some _,some k=>K (.d (.v (.int k (k.wrap n))))
   |_,_=>False
 | .d (.v (.string b))=>fK (gg P src&&gg P dst) (K (.d (.v (.string b))))
 |x=>match x.fw,ej P src with
  |some xs,some (e,_)=>fK (B3 P e&&gg P dst) (∃ns:agU Int,xs=ns.map (fun n=>[.v (.int .u8 n)])∧K (.d (.v (.string ⟨(ns.map fun n=>UInt8.ofNat n.toNat).toArray⟩))))
  |_,_=>False
def tt(P:agX)(T:TypeId)(x:AV)(f:Nat)(K:AV→Prop):Prop:=
 match pE P T f,x with
 |some (off,k,true), .agg cs=>fK (b8 (off+k) cs.length) (K (.agg ((cs.drop off).take k)))
 |some (off,_,false), .agg cs=>match cs[off]? with
  |some c=>K c
  |none=>False
 |_,_=>False
def ra(P:agX)(T:TypeId):agW (TypeId×TypeId):=
 match P.underlying T with
 |some (.map k e)=>some (k,e)
 |_=>none
inductive Sd
 |no
 |lt (n:Nat)
def Sd.ok:Sd→Prop
 | .no=>True
 | .lt n=>n<maxLen
def tn(Q6:Bool)(z:agY):agW D→AV
 |some d=>bif Q6 then .bU [.d d, .d (.v (.bool true))]else .d d
 |none=>bif Q6 then .bU [.d (.v z), .d (.v (.bool false))]else .d (.v z)
def nq(P:agX)(op:Op)(ρ:Operand→AV)(h:agU an):agW (AV×agU an×Sd):=
 match op with
 | .makeMap T none=>match ra P T with
   |some _=>some (.mp h.length,h++[.map []], .no)
   |none=>none
 | .lookup T m i ok=>match ra P T with
   |some (k,e)=>match zeroT P e with
    |some z=>match ρ m,ρ i with
     | .mp n, .d (.v (.string s))=>match h[n]? with
       |some (.map kv)=>bif gg P k&&z.oneCell' then some (tn ok z (kh kv s),h, .no)else none
       |_=>none
     |_,_=>none
    |none=>none
   |none=>none
 | .mapUpdate T m i x=>match ra P T with
   |some (k,_)=>match ρ m,ρ i,(ρ x).uM with
    | .mp n, .d (.v (.string s)),some d=>match h[n]? with
      |some (.map kv)=>bif gg P k then some (.d (.v undef),h.set n (.map ((s,d)::kv)), .lt kv.length)else none
      |_=>none
    |_,_,_=>none
   |none=>none
 |_=>none
inductive VA
 |no
 |el (c:List AV)
 |st (c:List AV) (cs:List (List AV))
 |mk (cs:List (List AV)) (len m:Nat)
 |ap (cs ys:List (List AV)) (L len:Nat)
 |ix (i:Nat)
 |ol (o len:Nat)
def IU(P:agX)(t:TypeId)(c:agU AV)(j:Nat):agW AV:=
 match kE P t,fh P t with
 |some true,some k=>bif b8 (j+k) c.length then some (.agg ((c.drop j).take k))else none
 |some false,some _=>c[j]?
 |_,_=>none
def aI(xs:agU (agU D)):agU (agU AV):=xs.map fun c=>c.map AV.d
def x7(h:agU an)(k:Nat)(y:AV)(ys:agU (agU AV)):Prop:=
 (∃xs,y.fw=some xs∧(∀c∈xs,c.length=k)∧ys=aI xs)∨(∃n o len L e cs,y= .vec n o len L k∧h[n]?=some (.vec e k cs)∧cs.length=L∧ys=(cs.drop o).take len∧∀c∈ys,c.all AV.iZ=true)
def rS(ρ:Operand→AV)(d:Int):agW Operand→agW Int
 |none=>some d
 |some y=>(ρ y).int?
def gW(P:agX)(op:Op)(ρ:Operand→AV)(h:agU an)(a:VA):agW (AV×agU an×Prop):=
 match op with
 | .indexAddr T x i=>match ρ x,(ρ i).int?,ej P T,a with
   | .vec n o len L k,some z,some (_,k'), .ix i'=>match h[n]? with
     |some (.vec _ k2 cs)=>bif k'==k&&k2==k then some (.de n i' 0 L k,h,cs.length=L∧0≤z∧z<len∧i'=o+z.toNat)else none
     |_=>none
   |_,_,_,_=>none
 | .fieldAddr S x f=>match ρ x,pE P S f with
   | .de n i j L k,some (fo,_,_)=>some (.de n i (j+fo) L k,h,True)
   |_,_=>none
 | .nilCheck x=>match ρ x with
   | .de n i j L k=>some (.de n i j L k,h,True)
   |_=>none
 | .load t p=>match ρ p,a with
   | .de n i j L k, .el c=>match h[n]?,IU P t c j with
     |some (.vec _ k' cs),some x=>bif k'==k then some (x,h,cs.length=L∧cs[i]?=some c)else none
     |_,_=>none
   |_,_=>none
 | .store t p x=>match ρ p,a with
   | .de n i j L k, .st c bV=>match h[n]?,fh P t with
     |some (.vec e k' cs),some q=>bif k'==k&&q==(ρ x).cells.length&&(ρ x).iL&&b8 (j+(ρ x).cells.length) k&&b8 1 k then some (.d (.v undef),h.set n (.vec e k bV),cs.length=L∧cs[i]?=some c∧bV=cs.set i (gq c j (ρ x).cells))else none
     |_,_=>none
   |_,_=>none
 | .slice T x lo hi none=>match ρ x,ej P T,a with
   | .vec n o len L k,some (_,k'), .ol o' fQ=>match rS ρ 0 lo,rS ρ len hi with
     |some l,some u=>match h[n]? with
      |some (.vec _ k2 cs)=>bif k'==k&&k2==k then some (.vec n o' fQ L k,h,cs.length=L∧0≤l∧l≤u∧u≤(L:Int)-o∧o'=o+l.toNat∧fQ=u.toNat-l.toNat)else none
      |_=>none
     |_,_=>none
   |_,_,_=>none
 | .makeSlice T l c=>match ej P T,(ρ l).int?,(ρ c).int?,a with
   |some (e,k),some l,some c, .mk cs len m=>match zeroT P e,oA P e with
    |some z,some dc=>bif b8 1 k&&z.cells.toList.length==k&&z.cells.toList.all Value.oneCell' then some (.vec h.length 0 len m k,h++[.vec e k cs],0≤l∧l≤c∧l.toNat=len∧c.toNat=m∧cs=List.replicate m (z.cells.toList.map fun u=> .d (.v u))∧m≤maxLen∧dc*m≤281474976710656)else none
    |_,_=>none
   |_,_,_,_=>none
 | .call c=>match c.callee with
   | .builtin .len=>match c.args.toList,c.argTypes.toList with
     |[x],[T]=>match ρ x with
      | .vec n _ len L k=>match h[n]? with
        |some (.vec _ k2 cs)=>bif (ej P T).isSome&&k2==k then some (.d (.v (.int .i64 len)),h,cs.length=L)else none
        |_=>none
      |_=>none
     |_,_=>none
   | .builtin .append=>match c.args.toList,c.argTypes.toList with
     |[x,y],[T,U]=>match ej P T,ej P U,a with
      |some (e,k),some _, .ap bV ys L' fQ=>match zeroT P e,oA P e with
       |some z,some dc=>bif b8 1 k&&z.cells.toList.length==k then
        match ρ x with
        | .vec n o len L k1=>match h[n]? with
          |some (.vec e1 k2 cs)=>bif k1==k&&k2==k&&e1==e then some (.vec n o fQ L' k,h.set n (.vec e k bV),cs.length=L∧x7 h k (ρ y) ys∧fQ=len+ys.length∧
           ((o+len+ys.length≤L∧L'=L∧bV=cs.take (o+len)++ys++cs.drop (o+len+ys.length))∨(o=0∧len=L∧L'=L+ys.length∧bV=cs++ys∧L'≤maxLen∧L'*dc≤140737488355328)))else none
          |_=>none
        | .d (.v (.slice none 0 0))=>some (.vec h.length 0 fQ L' k,h++[.vec e k bV],x7 h k (ρ y) ys∧bV=ys∧fQ=ys.length∧L'=ys.length∧L'≤maxLen∧L'*dc≤140737488355328)
        | .full xs=>some (.vec h.length 0 fQ L' k,h++[.vec e k bV],xs=[]∧x7 h k (ρ y) ys∧bV=ys∧fQ=ys.length∧L'=ys.length∧L'≤maxLen∧L'*dc≤140737488355328)
        |_=>none
       else none
       |_,_=>none
      |_,_,_=>none
     |_,_=>none
   |_=>none
 |_=>none
def EG(mx:Bool)(k:IntKind):Int→agU AV→agW (IntKind×Int)
 |a,[]=>some (k,a)
 |a, .d (.v (.int _ b))::l=>EG mx k (bif mx then(if b>a then b else a)else(if b<a then b else a)) l
 |_,_=>none
def yv(mx:Bool):agU AV→agW (IntKind×Int)
 | .d (.v (.int k a))::l=>EG mx k a l
 |_=>none
def cD(P:agX)(o:Oper)(ρ:Operand→AV)(h:agU an)(C:AV→agU an→Prop):Prop:=
 match o.op with
 | .move x| .assign x=>C (ρ x) h
 | .pick c a b=>match ρ c with
   | .d (.v (.bool t))=>(t=true→C (ρ a) h)∧(t=false→C (ρ b) h)
   |_=>False
 | .alloc e=>match zeroT P e with
   |some z=>C (.ptr h.length 0) (h++[an.cells (z.cells.toList.map fun u=> .d (.v u))])
   |none=>False
 | .box _ x=>fK (ρ x).iL<|C (.ptr h.length 0) (h++[an.cells (ρ x).cells])
 | .load t a=>mg P t h (ρ a) fun x=>C x h
 | .store t a x=>ue P t h (ρ a) (ρ x) fun h'=>C (.d (.v undef)) h'
 | .nilCheck x=>match ρ x with
   | .ptr n off=>C (.ptr n off) h
   | .aW xs i off=>C (.aW xs i off) h
   | .fn f cs=>C (.fn f cs) h
   |_=>False
 | .fieldAddr S x f=>match pE P S f with
   |some (fo,_,_)=>match ρ x with
    | .ptr n off=>C (.ptr n (off+fo)) h
    | .aW xs i off=>C (.aW xs i (off+fo)) h
    |_=>False
   |none=>False
 | .field T x f=>tt P T (ρ x) f fun y=>C y h
 | .indexAddr T x i=>oI P T (ρ x) (ρ i) fun y=>C y h
 | .index T x i=>match ρ x,(ρ i).int? with
   | .d (.v (.string b)),some z=>fK (gg P T) (0≤z∧(match b[z.toNat]? with|some c=>C (.d (.v (.int .u8 c.toNat))) h|none=>False))
   |_,_=>False
 | .build T ps=>uG P T (ps.toList.map fun p=>(p.1,ρ p.2)) fun y=>C y h
 | .buildSlice T len ps=>uI P T len (ps.toList.map fun p=>(p.1,ρ p.2)) fun y=>C y h
 | .slice T x lo hi mx=>sr P T ρ (ρ x) lo hi mx fun y=>C y h
 | .extract x i=>match ρ x with
   | .bU cs=>match cs[i]? with
     |some c=>C c h
     |none=>False
   |_=>False
 | .makeFunc (.func f) first dy=>match first.toList with
   |[]=>C (.fn f (dy.toList.map ρ)) h
   |_=>False
 | .binOp op T x y _=>uA P T op (ρ x) (ρ y) fun v=>C v h
 | .unOp op _ x=>uO op (ρ x) fun v=>C v h
 | .convert a b x=>uo P a b (ρ x) fun v=>C v h
 | .call c=>match c.callee with
   | .builtin .len=>match c.args.toList,c.argTypes.toList with
     |[x],[T]=>qm P T (ρ x) fun n=>C (.d (.v (.int .i64 n))) h
     |_,_=>False
   | .builtin .append=>match c.args.toList,c.argTypes.toList with
     |[x,y],[T,U]=>fK (ej P U).isSome<|sx P T h (ρ x) (ρ y) fun v h'=>C v h'
     |_,_=>False
   | .builtin .max=>match yv true (c.args.toList.map ρ)with
     |some (k,a)=>C (.d (.v (.int k a))) h
     |none=>False
   | .builtin .min=>match yv false (c.args.toList.map ρ)with
     |some (k,a)=>C (.d (.v (.int k a))) h
     |none=>False
   | .value f=>match ρ f with
     | .fn g dy=>bD P g (c.args.toList.map ρ++dy) h fun r h'=>C r h'
     | .hid q=>∃g cs,q= .fn g cs∧bD P g (c.args.toList.map ρ++cs.map gC.av) h fun r h'=>C r h'
     |_=>False
   |_=>False
 |op=>match nq P op ρ h with
  |some (x,h',p)=>p.ok∧C x h'
  |none=>False
def zJ(P:agX)(o:Oper)(K:St→Prop)(s:St):Prop:=
 match o.op with
 | .binOp op T x y _=>match (ev s x).fw,ev s y,ej P T,uX op true,uX op false with
   |some xs, .d (.v (.slice none 0 0)),some _,some v1,some v2=>(xs=[]→K (s.put o.dst (.d (.v v1))))∧K (s.put o.dst (.d (.v v2)))
   |_,_,_,_,_=>False
 |_=>False
def F9(P:agX)(o:Oper)(K:St→Prop)(s:St):Prop:=∃a x h' p,gW P o.op (ev s) s.h a=some (x,h',p)∧p∧K ((s.wh h').put o.dst x)
def nH(P:agX)(o:Oper)(K:St→Prop)(s:St):Prop:=cD P o (ev s) s.h fun x h=>K ((s.wh h).put o.dst x)
def aeS(P:agX)(o:Oper)(K:St→Prop)(s:St):Prop:=F9 P o K s∨zJ P o K s∨nH P o K s
theorem kt(b o n:Nat):(⟨b,o,none⟩:Addr).add n=⟨b,o+n,none⟩:=by unfold Addr.add;split<;>simp_all
structure cT(G:Gh)(w:World)(a:Act)(s:St):Prop where
 size:a.tmps.size=s.n
 tmp:∀i,aE G w (a.tmps.getD i undef) (bm s.t i)
 inv:bO G w s.h
 df:oF G w a.defers
theorem nt.av{G:Gh}{w:agZ}{u:agY}{c:gC}(h:nt G.S w u c):aE G w u c.av:=by
 cases h with
 |d h=>exact .d h
 |aW c off b o u h1 h2=>exact .aW [c] 0 off b o u c rfl h1 h2
 |fn f vs cs hl h=>exact .hid (.fn f vs cs hl h) rfl
theorem aE.iZ{G:Gh}{w:agZ}{u:agY}{x:AV}(h:aE G w u x)(hb:x.iZ=true):u.oneCell'=true:=by
 cases h with
 |d hp=>cases hp with
  |v u=>exact hb
  |sl=>rfl
 |agg=>simp [AV.iZ]at hb
 |bU=>simp [AV.iZ]at hb
 |own n xs _ hp=>cases hp;rfl
 |vec n o len L k _ hs=>obtain⟨A,l,c,rfl⟩:=hs;rfl
 |de n i j L k _ hs=>obtain⟨b,q,rfl⟩:=hs;rfl
 |full xs hp=>cases hp;rfl
 |hid h h1=>exact h1
 |dead=>simp [AV.iZ]at hb
 |_=>rfl
theorem aE.cells{G:Gh}{w:agZ}{u:agY}{x:AV}(h:aE G w u x)(hb:x.iL=true):
 u.cells.size=x.cells.length∧∀(i:Nat)(v:agY)(c:AV),u.cells[i]?=some v→x.cells[i]?=some c→aE G w v c∧v.oneCell'=true:=by
 have one:x.iZ=true→x.cells=[x]→u.cells.size=x.cells.length∧∀(i:Nat)(v:agY)(c:AV),u.cells[i]?=some v→x.cells[i]?=some c→aE G w v c∧v.oneCell'=true:=by
  intro hc hx;have ho:=h.iZ hc;have hu:u.cells= #[u]:=by cases u<;>simp_all [Value.cells,Value.oneCell']
  rw[hu,hx];refine⟨rfl,fun i v c h1 h2=> ?_⟩
  match i with
  |0=>simp at h1 h2;subst h1;subst h2;exact⟨h,ho⟩
  |i+1=>simp at h2
 cases x with
 |agg cs=>
  cases h with
  |agg vs cs hl hr=>
   refine⟨hl,fun i v c h1 h2=> ?_⟩;have hv:=hr i v c h1 h2;refine⟨hv,hv.iZ ?_⟩;simp only[AV.iL,agw]at hb;exact hb c (agj h2)
 |bU cs=>simp [AV.iL,AV.iZ]at hb
 |dead=>simp [AV.iL,AV.iZ]at hb
 |_=>exact one hb rfl
theorem bO.lt{G:Gh}{w:agZ}{h:agU an}(hi:bO G w h){n:Nat}{B:an}(hb:h[n]?=some B):n<G.N:=by
 rw[←hi.len];exact(af5.1 hb).1
theorem bO.iC{G:Gh}{w:agZ}{h:agU an}(hi:bO G w h){n b:Nat}(hb:bR h G n=some b):b<w.heap.size:=by
 obtain⟨B,hB,hb⟩:=j7 hb;have hr:=hi.dh n B hB;cases B with
 |gone=>cases hb
 |cells cs=>
  obtain⟨_,_,vs,T,hh,_⟩:=hr;cases hb
  exact(agl.1 hh).1
 |lp ls p as bd cs=>
  obtain⟨_,_,fn,vs,T,hh,_⟩:=hr;cases hb
  exact(agl.1 hh).1
 |it sn cs=>
  obtain⟨_,_,fn,vs,T,hh,_⟩:=hr;cases hb
  exact(agl.1 hh).1
 |map kv=>
  obtain⟨_,_,es,c,hh,_⟩:=hr;cases hb
  exact(agl.1 hh).1
 |front e k len=>
  have hb:G.ow n=some b:=hb;obtain⟨_,_,h1|⟨g,cap,cur,h1,_,_,hh,_⟩⟩:=hr
  ·rw[h1.1]at hb;cases hb
  ·rw[h1]at hb;cases hb;exact(agl.1 hh).1
 |vec e k cs=>
  have hb:G.ow n=some b:=hb;obtain⟨_,_,_,h1|⟨g,cap,cur,h1,_,_,hh,_⟩⟩:=hr
  ·rw[h1.1]at hb;cases hb
  ·rw[h1]at hb;cases hb;exact(agl.1 hh).1
theorem dY.kD{G:Gh}{w:agZ}{n b:Nat}{B:an}(hr:dY G w n B)(hb:B.dU G n=some b):¬G.Z b:=by
 cases B with
 |gone=>cases hb
 |cells cs=>cases hb;exact hr.1
 |lp ls p as bd cs=>cases hb;exact hr.1
 |it sn cs=>cases hb;exact hr.1
 |map kv=>cases hb;exact hr.1
 |front e k len=>
  have hb:G.ow n=some b:=hb;obtain⟨_,_,h1|⟨g,cap,cur,h1,_,hz,_⟩⟩:=hr
  ·rw[h1.1]at hb;cases hb
  ·rw[h1]at hb;cases hb;exact hz
 |vec e k cs=>
  have hb:G.ow n=some b:=hb;obtain⟨_,_,_,h1|⟨g,cap,cur,h1,_,hz,_⟩⟩:=hr
  ·rw[h1.1]at hb;cases hb
  ·rw[h1]at hb;cases hb;exact hz
theorem ui.keep{S S':Nat→Nat→Prop}{w w':agZ}{es:Array MapEntry}{c:Nat}{kv:agU (agV×D)}(h:ui S w es c kv)(hS:∀b o,S b o→S' b o)(hc:∀b o,S b o→w'.cell? ⟨b,o,none⟩=w.cell? ⟨b,o,none⟩):ui S' w' es c kv:=
 ⟨h.size,h.stamped,fun e he=>let ⟨s,d,h1,h2,h3⟩:=h.vS e he;⟨s,d,h1,h2,h3.keep hS hc⟩,h.all,h.len,h.born,h.C0⟩
theorem dY.keep{G G':Gh}{w w':agZ}{n:Nat}(hn:n<G.N)(hE:bK G.N G w G' w')(hN:G.N≤G'.N){B:an}
 (hg:G'.fl n=G.fl n∧G'.sg n=G.sg n∧G'.ow n=G.ow n)
 (ho:∀b,B.dU G n=some b→w'.heap[b]?=w.heap[b]?∧∀o,¬G.S b o→¬G'.S b o)
 (h:dY G w n B):dY G' w' n B:=by
 obtain⟨f1,f2,f3⟩:=hg;cases B with
 |gone=>trivial
 |cells cs=>
  obtain⟨h1,h2,vs,T,h3,h4,h5⟩:=h;obtain⟨c2,c1⟩:=ho _ rfl;refine⟨by rw[hE.bg n hn];exact hE.kD (agl.1 h3).1 h1,by rw[hE.bg n hn];exact fun o=>c1 o (h2 o),vs,T,by rw[hE.bg n hn,c2];exact h3,h4,fun i u c hu hc=>(h5 i u c hu hc).keep hE hN⟩
 |lp ls p as bd cs=>
  obtain⟨h1,h2,fn,vs,T,h3,h4,h5⟩:=h;obtain⟨c2,c1⟩:=ho _ rfl;refine⟨by rw[hE.bg n hn];exact hE.kD (agl.1 h3).1 h1,by rw[hE.bg n hn];exact fun o=>c1 o (h2 o),fn,vs,T,by rw[hE.bg n hn,c2];exact h3,h4,fun i u c hu hc=>(h5 i u c hu hc).keep hE hN⟩
 |it sn cs=>
  obtain⟨h1,h2,fn,vs,T,h3,h4,h5⟩:=h;obtain⟨c2,c1⟩:=ho _ rfl;refine⟨by rw[hE.bg n hn];exact hE.kD (agl.1 h3).1 h1,by rw[hE.bg n hn];exact fun o=>c1 o (h2 o),fn,vs,T,by rw[hE.bg n hn,c2];exact h3,h4,fun i u c hu hc=>(h5 i u c hu hc).keep hE hN⟩
 |map kv=>
  obtain⟨h1,h2,es,c,h3,h4⟩:=h;obtain⟨c2,c1⟩:=ho _ rfl;exact⟨by rw[hE.bg n hn];exact hE.kD (agl.1 h3).1 h1,by rw[hE.bg n hn];exact fun o=>c1 o (h2 o),es,c,by rw[hE.bg n hn,c2];exact h3,h4.keep hE.S hE.cell⟩
 |front e k len=>
  obtain⟨h1,hm,h2⟩:=h;refine⟨f1.trans h1,hm,?_⟩;rcases h2 with⟨h2,A,h3⟩|⟨g,cap,cur,h2,h3,h4,h5,h6,h7,h8,h9⟩
  ·exact .inl ⟨f3.trans h2,A,f2.trans h3⟩
  ·obtain⟨f5,f6⟩:=ho g h2;exact .inr ⟨g,cap,cur,f3.trans h2,f2.trans h3,hE.kD (agl.1 h5).1 h4,f5.trans h5,h6,h7,h8,fun o ho=>f6 o (h9 o ho)⟩
 |vec e k cs=>
  obtain⟨h1,hm,hk,h2⟩:=h;refine⟨f1.trans h1,hm,hk,?_⟩;rcases h2 with⟨h2,e2,A,h3⟩|⟨g,cap,cur,h2,h3,h4,h5,h6,h7,h8,h9,aJ⟩
  ·exact .inl ⟨f3.trans h2,e2,A,f2.trans h3⟩
  ·obtain⟨f5,f6⟩:=ho g h2;exact .inr ⟨g,cap,cur,f3.trans h2,f2.trans h3,hE.kD (agl.1 h5).1 h4,f5.trans h5,h6,h7,h8,fun o=>f6 o (h9 o),fun i j c x u hc hx hu=>(aJ i j c x u hc hx hu).keep hE hN⟩
theorem cT.put{G:Gh}{w:agZ}{a:Act}{s:St}(h:cT G w a s){v:agY}{x:AV}(hv:aE G w v x)(dst:agW Nat):cT G w (a.put dst v) (s.put dst x):=by
 cases dst with
 |none=>exact h
 |some d=>
  by_cases hd:d<s.n
  ·have e1:s.put (some d) x={s with t:=(d,x)::s.t}:=oC hd x;rw[e1];refine⟨by simp [Act.put,h.size],fun i=> ?_,h.inv,h.df⟩;by_cases hi:i=d
   ·subst hi;have:(a.tmps.setIfInBounds i v).getD i undef=v:=by simp [Array.getD,h.size,hd]
    simp only[Act.put,this,kL,if_true];exact hv
   ·have:(a.tmps.setIfInBounds d v).getD i undef=a.tmps.getD i undef:=by simp [Array.getElem?_setIfInBounds_ne (Ne.symm hi)]
    simp only[Act.put,this,kL,if_neg hi];exact h.tmp i
  ·have e1:s.put (some d) x=s:=Ch hd x;have e2:a.put (some d) v=a:=by
    have:a.tmps.setIfInBounds d v=a.tmps:=Array.setIfInBounds_eq_of_size_le (by rw[h.size];omega);simp [Act.put,this]
   rw[e1,e2];exact h
theorem cT.move{G G':Gh}{w w':agZ}{a:Act}{s:St}(h:cT G w a s)(hE:bK G.N G w G' w')(hN:G.N≤G'.N){h':agU an}(hi:bO G' w' h'):cT G' w' a {s with h:=h'}:=
 ⟨h.size,fun i=>(h.tmp i).keep hE hN,hi,h.df.keep hE⟩
theorem cT.ev{G:Gh}{w:agZ}{a:Act}{s:St}(h:cT G w a s)(x:Operand):aE G w (a.eval x) (ev s x):=by
 cases x with
 |tmp t=>exact h.tmp t
 |const v=>
  show aE G w v (LX v);unfold LX;split
  ·rename_i vs
   exact .agg vs _ (by simp) fun i u c hu hc=>by
    simp only[agc,agt,hu,Option.map_some,Option.some.injEq]at hc;subst hc;exact .d (.v u)
  ·rename_i vs
   exact .bU vs _ (by simp) fun i u c hu hc=>by
    simp only[agc,agt,hu,Option.map_some,Option.some.injEq]at hc;subst hc;exact .d (.v u)
  ·exact .d (.v v)
 |global g=>
  show aE G w (.pointer (some ⟨g,0,none⟩)) (match xO wL g with|some l=> .aW [l.map .v] 0 0|none=> .dead);split
  ·next l hl=>
   have hg:=h.inv.gl.1 g l (O4 hl);have:=aE.aW (G:=G) (w:=w) [l.map .v] 0 0 g 0 (fun j=>l.getD j undef) (l.map .v) rfl (fun j hj=> ?_) (fun j d hd=> ?_)
   ·exact this
   ·rw[aga]at hj;have e:l[j]?=some l[j]:=af9 hj;rw[agq];refine⟨(hg j _ e).1,?_⟩;rw[(hg j _ e).2];simp [hj]
   ·rw[agc]at hd;cases e:l[j]? with
    |none=>rw[e]at hd;cases hd
    |some v=>
     rw[e]at hd;cases hd
     have:l.getD j undef=v:=by simp [List.getD,e]
     rw[this];exact .v v
  ·exact .dead _
 |func f=>exact .fn f #[] [] rfl fun i u c hu=>by simp at hu
def Gh.dT(G:Gh)(b:Nat):Gh:={G with N:=G.N+1,bg:=fun n=>if n=G.N then b else G.bg n}
theorem za(G:Gh)(w:agZ)(hz:∀b,G.Z b→b<w.heap.size)(hS:∀b o,G.S b o→b<w.heap.size)(o:Obj):bK G.N G w (G.dT w.heap.size) (w.alloc o):=
 ⟨by simp,fun _ _ h=>h,fun b _ h=>World.cell?_alloc_lt _ _ _ (hS _ _ h),fun n hn=>by simp [Gh.dT,Nat.ne_of_lt hn],fun _ _=> .inl ⟨rfl,rfl⟩,fM rfl,
  fun b hb=>Below.heap_alloc w o b (hz b hb),rfl,rfl,rfl,fun _ _ h=> .inl h⟩
theorem MZ{G:Gh}{w:agZ}{h:agU an}(hi:bO G w h)(vs:Array agY)(T:TypeId)(cs:agU AV)(hl:vs.size=cs.length)
 (hr:∀(i:Nat)(u:agY)(c:AV),vs[i]?=some u→cs[i]?=some c→aE G w u c):
 bO (G.dT w.heap.size) (w.alloc (.cells vs T)) (h++[.cells cs])∧aE (G.dT w.heap.size) (w.alloc (.cells vs T)) (.pointer (some ⟨w.heap.size,0,none⟩)) (.ptr h.length 0):=by
 have hE:=za G w hi.z hi.S (.cells vs T);have hN:G.N≤(G.dT w.heap.size).N:=Nat.le_succ _;have iR:(G.dT w.heap.size).bg h.length=w.heap.size:=by simp [Gh.dT,hi.len]
 have lF:∀n(B:an),n<G.N→B.dU (G.dT w.heap.size) n=B.dU G n:=fun n B hn=>by
  cases B<;>simp [an.dU,Gh.dT,Nat.ne_of_lt hn]
 have fu:∀n,n<G.N→bR (h++[.cells cs]) (G.dT w.heap.size) n=bR h G n:=fun n hn=>by
  have aN:n<h.length:=by rw[hi.len];exact hn
  unfold bR;rw[agf aN,af9 aN];exact lF n _ hn
 have Ai:bR (h++[.cells cs]) (G.dT w.heap.size) h.length=some w.heap.size:=by
  rw[dC (B:= .cells cs) (by simp)];exact congrArg some iR
 refine⟨⟨by simp [Gh.dT,hi.len],fun b hb=>agu (hi.z b hb) hE.size,fun b o hs=>agu (hi.S b o hs) hE.size,fun n B hB=> ?_,fun m n b hm hn=> ?_,hi.gl.keep hE⟩,?_⟩
 ·by_cases hn:n<h.length
  ·rw[agf hn]at hB;have eD:n<G.N:=hi.len▸hn;exact dY.keep eD hE hN ⟨rfl,rfl,rfl⟩ (fun b hb=>⟨Below.heap_alloc w _ _ (hi.iC (n:=n) ((dC hB).trans hb)),fun o h=>h⟩) (hi.dh n B hB)
  ·have lG:n=h.length:=by
    have:=(af5.1 hB).1;simp at this;omega
   subst lG;simp at hB;subst hB;exact⟨by rw[iR];exact fun hz=>agK _ (hi.z _ hz),fun o hs=>by rw[iR]at hs;exact agK _ (hi.S _ _ hs),vs,T,by rw[iR];exact World.alloc_heap_new w _,hl,fun i u c hu hc=>(hr i u c hu hc).keep hE hN⟩
 ·have key:∀n b,bR (h++[.cells cs]) (G.dT w.heap.size) n=some b→(n<G.N∧bR h G n=some b)∨(n=h.length∧b=w.heap.size):=fun n b hn=>by
   by_cases aN:n<G.N
   ·exact .inl ⟨aN,by rw[←fu n aN];exact hn⟩
   ·by_cases e:n=h.length
    ·subst e;rw[Ai]at hn;cases hn;exact .inr ⟨rfl,rfl⟩
    ·rw[vF (agC (by simp;have:=hi.len;omega))]at hn;cases hn
  rcases key m b hm with⟨_,kd⟩|⟨rfl,rfl⟩<;>rcases key n _ hn with⟨_,eD⟩|⟨rfl,hb⟩
  ·exact hi.inj m n b kd eD
  ·have:=hi.iC kd;omega
  ·have:=hi.iC eD;omega
  ·rfl
 ·have:=aE.ptr (G:=G.dT w.heap.size) (w:=w.alloc (.cells vs T)) h.length 0 (by simp [Gh.dT,hi.len])
  rwa [iR]at this
theorem GZ(w:agZ)(g:Nat)(cs:Array agY):(w.setRow g cs).heap.size=w.heap.size:=by simp [World.setRow]
theorem Xh(w:agZ)(g:Nat)(cs:Array agY)(b o:Nat)(h:b≠g):(w.setRow g cs).cell? ⟨b,o,none⟩=w.cell? ⟨b,o,none⟩:=World.cell?_of_block (setRow_other w g b cs h)
theorem aco{G:Gh}{w:agZ}{g:Nat}(cs:Array agY)(hg:¬G.Z g)(hS:∀b o,G.S b o→(w.setRow g cs).cell? ⟨b,o,none⟩=w.cell? ⟨b,o,none⟩):bK G.N G w G (w.setRow g cs):=
 ⟨by rw[GZ];exact agh _,fun _ _ h=>h,hS,fun _ _=>rfl,fun _ _=> .inl ⟨rfl,rfl⟩,fM rfl,fun b hb=>setRow_other w g b cs (fun e=>hg (e▸hb)),rfl,rfl,rfl,fun _ _ h=> .inl h⟩
theorem BU(cs ys:agU AV)(off:Nat)(h:off+ys.length≤cs.length):(gq cs off ys).length=cs.length:=by
 simp [gq];omega
theorem aer{R:agY→AV→Prop}(vs us:Array agY)(cs ys:agU AV)(off:Nat)(hl:vs.size=cs.length)(hu:us.size=ys.length)(hb:off+ys.length≤cs.length)
 (hr:∀(i:Nat)(u:agY)(c:AV),vs[i]?=some u→cs[i]?=some c→R u c) (ny:∀(i:Nat)(u:agY)(c:AV),us[i]?=some u→ys[i]?=some c→R u c):
 ∀(i:Nat)(u:agY)(c:AV),(vs.toList.take off++us.toList++vs.toList.drop (off+us.toList.length)).toArray[i]?=some u→(gq cs off ys)[i]?=some c→R u c:=by
 intro i u c h1 h2;have mo:us.toList.length=ys.length:=by rw[agD,hu]
 rw[mo]at h1;rw[List.getElem?_toArray]at h1;unfold gq at h2;simp only[agn]at h1 h2;have sY:vs.toList.length=cs.length:=by rw[agD,hl]
 by_cases h:i<off
 ·rw[agf (by simp;omega),List.getElem?_take_of_lt h]at h1;rw[agf (by simp;omega),List.getElem?_take_of_lt h]at h2;exact hr i u c (by rw[←agt];exact h1) h2
 ·rw[agm (by simp;omega)]at h1 h2;simp only[List.length_take,sY]at h1 h2;rw[Nat.min_eq_left (by omega)]at h1 h2;by_cases h':i-off<ys.length
  ·rw[agf (by rw[mo];exact h')]at h1;rw[agf h']at h2;exact ny (i-off) u c (by rw[←agt];exact h1) h2
  ·rw[agm (by rw[mo];omega),List.getElem?_drop]at h1;rw[agm (by omega),List.getElem?_drop]at h2;rw[mo]at h1;rw[show off+ys.length+(i-off-ys.length)=i by omega]at h1 h2;exact hr i u c (by rw[←agt];exact h1) h2
theorem aet{P:agX}{G:Gh}{w:agZ}{h:agU an}(hi:bO G w h){n off:Nat}{cs:agU AV}(hn:h[n]?=some (.cells cs)){t:TypeId}{v:agY}{x:AV}
 (hv:aE G w v x) (hb:x.iL=true) (ht:fh P t=some x.cells.length) (ho:off+x.cells.length≤cs.length):
 ∃w',(storeVar t ⟨G.bg n,off,none⟩ v).run P w= .ok () w'∧bK G.N G w G w'∧bO G w' (h.set n (.cells (gq cs off x.cells))):=by
 obtain⟨hz,hS,vs,T,hh,hl,hr⟩:=hi.dh n _ hn;obtain⟨wx,Uo⟩:=hv.cells hb;obtain⟨i,iz,jC⟩:∃i,P.info? t=some i∧i.size=x.cells.length:=by
  unfold fh at ht;cases hq:P.info? t with
  |none=>rw[hq]at ht;cases ht
  |some i=>rw[hq]at ht;exact⟨i,rfl,by simpa using ht⟩
 have jm:=run_storeCells_at P (G.bg n) off T v.cells.toList 0 vs w hh (by rw[agD,wx,hl];simpa using ho) (fun u hu=>by
  obtain⟨j,hj⟩:=List.mem_iff_getElem?.1 hu;have iy:v.cells[j]?=some u:=by rw[←agt];exact hj
  have oX:j<x.cells.length:=by rw[←wx];exact(agl.1 iy).1
  exact(Uo j u _ iy (af9 oX)).2)
 simp only[Nat.add_zero]at jm;obtain⟨w',eB⟩:∃w',w'=w.setRow (G.bg n) (vs.toList.take off++v.cells.toList++vs.toList.drop (off+v.cells.toList.length)).toArray:=⟨_,rfl⟩;rw[←eB]at jm;have hE:bK G.N G w G w':=by
  rw[eB];exact aco _ hz fun b o hs=>Xh w _ _ b o (fun e=>hS o (e▸hs))
 have eN:∀m,m≠n→(h.set n (.cells (gq cs off x.cells)))[m]?=h[m]?:=fun m hm=>by rw[agE (Ne.symm hm)]
 have kx:(h.set n (.cells (gq cs off x.cells)))[n]?=some (.cells (gq cs off x.cells)):=by
  rw[agz (af5.1 hn).1]
 have dL:∀m,bR (h.set n (.cells (gq cs off x.cells))) G m=bR h G m:=fun m=>by
  by_cases e:m=n
  ·subst e;rw[dC kx,dC hn];rfl
  ·unfold bR;rw[eN m e]
 have kQ:bR h G n=some (G.bg n):=dC hn;refine⟨w',?_,hE,⟨by rw[List.length_set];exact hi.len,fun b hb=>agu (hi.z b hb) hE.size,fun b o hs=>agu (hi.S b o hs) hE.size,fun m B hB=> ?_,fun m m' b h1 h2=>hi.inj m m' b (by rw[←dL];exact h1) (by rw[←dL];exact h2),hi.gl.keep hE⟩⟩
 ·unfold storeVar;simp only[sizeOf,typeInfo,Sem.run_bind,wx];simp [iz,jC,jm]
 ·by_cases e:m=n
  ·subst e;rw[kx]at hB;cases hB
   refine⟨hz,hS,_,T,by rw[eB];exact setRow_heap w _ vs _ T _ hh,?_,fun i u c hu hc=> ?_⟩
   ·rw[BU _ _ _ ho];have:v.cells.toList.length=x.cells.length:=by rw[agD];exact wx
    simp only[List.size_toArray,af6,List.length_take,List.length_drop,agD,hl,wx];omega
   ·exact(aer (R:=aE G w) vs v.cells cs x.cells off hl wx ho hr (fun i u c h1 h2=>(Uo i u c h1 h2).1) i u c hu hc).keep hE (agh _)
  ·rw[eN m e]at hB;have cO:∀b,bR h G m=some b→b≠G.bg n:=fun b hb eb=>e (hi.inj m n b hb (by rw[eb];exact kQ));refine dY.keep (hi.lt hB) hE (agh _) ⟨rfl,rfl,rfl⟩ (fun b hb=>⟨?_,fun o h=>h⟩) (hi.dh m B hB);rw[eB];exact setRow_other w _ _ _ (cO _ ((dC hB).trans hb))
theorem dq.m8{S:Nat→Nat→Prop}{w:agZ}{v:agY}{xs:agU (agU D)}(h:dq S w v (.sl xs)):
 ∃(A:agW Addr)(b o c k:Nat)(u:Nat→Nat→agY),v= .slice A xs.length c∧(xs≠ []→A=some ⟨b,o,none⟩)∧xs.length≤c∧c≤maxLen∧(∀x∈xs,x.length=k)∧
  (∀i j,i<xs.length→j<k→S b (o+i*k+j)∧w.cell? ⟨b,o+i*k+j,none⟩=some (u i j)∧(u i j).oneCell'=true)∧
  (∀(i j:Nat)(x:agU D)(d:D),xs[i]?=some x→x[j]?=some d→dq S w (u i j) d):=by
 cases h with
 |sl A b o c k xs u hA hc hm hk hS hu=>exact⟨A,b,o,c,k,u,rfl,hA,hc,hm,hk,hS,hu⟩
structure Rd(S:Nat→Nat→Prop)(w:World)(k:Nat)(xs:List (List D))(us:List Value):Prop where
 len:us.length=xs.length*k
 wid:∀x∈xs,x.length=k
 one:∀u∈us,u.oneCell'=true
 rel:∀(i j:Nat)(x:List D)(d:D),xs[i]?=some x→x[j]?=some d→∃u,us[i*k+j]?=some u∧dq S w u d
theorem Rd.keep{S S':Nat→Nat→Prop}{w w':agZ}{k:Nat}{xs:agU (agU D)}{us:agU agY}(h:Rd S w k xs us)(hS:∀b o,S b o→S' b o)(hc:∀b o,S b o→w'.cell? ⟨b,o,none⟩=w.cell? ⟨b,o,none⟩):Rd S' w' k xs us:=
 ⟨h.len,h.wid,h.one,fun i j x d hx hd=>let ⟨u,h1,h2⟩:=h.rel i j x d hx hd;⟨u,h1,h2.keep hS hc⟩⟩
theorem Rd.append{S:Nat→Nat→Prop}{w:agZ}{k:Nat}{xs ys:agU (agU D)}{us vs:agU agY}(h:Rd S w k xs us)(h':Rd S w k ys vs):Rd S w k (xs++ys) (us++vs):=by
 refine⟨by rw[af6,af6,h.len,h'.len,Nat.add_mul],fun x hx=> ?_,fun u hu=> ?_,fun i j x d hx hd=> ?_⟩
 ·rcases agI.1 hx with hx|hx
  ·exact h.wid x hx
  ·exact h'.wid x hx
 ·rcases agI.1 hu with hu|hu
  ·exact h.one u hu
  ·exact h'.one u hu
 ·by_cases hi:i<xs.length
  ·rw[agf hi]at hx;obtain⟨u,h1,h2⟩:=h.rel i j x d hx hd;exact⟨u,by rw[agf (af5.1 h1).1];exact h1,h2⟩
  ·rw[agm (by omega)]at hx;obtain⟨u,h1,h2⟩:=h'.rel (i-xs.length) j x d hx hd;refine⟨u,?_,h2⟩;have e:i*k+j=xs.length*k+((i-xs.length)*k+j):=by rw[Nat.sub_mul];have:=Nat.mul_le_mul_right k (Nat.le_of_not_lt hi);omega
   rw[e,agm (by rw[h.len];omega),h.len,Nat.add_sub_cancel_left];exact h1
theorem Rd.zf{S:Nat→Nat→Prop}{w:agZ}{k:Nat}{xs:agU (agU D)}{us:agU agY}(h:Rd S w k xs us)(b c:Nat)(hc:xs.length≤c)(hm:c≤maxLen)
 (hS:∀o,o<xs.length*k→S b o) (fg:∀(o:Nat)(u:agY),us[o]?=some u→w.cell? ⟨b,o,none⟩=some u):dq S w (.slice (some ⟨b,0,none⟩) xs.length c) (.sl xs):=by
 refine .sl _ b 0 c k xs (fun i j=>us.getD (i*k+j) undef) (fun _=>rfl) hc hm h.wid (fun i j hi hj=> ?_) (fun i j x d hx hd=> ?_)
 ·have aN:i*k+j<xs.length*k:=by
   have:(i+1)*k≤xs.length*k:=Nat.mul_le_mul_right k hi;rw[Nat.add_mul]at this;omega
  have hg:us[i*k+j]?=some (us[i*k+j]'(by rw[h.len];exact aN)):=af9 (by rw[h.len];exact aN);rw[agq];refine⟨hS _ aN,?_,?_⟩
  ·rw[fg _ _ hg];simp [hg]
  ·simp only[List.getD_eq_getElem?_getD,hg,Option.getD_some];exact h.one _ (List.getElem_mem _)
 ·obtain⟨u,h1,h2⟩:=h.rel i j x d hx hd;simp only[List.getD_eq_getElem?_getD,h1,Option.getD_some];exact h2
theorem dq.rd{S:Nat→Nat→Prop}{w:agZ}{v:agY}{xs:agU (agU D)}{k:Nat}(h:dq S w v (.sl xs))(fR:0<k)(hk:∀x∈xs,x.length=k):
 ∃us,Rd S w k xs us∧∃A c,v= .slice A xs.length c∧xs.length≤c∧c≤maxLen∧(xs≠ []→∃b o,A=some ⟨b,o,none⟩∧∀(j:Nat)(u:agY),us[j]?=some u→S b (o+j)∧w.cell? ⟨b,o+j,none⟩=some u):=by
 obtain⟨A,b,o,c,k',u,rfl,hA,hc,hm,iX,hS,hu⟩:=h.m8;by_cases hx:xs=[]
 ·subst hx;exact⟨[],⟨by simp,(fun _ h=>by cases h),(fun _ h=>by cases h),fun i j x d hx=>by simp at hx⟩,A,c,rfl,hc,hm,fun h=>absurd rfl h⟩
 ·have ek:k'=k:=by
   obtain⟨x,jJ⟩:=List.exists_mem_of_ne_nil xs hx;rw[←iX x jJ,hk x jJ]
  subst ek;refine⟨(List.range (xs.length*k')).map fun t=>u (t / k') (t%k'),⟨by simp,hk,fun v hv=> ?_,fun i j x d hx hd=> ?_⟩,A,c,rfl,hc,hm,fun cO=>⟨b,o,hA cO,fun j v hv=> ?_⟩⟩
  ·obtain⟨t,ht,rfl⟩:=List.mem_map.1 hv;have n6:=List.mem_range.1 ht;exact(hS (t / k') (t%k') (Nat.div_lt_of_lt_mul (by rw[Nat.mul_comm];exact n6)) (Nat.mod_lt _ fR)).2.2
  ·have hj:j<k':=by rw[←hk x (agj hx)];exact(af5.1 hd).1
   have hi:i<xs.length:=(af5.1 hx).1;refine⟨u i j,?_,hu i j x d hx hd⟩;have aN:i*k'+j<xs.length*k':=by
    have:(i+1)*k'≤xs.length*k':=Nat.mul_le_mul_right k' hi;rw[Nat.add_mul]at this;omega
   rw[agc,List.getElem?_range aN];simp only[Option.map_some,Option.some.injEq];rw[show(i*k'+j)/ k'=i by rw[Nat.add_comm,Nat.add_mul_div_right _ _ fR,Nat.div_eq_of_lt hj,agq],show(i*k'+j)%k'=j by rw[Nat.add_comm,Nat.add_mul_mod_self_right,Nat.mod_eq_of_lt hj]]
  ·rw[agc]at hv;by_cases hj:j<xs.length*k'
   ·rw[List.getElem?_range hj]at hv;simp only[Option.map_some,Option.some.injEq]at hv;subst hv;have:=hS (j / k') (j%k') (Nat.div_lt_of_lt_mul (by rw[Nat.mul_comm];exact hj)) (Nat.mod_lt _ fR);have e:o+j / k'*k'+j%k'=o+j:=by have:=Nat.div_add_mod j k';rw[Nat.mul_comm]at this;omega
    rw[e]at this;exact⟨this.1,this.2.1⟩
   ·rw[agC (by simp;omega)]at hv;cases hv
theorem dq.src{P:agX}{S:Nat→Nat→Prop}{w:agZ}{v:agY}{xs:agU (agU D)}{k:Nat}(h:dq S w v (.sl xs))(fR:0<k)(hk:∀x∈xs,x.length=k){tx e':TypeId}(ht:P.underlying tx=some (.slice e')):
 ∃us,Rd S w k xs us∧Src P k tx v xs.length us w:=by
 obtain⟨us,hr,A,c,rfl,_,_,hA⟩:=h.rd fR hk;refine⟨us,hr,?_⟩;by_cases hx:xs=[]
 ·subst hx;have j6:us=[]:=List.eq_nil_of_length_eq_zero (by rw[hr.len];simp);subst j6;cases A with
  |none=>exact Src.ofNil w ht c
  |some a=>exact Src.ofSlice w ht a 0 c [] (by simp) (fun j u hu=>by simp at hu) (fun u hu=>by cases hu)
 ·obtain⟨b,o,rfl,hc⟩:=hA hx;exact Src.ofSlice w ht _ _ c us hr.len (fun j u hu=>by rw[kt];exact(hc j u hu).2) hr.one
def Gh.gd(G:Gh)(v:agY)(len:Nat):Gh:=
 {G with N:=G.N+1,sg:=fun n=>if n=G.N then v else G.sg n,fl:=fun n=>if n=G.N then len else G.fl n,ow:=fun n=>if n=G.N then none else G.ow n}
theorem H7{G:Gh}{w:agZ}{h:agU an}(hi:bO G w h){v:agY}{xs:agU (agU D)}(hv:dq G.S w v (.sl xs))(hf:∃A,v= .slice A xs.length xs.length)(e:TypeId)(k:Nat):
 bK G.N G w (G.gd v xs.length) w∧G.N≤(G.gd v xs.length).N∧bO (G.gd v xs.length) w (h++[.front e k xs.length])∧aE (G.gd v xs.length) w v (.own h.length xs):=by
 have cO:∀n,n<G.N→n≠G.N:=fun n hn=>Nat.ne_of_lt hn;have hE:bK G.N G w (G.gd v xs.length) w:=⟨agh _,fun _ _ h=>h,fun _ _ _=>rfl,fun _ _=>rfl,fun n hn=> .inl ⟨by simp [Gh.gd,cO n hn],by simp [Gh.gd,cO n hn]⟩,fM rfl,fun _ _=>rfl,rfl,rfl,rfl,fun _ _ h=> .inl h⟩;have hN:G.N≤(G.gd v xs.length).N:=Nat.le_succ _;have Qn:xs.length≤maxLen:=by
  obtain⟨A,b,o,c,k',u,_,_,h1,h2,_⟩:=hv.m8;exact ago h1 h2
 have lF:∀n(B:an),n<G.N→B.dU (G.gd v xs.length) n=B.dU G n:=fun n B hn=>by
  cases B<;>simp [an.dU,Gh.gd,Nat.ne_of_lt hn]
 have hold:∀n b,bR (h++[.front e k xs.length]) (G.gd v xs.length) n=some b→bR h G n=some b:=fun n b hb=>by
  by_cases hn:n<h.length
  ·unfold bR at hb ⊢;rw[agf hn,af9 hn]at hb;rw[af9 hn];rw[←hb];exact(lF n _ (hi.len▸hn)).symm
  ·by_cases en:n=h.length
   ·subst en;rw[dC (B:= .front e k xs.length) (by simp)]at hb;simp [an.dU,Gh.gd,hi.len]at hb
   ·rw[vF (agC (by simp;omega))]at hb;cases hb
 refine⟨hE,hN,⟨by simp [Gh.gd,hi.len],hi.z,hi.S,fun n B hB=> ?_,fun m n b hm hn=>hi.inj m n b (hold m b hm) (hold n b hn),hi.gl.keep hE⟩,?_⟩
 ·by_cases hn:n<h.length
  ·rw[agf hn]at hB;have eD:n<G.N:=hi.len▸hn;exact dY.keep eD hE hN ⟨by simp [Gh.gd,cO n eD],by simp [Gh.gd,cO n eD],by simp [Gh.gd,cO n eD]⟩ (fun b hb=>⟨rfl,fun o h=>h⟩) (hi.dh n B hB)
  ·have lG:n=h.length:=by
    have:=(af5.1 hB).1;simp at this;omega
   subst lG;simp at hB;subst hB;obtain⟨A,hA⟩:=hf;exact⟨by simp [Gh.gd,hi.len],Qn, .inl ⟨by simp [Gh.gd,hi.len],A,by simp [Gh.gd,hi.len,hA]⟩⟩
 ·exact .own h.length xs (by simp [Gh.gd,hi.len]) hv (by simp [Gh.gd,hi.len]) (fun _=>by simp [Gh.gd,hi.len])
theorem Kq{P:agX}{e k b:Nat}(hk:fh P e=some k)(hb:oA P e=some b):∃i,P.info? e=some i∧i.size=k∧i.bytes=b:=by
 unfold fh at hk;unfold oA at hb;cases hq:P.info? e with
 |none=>rw[hq]at hk;cases hk
 |some i=>rw[hq]at hk hb;exact⟨i,rfl,by simpa using hk,by simpa using hb⟩
def Gh.grow(G:Gh)(n:Nat)(S:Nat→Nat→Prop)(v:agY)(len:Nat)(ow:agW Nat):Gh:=
 {G with S:=S,sg:=fun m=>if m=n then v else G.sg m,fl:=fun m=>if m=n then len else G.fl m,ow:=fun m=>if m=n then ow else G.ow m}
theorem Qu{G:Gh}{w w':agZ}{h:agU an}(hi:bO G w h){n e k len fQ:Nat}(hn:h[n]?=some (.front e k len))(S:Nat→Nat→Prop)(v:agY)(g:Nat)
 (hE:bK G.N G w (G.grow n S v fQ (some g)) w') (hg:g=w.heap.size∨G.ow n=some g) (YG:g<w'.heap.size)
 (hS:∀b o,S b o→G.S b o∨b=g) (gS:∀b,b<w.heap.size→b≠g→w'.heap[b]?=w.heap[b]?)
 (hB:dY (G.grow n S v fQ (some g)) w' n (.front e k fQ)):bO (G.grow n S v fQ (some g)) w' (h.set n (.front e k fQ)):=by
 have eN:∀m,m≠n→(h.set n (.front e k fQ))[m]?=h[m]?:=fun m hm=>by rw[agE (Ne.symm hm)]
 have kx:(h.set n (.front e k fQ))[n]?=some (.front e k fQ):=by rw[agz (af5.1 hn).1]
 have lF:∀m(B:an),m≠n→B.dU (G.grow n S v fQ (some g)) m=B.dU G m:=fun m B hm=>by
  cases B<;>simp [an.dU,Gh.grow,hm]
 have dL:∀m,m≠n→bR (h.set n (.front e k fQ)) (G.grow n S v fQ (some g)) m=bR h G m:=fun m hm=>by
  unfold bR;rw[eN m hm];cases h[m]? with
  |none=>rfl
  |some B=>exact lF m B hm
 have nK:∀m,m≠n→bR h G m≠some g:=fun m hm hb=>by
  rcases hg with hg|hg
  ·have:=hi.iC hb;omega
  ·exact hm (hi.inj m n g hb ((dC hn).trans hg))
 refine⟨by rw[List.length_set];exact hi.len,fun b hb=>agu (hi.z b hb) hE.size,fun b o hs=> ?_,fun m B hm=> ?_,fun m m' b h1 h2=> ?_,hi.gl.keep hE⟩
 ·rcases hS b o hs with hs|hs
  ·exact agu (hi.S b o hs) hE.size
  ·rw[hs];exact YG
 ·by_cases em:m=n
  ·subst em;rw[kx]at hm;cases hm;exact hB
  ·rw[eN m em]at hm;refine dY.keep (hi.lt hm) hE (agh _) ⟨by simp [Gh.grow,em],by simp [Gh.grow,em],by simp [Gh.grow,em]⟩ (fun b hb=> ?_) (hi.dh m B hm);have hr:bR h G m=some b:=(dC hm).trans hb;have cO:b≠g:=fun e'=>nK m em (by rw[hr,e']);refine⟨gS _ (hi.iC hr) cO,fun o jK hs=> ?_⟩;rcases hS _ o hs with hs|hs
   ·exact jK hs
   ·exact cO hs
 ·by_cases e1:m=n<;>by_cases e2:m'=n
  ·rw[e1,e2]
  ·subst e1;rw[dL m' e2]at h2;have:bR (h.set m (.front e k fQ)) (G.grow m S v fQ (some g)) m=some g:=by rw[dC kx];simp [an.dU,Gh.grow]
   rw[this]at h1;cases h1;exact absurd h2 (nK m' e2)
  ·subst e2;rw[dL m e1]at h1;have:bR (h.set m' (.front e k fQ)) (G.grow m' S v fQ (some g)) m'=some g:=by rw[dC kx];simp [an.dU,Gh.grow]
   rw[this]at h2;cases h2;exact absurd h1 (nK m e1)
  ·rw[dL m e1]at h1;rw[dL m' e2]at h2;exact hi.inj m m' b h1 h2
set_option maxHeartbeats 1000000 in
theorem TH{P:agX}{G:Gh}{w:agZ}{h:agU an}(hi:bO G w h){T tx ty e k dc:Nat}{i:TypeInfo}{z:agY}(hT:P.underlying T=some (.slice e))(jL:P.info? e=some i)(hz:i.zero=some z)(ly:i.size=k)(uZ:i.bytes=dc)(iM:z.cells.size=k)
 (fR:0<k) {n:Nat} {xs ys:agU (agU D)} (hn:h[n]?=some (.front e k xs.length)) {u v:agY} (hu:aE G w u (.own n xs)) (ig:∀x∈xs,x.length=k)
 {us:agU agY} (hr:Rd G.S w k ys us) (hs:Src P k tx v ys.length us w) (uR:xs.length+ys.length≤maxLen) (np:(xs.length+ys.length)*dc≤140737488355328):
 ∃r w' G',(Builtin.append_ #[T,tx] ty #[u,v]).run P w= .ok r w'∧bK G.N G w G' w'∧G.N≤G'.N∧bO G' w' (h.set n (.front e k (xs.length+ys.length)))∧aE G' w' r (.own n (xs++ys)):=by
 subst ly;subst uZ;have mm:=hi.lt hn;obtain⟨jW,Qn,hbr⟩:=hi.dh n _ hn;obtain⟨hp,Tg⟩:dq G.S w u (.sl xs)∧u=G.sg n:=by
  cases hu with
  |own _ _ _ hp hle hf=>exact⟨hp,hf jW.symm⟩
 obtain⟨olds,x8,A,c,xa,jN,oH,hA⟩:=hp.rd fR ig;have wW:h.set n (.front e i.size (xs.length+0))=h:=by
  rw[Nat.add_zero];refine List.ext_getElem? fun m=> ?_;by_cases em:m=n
  ·subst em;rw[agz (af5.1 hn).1,hn]
  ·rw[agE (Ne.symm em)]
 by_cases hy:ys.length=0
 ·have ga:ys=[]:=List.eq_nil_of_length_eq_zero hy;subst ga;have j6:us=[]:=List.eq_nil_of_length_eq_zero (by rw[hr.len];simp);subst j6;have:=run_append_nothing (P:=P) w T tx ty e i hT jL A xs.length c jN v hs;refine⟨u,w,G,by rw[xa];exact this,bK.refl _ _ _,agh _,?_,by rw[agr];exact hu⟩;simp only[agi];rw[wW];exact hi
 ·have Z5:0<ys.length:=Nat.pos_of_ne_zero hy;have JZ:xs.length+ys.length≤9223372036854775807:=by simp only[maxLen]at uR;omega
  have Mk:Rd G.S w i.size (xs++ys) (olds++us):=x8.append hr;have grow:c<xs.length+ys.length→∃r w' G',(Builtin.append_ #[T,tx] ty #[u,v]).run P w= .ok r w'∧bK G.N G w G' w'∧G.N≤G'.N∧bO G' w' (h.set n (.front e i.size (xs.length+ys.length)))∧aE G' w' r (.own n (xs++ys)):=by
   intro hg;have hold:(Builtin.firstCells i.size xs.length (.slice A xs.length c)).run P w.drew= .ok olds.toArray w.drew:=by
    by_cases hx:xs=[]
    ·subst hx;have:olds=[]:=List.eq_nil_of_length_eq_zero (by rw[x8.len];simp);subst this;cases A with
     |none=>exact run_firstCells_none _ _ _ _ _
     |some a=>exact run_firstCells_some _ _ _ _ _ _ [] (by simp) (fun j u hu=>by simp at hu)
    ·obtain⟨b,o,rfl,hc⟩:=hA hx;exact run_firstCells_some _ _ _ _ _ _ olds x8.len (fun j u hu=>by rw[kt];exact(hc j u hu).2)
   have dv:=run_append_grow_src (P:=P) w T tx ty e i z hT jL hz A xs.length c olds hold v ys.length us hs hg (by omega) (growslice_fits hg np);obtain⟨cap,im⟩:∃cap,cap=grownCap w (xs.length+ys.length) c e:=⟨_,rfl⟩;have jg:xs.length+ys.length≤cap:=by rw[im];exact grownCap_ge _ _ _ _
   have hle:cap≤maxLen:=by rw[im];exact grownCap_le_maxLen _ _ _ _ uR
   rw[←im]at dv;obtain⟨cur,jl⟩:∃cur,cur=(olds++us).toArray++Builtin.zeroCells z.cells (cap-(xs.length+ys.length)):=⟨_,rfl⟩;rw[←jl]at dv;obtain⟨w',eB⟩:∃w',w'=w.drew.alloc (.cells cur e):=⟨_,rfl⟩;rw[←eB]at dv;have fm:cur.size=cap*i.size:=by
     have:=size_zeroCells z.cells (cap-(xs.length+ys.length));rw[jl,Array.size_append,this,List.size_toArray,Mk.len,iM,af6,←Nat.add_mul]
     congr 1
     omega
   have fu:w'.heap[w.heap.size]?=some (.cells cur e (0,0)):=by rw[eB];exact World.alloc_heap_new w.drew _
   have Kr:∀b,b<w.heap.size→w'.heap[b]?=w.heap[b]?:=fun b hb=>by rw[eB];exact Below.heap_alloc w.drew _ b hb
   have fZ:w'.heap.size=w.heap.size+1:=by rw[eB];simp
   obtain⟨S,hS⟩:∃S:Nat→Nat→Prop,S=fun b o=>G.S b o∨(b=w.heap.size∧o<(xs.length+ys.length)*i.size):=⟨_,rfl⟩;have fg:∀b o,G.S b o→w'.cell? ⟨b,o,none⟩=w.cell? ⟨b,o,none⟩:=fun b o hs=>World.cell?_of_block (Kr b (hi.S b o hs));have hE:bK G.N G w (G.grow n S (.slice (some ⟨w.heap.size,0,none⟩) (xs.length+ys.length) cap) (xs.length+ys.length) (some w.heap.size)) w':=
    ⟨by rw[fZ];exact Nat.le_succ _,fun b o h=>by show S b o;rw[hS];exact .inl h,fg,fun _ _=>rfl,
     fun m _=>by
      by_cases em:m=n
      ·right;subst em;simp only[Gh.grow,if_true,jW];omega
      ·left;exact⟨by simp [Gh.grow,em],by simp [Gh.grow,em]⟩,
     fM rfl,fun b hb=>Kr b (hi.z b hb),by rw[eB];rfl,by rw[eB];rfl,by rw[eB];rfl,fun b o hs=>by
      have cy:S b o:=hs;rw[hS]at cy;rcases cy with h|⟨rfl,_⟩
      ·exact .inl h
      ·exact .inr fun hz=>agK _ (hi.z _ hz)⟩
   have hP:dq S w' (.slice (some ⟨w.heap.size,0,none⟩) (xs++ys).length cap) (.sl (xs++ys)):=by
    refine(Mk.keep (S':=S) (w':=w') (fun b o h=>by rw[hS];exact .inl h) fg).zf w.heap.size cap (by rw[af6];exact jg) hle (fun o ho=>by rw[hS];exact .inr ⟨rfl,by rw[af6]at ho;exact ho⟩) (fun o x ho=> ?_);rw[cell_of_row w' w.heap.size o cur e (0,0) fu,jl,Array.getElem?_append_left (by simp only[List.size_toArray];exact(af5.1 ho).1),List.getElem?_toArray];exact ho
   rw[af6]at hP;refine⟨_,w',_,by rw[xa];exact dv,hE,agh _,Qu hi hn S _ w.heap.size hE (.inl rfl) (by rw[fZ];exact agS _) (fun b o hs=> ?_) (fun b hb _=>Kr b hb) ?_,?_⟩
   ·rw[hS]at hs;exact hs.imp id And.left
   ·refine⟨by simp [Gh.grow],uR, .inr ⟨w.heap.size,cap,cur,by simp [Gh.grow],by simp [Gh.grow],fun hz=>agK _ (hi.z _ hz),fu,jg,hle,fm,fun o ho hs=> ?_⟩⟩;have cy:S w.heap.size o:=hs;rw[hS]at cy;rcases cy with cy|⟨_,cy⟩
    ·have:=hi.S _ _ cy;omega
    ·omega
   ·exact .own n (xs++ys) mm hP (by simp [Gh.grow]) (fun _=>by simp [Gh.grow])
  rcases hbr with⟨hb1,A',jt⟩|⟨g,cap,cur,hb1,jt,zk,mO,FM,L7,Nb,Rx⟩
  ·refine grow ?_;rw[Tg,jt]at xa;cases xa
   omega
  ·have SY:=xa;rw[Tg,jt]at SY;injection SY with eA0 _ e1;have e2:=e1.symm;subst e2;subst eA0;by_cases l0:xs.length+ys.length≤c
   ·
    have jd:xs.length*i.size+us.length≤cur.size:=by rw[hr.len,Nb,←Nat.add_mul];exact Nat.mul_le_mul_right _ l0
    have BC:∀o,w.cell? ⟨g,o,none⟩=cur[o]?:=fun o=>cell_of_row w g o cur e (0,0) mO;have vJ:∀j,j<us.length→(w.cell? ⟨g,0+xs.length*i.size+j,none⟩).isSome=true:=fun j hj=>by
     rw[BC,agq,ags (by omega)];rfl
    have dv:=run_append_room_src (P:=P) w T tx ty e i hT jL g 0 xs.length c v ys.length us hs l0 vJ
     (fun j hj=>by unfold World.frozen?;rw[mO];simp)
    rw[agq]at dv vJ;obtain⟨w',eB⟩:∃w',w'=w.setCells g (xs.length*i.size) us:=⟨_,rfl⟩;rw[←eB]at dv;have aej:g<w.heap.size:=(agl.1 mO).1;have jm:=run_storeCells_at P g (xs.length*i.size) e us 0 cur w mO (by simpa using jd) hs.one;have ur:=run_storeCells_cells (P:=P) g (xs.length*i.size) us 0 w (by simpa using vJ) (fun j hj=>by unfold World.frozen?;rw[mO];simp) hs.one;simp only[Nat.add_zero]at jm ur;rw[jm]at ur;have uV:w'=w.setRow g (cur.toList.take (xs.length*i.size)++us++cur.toList.drop (xs.length*i.size+us.length)).toArray:=by
      rw[eB];injection ur with _ e2;exact e2.symm
    obtain⟨mz,Ik⟩:∃mz:Array agY,mz=(cur.toList.take (xs.length*i.size)++us++cur.toList.drop (xs.length*i.size+us.length)).toArray:=⟨_,rfl⟩;rw[←Ik]at uV;have l8:w'.heap[g]?=some (.cells mz e (0,0)):=by rw[uV];exact setRow_heap w g cur mz e _ mO
    have gS:∀b,b≠g→w'.heap[b]?=w.heap[b]?:=fun b hb=>by rw[uV];exact setRow_other w g b mz hb
    have fZ:w'.heap.size=w.heap.size:=by rw[uV];exact GZ w g mz
    have jk:∀o,mz[o]?=if o<xs.length*i.size then cur[o]? else if o<xs.length*i.size+us.length then us[o-xs.length*i.size]? else cur[o]?:=fun o=>by
     rw[Ik,List.getElem?_toArray,agn];have hl:cur.toList.length=cur.size:=agD;by_cases h1:o<xs.length*i.size
     ·rw[if_pos h1,agf (by simp;omega),List.getElem?_take_of_lt h1,agt]
     ·rw[if_neg h1,agm (by simp;omega)];simp only[List.length_take,hl];rw[Nat.min_eq_left (by omega)];by_cases h2:o<xs.length*i.size+us.length
      ·rw[if_pos h2,agf (by omega)]
      ·rw[if_neg h2,agm (by omega),List.getElem?_drop,show xs.length*i.size+us.length+(o-xs.length*i.size-us.length)=o by omega,agt]
    have Yd:mz.size=cur.size:=by
     rw[Ik];simp only[List.size_toArray,af6,List.length_take,List.length_drop,agD];omega
    have fg:∀b o,G.S b o→w'.cell? ⟨b,o,none⟩=w.cell? ⟨b,o,none⟩:=fun b o hs=>by
     by_cases eb:b=g
     ·subst eb;have ho:o<xs.length*i.size:=Nat.lt_of_not_le fun hle=>Rx o hle hs;rw[BC,cell_of_row w' b o mz e (0,0) l8,jk,if_pos ho]
     ·exact World.cell?_of_block (gS b eb)
    obtain⟨S,hS⟩:∃S:Nat→Nat→Prop,S=fun b o=>G.S b o∨(b=g∧o<(xs.length+ys.length)*i.size):=⟨_,rfl⟩;have hE:bK G.N G w (G.grow n S (.slice (some ⟨g,0,none⟩) (xs.length+ys.length) c) (xs.length+ys.length) (some g)) w':=
     ⟨by rw[fZ];exact agh _,fun b o h=>by show S b o;rw[hS];exact .inl h,fg,fun _ _=>rfl,
      fun m _=>by
       by_cases em:m=n
       ·right;subst em;simp only[Gh.grow,if_true,jW];omega
       ·left;exact⟨by simp [Gh.grow,em],by simp [Gh.grow,em]⟩,
      fM rfl,fun b hb=>gS b (fun e=>zk (e▸hb)),by rw[uV];rfl,by rw[uV];rfl,by rw[uV];rfl,fun b o hs=>by
       have cy:S b o:=hs;rw[hS]at cy;rcases cy with h|⟨rfl,_⟩
       ·exact .inl h
       ·exact .inr zk⟩
    have hP:dq S w' (.slice (some ⟨g,0,none⟩) (xs++ys).length c) (.sl (xs++ys)):=by
     refine(Mk.keep (S':=S) (w':=w') (fun b o h=>by rw[hS];exact .inl h) fg).zf g c (by rw[af6];exact l0) L7 (fun o ho=>by rw[hS];exact .inr ⟨rfl,by rw[af6]at ho;exact ho⟩) (fun o x ho=> ?_);rw[cell_of_row w' g o mz e (0,0) l8,jk];have gH:olds.length=xs.length*i.size:=x8.len;by_cases h1:o<xs.length*i.size
     ·rw[if_pos h1];rw[agf (by omega)]at ho;have hx:xs≠ []:=fun e=>by subst e;simp at h1
      obtain⟨b,o',eA,hc⟩:=hA hx;cases eA
      have:=(hc o x ho).2;rw[agq,BC]at this;exact this
     ·rw[if_neg h1];rw[agm (by omega),gH]at ho;have:=(af5.1 ho).1;rw[if_pos (by omega)];exact ho
    rw[af6]at hP;refine⟨_,w',_,by rw[xa];exact dv,hE,agh _,Qu hi hn S _ g hE (.inr hb1) (by rw[fZ];exact aej) (fun b o hs=> ?_) (fun b _ hb=>gS b hb) ?_,?_⟩
    ·rw[hS]at hs;exact hs.imp id And.left
    ·refine⟨by simp [Gh.grow],uR, .inr ⟨g,c,mz,by simp [Gh.grow],by simp [Gh.grow],zk,l8,l0,L7,by rw[Yd,Nb],fun o ho hs=> ?_⟩⟩;have cy:S g o:=hs;rw[hS]at cy;rcases cy with cy|⟨_,cy⟩
     ·exact Rx o (ago (Nat.mul_le_mul_right _ (agL _ _)) ho) cy
     ·omega
    ·exact .own n (xs++ys) mm hP (by simp [Gh.grow]) (fun _=>by simp [Gh.grow])
   ·exact grow (by omega)
def WF(r:agW Nat):Fence:={Fence.wide with round:=r}
def iE(N0:Nat)(G:Gh)(w:agZ)(K:St→Prop)(a':Act)(w':agZ):Prop:=∃G' s',bK N0 G w G' w'∧N0≤G'.N∧cT G' w' a' s'∧K s'
section
variable {P:agX} {r:agW Nat} {n N0:Nat} {G:Gh} {w:agZ} {a:Act} {s:St} {o:Oper} {K:St→Prop} {Q:Exit→Act→agZ→Prop}
theorem mC(gh:∀c,o.op≠ .defer c)(hs:cT G w a s)(cA:N0≤G.N){v:agY}{x:AV}{w':agZ}{G':Gh}{h':agU an}(hr:(execOp a.eval o).run P w= .ok (.value v) w')
 (hE:bK G.N G w G' w') (hN:G.N≤G'.N) (hi:bO G' w' h') (hv:aE G' w' v x) (hK:K ((s.wh h').put o.dst x)):o.wpIn (WF r) n P a w (iE N0 G w K) Q:=by
 refine⟨fun _ _=>trivial,?_⟩;rw[Oper.semAt_eq _ _ _ gh,hr];exact⟨G',_,hE.less cA,ago cA hN,((hs.move hE hN hi).put hv o.dst),hK⟩
theorem eX(gh:∀c,o.op≠ .defer c)(hs:cT G w a s)(cA:N0≤G.N){v:agY}{x:AV}(hr:(execOp a.eval o).run P w= .ok (.value v) w)(hv:aE G w v x)(hK:K (s.put o.dst x)):
 o.wpIn (WF r) n P a w (iE N0 G w K) Q:=
 mC gh hs cA hr (bK.refl _ _ _) (agh _) hs.inv hv hK
theorem Lw(gh:∀c,o.op≠ .defer c)(hs:cT G w a s)(cA:N0≤G.N){w':agZ}{G':Gh}{h':agU an}(hr:(execOp a.eval o).run P w= .ok .skip w')
 (hE:bK G.N G w G' w') (hN:G.N≤G'.N) (hi:bO G' w' h') (hK:K ((s.wh h').put o.dst (.d (.v undef)))):o.wpIn (WF r) n P a w (iE N0 G w K) Q:=by
 refine⟨fun _ _=>trivial,?_⟩;rw[Oper.semAt_eq _ _ _ gh,hr];exact⟨G',_,hE.less cA,ago cA hN,((hs.move hE hN hi).put (.d (.v undef)) o.dst),hK⟩
theorem MM{t k:Nat}(h:fh P t=some k):∃i,P.info? t=some i∧i.size=k:=by
 unfold fh at h;cases hq:P.info? t with
 |none=>rw[hq]at h;cases h
 |some i=>rw[hq]at h;exact⟨i,rfl,by simpa using h⟩
theorem EA{t:Nat}{z:agY}(h:zeroT P t=some z):∃i,P.info? t=some i∧i.zero=some z:=by
 unfold zeroT at h;cases hq:P.info? t with
 |none=>rw[hq]at h;cases h
 |some i=>rw[hq]at h;exact⟨i,rfl,by simpa using h⟩
theorem DT{t:Nat}{z:agY}(h:zeroT P t=some z)(w:agZ):(zeroValue t).run P w= .ok z w:=by
 obtain⟨i,h1,h2⟩:=EA h;simp [zeroValue,typeInfo,h1,h2]
theorem kJ{t k:Nat}(h:fh P t=some k)(w:agZ):(sizeOf t).run P w= .ok k w:=by
 obtain⟨i,h1,h2⟩:=MM h;simp [sizeOf,typeInfo,h1,h2]
theorem zc{t:Nat}{g:Bool}(h:kE P t=some g)(w:agZ):(isAgg t).run P w= .ok g w:=by
 unfold kE at h;cases hq:P.underlying t with
 |none=>rw[hq]at h;cases h
 |some d=>
  rw[hq]at h;unfold isAgg;rw[Sem.run_bind,run_underlying hq w];simp only[Option.map_some,Option.some.injEq]at h;subst h;cases d<;>rfl
theorem aaf{t:Nat}(h:kE P t=some true):∃d,P.underlying t=some d∧d.isRow=true:=by
 unfold kE at h;cases hq:P.underlying t with
 |none=>rw[hq]at h;cases h
 |some d=>rw[hq]at h;refine⟨d,rfl,?_⟩;cases d<;>simp_all [TypeDesc.isRow]
theorem UA{t:Nat}{C:AV→Prop}:∀(b o:Nat)(cs:agU AV)(off:Nat)(us:Nat→agY),(∀j,j<cs.length→w.cell? ⟨b,o+j,none⟩=some (us j))→(∀(j:Nat)(c:AV),cs[j]?=some c→aE G w (us j) c)→
 (match kE P t,fh P t with
  |some true,some k=>fK (b8 (off+k) cs.length) (C (.agg ((cs.drop off).take k)))
  |some false,some _=>match cs[off]? with
   |some c=>C c
   |none=>False
  |_,_=>False)→∃u x,(loadVar t ⟨b,o+off,none⟩).run P w= .ok u w∧aE G w u x∧C x:=by
 intro b o cs off us h1 h2 h3;split at h3
 ·rename_i k hg hk
  obtain⟨hlen,hC⟩:=bM.1 h3;rw[dA]at hlen;obtain⟨d,zS,mc⟩:=aaf hg;have FW:((List.range k).map fun j=>us (off+j)).length=k:=by simp
  have dv:=run_loadVar_mid (P:=P) w b (o+off) t ((List.range k).map fun j=>us (off+j)) d (fun j u hu=>by
   rw[agc]at hu;by_cases hj:j<k
   ·rw[List.getElem?_range hj]at hu;simp only[Option.map_some,Option.some.injEq]at hu;subst hu;have:=h1 (off+j) (by omega)
    rwa [←Nat.add_assoc]at this
   ·rw[agC (by simp;omega)]at hu;cases hu) zS mc (by rw[FW];exact hk)
  refine⟨_,_,dv, .agg _ _ (by simp;omega) fun i u c hu hc=> ?_,hC⟩;rw[List.getElem?_toArray,agc]at hu;rw[List.getElem?_take]at hc;split at hc
  ·rename_i ly
   rw[List.getElem?_range ly]at hu;simp only[Option.map_some,Option.some.injEq]at hu;subst hu;rw[List.getElem?_drop]at hc;exact h2 (off+i) c hc
  ·cases hc
 ·rename_i k hg hk
  split at h3
  ·rename_i c hc
   refine⟨us off,c,?_,h2 off c hc,h3⟩;unfold loadVar;rw[Sem.run_bind,zc hg w];simp only[Result.andThen_ok,Bool.false_eq_true,if_false];unfold load;simp only[Sem.run,h1 off (af5.1 hc).1]
  ·exact h3.elim
 ·exact h3.elim
theorem T5{t:Nat}{p:AV}{v:agY}{C:AV→Prop}(hi:bO G w s.h)(hv:aE G w v p)(h:mg P t s.h p C):∃u x,(Instr.loadAt t v).run P w= .ok u w∧aE G w u x∧C x:=by
 have key:=UA (P:=P) (G:=G) (w:=w) (t:=t) (C:=C);unfold mg px at h;cases p with
 |ptr m off=>
  simp only at h;split at h
  ·rename_i cs hm
   obtain⟨_,_,vs,T,hh,hl,hr⟩:=hi.dh m _ hm;cases hv with
   |ptr _ _ ux=>
    obtain⟨u,x,h1,h2,h3⟩:=key (G.bg m) 0 cs off (fun j=>vs.getD j undef) (fun j hj=>by
     have iy:j<vs.size:=by rw[hl];exact hj
     rw[agq,cell_of_row w (G.bg m) j vs T (0,0) hh];simp [Array.getD,iy]) (fun j c hc=>by
     have iy:j<vs.size:=by rw[hl];exact(af5.1 hc).1
     exact hr j _ c (by simp [Array.getD,iy]) hc) h
    rw[agq]at h1;exact⟨u,x,by simp [Instr.loadAt,Instr.sureAddr,h1],h2,h3⟩
  ·exact h.elim
 |aW xs i off=>
  simp only at h;split at h
  ·rename_i cs fm
   cases hv with
   |aW _ _ _ b o us x hx hS hu=>
    rw[hx]at fm;cases fm
    obtain⟨u,y,h1,h2,h3⟩:=key b o (cs.map .d) off us (fun j hj=>(hS j (by simpa using hj)).2) (fun j c hc=>by
     rw[agc]at hc;cases hd:cs[j]? with
     |none=>rw[hd]at hc;cases hc
     |some d=>rw[hd]at hc;cases hc;exact .d (hu j d hd)) h
    exact⟨u,y,by simp [Instr.loadAt,Instr.sureAddr,h1],h2,h3⟩
  ·exact h.elim
 |_=>exact h.elim
theorem aE.list{u:agY}{x:AV}{xs:agU (agU D)}(h:aE G w u x)(hx:x.fw=some xs):dq G.S w u (.sl xs):=by
 unfold AV.fw at hx;split at hx
 ·cases hx;cases h with|d h=>exact h
 ·cases hx;cases h with|own _ _ _ h=>exact h
 ·cases hx;cases h with|full _ h=>exact h
 ·cases hx
  cases h with
  |d h=>
   cases h with
   |v=>exact .sl none 0 0 0 0 [] (fun _ _=>undef) (fun h=>absurd rfl h) (agh _) (by simp) (fun _ h=>by cases h) (fun i j hi=>by simp at hi) (fun i j x d hx=>by simp at hx)
 ·cases hx
theorem aE.int{u:agY}{x:AV}{z:Int}(h:aE G w u x)(hx:x.int?=some z):∃k,u= .int k z:=by
 unfold AV.int? at hx;split at hx
 ·rename_i k m
  cases hx
  cases h with
  |d h=>cases h with|v=>exact⟨k,rfl⟩
 ·cases hx
theorem aE.bool{u:agY}{t:Bool}(h:aE G w u (.d (.v (.bool t)))):u= .bool t:=by
 cases h with|d h=>cases h with|v=>rfl
theorem aE.val{u v:agY}(h:aE G w u (.d (.v v))):u=v:=by
 cases h with|d h=>cases h with|v=>rfl
theorem iV{T e k:Nat}(h:ej P T=some (e,k)):P.underlying T=some (.slice e)∧fh P e=some k:=by
 unfold ej at h;split at h
 ·rename_i e' he
  cases hq:fh P e' with
  |none=>rw[hq]at h;cases h
  |some k'=>rw[hq]at h;simp at h;obtain⟨rfl,rfl⟩:=h;exact⟨he,hq⟩
 ·cases h
theorem Kk{T m e k:Nat}(h:sy P T=some (m,e,k)):P.underlying T=some (.array m e)∧fh P e=some k:=by
 unfold sy at h;split at h
 ·rename_i m' e' he
  cases hq:fh P e' with
  |none=>rw[hq]at h;cases h
  |some k'=>rw[hq]at h;simp at h;obtain⟨rfl,rfl,rfl⟩:=h;exact⟨he,hq⟩
 ·cases h
theorem adA{T:Nat}{x i:AV}{u v:agY}{C:AV→Prop}(hu:aE G w u x)(hv:aE G w v i)(h:oI P T x i C):∃p y,(Instr.indexAt T u v).run P w= .ok p w∧aE G w p y∧C y:=by
 unfold oI at h;split at h
 ·rename_i e k hT
  obtain⟨eP,fe⟩:=iV hT;split at h
  ·rename_i m off len cap k'
   split at h
   ·rename_i z hz
    obtain⟨nR,h0,aN,hC⟩:=bM.1 h;rw[beq_iff_eq]at nR;subst nR;obtain⟨kz,rfl⟩:=hv.int hz;cases hu with
    |row _ _ _ _ _ hm hl mK=>
     have hN:(z.toNat:Int)=z:=Int.toNat_of_nonneg h0;refine⟨_,_,?_, .ptr m (off+z.toNat*k') hm,hC⟩;simp [Instr.indexAt,asIntOf,run_underlying eP,h0,aN,kJ fe,kt]
   ·exact h.elim
  ·split at h
   ·rename_i xs z kp hz
    obtain⟨h0,h⟩:=h;obtain⟨kz,rfl⟩:=hv.int hz;split at h
    ·rename_i c hc
     obtain⟨hk,hC⟩:=h;obtain⟨A,b,o,cc,k',us,rfl,hA,jN,oH,iX,hS,j6⟩:=(hu.list kp).m8;have aN:z.toNat<xs.length:=(af5.1 hc).1;have cO:xs≠ []:=fun e=>by subst e;simp at aN
     have ek:k'=k:=by rw[←iX c (agj hc),hk]
     subst ek;rw[hA cO];have Jf:z<(xs.length:Int):=by omega
     refine⟨_, .aW [c] 0 0,?_, .aW [c] 0 0 b (o+z.toNat*k') (us z.toNat) c rfl (fun j hj=> ?_) (fun j d hd=>j6 _ _ _ _ hc hd),hC⟩
     ·simp [Instr.indexAt,asIntOf,run_underlying eP,h0,Jf,kJ fe,kt]
     ·have:=hS z.toNat j aN (by rw[hk]at hj;exact hj);exact⟨this.1,this.2.1⟩
    ·exact h.elim
   ·exact h.elim
 ·split at h
  ·rename_i m e k b off z hT hz
   obtain⟨h0,aN,hC⟩:=h;obtain⟨eP,fe⟩:=Kk hT;obtain⟨kz,rfl⟩:=hv.int hz;cases hu with
   |ptr _ _ hb=>
    refine⟨_,_,?_, .ptr b (off+z.toNat*k) hb,hC⟩;simp [Instr.indexAt,Instr.sureAddr,asIntOf,run_underlying eP,h0,aN,kJ fe,kt]
  ·rename_i m e k xs i' off z hT hz
   obtain⟨qz,h0,aN,h9⟩:=bM.1 h;rw[beq_iff_eq]at qz;subst qz;obtain⟨eP,fe⟩:=Kk hT;obtain⟨kz,rfl⟩:=hv.int hz;split at h9
   ·rename_i c hc
    split at h9
    ·rename_i d hd
     cases hu with
     |aW _ _ _ b o us c' jk hS j6=>
      rw[hc]at jk;cases jk
      have Xl:=(af5.1 hd).1;refine⟨_, .aW [[d]] 0 0,?_, .aW [[d]] 0 0 b (o+(off+z.toNat)) (fun _=>us (off+z.toNat)) [d] rfl (fun j hj=> ?_) (fun j d' eh=> ?_),h9⟩
      ·simp [Instr.indexAt,Instr.sureAddr,asIntOf,run_underlying eP,h0,aN,kJ fe,kt,Nat.add_assoc]
      ·simp at hj;subst hj;exact hS _ Xl
      ·match j with
       |0=>simp at eh;subst eh;exact j6 _ _ hd
       |j+1=>simp at eh
    ·exact h9.elim
   ·exact h9.elim
  ·exact h.elim
theorem qi{T:Nat}(h:gg P T=true):P.underlying T=some .string:=by
 unfold gg at h;split at h
 ·assumption
 ·cases h
theorem Wx{T:Nat}{x:AV}{u:agY}{ty:Nat}{C:Nat→Prop}(hu:aE G w u x)(h:qm P T x C):∃m:Nat,(Builtin.len_ #[T] ty #[u]).run P w= .ok (.int .i64 m) w∧C m:=by
 have Tv:∀(A:agW Addr)(l c:Nat),(ej P T).isSome=true→(Builtin.len_ #[T] ty #[.slice A l c]).run P w= .ok (.int .i64 l) w:=by
  intro A l c hT;obtain⟨⟨e,k⟩,hT⟩:=Option.isSome_iff_exists.1 hT;simp [Builtin.len_,run_underlying (iV hT).1,goInt]
 unfold qm at h;split at h
 ·rename_i b
  have:=hu.val;subst this;obtain⟨hT,hC⟩:=bM.1 h;exact⟨b.size,by simp [Builtin.len_,run_underlying (qi hT),goInt],hC⟩
 ·cases hu with
  |row=>exact⟨_,Tv _ _ _ (bM.1 h).1,(bM.1 h).2⟩
 ·split at h
  ·rename_i xs kp
   obtain⟨A,b,o,c,k,us,rfl,_⟩:=(hu.list kp).m8;exact⟨_,Tv _ _ _ (bM.1 h).1,(bM.1 h).2⟩
  ·exact h.elim
def yu(a:Act)(x:agW Operand)(d m:Nat):Prop:=match x with|none=>m=d|some y=>∃k z,a.eval y= .int k z∧0≤z∧m=z.toNat
theorem qT{x:agW Operand}{d:Nat}{C:Nat→Prop}(hs:cT G w a s)(h:iT (ev s) x d C):∃m,C m∧yu a x d m:=by
 cases x with
 |none=>exact⟨_,h,rfl⟩
 |some y=>
  unfold iT at h;simp only at h;split at h
  ·rename_i z hz
   obtain⟨k,hk⟩:=(hs.ev y).int hz;exact⟨_,h.2,k,z,hk,h.1,rfl⟩
  ·exact h.elim
theorem wP{k:IntKind}{z:Int}{y:Nat}{code:BoundsCode}(h0:0≤z)(h:z.toNat≤y)(w:agZ):(Instr.sliceBound (.int k z) y code).run P w= .ok z.toNat w:=by
 have:z≤(y:Int):=by omega
 simp [Instr.sliceBound,asIntOf,h0,this]
theorem zW{lo hi:agW Operand}{len cap l h:Nat}{wu:Bool}(gH:yu a lo 0 l)(nA:yu a hi len h)(hl:l≤h)(hh:h≤cap)(w:agZ):
 (Instr.sliceBounds wu len cap (lo.map a.eval) (hi.map a.eval) none).run P w= .ok (l,h,cap) w:=by
 unfold yu at gH nA;cases lo with
 |none=>
  subst gH;cases hi with
  |none=>subst nA;simp [Instr.sliceBounds]
  |some y=>
   obtain⟨k,z,e,h0,rfl⟩:=nA;simp [Instr.sliceBounds,e,wP h0 hh]
 |some x=>
  obtain⟨k',z',e',R7,rfl⟩:=gH;cases hi with
  |none=>subst nA;simp [Instr.sliceBounds,e',wP R7 hl]
  |some y=>
   obtain⟨k,z,e,h0,rfl⟩:=nA;simp [Instr.sliceBounds,e,e',wP h0 hh,wP R7 hl]
theorem dq.part{S:Nat→Nat→Prop}{v:agY}{xs:agU (agU D)}{k:Nat}(hp:dq S w v (.sl xs))(hk:∀c∈xs,c.length=k){l h:Nat}(hl:l≤h)(hh:h≤xs.length):
 ∃A c,v= .slice A xs.length c∧xs.length≤c∧dq S w (.slice (if c=l then A else A.map (·.add (l*k))) (h-l) (c-l)) (.sl ((xs.take h).drop l)):=by
 obtain⟨A,b,o,c,k',us,rfl,hA,jN,oH,iX,hS,j6⟩:=hp.m8;refine⟨A,c,rfl,jN,?_⟩;have hlen:((xs.take h).drop l).length=h-l:=by simp;omega
 rw[←hlen];by_cases hx:xs=[]
 ·subst hx;have e:((([]:agU (agU D)).take h).drop l)=[]:=by simp
  rw[e];exact .sl _ 0 0 (c-l) 0 [] (fun _ _=>undef) (fun h=>absurd rfl h) (Nat.zero_le _) (by omega) (fun _ h=>by cases h) (fun i j hi=>by simp at hi) (fun i j x d hx=>by simp at hx)
 ·have ek:k'=k:=by
   obtain⟨x,jJ⟩:=List.exists_mem_of_ne_nil xs hx;rw[←iX x jJ,hk x jJ]
  subst ek;have eN:∀i,i<h-l→((xs.take h).drop l)[i]?=xs[l+i]?:=fun i hi=>by
   rw[List.getElem?_drop,List.getElem?_take_of_lt (by omega)]
  refine .sl _ b (o+l*k') (c-l) k' _ (fun i j=>us (l+i) j) (fun cO=> ?_) (by rw[hlen];omega) (by omega) (fun x hx=>hk x (List.mem_of_mem_take (List.mem_of_mem_drop hx))) (fun i j hi hj=> ?_) (fun i j x d hx hd=> ?_)
  ·have IP:0<((xs.take h).drop l).length:=List.length_pos_iff.2 cO;rw[hlen]at IP;rw[if_neg (by omega),hA hx];simp [kt]
  ·rw[hlen]at hi;have:=hS (l+i) j (by omega) hj;rw[Nat.add_mul,←Nat.add_assoc]at this;exact this
  ·have hi:=(af5.1 hx).1;rw[hlen]at hi;rw[eN i hi]at hx;exact j6 _ _ _ _ hx hd
theorem adu{T:Nat}{x:AV}{u:agY}{lo hi mx:agW Operand}{C:AV→Prop}(hs:cT G w a s)(hu:aE G w u x)(h:sr P T (ev s) x lo hi mx C):
 ∃p y,(Instr.sliceAt T u (lo.map a.eval) (hi.map a.eval) (mx.map a.eval)).run P w= .ok p w∧aE G w p y∧C y:=by
 unfold sr at h;split at h
 ·split at h
  ·rename_i b
   obtain⟨hT,h⟩:=bM.1 h;have hT:=qi hT;have:=hu.val;subst this;obtain⟨m,h,hm⟩:=qT hs h;obtain⟨tk,h⟩:=h;obtain⟨l,h,hl⟩:=qT hs h;obtain⟨pn,h⟩:=h;refine⟨_,_,?_, .d (.v _),h⟩;have hb:=zW (P:=P) (wu:=false) hl hm pn tk w;simp [Instr.sliceAt,Instr.slice,run_underlying hT,hb]
  ·rename_i m off
   split at h
   ·rename_i c e k hT
    rw[bM,dA]at h;obtain⟨oH,h⟩:=h;have oH:c≤maxLen:=by unfold maxLen;omega
    obtain⟨eP,fe⟩:=Kk hT;obtain⟨hh,h,hm⟩:=qT hs h;obtain⟨tk,h⟩:=bM.1 h;rw[dA]at tk;obtain⟨l,h,hl⟩:=qT hs h;obtain⟨pn,h⟩:=bM.1 h;simp only[af7,dA,Bool.not_eq_true',←Bool.not_eq_true,Nat.not_le]at pn;obtain⟨pn,jN⟩:=pn;have hb:=zW (P:=P) (wu:=false) hl hm pn tk w;cases hu with
    |ptr _ _ ux=>
     refine⟨_,_,?_, .row m (off+l*k) (hh-l) (c-l) k ux (by omega) (by omega),h⟩;simp [Instr.sliceAt,Instr.sureAddr,run_underlying eP,hb,kJ fe,kt,Nat.ne_of_gt jN]
   ·exact h.elim
  ·split at h
   ·rename_i xs e k kp hT
    obtain⟨hk,h⟩:=h;obtain⟨eP,fe⟩:=iV hT;obtain⟨hh,h,hm⟩:=qT hs h;obtain⟨tk,h⟩:=h;obtain⟨l,h,hl⟩:=qT hs h;obtain⟨pn,h⟩:=h;obtain⟨A,c,rfl,jN,hp⟩:=(hu.list kp).part hk pn tk;have hb:=zW (P:=P) (wu:=true) hl hm pn (ago tk jN) w;refine⟨_,_,?_, .d hp,h⟩;simp [Instr.sliceAt,Instr.slice,run_underlying eP,hb,kJ fe]
   ·exact h.elim
 ·rename_i y
  split at h
  case h_2=>exact h.elim
  rename_i yh
  split at h
  ·rename_i xs e k kp hT
   obtain⟨hk,h⟩:=h;obtain⟨eP,fe⟩:=iV hT;obtain⟨c',h3,hc⟩:=qT hs h;obtain⟨fz,h3⟩:=h3;obtain⟨hh,h4,hm⟩:=qT hs h3;obtain⟨rfl,h5⟩:=h4;clear h h3;obtain⟨k1,z1,e1,p1,q1⟩:=hc;obtain⟨k2,z2,e2,p2,q2⟩:=hm;obtain⟨A,c,rfl,jN,hp⟩:=(hu.list kp).part hk (Nat.zero_le hh) fz;have hp':dq G.S w (.slice A hh hh) (.sl (xs.take hh)):=by
    have h1:(if c=0 then A else A.map (·.add (0*k)))=A:=by
     split
     ·rfl
     ·cases A<;>simp [Addr.add]
    rw[h1,agF]at hp;obtain⟨A',b,o,c2,k',us,e,r1,r2,r3,r4,r5,r6⟩:=hp.m8;have hl:(xs.take hh).length=hh:=by simp;omega
    injection e with eA e3 e4;subst eA;have:=dq.sl (S:=G.S) (w:=w) A b o hh k' (xs.take hh) us r1 (by omega) (by omega) r4 r5 r6
    rwa [hl]at this
   refine⟨.slice A hh hh, .full (xs.take hh),?_, .full _ hp' ⟨A,by simp;omega⟩,h5⟩;have b1:(Instr.sliceBound (.int k1 z1) c .slice3Acap).run P w= .ok hh w:=by rw[wP p1 (by omega),q1]
   have b2:(Instr.sliceBound (.int k2 z2) hh .slice3B).run P w= .ok hh w:=by rw[wP p2 (by omega),←q2]
   simp only[Option.map_some,Option.map_none,e1,e2];have hA:A.map (·.add 0)=A:=by cases A<;>simp [Addr.add]
   simp [Instr.sliceAt,Instr.slice,Instr.sliceBounds,run_underlying eP,b1,b2,kJ fe,hA]
  ·exact h.elim
theorem J3:∀{cs:agU AV}{ds:agU D},lN cs=some ds→ds.length=cs.length∧∀(i:Nat)(c:AV)(d:D),cs[i]?=some c→ds[i]?=some d→c.uM=some d
 |[],ds,h=>by simp [lN]at h;subst h;simp
 |c::cs,ds,h=>by
  unfold lN at h;split at h
  ·rename_i d l hd hl
   cases h
   obtain⟨h1,h2⟩:=J3 hl;refine⟨by simp [h1],fun i c' d' hc eh=> ?_⟩
   match i with
   |0=>simp at hc eh;subst hc;subst eh;exact hd
   |i+1=>exact h2 i c' d' (by simpa using hc) (by simpa using eh)
  ·cases h
theorem dq.vD{S:Nat→Nat→Prop}{w:agZ}{u:agY}{x:D}(h:dq S w u x):dq S w u x.vD:=by
 unfold D.vD;split
 ·cases h with
  |v=>exact .sl none 0 0 0 0 [] (fun _ _=>undef) (fun h=>absurd rfl h) (agh _) (Nat.zero_le _) (fun _ h=>absurd h agM) (fun i j hi=>absurd hi (agy _)) (fun i j x d hx=>by simp at hx)
 ·exact h
theorem aE.J0{u:agY}{x:AV}{d:D}(h:aE G w u x)(hx:x.uM=some d):dq G.S w u d:=by
 unfold AV.uM at hx;split at hx
 ·cases hx;cases h with|d h=>exact h.vD
 ·cases hx;cases h with|own _ _ _ h=>exact h
 ·cases hx;cases h with|full _ h=>exact h
 ·cases hx
theorem pY(k:Nat):∀(m:Nat)(l:agU D),(lR k m l).length=m
 |0,_=>rfl
 |m+1,l=>by simp [lR,pY k m]
theorem Ig(k:Nat):∀(m:Nat)(l:agU D)(i:Nat),i<m→(lR k m l)[i]?=some ((l.drop (i*k)).take k)
 |0,_,_,h=>by omega
 |m+1,l,0,_=>by simp [lR]
 |m+1,l,i+1,h=>by
  have:=Ig k m (l.drop k) i (by omega);rw[lR,agH,this,List.drop_drop,Nat.add_mul,Nat.one_mul,Nat.add_comm k]
theorem R5{k m:Nat}{us:agU agY}{ds:agU D}(hl:ds.length=m*k)(hu:us.length=m*k)(h1:∀u∈us,u.oneCell'=true)
 (hr:∀(i:Nat)(u:agY)(d:D),us[i]?=some u→ds[i]?=some d→dq G.S w u d):Rd G.S w k (lR k m ds) us:=by
 have hb:∀i,i<m→(i+1)*k≤m*k:=fun i hi=>Nat.mul_le_mul_right k hi;refine⟨by rw[pY,hu],fun x hx=> ?_,h1,fun i j x d hx hd=> ?_⟩
 ·obtain⟨i,hi⟩:=List.mem_iff_getElem?.1 hx;have DW:i<m:=by have:=(af5.1 hi).1;rwa [pY]at this
  rw[Ig k m ds i DW]at hi;cases hi
  have:=hb i DW;rw[Nat.add_mul]at this;simp;omega
 ·have DW:i<m:=by have:=(af5.1 hx).1;rwa [pY]at this
  rw[Ig k m ds i DW]at hx;cases hx
  rw[List.getElem?_take]at hd;split at hd
  ·rw[List.getElem?_drop]at hd;have:=(af5.1 hd).1;have aN:i*k+j<us.length:=by omega
   exact⟨us[i*k+j],af9 aN,hr _ _ _ (af9 aN) hd⟩
  ·cases hd
theorem adf{k U e':Nat}{y:AV}{v:agY}{C:agU (agU D)→Prop}(hi:bO G w s.h)(hv:aE G w v y)(hk:0<k)(hU:P.underlying U=some (.slice e'))(h:rI s.h k y C):
 ∃ys us,Rd G.S w k ys us∧Src P k U v ys.length us w∧C ys:=by
 unfold rI at h;split at h
 ·rename_i m off len cap k'
  split at h
  ·rename_i cs hm
   split at h
   ·rename_i ds rO
    obtain⟨eV,hC⟩:=bM.1 h;simp only[af7,beq_iff_eq,dA]at eV;obtain⟨⟨rfl,hlen⟩,eZ⟩:=eV;obtain⟨h1,h2⟩:=J3 rO;obtain⟨_,_,vs,T,hh,hl,hr⟩:=hi.dh m _ hm;cases hv with
    |row _ _ _ _ _ ux jN mK=>
     have Vh:ds.length=len*k':=by rw[h1];simp;omega
     have mo:((vs.toList.drop off).take (len*k')).length=len*k':=by simp;omega
     have xt:∀(i:Nat)(u:agY)(c:AV),((vs.toList.drop off).take (len*k'))[i]?=some u→((cs.drop off).take (len*k'))[i]?=some c→aE G w u c:=fun i u c hu hc=>by
      rw[List.getElem?_take]at hu hc;split at hu
      ·rename_i ly
       rw[if_pos ly]at hc;rw[List.getElem?_drop]at hu hc;exact hr _ u c (by rw[←agt];exact hu) hc
      ·cases hu
     have fz:((cs.drop off).take (len*k')).length=len*k':=by simp;omega
     have N5:∀u∈(vs.toList.drop off).take (len*k'),u.oneCell'=true:=fun u hu=>by
      obtain⟨i,hi⟩:=List.mem_iff_getElem?.1 hu;have hX:i<len*k':=by rw[←mo];exact(af5.1 hi).1
      have Ag:=af9 (l:=(cs.drop off).take (len*k')) (i:=i) (by rw[fz];exact hX);exact(xt i u _ hi Ag).iZ (agw.1 eZ _ (agj Ag))
     have uY:=R5 (G:=G) (w:=w) (k:=k') (m:=len) Vh mo N5 (fun i u d hu hd=>by
      have hX:i<len*k':=by rw[←mo];exact(af5.1 hu).1
      have Ag:=af9 (l:=(cs.drop off).take (len*k')) (i:=i) (by rw[fz];exact hX);exact(xt i u _ hu Ag).J0 (h2 i _ d Ag hd))
     refine⟨_,_,uY,?_,hC⟩;rw[pY];refine Src.ofSlice w hU _ len cap _ mo (fun j u hu=> ?_) N5;rw[List.getElem?_take]at hu;split at hu
     ·rw[List.getElem?_drop,agt]at hu;rw[kt,cell_of_row w _ _ vs T (0,0) hh];exact hu
     ·cases hu
   ·exact h.elim
  ·exact h.elim
 ·split at h
  ·rename_i ys ga
   obtain⟨us,h1,h2⟩:=(hv.list ga).src (P:=P) hk h.1 hU;exact⟨ys,us,h1,h2,h.2⟩
  ·exact h.elim
theorem zQ:dq G.S w (.slice none 0 0) (.sl []):=
 .sl none 0 0 0 0 [] (fun _ _=>undef) (fun h=>absurd rfl h) (agh _) (by simp) (fun _ h=>by cases h) (fun i j hi=>by simp at hi) (fun i j x d hx=>by simp at hx)
theorem afp(h:agU an)(x y:an):(h++[x]).set h.length y=h++[y]:=by simp
theorem aa5{T U ty e':Nat}{x y:AV}{u v:agY}{C:AV→agU an→Prop}(hi:bO G w s.h)(hu:aE G w u x)(hv:aE G w v y)(hU:P.underlying U=some (.slice e'))(h:sx P T s.h x y C):
 ∃p w' G' q h',(Builtin.append_ #[T,U] ty #[u,v]).run P w= .ok p w'∧bK G.N G w G' w'∧G.N≤G'.N∧bO G' w' h'∧aE G' w' p q∧C q h':=by
 unfold sx at h;split at h
 ·rename_i e k hT
  obtain⟨eP,fe⟩:=iV hT;split at h
  ·rename_i z dc hz np
   obtain⟨eV,h⟩:=bM.1 h;simp only[af7,beq_iff_eq,dA,agD]at eV;obtain⟨hk,iM⟩:=eV;obtain⟨i,iz,jC,C4⟩:=Kq fe np;have S7:i.zero=some z:=by
    obtain⟨i',h1,h2⟩:=EA hz;rw[iz]at h1;cases h1;exact h2
   obtain⟨ys,us,hr,hs,h2⟩:=adf hi hv hk hU h;clear h;have fresh:∀(xs:agU (agU D)),dq G.S w u (.sl xs)→(∃A,u= .slice A xs.length xs.length)→(∀c∈xs,c.length=k)→xs.length+ys.length≤maxLen→(xs.length+ys.length)*dc≤140737488355328→
    C (.own s.h.length (xs++ys)) (s.h++[.front e k (xs.length+ys.length)])→
    ∃p w' G' q h',(Builtin.append_ #[T,U] ty #[u,v]).run P w= .ok p w'∧bK G.N G w G' w'∧G.N≤G'.N∧bO G' w' h'∧aE G' w' p q∧C q h':=by
    intro xs hp hf ig hm hb hC;obtain⟨a1,a2,a3,a4⟩:=H7 hi hp hf e k;obtain⟨p,w',G',r1,r2,r3,r4,r5⟩:=TH (P:=P) (ty:=ty) a3 eP iz S7 jC C4 iM hk (n:=s.h.length) (xs:=xs) (ys:=ys) (by simp) a4 ig (hr.keep a1.S a1.cell) hs hm hb;rw[afp]at r4;exact⟨p,w',G',_,_,r1,a1.trans (r2.less a2),ago a2 r3,r4,r5,hC⟩
   split at h2
   ·rename_i m xs
    split at h2
    ·rename_i e2 k2 len hm
     obtain⟨eV,rfl,ig,mK,hb,hC⟩:=bM.1 h2;simp only[af7,beq_iff_eq]at eV;obtain⟨rfl,rfl⟩:=eV;obtain⟨p,w',G',r1,r2,r3,r4,r5⟩:=TH (P:=P) (ty:=ty) hi eP iz S7 jC C4 iM hk hm hu ig hr hs mK hb;exact⟨p,w',G',_,_,r1,r2,r3,r4,r5,hC⟩
    ·exact h2.elim
   ·have:=hu.val;subst this;obtain⟨mK,hb,hC⟩:=h2;exact fresh [] zQ ⟨none,rfl⟩ (fun _ h=>by cases h) (by simpa using mK) (by simpa using hb) (by simpa using hC)
   ·rename_i xs
    obtain⟨ig,mK,hb,hC⟩:=h2;cases hu with
    |full _ hp hf=>exact fresh xs hp hf ig mK hb hC
   ·exact h2.elim
  ·exact h.elim
 ·exact h.elim
end
theorem Tp(off:Nat):∀(l:agU agY)(k:Nat)(cs:Array agY),((l.zipIdx k).foldl (fun cs(p:agY×Nat)=>cs.setIfInBounds (off+p.2) p.1) cs).size=cs.size∧
 ∀i,off+k+l.length≤cs.size→((l.zipIdx k).foldl (fun cs(p:agY×Nat)=>cs.setIfInBounds (off+p.2) p.1) cs)[i]?=if off+k≤i∧i<off+k+l.length then l[i-(off+k)]? else cs[i]?
 |[],k,cs=>⟨rfl,fun i _=>by
    have h:¬(off+k≤i∧i<off+k+([]:agU agY).length):=by simp
    rw[if_neg h];rfl⟩
 |u::l,k,cs=>by
  obtain⟨h1,h2⟩:=Tp off l (k+1) (cs.setIfInBounds (off+k) u);simp only[List.zipIdx_cons,List.foldl_cons];refine⟨by rw[h1];simp,fun i hi=> ?_⟩;simp only[af8]at hi ⊢;rw[h2 i (by simp;omega)];by_cases ha:off+(k+1)≤i∧i<off+(k+1)+l.length
  ·rw[if_pos ha,if_pos ⟨by omega,by omega⟩];rw[show i-(off+k)=i-(off+(k+1))+1 by omega,agH]
  ·rw[if_neg ha];by_cases hb:i=off+k
   ·subst hb;rw[if_pos ⟨agh _,by omega⟩,Nat.sub_self,List.getElem?_cons_zero,Array.getElem?_setIfInBounds_self_of_lt (by omega)]
   ·rw[if_neg (by omega),Array.getElem?_setIfInBounds_ne (Ne.symm hb)]
section
variable {P:agX} {G:Gh} {w:agZ}
structure Row(G:Gh)(w:World)(vs:Array Value)(cs:List AV):Prop where
 len:vs.size=cs.length
 rel:∀(i:Nat)(u:Value)(c:AV),vs[i]?=some u→cs[i]?=some c→aE G w u c
 one:∀(i:Nat)(u:Value),vs[i]?=some u→u.oneCell'=true
theorem abu{vs us:Array agY}{cs ys:agU AV}(h:Row G w vs cs)(h':Row G w us ys){off:Nat}(hb:off+ys.length≤cs.length):
 Row G w (us.zipIdx.foldl (fun cs(p:agY×Nat)=>cs.setIfInBounds (off+p.2) p.1) vs) (gq cs off ys):=by
 have e:us.zipIdx.foldl (fun cs(p:agY×Nat)=>cs.setIfInBounds (off+p.2) p.1) vs=(us.toList.zipIdx 0).foldl (fun cs(p:agY×Nat)=>cs.setIfInBounds (off+p.2) p.1) vs:=by
  rw[←Array.foldl_toList,Array.toList_zipIdx]
 obtain⟨h1,h2⟩:=Tp off us.toList 0 vs;rw[←e]at h1 h2;have hl:us.toList.length=ys.length:=by rw[agD,h'.len]
 have hle:off+0+us.toList.length≤vs.size:=by rw[hl,h.len];omega
 have hs:∀i,(gq cs off ys)[i]?=if off+0≤i∧i<off+0+us.toList.length then ys[i-off]? else cs[i]?:=fun i=>by
  unfold gq;rw[agn];by_cases ha:i<off
  ·rw[agf (by simp;omega),List.getElem?_take_of_lt ha,if_neg (by omega)]
  ·rw[agm (by simp;omega)];simp only[List.length_take];rw[Nat.min_eq_left (by omega)];by_cases hb:i-off<ys.length
   ·rw[agf hb,if_pos (by omega)]
   ·rw[agm (by omega),List.getElem?_drop,if_neg (by omega),show off+ys.length+(i-off-ys.length)=i by omega]
 refine⟨by rw[h1,BU _ _ _ hb,h.len],fun i u c hu hc=> ?_,fun i u hu=> ?_⟩
 ·rw[h2 i hle]at hu;rw[hs]at hc;split at hu
  ·rename_i hp
   rw[if_pos hp]at hc;exact h'.rel _ _ _ (by rw[←agt];exact hu) hc
  ·rename_i hp
   rw[if_neg hp]at hc;exact h.rel _ _ _ hu hc
 ·rw[h2 i hle]at hu;split at hu
  ·exact h'.one _ _ (by rw[←agt];exact hu)
  ·exact h.one _ _ hu
theorem aE.Po{u:agY}{x:AV}(h:aE G w u x)(hb:x.iL=true):Row G w u.cells x.cells:=by
 obtain⟨h1,h2⟩:=h.cells hb;refine⟨h1,fun i v c hv hc=>(h2 i v c hv hc).1,fun i v hv=> ?_⟩;have aN:i<x.cells.length:=by rw[←h1];exact(agl.1 hv).1
 exact(h2 i v _ hv (af9 aN)).2
theorem IV(place:Nat→agW (Nat×Nat))(places:agU (Nat×Nat))(hp:∀i pl,places[i]?=some pl→place i=some pl):∀(ps:agU (Nat×AV))(qs:agU (Nat×agY))(cs bV:agU AV)(vs:Array agY),Row G w vs cs→
 qs.length=ps.length→(∀(i:Nat)(p:Nat×AV)(q:Nat×agY),ps[i]?=some p→qs[i]?=some q→q.1=p.1∧aE G w q.2 p.2)→(ps.all fun p=>p.2.iL)=true→mQ places cs ps=some bV→
 ∃ft,Instr.fill place vs qs=some ft∧Row G w ft bV
 |[],[],cs,bV,vs,h,_,_,_,hf=>by
  simp only[mQ,Option.some.injEq]at hf;subst hf;exact⟨vs,rfl,h⟩
 |[],_::_,_,_,_,_,hl,_,_,_=>by simp at hl
 |_::_,[],_,_,_,_,hl,_,_,_=>by simp at hl
 |(j,x)::ps,(j',u)::qs,cs,bV,vs,h,hl,hr,hb,hf=>by
  obtain⟨e1,e2⟩:=hr 0 (j,x) (j',u) rfl rfl;simp only at e1 e2;subst e1;simp only[agQ,af7]at hb;unfold mQ at hf;split at hf
  ·rename_i off k AX
   rw[cond_eq_ite]at hf;split at hf
   ·rename_i hc
    simp only[af7,beq_iff_eq,dA]at hc;have l8:=e2.Po hb.1;obtain⟨ft,h1,h2⟩:=IV place places hp ps qs _ bV _ (abu h l8 (by rw[hc.1];exact hc.2)) (by simpa using hl) (fun i p q hp hq=>hr (i+1) p q (by simpa using hp) (by simpa using hq)) hb.2 hf;refine⟨ft,?_,h2⟩;unfold Instr.fill;rw[hp _ _ AX];have h3:¬(u.cells.size≠k||decide (off+u.cells.size>vs.size))=true:=by
     rw[l8.len,hc.1,h.len];simp;exact hc.2
    simp only[h3];exact h1
   ·cases hf
  ·cases hf
theorem U6{z:Array agY}(h:z.toList.all Value.oneCell'=true):z.all (·.oneCell')=true:=by
 rw[agw]at h;exact Array.all_eq_true_iff_forall_mem.2 fun u hu=>h u (Array.mem_toList_iff.2 hu)
theorem YV(z:agY)(h:z.cells.all (·.oneCell')=true):Row G w z.cells (z.cells.toList.map fun u=> .d (.v u)):=by
 refine⟨by simp,fun i u c hu hc=> ?_,fun i u hu=>Array.all_eq_true_iff_forall_mem.1 h u (Array.mem_of_getElem? hu)⟩;rw[agc,agt,hu]at hc;cases hc
 exact .d (.v u)
theorem Sr:∀(fs:agU Field)(ps:agU (Nat×Nat))(w:agZ),Cz P fs=some ps→(fs.mapM (m:=Sem) fun f=>do pure (f.offset,←sizeOf f.type)).run P w= .ok ps w
 |[],ps,w,h=>by simp [Cz]at h;subst h;simp
 |f::fs,ps,w,h=>by
  unfold Cz at h;simp only[List.mapM_cons,Option.bind_eq_bind,Option.bind_eq_some_iff,Option.map_eq_some_iff,Option.pure_def,Option.some.injEq]at h;obtain⟨p,⟨k,hk,rfl⟩,qs,hq,rfl⟩:=h;have ih:=Sr fs qs w hq;simp only[List.mapM_cons,Sem.run_bind,kJ hk,Sem.run_pure,Result.andThen_ok,ih]
theorem YH{T:Nat}{ps:agU (Nat×AV)}{qs:Array (Nat×agY)}{C:AV→Prop}(hl:qs.toList.length=ps.length)
 (hr:∀(i:Nat)(p:Nat×AV)(q:Nat×agY),ps[i]?=some p→qs.toList[i]?=some q→q.1=p.1∧aE G w q.2 p.2) (h:uG P T ps C):∃u y,(Instr.build T qs).run P w= .ok u w∧aE G w u y∧C y:=by
 unfold uG at h;split at h
 ·rename_i places z E5 hz
  obtain⟨fs,hT,AX⟩:∃fs,P.underlying T=some (.struct fs)∧Cz P fs.toList=some places:=by
   unfold Kb at E5;split at E5
   ·exact⟨_,by assumption,E5⟩
   ·cases E5
  ·split at h
   ·rename_i cs hf
    obtain⟨eV,hC⟩:=bM.1 h;simp only[af7]at eV;obtain⟨hb,eZ⟩:=eV;have eZ:=U6 eZ;have jW:(fs.mapM (m:=Sem) fun f=>do pure (f.offset,←sizeOf f.type)).run P w= .ok places.toArray w:=by
     rw[Array.mapM_eq_mapM_toList];have:=Sr fs.toList places w AX;have e:(Functor.map List.toArray (fs.toList.mapM (m:=Sem) fun f=>do pure (f.offset,←sizeOf f.type)):Sem _)=(fs.toList.mapM (m:=Sem) fun f=>do pure (f.offset,←sizeOf f.type))>>=fun l=>pure l.toArray:=rfl;rw[e,Sem.run_bind,this];rfl
    obtain⟨ft,h1,h2⟩:=IV (fun i=>places.toArray[i]?) places (fun i pl h=>by simpa using h) ps qs.toList _ cs z.cells (YV (G:=G) (w:=w) z eZ) hl hr hb hf;refine⟨.agg ft, .agg cs,?_, .agg ft cs h2.len h2.rel,hC⟩;unfold Instr.build;simp only[Sem.run_bind,DT hz,Result.andThen_ok,run_underlying hT,jW,h1,Sem.run_pure]
   ·exact h.elim
 ·exact h.elim
theorem QR{T:Nat}(h:xY P T=true):P.underlying T=some .bool:=by
 unfold xY at h;split at h
 ·assumption
 ·cases h
theorem E9{T:Nat}{k:IntKind}(h:nC P T=some k):P.underlying T=some (.int k):=by
 unfold nC at h;split at h
 ·cases h;assumption
 ·cases h
theorem PX{t off:Nat}{vs:Array agY}{u:agY}(ha:kE P t=some false)(hu:vs[off]?=some u):(part t vs off).run P w= .ok u w:=by
 unfold part;rw[Sem.run_bind,zc ha w];simp [hu]
theorem WW{t:Nat}{u v:agY}{x y:AV}{b:Bool}(d:Nat)(hu:aE G w u x)(hv:aE G w v y)(h:Ct P t x y=some b):(Op.equalIn (d+1) t u v).run P w= .ok b w:=by
 unfold Ct at h;split at h
 ·have e1:=hu.val;have e2:=hv.val;subst e1;subst e2
  rename_i k a k' b'
  cases hc:uv k k'&&(nC P t).isSome with
  |false=>rw[hc]at h;cases h
  |true=>
   rw[hc]at h;cases h;rw[af7,Is]at hc;obtain⟨rfl,hc⟩:=hc;obtain⟨k2,hk⟩:=Option.isSome_iff_exists.1 hc;exact run_equalIn_int w d t k k2 a b' (E9 hk)
 ·have e1:=hu.val;have e2:=hv.val;subst e1;subst e2;cases hc:gg P t with
  |false=>rw[hc]at h;cases h
  |true=>rw[hc]at h;cases h;rw[←Lg,←Lg];exact run_equalIn_string w d t _ _ (qi hc)
 ·have e1:=hu.val;have e2:=hv.val;subst e1;subst e2;cases hc:xY P t with
  |false=>rw[hc]at h;cases h
  |true=>rw[hc]at h;cases h;exact run_equalIn_bool w d t _ _ (QR hc)
 ·cases h
theorem ae8{t off k:Nat}{vs:Array agY}(ha:kE P t=some true)(hk:fh P t=some k):(part t vs off).run P w= .ok (.agg (vs.extract off (off+k))) w:=by
 unfold part;rw[Sem.run_bind,zc ha w];simp [kJ hk]
theorem QI{us:Array agY}{xs:agU AV}{off k:Nat}(hx:us.size=xs.length)(hb:off+k≤xs.length)(hu:∀(i:Nat)(u:agY)(c:AV),us[i]?=some u→xs[i]?=some c→aE G w u c):
 (us.extract off (off+k)).size=((xs.drop off).take k).length∧∀(i:Nat)(u:agY)(c:AV),(us.extract off (off+k))[i]?=some u→((xs.drop off).take k)[i]?=some c→aE G w u c:=by
 refine⟨by simp;omega,fun i u c h1 h2=> ?_⟩;rw[List.getElem?_take]at h2;split at h2
 ·next hi=>
  rw[List.getElem?_drop]at h2;rw[Array.getElem?_extract]at h1;split at h1
  ·exact hu _ _ _ h1 h2
  ·cases h1
 ·cases h2
theorem Ds{sub:TypeId→agU AV→agU AV→agW Bool}(d:Nat)
 (z7:∀(T:Nat)(us vs:Array agY)(xs ys:agU AV)(b:Bool),us.size=xs.length→vs.size=ys.length→(∀(i:Nat)(u:agY)(c:AV),us[i]?=some u→xs[i]?=some c→aE G w u c)→(∀(i:Nat)(u:agY)(c:AV),vs[i]?=some u→ys[i]?=some c→aE G w u c)→sub T xs ys=some b→(Op.equalIn (d+1) T (.agg us) (.agg vs)).run P w= .ok b w)
 {us vs:Array agY} {xs ys:agU AV} (hx:us.size=xs.length) (hy:vs.size=ys.length)
 (hu:∀(i:Nat)(u:agY)(c:AV),us[i]?=some u→xs[i]?=some c→aE G w u c) (hv:∀(i:Nat)(u:agY)(c:AV),vs[i]?=some u→ys[i]?=some c→aE G w u c):
 ∀(fs:agU Field)(b:Bool),we P sub fs xs ys=some b→(Op.eqFields (d+1) us vs fs).run P w= .ok b w
 |[],b,h=>by cases h;simp [Op.eqFields]
 |f::fs,b,h=>by
  unfold we at h;cases hn:f.name== "_" with
  |true=>rw[hn]at h;cases h
  |false=>
   rw[hn]at h;simp only[cond_false]at h;have cO:f.name≠ "_" :=by simpa using hn
   split at h
   ·next e1=>
    split at h
    ·next x y e2 e3=>
     split at h
     ·next a c e4 e5=>
      cases h
      have l1:f.offset<us.size:=by rw[hx];exact(af5.1 e2).1
      have l2:f.offset<vs.size:=by rw[hy];exact(af5.1 e3).1
      have g1:=ags l1;have g2:=ags l2;simp only[Op.eqFields,if_pos cO,Sem.run_bind,PX (w:=w) e1 g1,PX (w:=w) e1 g2,Result.andThen_ok,WW d (hu _ _ _ g1 e2) (hv _ _ _ g2 e3) e4];cases a with
      |true=>simp only[Bool.not_true,Bool.false_eq_true,if_false,Bool.true_and];exact Ds d z7 hx hy hu hv fs c e5
      |false=>simp
     ·cases h
    ·cases h
   ·next e1=>
    split at h
    ·next k e2=>
     cases lk:b8 (f.offset+k) xs.length&&b8 (f.offset+k) ys.length with
     |false=>rw[lk]at h;cases h
     |true=>
      rw[lk]at h;rw[af7,dA,dA]at lk;simp only[cond_true]at h;split at h
      ·next a c e4 e5=>
       cases h
       obtain⟨p1,p2⟩:=QI hx lk.1 hu;obtain⟨q1,q2⟩:=QI hy lk.2 hv;simp only[Op.eqFields,if_pos cO,Sem.run_bind,ae8 (w:=w) e1 e2,Result.andThen_ok,z7 _ _ _ _ _ a p1 q1 p2 q2 e4];cases a with
       |true=>simp only[Bool.not_true,Bool.false_eq_true,if_false,Bool.true_and];exact Ds d z7 hx hy hu hv fs c e5
       |false=>simp
      ·cases h
    ·cases h
   ·cases h
theorem Qp:∀(n d:Nat)(T:Nat)(us vs:Array agY)(xs ys:agU AV)(b:Bool),us.size=xs.length→vs.size=ys.length→(∀(i:Nat)(u:agY)(c:AV),us[i]?=some u→xs[i]?=some c→aE G w u c)→(∀(i:Nat)(u:agY)(c:AV),vs[i]?=some u→ys[i]?=some c→aE G w u c)→D8 P n T xs ys=some b→(Op.equalIn (d+n+1) T (.agg us) (.agg vs)).run P w= .ok b w
 |0,_,_,_,_,_,_,_,_,_,_,_,h=>by cases h
 |n+1,d,T,us,vs,xs,ys,b,hx,hy,hu,hv,h=>by
  unfold D8 at h;split at h
  ·next fs hT=>
   cases hc:P.stoodInHeld T with
   |true=>rw[hc]at h;cases h
   |false=>
    rw[hc]at h;have hf:P.fieldsOf T=fs:=by unfold Program.fieldsOf;rw[hT]
    rw[show d+(n+1)+1=(d+n+1)+1 by omega,run_equalIn_struct w (d+n+1) T us vs (by rw[hf];exact hT) hc,hf];exact Ds (d+n) (fun T' Ka ft G9 IG b'=>Qp n d T' Ka ft G9 IG b') hx hy hu hv _ b h
  ·cases h
theorem acd{T:Nat}{us vs:Array agY}{xs ys:agU AV}{b:Bool}(hx:us.size=xs.length)(hy:vs.size=ys.length)
 (hu:∀(i:Nat)(u:agY)(c:AV),us[i]?=some u→xs[i]?=some c→aE G w u c) (hv:∀(i:Nat)(u:agY)(c:AV),vs[i]?=some u→ys[i]?=some c→aE G w u c) (h:Dz P T xs ys=some b):
 P.eqGuardType P.depth T=false∧(Op.equalIn 10000 T (.agg us) (.agg vs)).run P w= .ok b w:=by
 unfold Dz at h;split at h
 ·next fs hT=>
  cases hc:P.stoodInHeld T||P.eqGuardType P.depth T with
  |true=>rw[hc]at h;cases h
  |false=>
   rw[hc]at h;rw[agT]at hc;refine⟨hc.2,?_⟩;have hf:P.fieldsOf T=fs:=by unfold Program.fieldsOf;rw[hT]
   rw[run_equalIn_struct w 9999 T us vs (by rw[hf];exact hT) hc.1,hf];exact Ds 9998 (fun T' Ka ft G9 IG b'=>Qp 4 9994 T' Ka ft G9 IG b') hx hy hu hv _ b h
 ·cases h
theorem Yt{op:BinOp}{x y:AV}{u v:agY}{T:Nat}{X Y:Operand}{C:AV→Prop}(hu:aE G w u x)(hv:aE G w v y)(h:uA P T op x y C):
 ∃r z,(do eqGuard op T X Y u v;binOp op T u v:Sem agY).run P w= .ok r w∧aE G w r z∧C z:=by
 unfold uA at h;split at h
 ·rename_i k a k' b
  have e1:=hu.val;have e2:=hv.val;subst e1;subst e2;have hg:(eqGuard op T X Y (.int k a) (.int k' b)).run P w= .ok () w:=by unfold eqGuard;cases op<;>simp
  rw[Sem.run_bind,hg];simp only[Result.andThen_ok];split at h
  ·rename_i z hq
   obtain⟨nR,hp,hC⟩:=bM.1 h;rw[Is]at nR;subst nR;refine⟨z,_,?_, .d (.v z),hC⟩;cases op<;>simp [KL]at hq<;>subst hq<;>simp [binOp,Op.intDiv,hp]
  ·split at h
   ·rename_i z hq
    refine⟨z,_,?_, .d (.v z),h.2⟩;have hb:¬b<0:=by omega
    cases op<;>simp [I7]at hq<;>subst hq<;>simp [binOp,Op.shift,hb]
   ·split at h
    ·rename_i z hq
     obtain⟨nR,hC⟩:=bM.1 h;rw[Is]at nR;subst nR;refine⟨z,_,?_, .d (.v z),hC⟩;cases op<;>simp [Hv]at hq<;>subst hq<;>simp [binOp,Op.intArith,Op.intCmp,Op.intBits]
    ·exact h.elim
 ·rename_i a b
  have e1:=hu.val;have e2:=hv.val;subst e1;subst e2;have hg:(eqGuard op T X Y (.string a) (.string b)).run P w= .ok () w:=by unfold eqGuard;cases op<;>simp
  rw[Sem.run_bind,hg];simp only[Result.andThen_ok];split at h
  ·rename_i z hq
   refine⟨z,_,?_, .d (.v z),h⟩;cases op<;>simp [Ku]at hq<;>subst hq<;>simp [binOp,Op.stringOp,Lg]
  ·split at h
   ·refine⟨_,_,?_, .d (.v _),h.2⟩;have hm:¬(((a.size+b.size:Nat):Int)>IntKind.i64.max):=by
     have:=h.1;unfold maxLen at this;have e:IntKind.i64.max=9223372036854775807:=by decide
     rw[e];omega
    simp only[binOp,Op.stringOp];rw[if_neg hm];rfl
   ·exact h.elim
 ·rename_i a b
  have e1:=hu.val;have e2:=hv.val;subst e1;subst e2;have hg:(eqGuard op T X Y (.bool a) (.bool b)).run P w= .ok () w:=by unfold eqGuard;cases op<;>simp
  rw[Sem.run_bind,hg];simp only[Result.andThen_ok];split at h
  ·rename_i z hq
   obtain⟨hT,hC⟩:=bM.1 h;have hT:=QR hT;refine⟨z,_,?_, .d (.v z),hC⟩;have hb:=run_equalIn_bool (P:=P) w 9999 T a b hT;cases op<;>simp [Lh]at hq<;>subst hq<;>simp [binOp,Op.equal,Op.maxDepth,hb]
  ·exact h.elim
 ·rename_i xs ys
  cases hu with
  |agg us _ zZ oW=>
   cases hv with
   |agg vs _ yr Cy=>
    split at h
    ·next b hb=>
     obtain⟨hg,he⟩:=acd zZ yr oW Cy hb;rw[Sem.run_bind,run_eqGuard_agg w op T X Y us vs hg];simp only[Result.andThen_ok];split at h
     ·next z hz=>
      refine⟨z,_,?_, .d (.v z),h⟩;cases op<;>simp [uX]at hz<;>subst hz
      ·rw[run_eql_struct,he];rfl
      ·rw[run_neq_struct,he];rfl
     ·exact h.elim
    ·exact h.elim
 ·exact h.elim
theorem Zu{op:UnOp}{x:AV}{u:agY}{C:AV→Prop}(hu:aE G w u x)(h:uO op x C):∃r z,(Op.unary op u).run P w= .ok r w∧aE G w r z∧C z:=by
 unfold uO at h;split at h
 ·rename_i v
  have e:=hu.val;subst e;split at h
  ·rename_i z hq
   refine⟨z,_,?_, .d (.v z),h⟩;unfold CV at hq;split at hq
   ·cases hq;simp [Op.unary]
   ·cases hq;simp [Op.unary,Op.intArith]
   ·cases hq;simp [Op.unary,Op.intBits]
   ·cases hq
  ·exact h.elim
 ·exact h.elim
theorem aeU{T:Nat}(h:B3 P T=true):P.underlying T=some (.int .u8):=by
 unfold B3 at h;split at h
 ·assumption
 ·cases h
theorem aae{a b:Nat}{x:AV}{u:agY}{C:AV→Prop}(hu:aE G w u x)(h:uo P a b x C):∃r z,(convert a b u).run P w= .ok r w∧aE G w r z∧C z:=by
 unfold uo at h;split at h
 ·rename_i k2 m
  have e:=hu.val;subst e;split at h
  ·rename_i k1 k h1 h2
   refine⟨_,_,?_, .d (.v _),h⟩;simp [convert,run_underlying (E9 h1),run_underlying (E9 h2),Conv.intToInt]
  ·exact h.elim
 ·rename_i s
  have e:=hu.val;subst e;obtain⟨eV,hC⟩:=bM.1 h;rw[af7]at eV;refine⟨_,_,?_, .d (.v _),hC⟩;simp [convert,run_underlying (qi eV.1),run_underlying (qi eV.2)]
 ·split at h
  ·rename_i xs e k kp hT
   obtain⟨eV,ns,rfl,hC⟩:=bM.1 h;rw[af7]at eV;refine⟨_,_,?_, .d (.v _),hC⟩;obtain⟨A,bb,o,cc,k',us,rfl,hA,jN,oH,iX,hS,j6⟩:=(hu.list kp).m8;rw[run_convert_bytes_string w a b e A _ cc (iV hT).1 (aeU eV.1) (qi eV.2)];simp only[aga]at hA jN hS ⊢;cases ns with
   |nil=>
    cases A with
    |none=>rfl
    |some ad=>
     have hl:=run_loadCells_list (P:=P) w ad (([]:agU Int).map (Value.int .u8)) (fun j v hj=>by simp at hj);simp only[List.map_nil,agi]at hl;have:=run_bytesToString (P:=P) w ad 0 cc [] (by simpa using hl);exact this
   |cons n0 ns=>
    have rf:=hA (by simp);subst rf;have qz:k'=1:=(iX [.v (.int .u8 n0)] (by simp)).symm;subst qz;have hl:=run_loadCells_list (P:=P) w ⟨bb,o,none⟩ ((n0::ns).map (Value.int .u8)) (fun j v hj=>by
     have aN:=(af5.1 hj).1;rw[aga]at aN;have h1:=(hS j 0 aN (by omega)).2.1;rw[agc,af9 aN]at hj;cases hj
     have h2:=j6 j 0 [.v (.int .u8 ((n0::ns)[j]))] (.v (.int .u8 ((n0::ns)[j]))) (by rw[agc,af9 aN];rfl) rfl;have h3:us j 0= .int .u8 ((n0::ns)[j]):=by
      generalize us j 0=q at h2;cases h2;rfl
     rw[kt];rw[h3]at h1
     simpa using h1)
    rw[aga]at hl;rw[run_bytesToString w _ _ cc _ hl];have key:∀(l:agU Int)(r:agV),l.foldl (fun r n=>r.push (UInt8.ofNat n.toNat)) r=⟨r.data++(l.map fun n=>UInt8.ofNat n.toNat).toArray⟩:=by
      intro l
      induction l with
      |nil=>intro r;simp
      |cons x l ih=>intro r;rw[List.foldl_cons,ih];simp [ByteArray.push]
    rw[key];have BF:ByteArray.empty.data= #[]:=rfl;rw[BF];simp
  ·exact h.elim
theorem K9{T f off k:Nat}{g:Bool}(h:pE P T f=some (off,k,g)):∃fs fd,P.underlying T=some (.struct fs)∧fs[f]?=some fd∧fh P fd.type=some k∧0<k∧kE P fd.type=some g∧fd.offset=off:=by
 unfold pE at h;split at h
 ·rename_i fs hT
  split at h
  ·rename_i fd hf
   split at h
   ·rename_i k' g' h1 h2
    cases h
    exact⟨fs,fd,hT,hf,h1,Nat.succ_pos _,h2,rfl⟩
   ·cases h
  ·cases h
 ·cases h
theorem IX{T f off k o b:Nat}{g:Bool}(h:pE P T f=some (off,k,g)):(Instr.fieldAt T (.pointer (some ⟨b,o,none⟩)) f).run P w= .ok (.pointer (some ⟨b,o+off,none⟩)) w:=by
 obtain⟨fs,fd,h1,h2,h3,h4,h5,rfl⟩:=K9 h;simp [Instr.fieldAt,run_underlying h1,h2,Instr.sureAddr,fieldPlace,kJ h3,Nat.ne_of_gt h4,kt]
theorem VQ{T f:Nat}{x:AV}{u:agY}{C:AV→Prop}(hu:aE G w u x)(h:tt P T x f C):∃r z,(Instr.field T u f).run P w= .ok r w∧aE G w r z∧C z:=by
 unfold tt at h;split at h
 ·rename_i off k cs hT
  obtain⟨hl,hC⟩:=bM.1 h;rw[dA]at hl;obtain⟨fs,fd,h1,h2,h3,h4,h5,rfl⟩:=K9 hT;cases hu with
  |agg vs _ hlen hr=>
   refine⟨.agg (vs.extract fd.offset (fd.offset+k)),_,?_, .agg _ _ ?_ fun i u c hu hc=> ?_,hC⟩
   ·simp [Instr.field,run_underlying h1,h2,asAgg,part,zc h5,kJ h3]
   ·simp;omega
   ·rw[Array.getElem?_extract]at hu;rw[List.getElem?_take]at hc;split at hc
    ·rw[List.getElem?_drop]at hc;split at hu
     ·exact hr _ u c hu hc
     ·cases hu
    ·cases hc
 ·rename_i off k cs hT
  obtain⟨fs,fd,h1,h2,h3,h4,h5,rfl⟩:=K9 hT;split at h
  ·rename_i c hc
   cases hu with
   |agg vs _ hlen hr=>
    have aN:fd.offset<vs.size:=by rw[hlen];exact(af5.1 hc).1
    refine⟨vs[fd.offset],c,?_,hr _ _ c (ags aN) hc,h⟩;simp [Instr.field,run_underlying h1,h2,asAgg,part,zc h5,ags aN]
  ·exact h.elim
 ·exact h.elim
end
def Gh.mL(G:Gh)(b m:Nat):Gh:={G with S:=fun c o=>G.S c o∨(c=b∧o<m)}
theorem Qg{G:Gh}{w:agZ}{h:agU an}(hi:bO G w h)(ob:Obj)(m:Nat):bK G.N G w (G.mL w.heap.size m) (w.alloc ob)∧bO (G.mL w.heap.size m) (w.alloc ob) h:=by
 have hE:bK G.N G w (G.mL w.heap.size m) (w.alloc ob):=
  ⟨by simp,fun _ _ h=> .inl h,fun b _ h=>World.cell?_alloc_lt _ _ _ (hi.S _ _ h),fun _ _=>rfl,fun _ _=> .inl ⟨rfl,rfl⟩,fM rfl,fun b hb=>Below.heap_alloc w ob b (hi.z b hb),rfl,rfl,rfl,fun b o hs=>hs.imp id fun⟨e,_⟩ hz=>agK _ (hi.z _ (e▸hz))⟩
 refine⟨hE,hi.len,fun b hb=>agu (hi.z b hb) hE.size,fun b o hs=> ?_,fun n B hB=> ?_,fun m n b h1 h2=>hi.inj m n b h1 h2,hi.gl.keep hE⟩
 ·rcases hs with hs|⟨rfl,_⟩
  ·exact agu (hi.S b o hs) hE.size
  ·simp
 ·refine dY.keep (hi.lt hB) hE (agh _) ⟨rfl,rfl,rfl⟩ (fun b hb=> ?_) (hi.dh n B hB);have aN:=hi.iC (n:=n) (b:=b) ((dC hB).trans hb);refine⟨Below.heap_alloc w _ _ aN,fun o jK hs=> ?_⟩;rcases hs with hs|⟨e,_⟩
  ·exact jK hs
  ·omega
theorem R0(k:Nat):∀(n o i:Nat)(pl:Nat×Nat),(sk k o n)[i]?=some pl→pl=(o+i*k,k)
 |0,_,_,_,h=>by simp [sk]at h
 |n+1,o,0,pl,h=>by simp [sk]at h;rw[←h];simp
 |n+1,o,i+1,pl,h=>by
  have:=R0 k n (o+k) i pl (by simpa [sk]using h);rw[this,Nat.add_mul];simp;omega
theorem NW(l:agU AV):∀n,(pG n l).length=n*l.length
 |0=>by simp [pG]
 |n+1=>by rw[pG,af6,NW l n,Nat.add_mul];omega
theorem TO(l:agU AV):∀(n i:Nat),i<n*l.length→(pG n l)[i]?=l[i%l.length]?
 |0,i,h=>by omega
 |n+1,i,h=>by
  rw[pG];by_cases hi:i<l.length
  ·rw[agf hi,Nat.mod_eq_of_lt hi]
  ·rw[agm (by omega),TO l n _ (by rw[Nat.add_mul]at h;omega),←Nat.mod_eq_sub_mod (by omega)]
theorem aei(z:agY){k:Nat}(hz:z.cells.size=k)(n:Nat):pG n (z.cells.toList.map fun u=> .d (.v u))=(List.range (n*k)).map fun i=> .d (.v (z.cells[i%z.cells.size]!)):=by
 have hl:(z.cells.toList.map fun u=>AV.d (.v u)).length=k:=by simp [hz]
 refine List.ext_getElem? fun i=> ?_;by_cases hi:i<n*k
 ·rw[TO _ _ _ (by rw[hl];exact hi),agc,agc,List.getElem?_range hi,hl,hz,agt];have hk:0<k:=Nat.pos_of_ne_zero fun e=>by subst e;simp at hi
  have aN:i%k<z.cells.size:=by rw[hz];exact Nat.mod_lt _ hk
  rw[ags aN];simp only[Option.map_some];rw[getElem!_pos z.cells (i%k) aN]
 ·rw[agC (by rw[NW,hl];omega),agC (by simp;omega)]
theorem Th:∀{ps:agU (Nat×AV)}{places:agU (Nat×Nat)}{cs bV:agU AV},mQ places cs ps=some bV→bV.length=cs.length
 |[],_,_,_,h=>by simp only[mQ,Option.some.injEq]at h;rw[h]
 |(i,x)::ps,places,cs,bV,h=>by
  unfold mQ at h;split at h
  ·rw[cond_eq_ite]at h;split at h
   ·rename_i hc
    simp only[af7,beq_iff_eq,dA]at hc;rw[Th h,BU _ _ _ (by rw[hc.1];exact hc.2)]
   ·cases h
  ·cases h
section
variable {P:agX} {r:agW Nat} {n N0:Nat} {G:Gh} {w:agZ} {a:Act} {s:St} {o:Oper} {K:St→Prop} {Q:Exit→Act→agZ→Prop}
theorem aby{T len:Nat}{h:agU an}{ps:agU (Nat×AV)}{qs:Array (Nat×agY)}{C:AV→Prop}(hi:bO G w h)(hl:qs.toList.length=ps.length)
 (hr:∀(i:Nat)(p:Nat×AV)(q:Nat×agY),ps[i]?=some p→qs.toList[i]?=some q→q.1=p.1∧aE G w q.2 p.2) (hC:uI P T len ps C):
 ∃u w' G' y,(Instr.buildSlice T len qs).run P w= .ok u w'∧bK G.N G w G' w'∧G.N≤G'.N∧bO G' w' h∧aE G' w' u y∧C y:=by
 unfold uI at hC;split at hC
 ·rename_i e k hT
  obtain⟨eP,fe⟩:=iV hT;split at hC
  ·rename_i z hz
   split at hC
   ·rename_i cs hf
    split at hC
    ·rename_i ds rO
     obtain⟨eV,hC⟩:=bM.1 hC;simp only[af7,beq_iff_eq,dA,agD]at eV;obtain⟨⟨⟨⟨hk,hsm⟩,iM⟩,eZ⟩,hb⟩:=eV;have eZ:=U6 eZ;rw[aei z iM]at hf;have AX:=R0 k;obtain⟨z0,uS⟩:∃z0:Array agY,z0=if len*k=0 then #[]else z.cells:=⟨_,rfl⟩
     obtain⟨zr,ze⟩:∃zr:Array agY,zr=(Array.range (len*k)).map (z0[·%z0.size]!):=⟨_,rfl⟩;have l8:Row G w zr ((List.range (len*k)).map fun i=> .d (.v (z.cells[i%z.cells.size]!))):=by
      have Ad:∀i,i<len*k→z0[i%z0.size]! =z.cells[i%z.cells.size]! :=fun i hi=>by rw[uS,if_neg (by omega)]
      refine⟨by rw[ze];simp,fun i u c hu hc=> ?_,fun i u hu=> ?_⟩
      ·rw[ze,Array.getElem?_map]at hu;rw[agc]at hc;by_cases hi:i<len*k
       ·rw[List.getElem?_range hi]at hc;rw[Array.getElem?_range,if_pos hi]at hu;simp only[Option.map_some,Option.some.injEq]at hu hc;subst hu;subst hc;rw[Ad i hi];exact .d (.v _)
       ·rw[agC (by simp;omega)]at hc;cases hc
      ·rw[ze,Array.getElem?_map]at hu;by_cases hi:i<len*k
       ·rw[Array.getElem?_range,if_pos hi]at hu;simp only[Option.map_some,Option.some.injEq]at hu;subst hu;rw[Ad i hi];have aN:i%z.cells.size<z.cells.size:=Nat.mod_lt _ (by omega);rw[getElem!_pos z.cells _ aN];exact Array.all_eq_true_iff_forall_mem.1 eZ _ (Array.getElem_mem _)
       ·rw[Array.getElem?_eq_none (by simp;omega)]at hu;cases hu
     obtain⟨ft,h1,h2⟩:=IV (fun i=>some (i*k,k)) (sk k 0 len) (fun i pl h=>by
      have:=AX len 0 i pl h;rw[this];simp) ps qs.toList _ cs zr l8 hl hr hb hf
     obtain⟨d1,d2⟩:=J3 rO;have fz:cs.length=len*k:=by
      have:=Th hf;rw[this];simp
     have sY:ft.size=len*k:=by rw[h2.len,fz]
     obtain⟨i1,i2⟩:=Qg hi (.cells ft e) (len*k);have uY:Rd G.S w k (lR k len ds) ft.toList:=R5 (by rw[d1,fz]) (by rw[agD,sY]) (fun u hu=>by
      obtain⟨j,hj⟩:=List.mem_iff_getElem?.1 hu;exact h2.one j u (by rw[←agt];exact hj)) (fun i u d hu hd=>by
      have aN:i<cs.length:=by rw[←d1];exact(af5.1 hd).1
      exact(h2.rel i u _ (by rw[←agt];exact hu) (af9 aN)).J0 (d2 i _ d (af9 aN) hd))
     have hp:dq (G.mL w.heap.size (len*k)).S (w.alloc (.cells ft e)) (.slice (some ⟨w.heap.size,0,none⟩) len len) (.sl (lR k len ds)):=by
      have:=(uY.keep i1.S i1.cell).zf w.heap.size len (by rw[pY];exact agh _) (by have:=Nat.le_mul_of_pos_right len hk;simp only[maxLen];omega) (fun o ho=> .inr ⟨rfl,by rw[pY]at ho;exact ho⟩) (fun o u hu=>by
       rw[World.cell?_alloc_new];rw[←agt];exact hu)
      rwa [pY]at this
     refine⟨_,_,_,_,?_,i1,agh _,i2, .full _ hp ⟨some ⟨w.heap.size,0,none⟩,by rw[pY]⟩,hC⟩;have jK:¬(len*k>2^24):=by omega
     unfold Instr.buildSlice;simp only[Sem.run_bind,run_underlying eP,Result.andThen_ok,kJ fe,jK,if_false];by_cases h0:len*k=0
     ·rw[if_pos h0]at uS;subst uS;subst ze;simp [h0]at h1;simp [h0,h1,newRow]
     ·rw[if_neg h0]at uS;subst uS;subst ze;simp [h0,DT hz,h1,newRow]
    ·exact hC.elim
   ·exact hC.elim
  ·exact hC.elim
 ·exact hC.elim
end
section
variable {P:agX} {G:Gh} {w:agZ} {h:agU an}
theorem vP(k s:agV)(d:D)(l:agU (agV×D)):kh ((k,d)::l) s=if k=s then some d else kh l s:=by
 have e1:kh ((k,d)::l) s=bif bL k==bL s then some d else kh l s:=rfl;rw[e1];by_cases e:k=s
 ·subst e;rw[if_pos rfl];simp
 ·rw[if_neg e];have:(bL k==bL s)=false:=by rw[beq_eq_false_iff_ne];exact fun he=>e (JE he)
  rw[this];rfl
theorem Fq{T k e:TypeId}(h:ra P T=some (k,e)):P.underlying T=some (.map k e):=by
 unfold ra at h;split at h
 ·next k' e' hT=>cases h;exact hT
 ·cases h
theorem Zq(hi:bO G w h):bK G.N G w (G.dT w.heap.size) (w.alloc (.map #[] 0))∧bO (G.dT w.heap.size) (w.alloc (.map #[] 0)) (h++[.map []])∧aE (G.dT w.heap.size) (w.alloc (.map #[] 0)) (.map (some w.heap.size)) (.mp h.length):=by
 have hE:=za G w hi.z hi.S (.map #[] 0);have hN:G.N≤(G.dT w.heap.size).N:=Nat.le_succ _;have iR:(G.dT w.heap.size).bg h.length=w.heap.size:=by simp [Gh.dT,hi.len]
 have lF:∀n(B:an),n<G.N→B.dU (G.dT w.heap.size) n=B.dU G n:=fun n B hn=>by
  cases B<;>simp [an.dU,Gh.dT,Nat.ne_of_lt hn]
 have fu:∀n,n<G.N→bR (h++[.map []]) (G.dT w.heap.size) n=bR h G n:=fun n hn=>by
  have aN:n<h.length:=by rw[hi.len];exact hn
  unfold bR;rw[agf aN,af9 aN];exact lF n _ hn
 have Ai:bR (h++[.map []]) (G.dT w.heap.size) h.length=some w.heap.size:=by
  rw[dC (B:= .map []) (by simp)];exact congrArg some iR
 refine⟨hE,⟨by simp [Gh.dT,hi.len],fun b hb=>agu (hi.z b hb) hE.size,fun b o hs=>agu (hi.S b o hs) hE.size,fun n B hB=> ?_,fun m n b hm hn=> ?_,hi.gl.keep hE⟩,?_⟩
 ·by_cases hn:n<h.length
  ·rw[agf hn]at hB;have eD:n<G.N:=hi.len▸hn;exact dY.keep eD hE hN ⟨rfl,rfl,rfl⟩ (fun b hb=>⟨Below.heap_alloc w _ _ (hi.iC (n:=n) ((dC hB).trans hb)),fun o h=>h⟩) (hi.dh n B hB)
  ·have lG:n=h.length:=by
    have:=(af5.1 hB).1;simp at this;omega
   subst lG;simp at hB;subst hB;exact⟨by rw[iR];exact fun hz=>agK _ (hi.z _ hz),fun o hs=>by rw[iR]at hs;exact agK _ (hi.S _ _ hs), #[],0,by rw[iR];exact World.alloc_heap_new w _,
    ⟨by simp,MapKept.stamped_empty 0,fun e he=>(by simp at he),fun s d hs=>(by cases hs),by simp,fun i e he=>(by simp at he),rfl⟩⟩
 ·have key:∀n b,bR (h++[.map []]) (G.dT w.heap.size) n=some b→(n<G.N∧bR h G n=some b)∨(n=h.length∧b=w.heap.size):=fun n b hn=>by
   by_cases aN:n<G.N
   ·exact .inl ⟨aN,by rw[←fu n aN];exact hn⟩
   ·by_cases e:n=h.length
    ·subst e;rw[Ai]at hn;cases hn;exact .inr ⟨rfl,rfl⟩
    ·rw[vF (agC (by simp;have:=hi.len;omega))]at hn;cases hn
  rcases key m b hm with⟨_,kd⟩|⟨rfl,rfl⟩<;>rcases key n _ hn with⟨_,eD⟩|⟨rfl,hb⟩
  ·exact hi.inj m n b kd eD
  ·have:=hi.iC kd;omega
  ·have:=hi.iC eD;omega
  ·rfl
 ·have:=aE.mp (G:=G.dT w.heap.size) (w:=w.alloc (.map #[] 0)) h.length (by simp [Gh.dT,hi.len])
  rwa [iR]at this
theorem qn{s:agV}:MapKept.IsKey .string (.string s):=trivial
theorem acE{T k e:TypeId}{z:agY}{n:Nat}{kv:agU (agV×D)}{s:agV}{ok:Bool}(hi:bO G w h)(hT:ra P T=some (k,e))(hz:zeroT P e=some z)(hk:gg P k=true)(hn:h[n]?=some (.map kv)):
 ∃v,(Instr.lookup T (.map (some (G.bg n))) (.string s) ok).run P w= .ok v w∧aE G w v (tn ok z (kh kv s)):=by
 obtain⟨_,_,es,clock,hh,hm⟩:=hi.dh n _ hn;have BP:∀x∈es.toList,MapKept.IsKey .string x.key:=fun x hx=>by
  obtain⟨s',d,h1,_⟩:=hm.vS x hx;rw[h1];exact qn
 have qe:=qi hk;have one:∀(v:agY)(d:D)(b:Bool),dq G.S w v d→aE G w (if ok then .tuple #[v, .bool b]else v) (bif ok then .bU [.d d, .d (.v (.bool b))]else .d d):=fun v d b hp=>by
  cases ok with
  |false=>exact .d hp
  |true=>
   refine .bU #[v, .bool b] _ rfl fun i u c hu hc=> ?_
   match i with
   |0=>simp at hu hc;subst hu;subst hc;exact .d hp
   |1=>simp at hu hc;subst hu;subst hc;exact .d (.v _)
   |i+2=>simp at hu
 rcases MapKept.findNow_spec (qn (s:=s)) es.toList 0 BP with⟨h1,h2⟩|⟨j,e0,h1,h2,h3⟩
 ·have KV:kh kv s=none:=by
   cases hq:kh kv s with
   |none=>rfl
   |some d=>
    obtain⟨x,hx,ig⟩:=hm.all s d hq;exact absurd ig (h2 x hx)
  refine⟨if ok then .tuple #[z, .bool false]else z,?_,?_⟩
  ·simp [Instr.lookup,run_underlying (Fq hT),MapKept.run_getObj_map hh,MapKept.run_checkKey qe qn,MapKept.run_findKey qe h1,DT hz,Result.andThen]
  ·rw[KV];have:=one z (.v z) false (.v z);unfold tn;exact this
 ·have hmem:e0∈es.toList:=agj h2;obtain⟨s',d,k1,k2,k3⟩:=hm.vS e0 hmem;rw[h3]at k1;cases k1
  refine⟨if ok then .tuple #[e0.val, .bool true]else e0.val,?_,?_⟩
  ·simp [Instr.lookup,run_underlying (Fq hT),MapKept.run_getObj_map hh,MapKept.run_checkKey qe qn,MapKept.run_findKey qe h1,Result.andThen]
  ·rw[k2];have:=one e0.val d true k3;unfold tn;exact this
theorem adP{T k e:TypeId}{n:Nat}{kv:agU (agV×D)}{s:agV}{v:agY}{d:D}(hi:bO G w h)(hT:ra P T=some (k,e))(hk:gg P k=true)(hn:h[n]?=some (.map kv))(hv:dq G.S w v d)(hlen:kv.length<maxLen):
 ∃w',(Instr.mapUpdate T (.map (some (G.bg n))) (.string s) v).run P w= .ok () w'∧bK G.N G w G w'∧bO G w' (h.set n (.map ((s,d)::kv))):=by
 obtain⟨hZ,hS,es,clock,hh,hm⟩:=hi.dh n _ hn;have BP:∀x∈es.toList,MapKept.IsKey .string x.key:=fun x hx=>by
  obtain⟨s',d,h1,_⟩:=hm.vS x hx;rw[h1];exact qn
 have qe:=qi hk;have fin:∀(u3:Array MapEntry)(Bn:Nat)(w':agZ),w'=ChangeMaps.setBlock w (G.bg n) (.map u3 Bn)→ui G.S w u3 Bn ((s,d)::kv)→bK G.N G w G w'∧bO G w' (h.set n (.map ((s,d)::kv))):=by
  intro u3 Bn w' eB kd;have gS:∀b,b≠G.bg n→w'.heap[b]?=w.heap[b]?:=fun b hb=>by rw[eB];exact ChangeMaps.heap_setBlock_other hh _ hb
  have wW:w'.heap[G.bg n]?=some (.map u3 Bn):=by rw[eB];exact ChangeMaps.heap_setBlock_same hh _
  have fZ:w'.heap.size=w.heap.size:=by rw[eB];simp [ChangeMaps.setBlock]
  have fg:∀b o,G.S b o→w'.cell? ⟨b,o,none⟩=w.cell? ⟨b,o,none⟩:=fun b o hs=>World.cell?_of_block (gS b (fun e=>hS o (e▸hs)));have hE:bK G.N G w G w':=⟨by rw[fZ];exact agh _,fun _ _ h=>h,fg,fun _ _=>rfl,fun _ _=> .inl ⟨rfl,rfl⟩,fM rfl,fun b hb=>gS b (fun e=>hZ (e▸hb)),by rw[eB];rfl,by rw[eB];rfl,by rw[eB];rfl,fun _ _ h=> .inl h⟩;refine⟨hE,?_⟩;have kQ:bR h G n=some (G.bg n):=dC hn;have kx:(h.set n (.map ((s,d)::kv)))[n]?=some (.map ((s,d)::kv)):=by rw[agz (af5.1 hn).1]
  have eN:∀m,m≠n→(h.set n (.map ((s,d)::kv)))[m]?=h[m]?:=fun m hm=>by rw[agE (Ne.symm hm)]
  have dL:∀m,bR (h.set n (.map ((s,d)::kv))) G m=bR h G m:=fun m=>by
   by_cases e:m=n
   ·subst e;rw[dC kx,dC hn];rfl
   ·unfold bR;rw[eN m e]
  refine⟨by rw[List.length_set];exact hi.len,fun b hb=>agu (hi.z b hb) hE.size,fun b o hs=>agu (hi.S b o hs) hE.size,fun m B hB=> ?_,fun m m' b h1 h2=>hi.inj m m' b (by rw[←dL];exact h1) (by rw[←dL];exact h2),hi.gl.keep hE⟩;by_cases e:m=n
  ·subst e;rw[kx]at hB;cases hB
   exact⟨hZ,hS,u3,Bn,wW,kd.keep (fun _ _ h=>h) fg⟩
  ·rw[eN m e]at hB;have cO:∀b,bR h G m=some b→b≠G.bg n:=fun b hb eb=>e (hi.inj m n b hb (by rw[eb];exact kQ));exact dY.keep (hi.lt hB) hE (agh _) ⟨rfl,rfl,rfl⟩ (fun b hb=>⟨gS b (cO _ ((dC hB).trans hb)),fun o h=>h⟩) (hi.dh m B hB)
 rcases MapKept.findNow_spec (qn (s:=s)) es.toList 0 BP with⟨h1,h2⟩|⟨j,e0,h1,h2,h3⟩
 ·have kd:ui G.S w (es.push ⟨.string s,v,clock⟩) (clock+1) ((s,d)::kv):=by
   refine⟨by have:=hm.len;simp;omega,MapKept.stamped_push hm.stamped h2,fun x hx=> ?_,fun s' d' cy=> ?_,by have:=hm.len;simp;omega,fun i e he=> ?_,by rw[hm.C0];simp⟩
   ·simp only[Array.toList_push,agI,List.mem_singleton]at hx;rcases hx with hx|rfl
    ·obtain⟨s',d',k1,k2,k3⟩:=hm.vS x hx;refine⟨s',d',k1,?_,k3⟩;rw[vP,if_neg (fun e=>h2 x hx (by rw[k1,e]))];exact k2
    ·exact⟨s,d,rfl,by rw[vP,if_pos rfl],hv⟩
   ·rw[vP]at cy;simp only[Array.toList_push,agI,List.mem_singleton];split at cy
    ·next e=>subst e;exact⟨_, .inr rfl,rfl⟩
    ·obtain⟨x,hx,hk⟩:=hm.all s' d' cy;exact⟨x, .inl hx,hk⟩
   ·rw[Array.getElem?_push]at he;split at he
    ·next ei=>cases he;rw[ei];exact hm.C0
    ·exact hm.born i e he
  obtain⟨f1,f2⟩:=fin _ _ _ rfl kd;refine⟨_,?_,f1,f2⟩;simp [Instr.mapUpdate,run_underlying (Fq hT),MapKept.run_getObj_map hh,MapKept.run_checkKey qe qn,MapKept.run_findKey qe h1,MapKept.run_setObj_map _ hh,Result.andThen,ChangeMaps.setBlock]
 ·have hj:es[j]?=some e0:=by simpa using h2
  have oX:j<es.toList.length:=(af5.1 h2).1;have aef:∀e',es[j]?=some e'→({e' with key:= .string s,val:=v}:MapEntry).key=e'.key:=fun e' CR=>by rw[hj]at CR;cases CR;exact h3.symm
  have FW:(es.modify j (fun e'=>{e' with key:= .string s,val:=v})).toList=es.toList.set j {e0 with key:= .string s,val:=v}:=by
   rw[Array.toList_modify];exact ChangeMaps.modify_eq_set _ _ _ _ h2
  have jw:(es.toList.map (·.key)).Nodup:=hm.stamped.2.2;have kd:ui G.S w (es.modify j (fun e'=>{e' with key:= .string s,val:=v})) clock ((s,d)::kv):=by
   refine⟨by simpa using hm.size,MapKept.stamped_modify hm.stamped _ _ (fun _ _=>rfl) (fun e' _ CR=>aef e' CR),fun x hx=> ?_,fun s' d' cy=> ?_,by have:=hm.len;simp;omega,fun i e he=> ?_,by rw[hm.C0];simp⟩
   ·rw[FW]at hx;obtain⟨i,dw,ex⟩:=List.getElem_of_mem hx;rw[List.getElem_set]at ex;split at ex
    ·rw[←ex];exact⟨s,d,rfl,by rw[vP,if_pos rfl],hv⟩
    ·next cO=>
     have jC:i<es.toList.length:=by simpa using dw
     have jJ:x∈es.toList:=by rw[←ex];exact List.getElem_mem jC
     obtain⟨s',d',k1,k2,k3⟩:=hm.vS x jJ;refine⟨s',d',k1,?_,k3⟩;rw[vP,if_neg ?_]
     ·exact k2
     ·intro u3;have a1:(es.toList.map (·.key))[i]?=some (.string s):=by rw[agc,af9 jC,ex];simp [k1,u3]
      have a2:(es.toList.map (·.key))[j]?=some (.string s):=by rw[agc,h2];simp [h3]
      have hii:i<(es.toList.map (·.key)).length:=by simpa using jC
      exact cO ((List.getElem?_inj hii jw).1 (a1.trans a2.symm)).symm
   ·rw[FW];rw[vP]at cy;split at cy
    ·next e=>subst e;exact⟨_,List.mem_iff_getElem?.2 ⟨j,agz oX⟩,rfl⟩
    ·next cO=>
     obtain⟨x,hx,hk⟩:=hm.all s' d' cy;obtain⟨i,dw,ex⟩:=List.getElem_of_mem hx;refine⟨x,List.mem_iff_getElem.2 ⟨i,by simpa using dw,?_⟩,hk⟩;rw[List.getElem_set];split
     ·next e=>
      subst e;exfalso;have:es.toList[j]?=some x:=by rw[af9 dw,ex]
      rw[this]at h2;cases h2
      rw[h3]at hk;injection hk with hk;exact cO hk
     ·exact ex
   ·rw[Array.getElem?_modify]at he;split at he
    ·next ei=>
     subst ei;rw[hj]at he;cases he
     exact hm.born _ e0 hj
    ·exact hm.born i e he
  obtain⟨f1,f2⟩:=fin _ _ _ rfl kd;refine⟨_,?_,f1,f2⟩;simp [Instr.mapUpdate,run_underlying (Fq hT),MapKept.run_getObj_map hh,MapKept.run_checkKey qe qn,MapKept.run_findKey qe h1,hj,h3,MapKept.run_keyThatStays qn,MapKept.run_setObj_map _ hh,Result.andThen,ChangeMaps.setBlock]
end
set_option linter.unusedVariables false
set_option linter.unusedSimpArgs false
section
variable {P:agX} {G:Gh} {w:agZ} {h:agU an}
theorem FO{w':agZ}(hi:bO G w h){n:Nat}{B B':an}(hn:h[n]?=some B)(n4:∀G':Gh,B.dU G' n=G'.ow n)(Ji:∀G':Gh,B'.dU G' n=G'.ow n)(S:Nat→Nat→Prop)(v:agY)(len:Nat)(ow:agW Nat)
 (hE:bK G.N G w (G.grow n S v len ow) w') (hg:∀g,ow=some g→(g=w.heap.size∨G.ow n=some g)∧g<w'.heap.size)
 (hS:∀b o,S b o→G.S b o∨ow=some b) (gS:∀b,b<w.heap.size→ow≠some b→w'.heap[b]?=w.heap[b]?)
 (hB:dY (G.grow n S v len ow) w' n B'):bO (G.grow n S v len ow) w' (h.set n B'):=by
 have eN:∀m,m≠n→(h.set n B')[m]?=h[m]?:=fun m hm=>by rw[agE (Ne.symm hm)]
 have kx:(h.set n B')[n]?=some B':=by rw[agz (af5.1 hn).1]
 have lF:∀m(C:an),m≠n→C.dU (G.grow n S v len ow) m=C.dU G m:=fun m C hm=>by
  cases C<;>simp [an.dU,Gh.grow,hm]
 have dL:∀m,m≠n→bR (h.set n B') (G.grow n S v len ow) m=bR h G m:=fun m hm=>by
  unfold bR;rw[eN m hm];cases h[m]? with
  |none=>rfl
  |some C=>exact lF m C hm
 have Af:bR (h.set n B') (G.grow n S v len ow) n=ow:=by rw[dC kx,Ji];simp [Gh.grow]
 have nK:∀m b,m≠n→ow=some b→bR h G m≠some b:=fun m b hm ho hb=>by
  rcases (hg b ho).1 with hg|hg
  ·have:=hi.iC hb;omega
  ·exact hm (hi.inj m n b hb ((dC hn).trans ((n4 G).trans hg)))
 refine⟨by rw[List.length_set];exact hi.len,fun b hb=>agu (hi.z b hb) hE.size,fun b o hs=> ?_,fun m C hm=> ?_,fun m m' b h1 h2=> ?_,hi.gl.keep hE⟩
 ·rcases hS b o hs with hs|hs
  ·exact agu (hi.S b o hs) hE.size
  ·exact(hg b hs).2
 ·by_cases em:m=n
  ·subst em;rw[kx]at hm;cases hm;exact hB
  ·rw[eN m em]at hm;refine dY.keep (hi.lt hm) hE (agh _) ⟨by simp [Gh.grow,em],by simp [Gh.grow,em],by simp [Gh.grow,em]⟩ (fun b hb=> ?_) (hi.dh m C hm);have hr:bR h G m=some b:=(dC hm).trans hb;have cO:ow≠some b:=fun e'=>nK m b em e' hr;refine⟨gS _ (hi.iC hr) cO,fun o jK hs=> ?_⟩;rcases hS _ o hs with hs|hs
   ·exact jK hs
   ·exact cO hs
 ·by_cases e1:m=n<;>by_cases e2:m'=n
  ·rw[e1,e2]
  ·subst e1;rw[dL m' e2]at h2;rw[Af]at h1;exact absurd h2 (nK m' b e2 h1)
  ·subst e2;rw[dL m e1]at h1;rw[Af]at h2;exact absurd h1 (nK m b e1 h2)
  ·rw[dL m e1]at h1;rw[dL m' e2]at h2;exact hi.inj m m' b h1 h2
def Gh.er(G:Gh)(v:agY)(len:Nat)(ow:agW Nat):Gh:=
 {G with N:=G.N+1,sg:=fun n=>if n=G.N then v else G.sg n,fl:=fun n=>if n=G.N then len else G.fl n,ow:=fun n=>if n=G.N then ow else G.ow n}
theorem Il{w':agZ}(hi:bO G w h)(B:an)(n4:∀(G':Gh) n,B.dU G' n=G'.ow n)(v:agY)(len:Nat)(ow:agW Nat)(hw:(∀b,b<w.heap.size→w'.heap[b]?=w.heap[b]?)∧w.heap.size≤w'.heap.size∧w'.os=w.os∧w'.tape=w.tape∧w'.output=w.output)
 (how:∀g,ow=some g→w.heap.size≤g)
 (hB:dY (G.er v len ow) w' G.N B):bK G.N G w (G.er v len ow) w'∧bO (G.er v len ow) w' (h++[B]):=by
 have cO:∀n,n<G.N→n≠G.N:=fun n hn=>Nat.ne_of_lt hn;have hE:bK G.N G w (G.er v len ow) w':=⟨hw.2.1,fun _ _ h=>h,fun b o hs=>World.cell?_of_block (hw.1 b (hi.S b o hs)),fun _ _=>rfl,fun n hn=> .inl ⟨by simp [Gh.er,cO n hn],by simp [Gh.er,cO n hn]⟩,fM rfl,fun b hb=>hw.1 b (hi.z b hb),hw.2.2.1,hw.2.2.2.1,hw.2.2.2.2,fun _ _ h=> .inl h⟩;have hN:G.N≤(G.er v len ow).N:=Nat.le_succ _;have lF:∀n(C:an),n<G.N→C.dU (G.er v len ow) n=C.dU G n:=fun n C hn=>by
  cases C<;>simp [an.dU,Gh.er,Nat.ne_of_lt hn]
 have key:∀n b,bR (h++[B]) (G.er v len ow) n=some b→(n<G.N∧bR h G n=some b)∨(n=G.N∧ow=some b):=fun n b hb=>by
  by_cases hn:n<h.length
  ·unfold bR at hb;rw[agf hn,af9 hn]at hb;exact .inl ⟨hi.len▸hn,by unfold bR;rw[af9 hn,←hb];exact(lF n _ (hi.len▸hn)).symm⟩
  ·by_cases en:n=h.length
   ·subst en;rw[dC (B:=B) (by simp),n4]at hb;exact .inr ⟨hi.len,by simpa [Gh.er,hi.len]using hb⟩
   ·rw[vF (agC (by simp;omega))]at hb;cases hb
 refine⟨hE,by simp [Gh.er,hi.len],fun b hb=>agu (hi.z b hb) hw.2.1,fun b o hs=>agu (hi.S b o hs) hw.2.1,fun n C hC=> ?_,fun m n b h1 h2=> ?_,hi.gl.keep hE⟩
 ·by_cases hn:n<h.length
  ·rw[agf hn]at hC;have eD:n<G.N:=hi.len▸hn;exact dY.keep eD hE hN ⟨by simp [Gh.er,cO n eD],by simp [Gh.er,cO n eD],by simp [Gh.er,cO n eD]⟩ (fun b hb=>⟨hw.1 b (hi.iC ((dC hC).trans hb)),fun o h=>h⟩) (hi.dh n C hC)
  ·have lG:n=h.length:=by
    have:=(af5.1 hC).1;simp at this;omega
   subst lG;simp at hC;subst hC;rw[hi.len];exact hB
 ·rcases key m b h1 with⟨_,a1⟩|⟨rfl,a1⟩<;>rcases key n b h2 with⟨_,b1⟩|⟨rfl,b1⟩
  ·exact hi.inj m n b a1 b1
  ·have:=hi.iC a1;have:=how b b1;omega
  ·have:=hi.iC b1;have:=how b a1;omega
  ·rfl
theorem aE.nJ{n o len L k:Nat}{e:TypeId}{cs:agU (agU AV)}{u:agY}(hi:bO G w h)(hn:h[n]?=some (.vec e k cs))(hL:cs.length=L)(hv:aE G w u (.vec n o len L k)):Tn (G.sg n) u o len L k:=by
 have hb:=(hi.dh n _ hn).1;cases hv with|vec _ _ _ _ _ h1 h2 h3 h4=>exact h4 (by rw[←hL,hb])
theorem aE.Ql{n i j L k:Nat}{e:TypeId}{k':Nat}{cs:agU (agU AV)}{u:agY}(hi:bO G w h)(hn:h[n]?=some (.vec e k' cs))(hL:cs.length=L)(hv:aE G w u (.de n i j L k)):QU (G.sg n) u i j L k:=by
 have hb:=(hi.dh n _ hn).1;cases hv with|de _ _ _ _ _ h1 h2 h3 h4=>exact h4 (by rw[←hL,hb])
theorem tA{n:Nat}{e k:Nat}{cs:agU (agU AV)}(hi:bO G w h)(hn:h[n]?=some (.vec e k cs))(cO:cs≠ []):∃(g cap:Nat)(cur:Array agY),G.ow n=some g∧G.sg n= .slice (some ⟨g,0,none⟩) cs.length cap∧¬G.Z g∧w.heap[g]?=some (.cells cur e (0,0))∧cs.length≤cap∧cap≤maxLen∧cur.size=cap*k∧(∀o,¬G.S g o)∧
        ∀(i j:Nat)(c:agU AV)(x:AV)(u:agY),cs[i]?=some c→c[j]?=some x→cur[i*k+j]?=some u→aE G w u x:=by
 obtain⟨_,_,_,h4|h4⟩:=hi.dh n _ hn
 ·exact absurd h4.2.1 cO
 ·exact h4
theorem tw{n:Nat}{e k:Nat}{cs:agU (agU AV)}(hi:bO G w h)(hn:h[n]?=some (.vec e k cs)):∀c∈cs,c.length=k:=(hi.dh n _ hn).2.2.1
theorem ji{i k L j:Nat}(hi:i<L)(hj:j<k):i*k+j<L*k:=by
 have:(i+1)*k≤L*k:=Nat.mul_le_mul_right k hi;rw[Nat.add_mul]at this;omega
theorem C7{i k j:Nat}(hj:j<k):(i*k+j)/ k=i∧(i*k+j)%k=j:=by
 have hk:0<k:=by omega
 exact⟨by rw[Nat.add_comm,Nat.add_mul_div_right _ _ hk,Nat.div_eq_of_lt hj,agq],by rw[Nat.add_comm,Nat.add_mul_mod_self_right,Nat.mod_eq_of_lt hj]⟩
theorem ad3{i i' j j' k:Nat}(hj:j<k)(iy:j'<k)(e:i*k+j=i'*k+j'):i=i'∧j=j':=by
 have h1:=C7 (i:=i) hj;have h2:=C7 (i:=i') iy;exact⟨by rw[←h1.1,←h2.1,e],by rw[←h1.2,←h2.2,e]⟩
theorem V9{t n i j L k:Nat}{e:TypeId}{cs:agU (agU AV)}{c:agU AV}{x:AV}{v:agY}(hi:bO G w h)(hn:h[n]?=some (.vec e k cs))(hL:cs.length=L)(hc:cs[i]?=some c)(hx:IU P t c j=some x)(hv:aE G w v (.de n i j L k)):
 ∃u,(Instr.loadAt t v).run P w= .ok u w∧aE G w u x:=by
 have hX:i<cs.length:=(af5.1 hc).1;have OF:c.length=k:=tw hi hn c (agj hc);obtain⟨g,cap,cur,r1,r2,r3,r4,r5,r6,r7,r8,r9⟩:=tA hi hn (fun e=>by subst e;simp at hX);obtain⟨_,g',sU,p1,p2⟩:=hv.Ql hi hn hL;rw[r2]at p1;cases p1
 have h1:∀q,q<c.length→w.cell? ⟨g,i*k+q,none⟩=some (cur.getD (i*k+q) undef):=fun q hq=>by
  rw[cell_of_row w g _ cur e (0,0) r4];have:i*k+q<cur.size:=by
    rw[r7];exact agu (ji hX (by omega)) (Nat.mul_le_mul_right k r5)
  simp [Array.getD,this]
 have h2:∀(q:Nat)(y:AV),c[q]?=some y→aE G w (cur.getD (i*k+q) undef) y:=fun q y hq=>by
  have HY:=(af5.1 hq).1;have aN:i*k+q<cur.size:=by
   rw[r7];exact agu (ji hX (by omega)) (Nat.mul_le_mul_right k r5)
  have e1:cur[i*k+q]?=some (cur.getD (i*k+q) undef):=by simp [Array.getD,aN]
  exact r9 i q c y _ hc hq e1
 have key:=UA (P:=P) (G:=G) (w:=w) (t:=t) (C:=(·=x)) g (i*k) c j (fun q=>cur.getD (i*k+q) undef) h1 h2 (by
  unfold IU at hx;revert hx;cases kE P t with
  |none=>intro hx;cases hx
  |some ag=>
   cases fh P t with
   |none=>cases ag<;>(intro hx;cases hx)
   |some kk=>
    cases ag with
    |true=>
     simp only;intro hx;cases hb:b8 (j+kk) c.length with
     |false=>rw[hb]at hx;cases hx
     |true=>rw[hb]at hx;cases hx;exact rfl
    |false=>
     simp only;intro hx;rw[hx])
 obtain⟨u,y,k1,k2,rfl⟩:=key;refine⟨u,?_,k2⟩;rw[p2];simp [Instr.loadAt,Instr.sureAddr,k1]
theorem afc{t b off k:Nat}{T:TypeId}{v:agY}{vs:Array agY}(hh:w.heap[b]?=some (.cells vs T (0,0)))(ht:fh P t=some k)(hk:v.cells.size=k)(eZ:∀u∈v.cells.toList,u.oneCell'=true)(hb:off+k≤vs.size):
 (storeVar t ⟨b,off,none⟩ v).run P w= .ok () (w.setRow b (vs.toList.take off++v.cells.toList++vs.toList.drop (off+v.cells.toList.length)).toArray):=by
 obtain⟨i,iz,jC⟩:=MM ht;have jm:=run_storeCells_at P b off T v.cells.toList 0 vs w hh (by rw[agD,hk];simpa using hb) eZ;simp only[Nat.add_zero]at jm;unfold storeVar;simp only[sizeOf,typeInfo,Sem.run_bind,hk];simp [iz,jC,jm]
theorem P0(vs:Array agY)(us:agU agY)(off q:Nat)(hb:off+us.length≤vs.size):(vs.toList.take off++us++vs.toList.drop (off+us.length)).toArray[q]?=if off≤q∧q<off+us.length then us[q-off]? else vs[q]?:=by
 rw[List.getElem?_toArray,agn];have sY:vs.toList.length=vs.size:=agD;by_cases h1:q<off
 ·rw[agf (by simp;omega),List.getElem?_take_of_lt h1,if_neg (by omega),agt]
 ·rw[agm (by simp;omega)];simp only[List.length_take,sY];rw[Nat.min_eq_left (by omega)];by_cases h2:q<off+us.length
  ·rw[agf (by omega),if_pos (by omega)]
  ·rw[agm (by omega),List.getElem?_drop,if_neg (by omega),show off+us.length+(q-off-us.length)=q by omega,agt]
theorem T4(vs:Array agY)(us:agU agY)(off:Nat)(hb:off+us.length≤vs.size):(vs.toList.take off++us++vs.toList.drop (off+us.length)).toArray.size=vs.size:=by
 simp only[List.size_toArray,af6,List.length_take,List.length_drop,agD];omega
theorem aeY(cs ys:agU AV)(off q:Nat)(hb:off+ys.length≤cs.length):(gq cs off ys)[q]?=if off≤q∧q<off+ys.length then ys[q-off]? else cs[q]?:=by
 unfold gq;rw[agn];by_cases h1:q<off
 ·rw[agf (by simp;omega),List.getElem?_take_of_lt h1,if_neg (by omega)]
 ·rw[agm (by simp;omega)];simp only[List.length_take];rw[Nat.min_eq_left (by omega)];by_cases h2:q<off+ys.length
  ·rw[agf (by omega),if_pos (by omega)]
  ·rw[agm (by omega),List.getElem?_drop,if_neg (by omega),show off+ys.length+(q-off-ys.length)=q by omega]
theorem JV{n e k g cap:Nat}{cs bV:agU (agU AV)}{cur:Array agY}{us:agU agY}{off:Nat}(hi:bO G w h)(hn:h[n]?=some (.vec e k cs))(fR:0<k)(r1:G.ow n=some g)(r2:G.sg n= .slice (some ⟨g,0,none⟩) cs.length cap)(r3:¬G.Z g)(r4:w.heap[g]?=some (.cells cur e (0,0)))(r5:cs.length≤cap)(r6:cap≤maxLen)(r7:cur.size=cap*k)(r8:∀o,¬G.S g o)
 (hb:off+us.length≤cur.size) (hl:bV.length=cs.length) (gm:∀c∈bV,c.length=k)
 (xt:∀(i j:Nat)(c:agU AV)(x:AV)(u:agY),bV[i]?=some c→c[j]?=some x→(if off≤i*k+j∧i*k+j<off+us.length then us[i*k+j-off]? else cur[i*k+j]?)=some u→aE G w u x):
 ∃G',bK G.N G w G' (w.setRow g (cur.toList.take off++us++cur.toList.drop (off+us.length)).toArray)∧G'.N=G.N∧bO G' (w.setRow g (cur.toList.take off++us++cur.toList.drop (off+us.length)).toArray) (h.set n (.vec e k bV))∧(∀m,G'.sg m=G.sg m)∧(∀m,G'.fl m=G.fl m):=by
 obtain⟨w',eB⟩:∃w',w'=w.setRow g (cur.toList.take off++us++cur.toList.drop (off+us.length)).toArray:=⟨_,rfl⟩;rw[←eB];have gS:∀b,b≠g→w'.heap[b]?=w.heap[b]?:=fun b hb=>by rw[eB];exact setRow_other w g b _ hb
 have l8:w'.heap[g]?=some (.cells (cur.toList.take off++us++cur.toList.drop (off+us.length)).toArray e (0,0)):=by rw[eB];exact setRow_heap w g cur _ e _ r4
 have fZ:w'.heap.size=w.heap.size:=by rw[eB];exact GZ w g _
 obtain⟨G',fB⟩:∃G',G'=G.grow n G.S (G.sg n) (G.fl n) (some g):=⟨_,rfl⟩;have KZ:∀m,G'.sg m=G.sg m:=fun m=>by rw[fB];simp only[Gh.grow];split<;>simp_all
 have jW:∀m,G'.fl m=G.fl m:=fun m=>by rw[fB];simp only[Gh.grow];split<;>simp_all
 have hE:bK G.N G w G' w':=⟨by rw[fZ];exact agh _,fun b o h=>by rw[fB];exact h,fun b o hs=>World.cell?_of_block (gS b (fun e=>r8 o (e▸hs))),fun _ _=>by rw[fB];rfl,fun m _=> .inl ⟨jW m,KZ m⟩,fM (by rw[fB];rfl) (by rw[fB];rfl),fun b hb=>gS b (fun e=>r3 (e▸hb)),by rw[eB];rfl,by rw[eB];rfl,by rw[eB];rfl,fun b o hs=> .inl (by rw[fB]at hs;exact hs)⟩;have oO:=hi.dh n _ hn;refine⟨G',hE,by rw[fB];rfl,?_,KZ,jW⟩;subst fB;refine FO hi hn (fun _=>rfl) (fun _=>rfl) _ _ _ _ hE (fun g' pW=> ?_) (fun b o hs=> .inl hs) (fun b _ fG=>gS b (fun e=>fG (by rw[e]))) ?_
 ·cases pW;exact⟨.inr r1,by rw[fZ];exact(agl.1 r4).1⟩
 ·refine⟨by rw[jW,hl];exact oO.1,by rw[hl];exact oO.2.1,gm, .inr ⟨g,cap,_,by simp [Gh.grow],by rw[KZ,hl];exact r2,r3,l8,by rw[hl];exact r5,r6,by rw[T4 _ _ _ hb];exact r7,r8,fun i j c x u hc hx hu=> ?_⟩⟩;rw[P0 _ _ _ _ hb]at hu;exact(xt i j c x u hc hx hu).keep hE (agh _)
theorem aal{t n i j L k:Nat}{e:TypeId}{cs:agU (agU AV)}{c:agU AV}{x:AV}{v u:agY}(hi:bO G w h)(hn:h[n]?=some (.vec e k cs))(hL:cs.length=L)(hc:cs[i]?=some c)(hv:aE G w v (.de n i j L k))(hx:aE G w u x)(Hw:x.iL=true)(ht:fh P t=some x.cells.length)(hj:j+x.cells.length≤k)(fR:0<k):
 ∃w' G',(Instr.storeAt t v u).run P w= .ok () w'∧bK G.N G w G' w'∧G.N≤G'.N∧bO G' w' (h.set n (.vec e k (cs.set i (gq c j x.cells)))):=by
 have hX:i<cs.length:=(af5.1 hc).1;have gm:=tw hi hn;have OF:c.length=k:=gm c (agj hc);obtain⟨g,cap,cur,r1,r2,r3,r4,r5,r6,r7,r8,r9⟩:=tA hi hn (fun e=>by subst e;simp at hX);obtain⟨_,g',sU,p1,p2⟩:=hv.Ql hi hn hL;rw[r2]at p1;cases p1
 obtain⟨c1,c2⟩:=hx.cells Hw;have mo:u.cells.toList.length=x.cells.length:=by rw[agD,c1]
 have eZ:∀y∈u.cells.toList,y.oneCell'=true:=fun y hy=>by
  obtain⟨q,hq⟩:=List.mem_iff_getElem?.1 hy;have HY:u.cells[q]?=some y:=by rw[←agt];exact hq
  have hql:q<x.cells.length:=by rw[←c1];exact(agl.1 HY).1
  exact(c2 q y _ HY (af9 hql)).2
 have jd:i*k+j+x.cells.length≤cur.size:=by
  have h1:(i+1)*k≤cap*k:=Nat.mul_le_mul_right k (agu hX r5);rw[Nat.add_mul]at h1;rw[r7];omega
 have dv:=afc (P:=P) (off:=i*k+j) r4 ht c1 eZ jd;obtain⟨G',e1,e2,e3,_⟩:=JV (us:=u.cells.toList) (off:=i*k+j) (bV:=cs.set i (gq c j x.cells)) hi hn fR r1 r2 r3 r4 r5 r6 r7 r8 (by rw[mo];exact jd) (by rw[List.length_set]) (fun d hd=>by
     obtain⟨q,hq⟩:=List.mem_iff_getElem?.1 hd;by_cases e:i=q
     ·subst e;rw[agz hX]at hq;cases hq
      rw[BU _ _ _ (by omega)];exact OF
     ·rw[agE e]at hq;exact gm d (agj hq)) (fun a b d y z hd hy hz=>by
     have hbk:b<k:=by
      by_cases e:i=a
      ·subst e;rw[agz hX]at hd;cases hd
       have:=(af5.1 hy).1;rw[BU _ _ _ (by omega)]at this;omega
      ·rw[agE e]at hd;rw[←gm d (agj hd)];exact(af5.1 hy).1
     rw[mo]at hz;by_cases e:i=a
     ·subst e;rw[agz hX]at hd;cases hd
      rw[aeY _ _ _ _ (by omega)]at hy;by_cases hb:j≤b∧b<j+x.cells.length
      ·rw[if_pos hb]at hy;rw[if_pos (by omega),show i*k+b-(i*k+j)=b-j by omega,agt]at hz;exact(c2 _ _ _ hz hy).1
      ·rw[if_neg hb]at hy;rw[if_neg (by omega)]at hz;exact r9 i b c y z hc hy hz
     ·rw[agE e]at hd;rw[if_neg ?_]at hz
      ·exact r9 a b d y z hd hy hz
      ·intro hh;have:a*k+b=i*k+(a*k+b-i*k):=by omega
       exact e ((ad3 (i:=a) (i':=i) (j:=b) (j':=a*k+b-i*k) hbk (by omega) this).1.symm))
 refine⟨_,G',?_,e1,by rw[e2];exact agh _,e3⟩;rw[p2];simp [Instr.storeAt,Instr.sureAddr,dv]
end
section
variable {P:agX} {G:Gh} {w:agZ} {h:agU an}
structure wi(G:Gh)(w:World)(k:Nat)(ys:List (List AV))(us:List Value):Prop where
 len:us.length=ys.length*k
 wid:∀c∈ys,c.length=k
 one:∀u∈us,u.oneCell'=true
 rel:∀(i j:Nat)(c:List AV)(x:AV)(u:Value),ys[i]?=some c→c[j]?=some x→us[i*k+j]?=some u→aE G w u x
theorem Lq{k tx e':Nat}{y:AV}{v:agY}{ys:agU (agU AV)}(hi:bO G w h)(hv:aE G w v y)(hs:x7 h k y ys)(fR:0<k)(hT:P.underlying tx=some (.slice e')):
 ∃us,wi G w k ys us∧Src P k tx v ys.length us w:=by
 rcases hs with⟨xs,h1,h2,rfl⟩|⟨n,o,len,L,e,cs,rfl,h2,h3,h4,h5⟩
 ·obtain⟨us,hr,uL⟩:=(hv.list h1).src fR h2 hT;have hl:(aI xs).length=xs.length:=by unfold aI;rw[aga]
  refine⟨us,⟨by rw[hl];exact hr.len,fun c hc=> ?_,hr.one,fun i j c x u hc hx hu=> ?_⟩,by rw[hl];exact uL⟩
  ·unfold aI at hc;obtain⟨d,hd,rfl⟩:=List.mem_map.1 hc;rw[aga];exact h2 d hd
  ·unfold aI at hc;rw[agc]at hc;cases jJ:xs[i]? with
   |none=>rw[jJ]at hc;cases hc
   |some d=>
    rw[jJ]at hc;cases hc
    rw[agc]at hx;cases hy:d[j]? with
    |none=>rw[hy]at hx;cases hx
    |some z=>
     rw[hy]at hx;cases hx
     obtain⟨u',a1,a2⟩:=hr.rel i j d z jJ hy;rw[a1]at hu;cases hu
     exact .d a2
 ·have jx:=hv.nJ hi h2 h3;obtain⟨A,c,rfl,c1,c2,c3,c4⟩:=jx.sl;have pF:ys.length=len:=by rw[h4,List.length_take,List.length_drop,h3];have:=jx.ol;omega
  by_cases h0:len=0
  ·subst h0;have:ys=[]:=List.eq_nil_of_length_eq_zero pF;subst this;refine⟨[],⟨by simp,(fun _ h=>by cases h),(fun _ h=>by cases h),fun i j c x u hc=>by simp at hc⟩,?_⟩;cases A with
   |none=>exact Src.ofNil w hT c
   |some a=>exact Src.ofSlice w hT a 0 c [] (by simp) (fun j u hu=>by simp at hu) (fun u hu=>by cases hu)
  ·have ho:o<L:=by have:=jx.ol;omega
   obtain⟨g,cap,p1,rfl,p3⟩:=c4 ho;have cO:cs≠ []:=fun e=>by subst e;simp at h3;omega
   obtain⟨g',sU,cur,r1,r2,r3,r4,r5,r6,r7,r8,r9⟩:=tA hi h2 cO;rw[r2]at p1;cases p1
   have gm:=tw hi h2;have fg:∀q,q<len*k→o*k+q<cur.size:=fun q hq=>by
    have h1:(o+len)*k≤cap*k:=Nat.mul_le_mul_right k (by have:=jx.ol;omega);rw[Nat.add_mul]at h1;rw[r7];omega
   have ga:∀i,i<len→ys[i]?=cs[o+i]?:=fun i dw=>by rw[h4,List.getElem?_take_of_lt dw,List.getElem?_drop]
   have eZ:∀q,q<len*k→(cur.getD (o*k+q) undef).oneCell'=true:=fun q hq=>by
    have JT:q / k<len:=Nat.div_lt_of_lt_mul (by rw[Nat.mul_comm];exact hq);have XE:q%k<k:=Nat.mod_lt _ fR;obtain⟨d,fm⟩:∃d,cs[o+q / k]?=some d:=⟨_,af9 (by have:=jx.ol;omega)⟩;have BC:=gm _ (agj fm);obtain⟨x,hx⟩:∃x,d[q%k]?=some x:=⟨_,af9 (by rw[BC];exact XE)⟩;have e1:(o+q / k)*k+q%k=o*k+q:=by
     rw[Nat.add_mul];have:=Nat.div_add_mod q k;rw[Nat.mul_comm]at this;omega
    have xw:cur[(o+q / k)*k+q%k]?=some (cur.getD (o*k+q) undef):=by
     rw[e1];simp [Array.getD,fg q hq]
    refine(r9 _ _ _ _ _ fm hx xw).iZ ?_;have hmem:d∈ys:=agj ((ga _ JT).trans fm);have:=h5 _ hmem;rw[agw]at this;exact this _ (agj hx)
   refine⟨(List.range (len*k)).map fun q=>cur.getD (o*k+q) undef,⟨by rw[pF];simp,fun c hc=>gm c ?_,fun u hu=> ?_,fun i j c x u hc hx hu=> ?_⟩,?_⟩
   ·rw[h4]at hc;exact List.mem_of_mem_drop (List.mem_of_mem_take hc)
   ·obtain⟨q,hq,rfl⟩:=List.mem_map.1 hu;exact eZ q (List.mem_range.1 hq)
   ·have hX:i<len:=by rw[←pF];exact(af5.1 hc).1
    rw[ga i hX]at hc;have Fk:j<k:=by rw[←gm c (agj hc)];exact(af5.1 hx).1
    have aN:i*k+j<len*k:=ji hX Fk;rw[agc,List.getElem?_range aN]at hu;simp only[Option.map_some,Option.some.injEq]at hu;refine r9 (o+i) j c x u hc hx ?_;rw[←hu,show(o+i)*k+j=o*k+(i*k+j) by rw[Nat.add_mul];omega];simp [Array.getD,fg _ aN]
   ·rw[pF];refine Src.ofSlice w hT _ len c _ (by simp) (fun j u hu=> ?_) (fun u hu=> ?_)
    ·rw[kt,cell_of_row w g _ cur e (0,0) r4];rw[agc]at hu;by_cases hj:j<len*k
     ·rw[List.getElem?_range hj]at hu;simp only[Option.map_some,Option.some.injEq]at hu;rw[←hu];simp [Array.getD,fg _ hj]
     ·rw[agC (by simp;omega)]at hu;cases hu
    ·obtain⟨q,hq,rfl⟩:=List.mem_map.1 hu;exact eZ q (List.mem_range.1 hq)
theorem wi.keep{G':Gh}{w':agZ}{k:Nat}{ys:agU (agU AV)}{us:agU agY}(h:wi G w k ys us)(hE:bK G.N G w G' w')(hN:G.N≤G'.N):wi G' w' k ys us:=
 ⟨h.len,h.wid,h.one,fun i j c x u h1 h2 h3=>(h.rel i j c x u h1 h2 h3).keep hE hN⟩
theorem W8{α:Type}{k:Nat}(l:agU α)(us:agU α)(m i j:Nat)(hl:l.length=m*k)(hj:j<k):(l++us)[i*k+j]?=if i<m then l[i*k+j]? else us[(i-m)*k+j]?:=by
 by_cases h:i<m
 ·rw[if_pos h,agf (by rw[hl];exact ji h hj)]
 ·have h1:m*k≤i*k:=Nat.mul_le_mul_right k (by omega);rw[if_neg h,agm (by rw[hl];omega),hl,Nat.sub_mul,show i*k+j-m*k=i*k-m*k+j by omega]
theorem Jw{e k cap:Nat}{cs:agU (agU AV)}{cur:Array agY}(hi:bO G w h)(h1:cs.length≤cap)(h2:cap≤maxLen)(h3:cur.size=cap*k)(gm:∀c∈cs,c.length=k)(w0:agZ)(nV:w0.heap=w.heap∧w0.os=w.os∧w0.tape=w.tape∧w0.output=w.output)
 (xt:∀(i j:Nat)(c:agU AV)(x:AV)(u:agY),cs[i]?=some c→c[j]?=some x→cur[i*k+j]?=some u→aE G w u x):
 ∃G',bK G.N G w G' (w0.alloc (.cells cur e))∧G.N≤G'.N∧bO G' (w0.alloc (.cells cur e)) (h++[.vec e k cs])∧∀len,len≤cs.length→aE G' (w0.alloc (.cells cur e)) (.slice (some ⟨w.heap.size,0,none⟩) len cap) (.vec h.length 0 len cs.length k):=by
 have fZ:w0.heap.size=w.heap.size:=by rw[nV.1]
 have fu:(w0.alloc (.cells cur e)).heap[w.heap.size]?=some (.cells cur e (0,0)):=by rw[←fZ];exact World.alloc_heap_new w0 _
 have hold:∀b,b<w.heap.size→(w0.alloc (.cells cur e)).heap[b]?=w.heap[b]?:=fun b hb=>by rw[Below.heap_alloc w0 _ b (by rw[fZ];exact hb),nV.1]
 have hw:(∀b,b<w.heap.size→(w0.alloc (.cells cur e)).heap[b]?=w.heap[b]?)∧w.heap.size≤(w0.alloc (.cells cur e)).heap.size∧(w0.alloc (.cells cur e)).os=w.os∧(w0.alloc (.cells cur e)).tape=w.tape∧(w0.alloc (.cells cur e)).output=w.output:=
  ⟨hold,by simp [fZ],nV.2.1,nV.2.2.1,nV.2.2.2⟩
 obtain⟨sv,kH⟩:∃sv,sv=Value.slice (some ⟨w.heap.size,0,none⟩) cs.length cap:=⟨_,rfl⟩;obtain⟨zu,_⟩:bK G.N G w (G.er sv cs.length (some w.heap.size)) (w0.alloc (.cells cur e))∧True:=by
  refine⟨⟨hw.2.1,fun _ _ h=>h,fun b o hs=>World.cell?_of_block (hw.1 b (hi.S b o hs)),fun _ _=>rfl,fun n hn=> .inl ⟨by simp [Gh.er,Nat.ne_of_lt hn],by simp [Gh.er,Nat.ne_of_lt hn]⟩,fM rfl,fun b hb=>hw.1 b (hi.z b hb),hw.2.2.1,hw.2.2.2.1,hw.2.2.2.2,fun _ _ h=> .inl h⟩,trivial⟩
 obtain⟨hE,hI⟩:=Il (w':=w0.alloc (.cells cur e)) hi (.vec e k cs) (fun _ _=>rfl) sv cs.length (some w.heap.size) hw (fun g hg=>by cases hg;exact agh _) (by
  refine⟨by simp [Gh.er],ago h1 h2,gm, .inr ⟨w.heap.size,cap,cur,by simp [Gh.er],by simp [Gh.er,kH],fun hz=>agK _ (hi.z _ hz),fu,h1,h2,h3,fun o hs=>agK _ (hi.S _ _ hs),fun i j c x u hc hx hu=>(xt i j c x u hc hx hu).keep zu (Nat.le_succ _)⟩⟩)
 refine⟨_,hE,Nat.le_succ _,hI,fun len hlen=> ?_⟩;rw[hi.len];refine .vec G.N 0 len cs.length k (by simp [Gh.er]) ⟨_,_,_,rfl⟩ (by simp [Gh.er]) fun _=>⟨by omega,⟨_,_,rfl,ago hlen h1,h2,h1,fun _=>⟨w.heap.size,cap,by simp [Gh.er,kH],by simp,by simp⟩⟩,fun _ e=>by subst e;simp [Gh.er,kH]⟩
theorem Y3{T e k len m dc:Nat}{i:TypeInfo}{z:agY}{kl kc:IntKind}{l c:Int}(hi:bO G w h)(hT:P.underlying T=some (.slice e))(jL:P.info? e=some i)(hz:i.zero=some z)(ly:i.size=k)(uZ:i.bytes=dc)(iM:z.cells.toList.length=k)(fR:0<k)
 (h0:0≤l) (jN:l≤c) (hl:l.toNat=len) (hc:c.toNat=m) (hm:m≤maxLen) (hb:dc*m≤281474976710656):
 ∃u w' G',(Instr.makeSlice T (.int kl l) (.int kc c)).run P w= .ok u w'∧bK G.N G w G' w'∧G.N≤G'.N∧bO G' w' (h++[.vec e k (List.replicate m (z.cells.toList.map fun u=> .d (.v u)))])∧aE G' w' u (.vec h.length 0 len m k):=by
 subst ly;subst uZ;have fG:(i.bytes:Int)*c≤281474976710656:=by
  have:((i.bytes*m:Nat):Int)≤281474976710656:=by omega
  rw[Int.natCast_mul,←hc,Int.toNat_of_nonneg (by omega)]at this;exact this
 have h63:c≤9223372036854775807:=by have h:=hm;simp [maxLen]at h;omega
 have dv:=run_make (P:=P) w T e i z hT jL hz kl kc l c h0 jN fG h63;rw[hl,hc]at dv;have fz:(List.replicate m (z.cells.toList.map fun u=>AV.d (.v u))).length=m:=agG;obtain⟨G',g1,g2,g3,g4⟩:=Jw (e:=e) (k:=i.size) (cap:=m) (cs:=List.replicate m (z.cells.toList.map fun u=>AV.d (.v u))) (cur:=madeCells z.cells (m*i.size)) hi (by rw[fz];exact agh _) hm (size_madeCells _ _) (fun c hc=>by
  rw[List.eq_of_mem_replicate hc,aga];exact iM) w ⟨rfl,rfl,rfl,rfl⟩ (fun a b c x u hc hx hu=>by
  have:=List.eq_of_mem_replicate (agj hc);subst this;rw[agc]at hx;cases hq:z.cells.toList[b]? with
  |none=>rw[hq]at hx;cases hx
  |some y=>
   rw[hq]at hx;cases hx
   have hbk:b<i.size:=by rw[←iM];exact(af5.1 hq).1
   have IT:a<m:=by have:=(af5.1 hc).1;rwa [fz]at this
   unfold madeCells at hu;have aN:a*i.size+b<m*i.size:=ji IT hbk;rw[Array.getElem?_map,Array.getElem?_range,if_pos aN]at hu;simp only[Option.map_some,Option.some.injEq]at hu;have iK:z.cells.size=i.size:=by rw[←agD];exact iM
   rw[iK,(C7 (i:=a) hbk).2]at hu;have AE:z.cells[b]?=some y:=by rw[←agt];exact hq
   rw[getElem!_pos z.cells b (by rw[iK];exact hbk)]at hu;rw[ags (by rw[iK];exact hbk)]at AE;cases AE
   subst hu;exact .d (.v _))
 rw[fz]at g4;refine⟨_,_,G',dv,g1,g2,g3,g4 len ?_⟩;rw[←hl,←hc];omega
theorem acw{T tx ty e k dc n o len L:Nat}{i:TypeInfo}{z:agY}{u v:agY}{cs ys:agU (agU AV)}{us:agU agY}(hi:bO G w h)(hT:P.underlying T=some (.slice e))(jL:P.info? e=some i)(hz:i.zero=some z)(ly:i.size=k)(uZ:i.bytes=dc)(iM:z.cells.size=k)(fR:0<k)
 (hn:h[n]?=some (.vec e k cs)) (hL:cs.length=L) (hu:aE G w u (.vec n o len L k)) (hr:wi G w k ys us) (hs:Src P k tx v ys.length us w)
 {L':Nat} {bV:agU (agU AV)} (oB:(o+len+ys.length≤L∧L'=L∧bV=cs.take (o+len)++ys++cs.drop (o+len+ys.length))∨(o=0∧len=L∧L'=L+ys.length∧bV=cs++ys∧L'≤maxLen∧L'*dc≤140737488355328)):
 ∃r w' G',(Builtin.append_ #[T,tx] ty #[u,v]).run P w= .ok r w'∧bK G.N G w G' w'∧G.N≤G'.N∧bO G' w' (h.set n (.vec e k bV))∧aE G' w' r (.vec n o (len+ys.length) L' k):=by
 subst ly;subst uZ;have mm:=hi.lt hn;have gm:=tw hi hn;have jx:=hu.nJ hi hn hL;have oO:=hi.dh n _ hn;have afD:=jx;obtain⟨qU,⟨A,c,rfl,c1,c2,c3,c4⟩,call⟩:=jx;by_cases hy:ys.length=0
 ·have ga:ys=[]:=List.eq_nil_of_length_eq_zero hy;subst ga;have j6:us=[]:=List.eq_nil_of_length_eq_zero (by rw[hr.len];simp);subst j6;have dv:=run_append_nothing (P:=P) w T tx ty e i hT jL A len c c1 v hs;have e1:bV=cs:=by
   rcases oB with⟨_,_,e⟩|⟨_,_,_,e,_⟩
   ·rw[e];simp
   ·rw[e];simp
  have e2:L'=L:=by
   rcases oB with⟨_,e,_⟩|⟨_,_,e,_⟩
   ·exact e
   ·rw[e];simp
  subst e1;subst e2;refine⟨_,w,G,dv,bK.refl _ _ _,agh _,?_,by simpa using hu⟩;have:h.set n (.vec e i.size bV)=h:=by
   refine List.ext_getElem? fun m=> ?_;by_cases em:m=n
   ·subst em;rw[agz (af5.1 hn).1,hn]
   ·rw[agE (Ne.symm em)]
  rw[this];exact hi
 ·have Z5:0<ys.length:=Nat.pos_of_ne_zero hy;have room:len+ys.length≤c→∀g cap cur,G.ow n=some g→G.sg n= .slice (some ⟨g,0,none⟩) cs.length cap→¬G.Z g→w.heap[g]?=some (.cells cur e (0,0))→cs.length≤cap→cap≤maxLen→cur.size=cap*i.size→(∀o,¬G.S g o)→
      (∀(a b:Nat)(d:agU AV)(x:AV)(q:agY),cs[a]?=some d→d[b]?=some x→cur[a*i.size+b]?=some q→aE G w q x)→A=some ⟨g,o*i.size,none⟩→o+c=cap→
      ∃r w' G',(Builtin.append_ #[T,tx] ty #[.slice A len c,v]).run P w= .ok r w'∧bK G.N G w G' w'∧G.N≤G'.N∧bO G' w' (h.set n (.vec e i.size bV))∧aE G' w' r (.vec n o (len+ys.length) L' i.size):=by
   intro l0 g cap cur r1 r2 r3 r4 r5 r6 r7 r8 r9 rA rc;have jd:(o+len)*i.size+us.length≤cur.size:=by
    rw[hr.len,r7,←Nat.add_mul];exact Nat.mul_le_mul_right _ (by omega)
   have vJ:∀j,j<us.length→(w.cell? ⟨g,o*i.size+len*i.size+j,none⟩).isSome=true:=fun j hj=>by
    rw[cell_of_row w g _ cur e (0,0) r4,ags (by rw[Nat.add_mul]at jd;omega)];rfl
   have dv:=run_append_room_src (P:=P) w T tx ty e i hT jL g (o*i.size) len c v ys.length us hs l0 vJ (fun j hj=>by unfold World.frozen?;rw[r4];simp);have jm:=run_storeCells_at P g (o*i.size+len*i.size) e us 0 cur w r4 (by rw[Nat.add_mul]at jd;simpa using jd) hr.one;have ur:=run_storeCells_cells (P:=P) g (o*i.size+len*i.size) us 0 w (by simpa using vJ) (fun j hj=>by unfold World.frozen?;rw[r4];simp) hr.one;simp only[Nat.add_zero]at jm ur;rw[jm]at ur;injection ur with _ e2;rw[←e2,←Nat.add_mul]at dv;rw[rA];have fu:∀(a b:Nat)(d:agU AV)(x:AV)(q:agY),bV[a]?=some d→d[b]?=some x→(if(o+len)*i.size≤a*i.size+b∧a*i.size+b<(o+len)*i.size+us.length then us[a*i.size+b-(o+len)*i.size]? else cur[a*i.size+b]?)=some q→aE G w q x:=by
    intro a b d x q hd hx hq;have Ij:d.length=i.size:=by
     have hm:=agj hd;rcases oB with⟨_,_,e⟩|⟨_,_,_,e,_⟩
     ·rw[e]at hm;rcases agI.1 hm with hm|hm
      ·rcases agI.1 hm with hm|hm
       ·exact gm d (List.mem_of_mem_take hm)
       ·exact hr.wid d hm
      ·exact gm d (List.mem_of_mem_drop hm)
     ·rw[e]at hm;rcases agI.1 hm with hm|hm
      ·exact gm d hm
      ·exact hr.wid d hm
    have hbk:b<i.size:=by rw[←Ij];exact(af5.1 hx).1
    have Gb:(a<o+len∧cs[a]?=some d)∨(o+len≤a∧a<o+len+ys.length∧ys[a-(o+len)]?=some d)∨(o+len+ys.length≤a∧cs[a]?=some d):=by
     rcases oB with⟨hf,_,e⟩|⟨e0,e1,_,e,_⟩
     ·rw[e]at hd;have Jl:(cs.take (o+len)).length=o+len:=by rw[List.length_take];omega
      by_cases h1:a<o+len
      ·rw[agn,agf (by rw[Jl];exact h1),List.getElem?_take_of_lt h1]at hd;exact .inl ⟨h1,hd⟩
      ·rw[agn,agm (by rw[Jl];omega),Jl]at hd;by_cases h2:a-(o+len)<ys.length
       ·rw[agf h2]at hd;exact .inr (.inl ⟨by omega,by omega,hd⟩)
       ·rw[agm (by omega),List.getElem?_drop,show o+len+ys.length+(a-(o+len)-ys.length)=a by omega]at hd;exact .inr (.inr ⟨by omega,hd⟩)
     ·rw[e]at hd;by_cases h1:a<cs.length
      ·rw[agf h1]at hd;exact .inl ⟨by omega,hd⟩
      ·rw[agm (by omega)]at hd;have:=(af5.1 hd).1;exact .inr (.inl ⟨by omega,by omega,by rw[show a-(o+len)=a-cs.length by omega];exact hd⟩)
    rcases Gb with⟨h1,h2⟩|⟨h1,h2,h3⟩|⟨h1,h2⟩
    ·rw[if_neg (by have:=ji h1 hbk;omega)]at hq;exact r9 a b d x q h2 hx hq
    ·have hle:(o+len)*i.size≤a*i.size:=Nat.mul_le_mul_right _ h1;have aN:a*i.size+b<(o+len+ys.length)*i.size:=ji h2 hbk;rw[Nat.add_mul (o+len)]at aN;rw[if_pos ⟨by omega,by rw[hr.len];exact aN⟩]at hq;refine hr.rel (a-(o+len)) b d x q h3 hx ?_;rw[Nat.sub_mul,show a*i.size-(o+len)*i.size+b=a*i.size+b-(o+len)*i.size by omega];exact hq
    ·have hle:(o+len+ys.length)*i.size≤a*i.size:=Nat.mul_le_mul_right _ h1;rw[Nat.add_mul (o+len)]at hle;rw[if_neg (by rw[hr.len];omega)]at hq;exact r9 a b d x q h2 hx hq
   have SB:∀d∈bV,d.length=i.size:=fun d hm=>by
    rcases oB with⟨_,_,e⟩|⟨_,_,_,e,_⟩
    ·rw[e]at hm;rcases agI.1 hm with hm|hm
     ·rcases agI.1 hm with hm|hm
      ·exact gm d (List.mem_of_mem_take hm)
      ·exact hr.wid d hm
     ·exact gm d (List.mem_of_mem_drop hm)
    ·rw[e]at hm;rcases agI.1 hm with hm|hm
     ·exact gm d hm
     ·exact hr.wid d hm
   rcases oB with⟨hf,eL,ec⟩|⟨e0,e1,eL,ec,jz,l7⟩
   ·have fz:bV.length=cs.length:=by rw[ec];simp;omega
    obtain⟨G',k1,k2,k3,k4,k5⟩:=JV (us:=us) (off:=(o+len)*i.size) (bV:=bV) hi hn fR r1 r2 r3 r4 r5 r6 r7 r8 jd fz SB fu;refine⟨_,_,G',dv,k1,by rw[k2];exact agh _,k3,?_⟩;refine .vec n o (len+ys.length) L' i.size (by rw[k2];exact mm) ⟨_,_,_,rfl⟩ (by rw[k5,eL,oO.1,hL];exact agh _) fun _=> ?_;rw[k4];refine⟨by omega,⟨_,_,rfl,l0,c2,by omega,fun ho=> ?_⟩,fun ho hl=> ?_⟩
    ·rw[eL]at ho ⊢;obtain⟨g2,Tu,q1,q2,q3⟩:=c4 ho;exact⟨g2,Tu,q1,by rw[←q2,rA],q3⟩
    ·subst ho;rw[r2,hL,←eL,←hl];simp at rc;subst rc;simp
   ·subst e0;subst e1;simp only[agq,Nat.zero_mul]at*;subst rc;obtain⟨w',eB⟩:∃w',w'=w.setRow g (cur.toList.take (len*i.size)++us++cur.toList.drop (len*i.size+us.length)).toArray:=⟨_,rfl⟩;rw[←eB]at dv;have gS:∀b,b≠g→w'.heap[b]?=w.heap[b]?:=fun b hb=>by rw[eB];exact setRow_other w g b _ hb
    have l8:w'.heap[g]?=some (.cells (cur.toList.take (len*i.size)++us++cur.toList.drop (len*i.size+us.length)).toArray e (0,0)):=by rw[eB];exact setRow_heap w g cur _ e _ r4
    have fZ:w'.heap.size=w.heap.size:=by rw[eB];exact GZ w g _
    obtain⟨sv,kH⟩:∃sv,sv=Value.slice (some ⟨g,0,none⟩) L' c:=⟨_,rfl⟩;have fz:bV.length=L':=by rw[ec,af6,hL,eL]
    have jW:G.fl n=len:=by rw[oO.1,hL]
    have hE:bK G.N G w (G.grow n G.S sv L' (some g)) w':=⟨by rw[fZ];exact agh _,fun _ _ h=>h,fun b q hs=>World.cell?_of_block (gS b (fun e=>r8 q (e▸hs))),fun _ _=>rfl,fun m _=>by
        by_cases em:m=n
        ·right;subst em;simp only[Gh.grow,if_true,jW];omega
        ·left;exact⟨by simp [Gh.grow,em],by simp [Gh.grow,em]⟩,fM rfl,fun b hb=>gS b (fun e=>r3 (e▸hb)),by rw[eB];rfl,by rw[eB];rfl,by rw[eB];rfl,fun b q hs=> .inl hs⟩
    refine⟨_,w',_,dv,hE,agh _,FO hi hn (fun _=>rfl) (fun _=>rfl) _ _ _ _ hE (fun g' pW=>by cases pW;exact⟨.inr r1,by rw[fZ];exact(agl.1 r4).1⟩) (fun b q hs=> .inl hs) (fun b _ fG=>gS b (fun e=>fG (by rw[e]))) ?_,?_⟩
    ·refine⟨by simp [Gh.grow,fz],by rw[fz];exact jz,SB, .inr ⟨g,c,_,by simp [Gh.grow],by simp [Gh.grow,kH,fz],r3,l8,by rw[fz];omega,r6,by rw[T4 _ _ _ jd];exact r7,r8,fun a b d x q hd hx hq=> ?_⟩⟩;rw[P0 _ _ _ _ jd]at hq;exact(fu a b d x q hd hx hq).keep hE (agh _)
    ·refine .vec n 0 (len+ys.length) L' i.size mm ⟨_,_,_,rfl⟩ (by simp [Gh.grow]) fun _=>⟨by omega,⟨_,_,rfl,l0,c2,by omega,fun _=>⟨g,c,by simp [Gh.grow,kH],by simp,by simp⟩⟩,fun _ e=> ?_⟩;simp [Gh.grow,kH,eL]
  rcases oO.2.2.2 with⟨b1,b2,A',b3⟩|⟨g,cap,cur,r1,r2,r3,r4,r5,r6,r7,r8,r9⟩
  ·
   subst b2;simp at hL;subst hL;have ho:o=0:=by omega
   have Fw:len=0:=by omega
   subst ho;subst Fw;have:=call rfl rfl;rw[b3]at this;injection this with q1 _ q2;subst q2;rcases oB with⟨hf,_,_⟩|⟨_,_,eL,ec,jz,l7⟩
   ·omega
   ·simp only[agq,List.nil_append]at eL ec;subst ec;rw[eL]at jz l7;have JZ:bV.length≤9223372036854775807:=by simp only[maxLen]at jz;omega
    have hold:(Builtin.firstCells i.size 0 (.slice A 0 0)).run P w.drew= .ok ([]:agU agY).toArray w.drew:=by
     cases A with
     |none=>exact run_firstCells_none _ _ _ _ _
     |some a=>exact run_firstCells_some _ _ _ _ _ _ [] (by simp) (fun j u hu=>by simp at hu)
    have dv:=run_append_grow_src (P:=P) w T tx ty e i z hT jL hz A 0 0 [] hold v bV.length us hs (by omega) (by omega) (growslice_fits (by omega) (by simpa using l7));simp only[agq,List.nil_append]at dv;obtain⟨cap,im⟩:∃cap,cap=grownCap w bV.length 0 e:=⟨_,rfl⟩;have jg:bV.length≤cap:=by rw[im];exact grownCap_ge _ _ _ _
    have hle:cap≤maxLen:=by rw[im];exact grownCap_le_maxLen _ _ _ _ jz
    rw[←im]at dv;obtain⟨cur,jl⟩:∃cur,cur=us.toArray++Builtin.zeroCells z.cells (cap-bV.length):=⟨_,rfl⟩;rw[←jl]at dv;have fm:cur.size=cap*i.size:=by
      have:=size_zeroCells z.cells (cap-bV.length);rw[jl,Array.size_append,this,List.size_toArray,hr.len,iM,←Nat.add_mul]
      congr 1
      omega
    have fu:(w.drew.alloc (.cells cur e)).heap[w.heap.size]?=some (.cells cur e (0,0)):=World.alloc_heap_new w.drew _;have uF:∀b,b<w.heap.size→(w.drew.alloc (.cells cur e)).heap[b]?=w.heap[b]?:=fun b hb=>Below.heap_alloc w.drew _ b hb;obtain⟨sv,kH⟩:∃sv,sv=Value.slice (some ⟨w.heap.size,0,none⟩) L' cap:=⟨_,rfl⟩;have jW:G.fl n=0:=by rw[oO.1];rfl
    have hE:bK G.N G w (G.grow n G.S sv L' (some w.heap.size)) (w.drew.alloc (.cells cur e)):=⟨by simp,fun _ _ h=>h,fun b q hs=>World.cell?_of_block (uF b (hi.S b q hs)),fun _ _=>rfl,fun m _=>by
        by_cases em:m=n
        ·right;subst em;simp only[Gh.grow,if_true,jW];omega
        ·left;exact⟨by simp [Gh.grow,em],by simp [Gh.grow,em]⟩,fM rfl,fun b hb=>uF b (hi.z b hb),rfl,rfl,rfl,fun b q hs=> .inl hs⟩
    refine⟨_,_,_,dv,hE,agh _,FO hi hn (fun _=>rfl) (fun _=>rfl) _ _ _ _ hE (fun g' pW=>by cases pW;exact⟨.inl rfl,by simp⟩) (fun b q hs=> .inl hs) (fun b hb _=>uF b hb) ?_,?_⟩
    ·refine⟨by simp [Gh.grow,eL],jz,hr.wid, .inr ⟨w.heap.size,cap,cur,by simp [Gh.grow],by simp [Gh.grow,kH,eL],fun hz=>agK _ (hi.z _ hz),fu,jg,hle,fm,fun q hs=>agK _ (hi.S _ _ hs),fun a b d x q hd hx hq=> ?_⟩⟩;have hbk:b<i.size:=by rw[←hr.wid d (agj hd)];exact(af5.1 hx).1
     have aN:a*i.size+b<us.length:=by rw[hr.len];exact ji (af5.1 hd).1 hbk
     rw[jl,Array.getElem?_append_left (by simpa using aN),List.getElem?_toArray]at hq;exact(hr.rel a b d x q hd hx hq).keep hE (agh _)
    ·rw[agq];refine .vec n 0 bV.length L' i.size mm ⟨_,_,_,rfl⟩ (by simp [Gh.grow]) fun _=>⟨by omega,⟨_,_,rfl,jg,hle,by omega,fun _=>⟨w.heap.size,cap,by simp [Gh.grow,kH],by simp,by simp⟩⟩,fun _ e=> ?_⟩;simp [Gh.grow,kH,eL]
  ·
   rcases oB with⟨hf,eL,ec⟩|⟨e0,e1,eL,ec,jz,l7⟩
   ·obtain⟨g2,Tu,q1,q2,q3⟩:=c4 (by omega);rw[r2]at q1;injection q1 with q4 _ q5;cases q4
    subst q5;exact room (by omega) g cap cur r1 r2 r3 r4 r5 r6 r7 r8 r9 q2 q3
   ·have:=call e0 e1;rw[r2]at this;injection this with q2 _ q3;by_cases l0:len+ys.length≤c
    ·exact room l0 g cap cur r1 r2 r3 r4 r5 r6 r7 r8 r9 (by rw[q2,e0];simp) (by omega)
    ·subst e0;subst q2;subst q3;rw[eL]at jz l7;have JZ:L+ys.length≤9223372036854775807:=by simp only[maxLen]at jz;omega
     have Ei:(cur.toList.take (len*i.size)).length=len*i.size:=by
      rw[List.length_take,agD,r7];exact Nat.min_eq_left (Nat.mul_le_mul_right _ c1)
     have hold:(Builtin.firstCells i.size len (.slice (some ⟨g,0,none⟩) len c)).run P w.drew= .ok (cur.toList.take (len*i.size)).toArray w.drew:=
      run_firstCells_some _ _ _ _ _ _ _ Ei (fun j q hq=>by
       rw[kt,agq];show w.cell? ⟨g,j,none⟩=some q;rw[cell_of_row w g _ cur e (0,0) r4,←agt];have oX:=(af5.1 hq).1;rw[Ei]at oX;rw[List.getElem?_take_of_lt oX]at hq;exact hq)
     have dv:=run_append_grow_src (P:=P) w T tx ty e i z hT jL hz (some ⟨g,0,none⟩) len c _ hold v ys.length us hs (by omega) (by omega) (growslice_fits (by omega) (by rw[e1];exact l7));obtain⟨cap,im⟩:∃cap,cap=grownCap w (len+ys.length) c e:=⟨_,rfl⟩;have jg:len+ys.length≤cap:=by rw[im];exact grownCap_ge _ _ _ _
     have hle:cap≤maxLen:=by rw[im];exact grownCap_le_maxLen _ _ _ _ (by rw[e1];exact jz)
     rw[←im]at dv;obtain⟨rb,jl⟩:∃rb,rb=(cur.toList.take (len*i.size)++us).toArray++Builtin.zeroCells z.cells (cap-(len+ys.length)):=⟨_,rfl⟩;rw[←jl]at dv;have yr:(cur.toList.take (len*i.size)++us).length=(len+ys.length)*i.size:=by rw[af6,Ei,hr.len,←Nat.add_mul]
     have fm:rb.size=cap*i.size:=by
      have:=size_zeroCells z.cells (cap-(len+ys.length));rw[jl,Array.size_append,this,List.size_toArray,yr,iM,←Nat.add_mul]
      congr 1
      omega
     have fu:(w.drew.alloc (.cells rb e)).heap[w.heap.size]?=some (.cells rb e (0,0)):=World.alloc_heap_new w.drew _;have uF:∀b,b<w.heap.size→(w.drew.alloc (.cells rb e)).heap[b]?=w.heap[b]?:=fun b hb=>Below.heap_alloc w.drew _ b hb;obtain⟨sv,kH⟩:∃sv,sv=Value.slice (some ⟨w.heap.size,0,none⟩) L' cap:=⟨_,rfl⟩;have jW:G.fl n=L:=by rw[oO.1,hL]
     have fz:bV.length=L':=by rw[ec,af6,hL,eL]
     have hE:bK G.N G w (G.grow n G.S sv L' (some w.heap.size)) (w.drew.alloc (.cells rb e)):=⟨by simp,fun _ _ h=>h,fun b q hs=>World.cell?_of_block (uF b (hi.S b q hs)),fun _ _=>rfl,fun m _=>by
         by_cases em:m=n
         ·right;subst em;simp only[Gh.grow,if_true,jW];omega
         ·left;exact⟨by simp [Gh.grow,em],by simp [Gh.grow,em]⟩,fM rfl,fun b hb=>uF b (hi.z b hb),rfl,rfl,rfl,fun b q hs=> .inl hs⟩
     refine⟨_,_,_,dv,hE,agh _,FO hi hn (fun _=>rfl) (fun _=>rfl) _ _ _ _ hE (fun g' pW=>by cases pW;exact⟨.inl rfl,by simp⟩) (fun b q hs=> .inl hs) (fun b hb _=>uF b hb) ?_,?_⟩
     ·refine⟨by simp [Gh.grow,fz],by rw[fz,eL];exact jz,fun d hd=> ?_, .inr ⟨w.heap.size,cap,rb,by simp [Gh.grow],by simp [Gh.grow,kH,fz],fun hz=>agK _ (hi.z _ hz),fu,by rw[fz];omega,hle,fm,fun q hs=>agK _ (hi.S _ _ hs),fun a b d x q hd hx hq=> ?_⟩⟩
      ·rw[ec]at hd;rcases agI.1 hd with hd|hd
       ·exact gm d hd
       ·exact hr.wid d hd
      ·refine aE.keep hE (agh _) ?_;have Ij:d.length=i.size:=by
        have hm:=agj hd;rw[ec]at hm;rcases agI.1 hm with hm|hm
        ·exact gm d hm
        ·exact hr.wid d hm
       have hbk:b<i.size:=by rw[←Ij];exact(af5.1 hx).1
       have Xu:a<len+ys.length:=by
        have:=(af5.1 hd).1;rw[fz,eL]at this;omega
       have aN:a*i.size+b<(cur.toList.take (len*i.size)++us).length:=by rw[yr];exact ji Xu hbk
       rw[jl,Array.getElem?_append_left (by simpa using aN),List.getElem?_toArray,W8 _ us len a b Ei hbk]at hq;rw[ec]at hd;by_cases h1:a<len
       ·rw[if_pos h1,List.getElem?_take_of_lt (ji h1 hbk),agt]at hq;rw[agf (by omega)]at hd;exact r9 a b d x q hd hx hq
       ·rw[if_neg h1]at hq;rw[agm (by omega)]at hd;exact hr.rel (a-len) b d x q (by rw[←hd];congr 1;omega) hx hq
     ·refine .vec n 0 (len+ys.length) L' i.size mm ⟨_,_,_,rfl⟩ (by simp [Gh.grow]) fun _=>⟨by omega,⟨_,_,rfl,jg,hle,by omega,fun _=>⟨w.heap.size,cap,by simp [Gh.grow,kH],by simp,by simp⟩⟩,fun _ e=> ?_⟩;simp [Gh.grow,kH,eL,e1]
theorem SE{T tx ty e k dc:Nat}{i:TypeInfo}{z:agY}{A:agW Addr}{v:agY}{ys:agU (agU AV)}{us:agU agY}(hi:bO G w h)(hT:P.underlying T=some (.slice e))(jL:P.info? e=some i)(hz:i.zero=some z)(ly:i.size=k)(uZ:i.bytes=dc)(iM:z.cells.size=k)(fR:0<k)
 (hr:wi G w k ys us) (hs:Src P k tx v ys.length us w) (jz:ys.length≤maxLen) (l7:ys.length*dc≤140737488355328):
 ∃r w' G',(Builtin.append_ #[T,tx] ty #[.slice A 0 0,v]).run P w= .ok r w'∧bK G.N G w G' w'∧G.N≤G'.N∧bO G' w' (h++[.vec e k ys])∧aE G' w' r (.vec h.length 0 ys.length ys.length k):=by
 subst ly;subst uZ;by_cases hy:ys.length=0
 ·have ga:ys=[]:=List.eq_nil_of_length_eq_zero hy;subst ga;have j6:us=[]:=List.eq_nil_of_length_eq_zero (by rw[hr.len];simp);subst j6;have dv:=run_append_nothing (P:=P) w T tx ty e i hT jL A 0 0 (agh _) v hs;obtain⟨hE,hI⟩:=Il (w':=w) hi (.vec e i.size []) (fun _ _=>rfl) (.slice A 0 0) 0 none ⟨fun _ _=>rfl,agh _,rfl,rfl,rfl⟩ (fun g hg=>by cases hg) ⟨by simp [Gh.er],by simp,(fun _ h=>by cases h), .inl ⟨by simp [Gh.er],rfl,A,by simp [Gh.er]⟩⟩;refine⟨_,w,_,dv,hE,Nat.le_succ _,hI,?_⟩;rw[hi.len];exact .vec G.N 0 0 0 i.size (by simp [Gh.er]) ⟨_,_,_,rfl⟩ (by simp) fun _=>⟨by omega,⟨A,0,rfl,agh _,Nat.zero_le _,by omega,fun h=>by omega⟩,fun _ _=>by simp [Gh.er]⟩
 ·have JZ:ys.length≤9223372036854775807:=by simp only[maxLen]at jz;omega
  have hold:(Builtin.firstCells i.size 0 (.slice A 0 0)).run P w.drew= .ok ([]:agU agY).toArray w.drew:=by
   cases A with
   |none=>exact run_firstCells_none _ _ _ _ _
   |some a=>exact run_firstCells_some _ _ _ _ _ _ [] (by simp) (fun j u hu=>by simp at hu)
  have dv:=run_append_grow_src (P:=P) w T tx ty e i z hT jL hz A 0 0 [] hold v ys.length us hs (by omega) (by omega) (growslice_fits (by omega) (by simpa using l7));simp only[agq,List.nil_append]at dv;obtain⟨cap,im⟩:∃cap,cap=grownCap w ys.length 0 e:=⟨_,rfl⟩;have jg:ys.length≤cap:=by rw[im];exact grownCap_ge _ _ _ _
  have hle:cap≤maxLen:=by rw[im];exact grownCap_le_maxLen _ _ _ _ jz
  rw[←im]at dv;obtain⟨cur,jl⟩:∃cur,cur=us.toArray++Builtin.zeroCells z.cells (cap-ys.length):=⟨_,rfl⟩;rw[←jl]at dv;have fm:cur.size=cap*i.size:=by
    have:=size_zeroCells z.cells (cap-ys.length);rw[jl,Array.size_append,this,List.size_toArray,hr.len,iM,←Nat.add_mul]
    congr 1
    omega
  obtain⟨G',g1,g2,g3,g4⟩:=Jw (e:=e) (k:=i.size) (cap:=cap) (cs:=ys) (cur:=cur) hi jg hle fm hr.wid w.drew ⟨rfl,rfl,rfl,rfl⟩ (fun a b d x q hd hx hq=>by
   have hbk:b<i.size:=by rw[←hr.wid d (agj hd)];exact(af5.1 hx).1
   have aN:a*i.size+b<us.length:=by rw[hr.len];exact ji (af5.1 hd).1 hbk
   rw[jl,Array.getElem?_append_left (by simpa using aN),List.getElem?_toArray]at hq;exact hr.rel a b d x q hd hx hq)
  exact⟨_,_,G',dv,g1,g2,g3,g4 _ (agh _)⟩
end
section
variable {P:agX} {r:agW Nat} {n N0:Nat} {G:Gh} {w:agZ} {a:Act} {s:St} {o:Oper} {K:St→Prop} {Q:Exit→Act→agZ→Prop}
theorem AZ(hs:cT G w a s)(l:Array Operand):(l.map a.eval).size=(l.toList.map (ev s)).length∧∀(i:Nat)(u:agY)(c:AV),(l.map a.eval)[i]?=some u→(l.toList.map (ev s))[i]?=some c→aE G w u c:=by
 refine⟨by simp,fun i u c hu hc=> ?_⟩;rw[Array.getElem?_map]at hu;rw[agc,agt]at hc;cases hx:l[i]? with
 |none=>rw[hx]at hu;cases hu
 |some x=>rw[hx]at hu hc;cases hu;cases hc;exact hs.ev x
theorem Rs(hs:cT G w a s)(l:Array (Nat×Operand)):(l.map fun(i,x)=>(i,a.eval x)).toList.length=(l.toList.map fun p=>(p.1,ev s p.2)).length∧
 ∀(i:Nat)(p:Nat×AV)(q:Nat×agY),(l.toList.map fun p=>(p.1,ev s p.2))[i]?=some p→(l.map fun(i,x)=>(i,a.eval x)).toList[i]?=some q→q.1=p.1∧aE G w q.2 p.2:=by
 refine⟨by simp,fun i p q hp hq=> ?_⟩;rw[agt,Array.getElem?_map]at hq;rw[agc,agt]at hp;cases hx:l[i]? with
 |none=>rw[hx]at hp;cases hp
 |some x=>rw[hx]at hp hq;cases hp;cases hq;exact⟨rfl,hs.ev x.2⟩
theorem yS{x y:Operand}{T U:TypeId}(c:Call)(hc:c.callee= .builtin .append)(h1:c.args.toList=[x,y])(h2:c.argTypes.toList=[T,U])(ho:o.op= .call c):
 (execOp a.eval o).run P w=((Builtin.append_ #[T,U] o.type #[a.eval x,a.eval y]).run P w).andThen fun v w'=> .ok (.value v) w':=by
 have e1:c.args= #[x,y]:=by rw[←Array.toList_inj];exact h1
 have e2:c.argTypes= #[T,U]:=by rw[←Array.toList_inj];exact h2
 unfold execOp;simp only[ho,resolve,hc,e1,e2,invoke,builtin,Sem.run_bind,Sem.run_pure,Result.andThen_ok,List.map_toArray,agv,List.map_nil]
theorem MP{x:Operand}{T:TypeId}(c:Call)(hc:c.callee= .builtin .len)(h1:c.args.toList=[x])(h2:c.argTypes.toList=[T])(ho:o.op= .call c):
 (execOp a.eval o).run P w=((Builtin.len_ #[T] o.type #[a.eval x]).run P w).andThen fun v w'=> .ok (.value v) w':=by
 have e1:c.args= #[x]:=by rw[←Array.toList_inj];exact h1
 have e2:c.argTypes= #[T]:=by rw[←Array.toList_inj];exact h2
 unfold execOp;simp only[ho,resolve,hc,e1,e2,invoke,builtin,Sem.run_bind,Sem.run_pure,Result.andThen_ok,List.map_toArray,agv,List.map_nil]
theorem ZI(c:Call)(hc:c.callee= .builtin .max)(ho:o.op= .call c):
 (execOp a.eval o).run P w=((Builtin.max_ c.argTypes o.type (c.args.map a.eval)).run P w).andThen fun v w'=> .ok (.value v) w':=by
 unfold execOp;simp only[ho,resolve,hc,invoke,builtin,Sem.run_bind,Sem.run_pure,Result.andThen_ok]
theorem aa2(c:Call)(hc:c.callee= .builtin .min)(ho:o.op= .call c):
 (execOp a.eval o).run P w=((Builtin.min_ c.argTypes o.type (c.args.map a.eval)).run P w).andThen fun v w'=> .ok (.value v) w':=by
 unfold execOp;simp only[ho,resolve,hc,invoke,builtin,Sem.run_bind,Sem.run_pure,Result.andThen_ok]
theorem NV{mx:Bool}{k k':IntKind}{z:Int}:∀(l:agU AV)(vs:agU agY)(x:Int),vs.length=l.length→(∀(i:Nat)(u:agY)(c:AV),vs[i]?=some u→l[i]?=some c→aE G w u c)→EG mx k x l=some (k',z)→
 (vs.foldlM (if mx then Builtin.max2 else Builtin.min2) (.int k x)).run P w= .ok (.int k' z) w
 |[],[],x,_,_,h=>by cases h;simp
 |[],_::_,_,hl,_,_=>by simp at hl
 |_::_,[],_,hl,_,_=>by simp at hl
 |y::l,u::vs,x,hl,hr,h=>by
  unfold EG at h;split at h
  ·next e=>cases e
  ·next k2 b l' e=>
   cases e
   have e1:=(hr 0 u _ rfl rfl).val;subst e1;have ih:=NV l vs _ (by simpa using hl) (fun i u c hu hc=>hr (i+1) u c (by simpa using hu) (by simpa using hc)) h;rw[List.foldlM_cons,Sem.run_bind];cases mx with
   |true=>simp only[if_true,cond_true]at ih ⊢;simp only[Builtin.max2,Sem.run_pure,Result.andThen_ok];exact ih
   |false=>simp only[Bool.false_eq_true,if_false,cond_false]at ih ⊢;simp only[Builtin.min2,Sem.run_pure,Result.andThen_ok];exact ih
  ·cases h
theorem NM{mx:Bool}{k:IntKind}{z:Int}{l:agU AV}{vs:Array agY}(hl:vs.size=l.length)(hr:∀(i:Nat)(u:agY)(c:AV),vs[i]?=some u→l[i]?=some c→aE G w u c)(h:yv mx l=some (k,z)):
 ∃u us,vs.toList=u::us∧(us.foldlM (if mx then Builtin.max2 else Builtin.min2) u).run P w= .ok (.int k z) w:=by
 unfold yv at h;split at h
 ·next k2 x l'=>
  cases hv:vs.toList with
  |nil=>rw[←agD,hv]at hl;simp at hl
  |cons u us=>
   refine⟨u,us,rfl,?_⟩;have ny:∀(i:Nat)(v:agY)(c:AV),(u::us)[i]?=some v→(AV.d (.v (.int k2 x))::l')[i]?=some c→aE G w v c:=fun i v c h1 h2=>hr i v c (by rw[←agt,hv];exact h1) h2;have e1:=(ny 0 u _ rfl rfl).val;subst e1;refine NV l' us x ?_ (fun i v c h1 h2=>ny (i+1) v c (by simpa using h1) (by simpa using h2)) h;rw[←agD,hv]at hl;simpa using hl
 ·cases h
theorem Mu{f:FuncId}(h:Cx P f=true)(args:Array agY)(w:agZ):(callFunc f args).run P w= .ok (.enter f args) w:=by
 unfold Cx at h;cases hq:P.funcs[f]? with
 |none=>rw[hq]at h;simp at h
 |some fn=>
  rw[hq]at h;simp only[af7,Bool.not_eq_true']at h;obtain⟨h1,h2⟩:=h;have h3:fn.body≠none:=by intro e;rw[e]at h1;cases h1
  have h4:fn.name≠ "runtime.NumGoroutine" :=by simpa using h2
  simp [callFunc,hq,h4,h3]
theorem aeO(hs:cT G w a s)(cA:N0≤G.N){x:AV}{h':agU an}{p:Sd}(hx:nq P o.op (ev s) s.h=some (x,h',p))(hp:p.ok)(hK:K ((s.wh h').put o.dst x)):o.wpIn (WF r) n P a w (iE N0 G w K) Q:=by
 have dt:=hs.ev;unfold nq at hx;split at hx
 next T ho=>
  split at hx
  ·next q hT=>
   cases hx
   obtain⟨i1,i2,i3⟩:=Zq hs.inv;exact mC (by rw[ho];simp) hs cA (v:= .map (some w.heap.size)) (by unfold execOp;simp [ho,run_makeMap,Result.andThen]) i1 (Nat.le_succ _) i2 i3 hK
  ·cases hx
 next T m i ok ho=>
  split at hx
  ·next k e hT=>
   split at hx
   ·next z hz=>
    split at hx
    ·next b s' hm hi=>
     split at hx
     ·next kv hn=>
      cases hc:gg P k&&z.oneCell' with
      |false=>rw[hc]at hx;cases hx
      |true=>
       rw[hc]at hx;cases hx
       rw[af7]at hc;obtain⟨v,r1,r2⟩:=acE (ok:=ok) (s:=s') hs.inv hT hz hc.1 hn;have e1:=dt m;rw[hm]at e1;have e2:=dt i;rw[hi]at e2;have e2:=e2.val;have Hh:a.eval m= .map (some (G.bg b)):=by
         generalize a.eval m=u at e1;cases e1 with|mp _ _=>rfl
       exact eX (by rw[ho];simp) hs cA (by unfold execOp;simp [ho,Hh,e2,r1,Result.andThen]) r2 hK
     ·cases hx
    ·cases hx
   ·cases hx
  ·cases hx
 next T m i y ho=>
  split at hx
  ·next k e hT=>
   split at hx
   ·next b s' d hm hi hd=>
    split at hx
    ·next kv hn=>
     cases hc:gg P k with
     |false=>rw[hc]at hx;cases hx
     |true=>
      rw[hc]at hx;cases hx
      obtain⟨w',r1,r2,r3⟩:=adP (s:=s') hs.inv hT hc hn ((dt y).J0 hd) hp;have e1:=dt m;rw[hm]at e1;have e2:=dt i;rw[hi]at e2;have e2:=e2.val;have Hh:a.eval m= .map (some (G.bg b)):=by
       generalize a.eval m=u at e1;cases e1 with|mp _ _=>rfl
      exact Lw (by rw[ho];simp) hs cA (by unfold execOp;simp [ho,Hh,e2,r1,Result.andThen]) r2 (agh _) r3 hK
    ·cases hx
   ·cases hx
  ·cases hx
 next=>cases hx
theorem QY(hs:cT G w a s)(cA:N0≤G.N)(h:nH P o K s):o.wpIn (WF r) n P a w (iE N0 G w K) Q:=by
 have dt:=hs.ev;unfold nH cD at h;split at h
 next x ho=>exact eX (by rw[ho];simp) hs cA (v:=a.eval x) (by unfold execOp;rw[ho];rfl) (dt x) h
 next x ho=>exact eX (by rw[ho];simp) hs cA (v:=a.eval x) (by unfold execOp;rw[ho];rfl) (dt x) h
 next c x y ho=>
  split at h
  next t hc=>
   have hb:=dt c;rw[hc]at hb;have e:=hb.bool;cases t with
   |true=>exact eX (by rw[ho];simp) hs cA (v:=a.eval x) (by unfold execOp;simp [ho,e,asBool]) (dt x) (h.1 rfl)
   |false=>exact eX (by rw[ho];simp) hs cA (v:=a.eval y) (by unfold execOp;simp [ho,e,asBool]) (dt y) (h.2 rfl)
  next=>exact h.elim
 next e ho=>
  split at h
  next z hz=>
   obtain⟨i1,i2⟩:=MZ hs.inv z.cells e (z.cells.toList.map fun u=> .d (.v u)) (by simp) (fun i u c hu hc=>by
    rw[agc,agt,hu]at hc;cases hc;exact .d (.v u))
   exact mC (by rw[ho];simp) hs cA (by unfold execOp;simp [ho,Instr.alloc,DT hz,newVar,newRow]) (za G w hs.inv.z hs.inv.S _) (Nat.le_succ _) i1 i2 h
  next=>exact h.elim
 next e x ho=>
  obtain⟨hb,hK⟩:=bM.1 h;have hr:=(dt x).Po hb;obtain⟨i1,i2⟩:=MZ hs.inv (a.eval x).cells e (ev s x).cells hr.len hr.rel;exact mC (by rw[ho];simp) hs cA (by unfold execOp;simp [ho,Instr.box,newVar,newRow]) (za G w hs.inv.z hs.inv.S _) (Nat.le_succ _) i1 i2 hK
 next t x ho=>
  obtain⟨u,y,h1,h2,h3⟩:=T5 hs.inv (dt x) h;exact eX (by rw[ho];simp) hs cA (by unfold execOp;simp [ho,h1]) h2 h3
 next t x y ho=>
  unfold ue at h;split at h
  next m off hm=>
   split at h
   next cs fm=>
    split at h
    case h_2=>exact h.elim
    rename_i k hk
    obtain⟨eV,h4⟩:=bM.1 h;simp only[af7,beq_iff_eq,dA]at eV;obtain⟨⟨rfl,h2⟩,h3⟩:=eV;have h1:=hk;have hx:=dt x;rw[hm]at hx;obtain⟨w',r1,r2,r3⟩:=aet (P:=P) hs.inv fm (dt y) h2 h1 h3;have ex:a.eval x= .pointer (some ⟨G.bg m,off,none⟩):=by
     generalize a.eval x=u at hx;cases hx with
     |ptr=>rfl
    exact Lw (by rw[ho];simp) hs cA (by unfold execOp;simp [ho,Instr.storeAt,Instr.sureAddr,ex,r1]) r2 (agh _) r3 h4
   next=>exact h.elim
  next=>exact h.elim
 next x ho=>
  have hx:=dt x;split at h
  next m off hm=>
   rw[hm]at hx;generalize ea:a.eval x=u at hx;cases hx with
   |ptr _ _ ux=>exact eX (by rw[ho];simp) hs cA (by unfold execOp;simp [ho,ea]) (.ptr m off ux) h
  next xs i off hm=>
   rw[hm]at hx;generalize ea:a.eval x=u at hx;have vw:=hx;cases hx with
   |aW=>exact eX (by rw[ho];simp) hs cA (by unfold execOp;simp [ho,ea]) vw h
  next f cs hm=>
   rw[hm]at hx;generalize ea:a.eval x=u at hx;have vw:=hx;cases hx with
   |fn=>exact eX (by rw[ho];simp) hs cA (by unfold execOp;simp [ho,ea]) vw h
  next=>exact h.elim
 next T x f ho=>
  split at h
  next fo k g hT=>
   have hx:=dt x;split at h
   next m off hm=>
    rw[hm]at hx;generalize ea:a.eval x=u at hx;cases hx with
    |ptr _ _ ux=>exact eX (by rw[ho];simp) hs cA (by unfold execOp;simp [ho,ea,IX hT]) (.ptr m (off+fo) ux) h
   next xs i off hm=>
    rw[hm]at hx;generalize ea:a.eval x=u at hx;cases hx with
    |aW _ _ _ b oo us c hx hS hu=>exact eX (by rw[ho];simp) hs cA (by unfold execOp;simp [ho,ea,IX hT];rfl) (by rw[Nat.add_assoc];exact .aW xs i (off+fo) b oo us c hx hS hu) h
   next=>exact h.elim
  next=>exact h.elim
 next T x f ho=>
  obtain⟨u,y,h1,h2,h3⟩:=VQ (dt x) h;exact eX (by rw[ho];simp) hs cA (by unfold execOp;simp [ho,h1]) h2 h3
 next T x i ho=>
  obtain⟨u,y,h1,h2,h3⟩:=adA (dt x) (dt i) h;exact eX (by rw[ho];simp) hs cA (by unfold execOp;simp [ho,h1]) h2 h3
 next T x i ho=>
  split at h
  next b z hb hz=>
   obtain⟨hT,h0,h⟩:=bM.1 h;have hT:=qi hT;have hx:=dt x;rw[hb]at hx;have ex:=hx.val;obtain⟨k,ei⟩:=(dt i).int hz;split at h
   next c hc=>
    refine eX (by rw[ho];simp) hs cA (v:= .int .u8 c.toNat) ?_ (.d (.v _)) h;unfold execOp;simp [ho,Instr.index,ex,ei,asIntOf,run_underlying hT,h0,hc]
   next=>exact h.elim
  next=>exact h.elim
 next T ps ho=>
  obtain⟨p1,p2⟩:=Rs hs ps;obtain⟨u,y,h1,h2,h3⟩:=YH p1 p2 h;exact eX (by rw[ho];simp) hs cA (by unfold execOp;simp only[ho,Sem.run_bind,h1];rfl) h2 h3
 next T len ps ho=>
  obtain⟨p1,p2⟩:=Rs hs ps;obtain⟨u,w',G',y,h1,h2,h3,h4,h5,h6⟩:=aby (T:=T) hs.inv p1 p2 h;exact mC (by rw[ho];simp) hs cA (by unfold execOp;simp only[ho,Sem.run_bind,h1];rfl) h2 h3 h4 h5 h6
 next T x lo hi mx ho=>
  obtain⟨u,y,h1,h2,h3⟩:=adu hs (dt x) h;exact eX (by rw[ho];simp) hs cA (by unfold execOp;simp [ho,h1]) h2 h3
 next x i ho=>
  have hx:=dt x;split at h
  next cs fm=>
   rw[fm]at hx;generalize ea:a.eval x=u at hx;split at h
   next c hc=>
    cases hx with
    |bU vs _ hl hr=>
     have aN:i<vs.size:=by rw[hl];exact(af5.1 hc).1
     exact eX (by rw[ho];simp) hs cA (v:=vs[i]) (by unfold execOp;simp [ho,ea,Instr.extract,aN]) (hr i _ c (ags aN) hc) h
   next=>exact h.elim
  next=>exact h.elim
 next f first dy ho=>
  split at h
  case h_2=>exact h.elim
  rename_i KR
  have KR:first= #[]:=by rw[←Array.toList_inj];exact KR
  subst KR;obtain⟨p1,p2⟩:=AZ hs dy;exact eX (by rw[ho];simp) hs cA (v:= .func (.func f) #[] (dy.map a.eval)) (by unfold execOp;simp [ho,Instr.makeFunc]) (.fn f _ _ p1 p2) h
 next op T x y U ho=>
  obtain⟨u,z,h1,h2,h3⟩:=Yt (X:=x) (Y:=y) (dt x) (dt y) h;refine eX (by rw[ho];simp) hs cA ?_ h2 h3;unfold execOp;simp only[ho];rw[Sem.run_bind,h1];rfl
 next op T x ho=>
  obtain⟨u,z,h1,h2,h3⟩:=Zu (P:=P) (dt x) h;exact eX (by rw[ho];simp) hs cA (by unfold execOp;simp [ho,h1]) h2 h3
 next t u x ho=>
  obtain⟨u,z,h1,h2,h3⟩:=aae (dt x) h;exact eX (by rw[ho];simp) hs cA (by unfold execOp;simp [ho,h1]) h2 h3
 next c ho=>
  have jw:∀c,o.op≠ .defer c:=by rw[ho];simp
  split at h
  next hc=>
   split at h
   next x T h1 h2=>
    obtain⟨m,r1,r2⟩:=Wx (ty:=o.type) (dt x) h;exact eX jw hs cA (by rw[MP c hc h1 h2 ho,r1];rfl) (.d (.v _)) r2
   next=>exact h.elim
  next hc=>
   split at h
   next x y T U h1 h2=>
    obtain⟨hU,h⟩:=bM.1 h;obtain⟨⟨e',k'⟩,hU⟩:=Option.isSome_iff_exists.1 hU;obtain⟨p,w',G',q,h',r1,r2,r3,r4,r5,r6⟩:=aa5 (ty:=o.type) hs.inv (dt x) (dt y) (iV hU).1 h;exact mC jw hs cA (by rw[yS c hc h1 h2 ho,r1];rfl) r2 r3 r4 r5 r6
   next=>exact h.elim
  next hc=>
   split at h
   next k z hf=>
    obtain⟨p1,p2⟩:=AZ hs c.args;obtain⟨u,us,e1,e2⟩:=NM (P:=P) p1 p2 hf;refine eX jw hs cA (v:= .int k z) ?_ (.d (.v _)) h;rw[ZI c hc ho];unfold Builtin.max_;rw[e1];simp only[if_true]at e2;rw[e2];rfl
   next=>exact h.elim
  next hc=>
   split at h
   next k z hf=>
    obtain⟨p1,p2⟩:=AZ hs c.args;obtain⟨u,us,e1,e2⟩:=NM (P:=P) p1 p2 hf;refine eX jw hs cA (v:= .int k z) ?_ (.d (.v _)) h;rw[aa2 c hc ho];unfold Builtin.min_;rw[e1];simp only[Bool.false_eq_true,if_false]at e2;rw[e2];rfl
   next=>exact h.elim
  next f hc=>
   have call:∀(g:FuncId)(dy:agU AV)(vs:Array agY),a.eval f= .func (.func g) #[] vs→vs.size=dy.length→(∀(i:Nat)(u:agY)(c:AV),vs[i]?=some u→dy[i]?=some c→aE G w u c)→
       bD P g (c.args.toList.map (ev s)++dy) s.h (fun r h'=>K ((s.wh h').put o.dst r))→o.wpIn (WF r) n P a w (iE N0 G w K) Q:=by
       intro g dy vs ea hl hr h;obtain⟨p1,p2⟩:=AZ hs c.args;obtain⟨BH,je⟩:=h;have tZ:=je G w (c.args.map a.eval++vs) hs.inv (by rw[Array.size_append,af6,p1,hl]) (fun i u x hu hx=>by
        by_cases hi:i<(c.args.map a.eval).size
        ·rw[Array.getElem?_append_left hi]at hu;rw[agf (by rw[←p1];exact hi)]at hx;exact p2 i u x hu hx
        ·rw[Array.getElem?_append_right (by omega)]at hu;rw[agm (by rw[←p1];omega)]at hx;rw[p1]at hu;exact hr _ u x hu hx)
       refine⟨fun _ _=>trivial,?_⟩;have dv:(o.semAt (WF r).round a.eval).run P w= .ok (.enter g (c.args.map a.eval++vs)) w:=by
        rw[Oper.semAt_eq _ _ _ jw];unfold execOp;simp only[ho,resolve,hc,ea];simp [Deferred.ofValue,invoke,Mu BH]
       rw[dv];refine⟨fun h=>(by simp [WF,Fence.wide]at h),?_⟩;have h2:=callsIn_wide (n:=n-1).2 tZ;refine CallsIn.mono (F:=WF r) h2 ?_;rintro e w' ⟨v,G',x,h',rfl,x1,x2,x3,x4,x5⟩;exact⟨G',_,x1.less cA,ago cA x2,(hs.move x1 x2 x3).put x4 o.dst,x5⟩
   split at h
   next g dy hg=>
    have hf:=dt f;rw[hg]at hf;generalize ea:a.eval f=u at hf;cases hf with
    |fn _ vs _ hl hr=>exact call g dy vs ea hl hr h
   next q hg=>
    obtain⟨g,cs,rfl,h⟩:=h;have hf:=dt f;rw[hg]at hf;generalize ea:a.eval f=u at hf;cases hf with
    |hid hq h1=>
     cases hq with
     |fn _ vs _ hl hr=>exact call g (cs.map gC.av) vs ea (by rw[aga];exact hl) (fun i u c hu hc=>by
        rw[agc]at hc;cases hx:cs[i]? with
        |none=>rw[hx]at hc;cases hc
        |some d=>rw[hx]at hc;cases hc;exact(hr i u d hu hx).av) h
   next=>exact h.elim
  next=>exact h.elim
 next op _=>
  split at h
  next x h' p hx=>exact aeO hs cA hx h.1 h.2
  next=>exact h.elim
theorem K8(hs:cT G w a s){x:agW Operand}{d:Nat}{z:Int}(h:rS (ev s) d x=some z)(h0:0≤z):yu a x d z.toNat:=by
 cases x with
 |none=>
  simp only[rS,Option.some.injEq]at h;subst h;show _=d;exact agx d
 |some y=>
  simp only[rS]at h;obtain⟨k,e⟩:=(hs.ev y).int h;exact⟨k,z,e,h0,rfl⟩
theorem kK{α:Type}{b:Bool}{x y:α}(h:(bif b then some x else none)=some y):b=true∧x=y:=by
 cases b with
 |true=>exact⟨rfl,agp h⟩
 |false=>cases h
theorem Yq{α:Type}{b:Bool}{x:agW α}{y:α}(h:(bif b then x else none)=some y):b=true∧x=some y:=by
 cases b with
 |true=>exact⟨rfl,h⟩
 |false=>cases h
theorem PC(hs:cT G w a s)(cA:N0≤G.N)(h:F9 P o K s):o.wpIn (WF r) n P a w (iE N0 G w K) Q:=by
 obtain⟨va,x,h',p,hx,hp,hK⟩:=h;have dt:=hs.ev;unfold gW at hx;split at hx
 next T y i ho=>
  split at hx
  ·next n' o' len L k z e k' i' e1 e2 e3=>
   split at hx
   ·next e4 k2 cs hn=>
    obtain⟨hb,he⟩:=kK hx;cases he
    rw[af7,beq_iff_eq,beq_iff_eq]at hb;obtain⟨rfl,rfl⟩:=hb;obtain⟨hL,h0,aN,rfl⟩:=hp;obtain⟨eP,fe⟩:=iV e3;obtain⟨kz,ez⟩:=(dt i).int e2;have hv:=dt y;rw[e1]at hv;have jx:=hv.nJ hs.inv hn hL;obtain⟨qU,⟨A,c,q1,q2,q3,q4,q5⟩,_⟩:=jx;obtain⟨g,cap,s1,rfl,s3⟩:=q5 (by omega);have Jf:z<(len:Int):=aN;refine eX (by rw[ho];simp) hs cA (v:= .pointer (some ⟨g,o'*k2+z.toNat*k2,none⟩)) ?_ (.de n' (o'+z.toNat) 0 L k2 (hs.inv.lt hn) ⟨_,_,rfl⟩ (by rw[(hs.inv.dh n' _ hn).1,hL];exact agh _) fun _=>⟨by omega,g,cap,s1,?_⟩) hK
    ·unfold execOp;simp [ho,q1,ez,Instr.indexAt,asIntOf,run_underlying eP,h0,Jf,kJ fe,kt]
    ·rw[Nat.add_mul];rfl
   ·cases hx
  ·cases hx
 next T y f ho=>
  split at hx
  ·next n' i j L k fo q g e1 hT=>
   cases hx
   have hv:=dt y;rw[e1]at hv;generalize ea:a.eval y=u at hv;cases hv with
   |de _ _ _ _ _ mm KD hL hf=>
    obtain⟨pb,pq,rfl⟩:=KD;refine eX (by rw[ho];simp) hs cA (v:= .pointer (some ⟨pb,pq+fo,none⟩)) (by unfold execOp;simp [ho,ea,IX hT]) (.de n' i (j+fo) L k mm ⟨_,_,rfl⟩ hL fun e=> ?_) hK;obtain⟨a1,g2,cap,a2,a3⟩:=hf e;refine⟨a1,g2,cap,a2,?_⟩;injection a3 with a3;injection a3 with a3;injection a3 with a4 a5;subst a4;subst a5;rw[Nat.add_assoc]
  ·cases hx
 next y ho=>
  split at hx
  ·next n' i j L k e1=>
   cases hx
   have hv:=dt y;rw[e1]at hv;have TI:=hv;generalize ea:a.eval y=u at hv TI;cases hv with
   |de _ _ _ _ _ mm KD hL hf=>
    obtain⟨pb,pq,rfl⟩:=KD;exact eX (by rw[ho];simp) hs cA (by unfold execOp;simp [ho,ea]) TI hK
  ·cases hx
 next t y ho=>
  split at hx
  ·next n' i j L k c e1=>
   split at hx
   ·next e k' cs z hn hz=>
    obtain⟨hb,he⟩:=kK hx;cases he
    rw[beq_iff_eq]at hb;subst hb;have hv:=dt y;rw[e1]at hv;obtain⟨u,r1,r2⟩:=V9 hs.inv hn hp.1 hp.2 hz hv;exact eX (by rw[ho];simp) hs cA (by unfold execOp;simp [ho,r1]) r2 hK
   ·cases hx
  ·cases hx
 next t y z ho=>
  split at hx
  ·next n' i j L k c bV e1=>
   split at hx
   ·next e k' cs q hn hq=>
    obtain⟨hb,he⟩:=kK hx;cases he
    simp only[af7,beq_iff_eq,dA]at hb;obtain⟨⟨⟨⟨rfl,rfl⟩,Hw⟩,hj⟩,fR⟩:=hb;obtain⟨hL,hc,rfl⟩:=hp;have hv:=dt y;rw[e1]at hv;obtain⟨w',G',r1,r2,r3,r4⟩:=aal hs.inv hn hL hc hv (dt z) Hw hq hj fR;exact Lw (by rw[ho];simp) hs cA (by unfold execOp;simp [ho,r1]) r2 r3 r4 hK
   ·cases hx
  ·cases hx
 next T y lo hi ho=>
  split at hx
  ·next n' o' len L k e k' oo ll e1 hT=>
   split at hx
   ·next l u hl hu=>
    split at hx
    ·next e4 k2 cs hn=>
     obtain⟨hb,he⟩:=kK hx;cases he
     rw[af7,beq_iff_eq,beq_iff_eq]at hb;obtain⟨rfl,rfl⟩:=hb;obtain⟨hL,h0,hlu,huL,rfl,rfl⟩:=hp;obtain⟨eP,fe⟩:=iV hT;have hv:=dt y;rw[e1]at hv;have jx:=hv.nJ hs.inv hn hL;obtain⟨qU,⟨A,c,q1,q2,q3,q4,q5⟩,_⟩:=jx;have hb:=zW (P:=P) (wu:=true) (K8 hs hl h0) (K8 hs hu (by omega)) (by omega) (show u.toNat≤c by omega) w;refine eX (by rw[ho];simp) hs cA (v:= .slice (if c=l.toNat then A else A.map (·.add (l.toNat*k2))) (u.toNat-l.toNat) (c-l.toNat)) ?_ (.vec n' (o'+l.toNat) (u.toNat-l.toNat) L k2 (hs.inv.lt hn) ⟨_,_,_,rfl⟩ (by rw[(hs.inv.dh n' _ hn).1,hL];exact agh _) fun _=>⟨by omega,⟨_,_,rfl,by omega,by omega,by omega,fun ho2=> ?_⟩,fun h1 h2=> ?_⟩) hK
     ·unfold execOp;simp [ho,q1,Instr.sliceAt,Instr.slice,run_underlying eP,hb,kJ fe]
     ·obtain⟨g,cap,s1,rfl,s3⟩:=q5 (by omega);refine⟨g,cap,s1,?_,by omega⟩;rw[if_neg (by omega)];simp [kt,Nat.add_mul]
     ·have Xj:o'=0:=by omega
      have Fw:l.toNat=0:=by omega
      subst Xj;rw[Fw];rw[Fw]at h2;simp only[Nat.sub_zero]at h2 ⊢;by_cases uJ:L=0
      ·subst uJ;have:len=0:=by omega
       subst this
       rename_i eV
       rw[←eV rfl rfl,q1,h2];split
       ·rfl
       ·cases A<;>simp [Addr.add]
      ·obtain⟨g,cap,s1,rfl,s3⟩:=q5 (by omega);rw[s1,h2];have:c=cap:=by omega
       subst this;split<;>simp [kt]
    ·cases hx
   ·cases hx
  ·cases hx
 next T l c ho=>
  split at hx
  ·next e k z1 z2 cs len m hT e1 e2=>
   split at hx
   ·next z dc hz np=>
    obtain⟨hb,he⟩:=kK hx;cases he
    simp only[af7,beq_iff_eq,dA]at hb;obtain⟨⟨fR,iM⟩,_⟩:=hb;obtain⟨h0,jN,hl,hc,rfl,hm,lk⟩:=hp;obtain⟨eP,fe⟩:=iV hT;obtain⟨inf,i1,i2,i3⟩:=Kq fe np;have zV:inf.zero=some z:=by
     obtain⟨i',j1,j2⟩:=EA hz;rw[i1]at j1;cases j1;exact j2
    obtain⟨k1,ez1⟩:=(dt l).int e1;obtain⟨k2,ez2⟩:=(dt c).int e2;obtain⟨u,w',G',r1,r2,r3,r4,r5⟩:=Y3 (kl:=k1) (kc:=k2) hs.inv eP i1 zV i2 i3 iM fR h0 jN hl hc hm lk;exact mC (by rw[ho];simp) hs cA (by unfold execOp;simp [ho,ez1,ez2,r1]) r2 r3 r4 r5 hK
   ·cases hx
  ·cases hx
 next c ho=>
  have jw:∀c,o.op≠ .defer c:=by rw[ho];simp
  split at hx
  next hc=>
   split at hx
   ·next y T h1 h2=>
    split at hx
    ·next n' oo len L k e1=>
     split at hx
     ·next e4 k2 cs hn=>
      obtain⟨hb,he⟩:=kK hx;cases he
      rw[af7,beq_iff_eq]at hb;obtain⟨hT,rfl⟩:=hb;obtain⟨⟨e,q⟩,hT⟩:=Option.isSome_iff_exists.1 hT;have hv:=dt y;rw[e1]at hv;have jx:=hv.nJ hs.inv hn hp;obtain⟨qU,⟨A,cc,q1,q2,q3,q4,q5⟩,_⟩:=jx;exact eX jw hs cA (v:= .int .i64 len) (by rw[MP c hc h1 h2 ho,q1];simp [Builtin.len_,run_underlying (iV hT).1,goInt]) (.d (.v _)) hK
     ·cases hx
    ·cases hx
   ·cases hx
  next hc=>
   split at hx
   ·next y z T U h1 h2=>
    split at hx
    ·next e k pU bV ys L' fQ hT hU=>
     split at hx
     ·next z0 dc hz np=>
      obtain⟨hb,hx⟩:=Yq hx;rw[af7,beq_iff_eq,dA]at hb;obtain⟨fR,iM⟩:=hb;obtain⟨eP,fe⟩:=iV hT;obtain⟨inf,i1,i2,i3⟩:=Kq fe np;have zV:inf.zero=some z0:=by
       obtain⟨i',j1,j2⟩:=EA hz;rw[i1]at j1;cases j1;exact j2
      have iK:z0.cells.size=k:=by rw[←agD];exact iM
      obtain⟨eU,kU⟩:=pU;split at hx
      ·next n' oo len L k1 e1=>
       split at hx
       ·next e4 k2 cs hn=>
        obtain⟨hb,he⟩:=kK hx;cases he
        simp only[af7,beq_iff_eq]at hb;obtain⟨⟨rfl,rfl⟩,rfl⟩:=hb;obtain⟨hL,uL,rfl,oB⟩:=hp;obtain⟨us,hr,yD⟩:=Lq (tx:=U) hs.inv (dt z) uL fR (iV hU).1;have hv:=dt y;rw[e1]at hv;obtain⟨u,w',G',r1,r2,r3,r4,r5⟩:=acw (ty:=o.type) hs.inv eP i1 zV i2 i3 iK fR hn hL hv hr yD oB;exact mC jw hs cA (by rw[yS c hc h1 h2 ho,r1];rfl) r2 r3 r4 r5 hK
       ·cases hx
      ·next e1=>
       cases hx
       obtain⟨uL,rfl,rfl,rfl,jz,l7⟩:=hp;obtain⟨us,hr,yD⟩:=Lq (tx:=U) hs.inv (dt z) uL fR (iV hU).1;have hv:=dt y;rw[e1]at hv;have ev:=hv.val;obtain⟨u,w',G',r1,r2,r3,r4,r5⟩:=SE (ty:=o.type) (A:=none) hs.inv eP i1 zV i2 i3 iK fR hr yD jz l7;exact mC jw hs cA (by rw[yS c hc h1 h2 ho,ev,r1];rfl) r2 r3 r4 r5 hK
      ·next xs e1=>
       cases hx
       obtain⟨rfl,uL,rfl,rfl,rfl,jz,l7⟩:=hp;obtain⟨us,hr,yD⟩:=Lq (tx:=U) hs.inv (dt z) uL fR (iV hU).1;have hv:=dt y;rw[e1]at hv;obtain⟨A,eA⟩:∃A,a.eval y= .slice A 0 0:=by
        generalize a.eval y=u at hv;cases hv with|full _ _ hf=>exact hf
       obtain⟨u,w',G',r1,r2,r3,r4,r5⟩:=SE (ty:=o.type) (A:=A) hs.inv eP i1 zV i2 i3 iK fR hr yD jz l7;exact mC jw hs cA (by rw[yS c hc h1 h2 ho,eA,r1];rfl) r2 r3 r4 r5 hK
      ·cases hx
     ·cases hx
    ·cases hx
   ·cases hx
  next=>cases hx
 next=>cases hx
theorem aeq(hs:cT G w a s)(cA:N0≤G.N)(h:zJ P o K s):o.wpIn (WF r) n P a w (iE N0 G w K) Q:=by
 have dt:=hs.ev;unfold zJ at h;split at h
 ·next op T x y U ho=>
  split at h
  ·next xs pT v1 v2 hx hy hT h1 h2=>
   obtain⟨e,k⟩:=pT;have eP:=(iV hT).1;have hv:=dt y;rw[hy]at hv;have ey:=hv.val;obtain⟨A,b,oo,c,k',u,ex,hA,_,_,_,_,_⟩:=((dt x).list hx).m8;have hg:(eqGuard op T x y (a.eval x) (a.eval y)).run P w= .ok () w:=by rw[ex,ey];unfold eqGuard;cases op<;>simp
   have dv:(binOp op T (a.eval x) (a.eval y)).run P w= .ok (if A.isNone then v1 else v2) w:=by
    rw[ex,ey];have hq:=run_equal_slice_nil (P:=P) (w:=w) T e A xs.length c eP;cases op<;>simp [uX]at h1 h2<;>subst h1<;>subst h2<;>simp [binOp,hq]<;>cases A<;>rfl
   have hex:(execOp a.eval o).run P w= .ok (.value (if A.isNone then v1 else v2)) w:=by
    unfold execOp;simp only[ho];rw[Sem.run_bind,Sem.run_bind,hg];simp only[Result.andThen_ok];rw[dv];rfl
   cases A with
   |none=>
    have kp:xs=[]:=Classical.byContradiction fun cO=>by have:=hA cO;cases this
    exact eX (by rw[ho];simp) hs cA hex (.d (.v _)) (h.1 kp)
   |some ad=>exact eX (by rw[ho];simp) hs cA hex (.d (.v _)) h.2
  ·exact h.elim
 ·exact h.elim
theorem Mf(hs:cT G w a s)(cA:N0≤G.N)(h:aeS P o K s):o.wpIn (WF r) n P a w (iE N0 G w K) Q:=by
 rcases h with h|h|h
 ·exact PC hs cA h
 ·exact aeq hs cA h
 ·exact QY hs cA h
end
theorem aE.zm{G:Gh}{w:agZ}{u:agY}{x:AV}(Z:Nat→Prop)(M:Nat)(h:aE G w u x):aE {G with Z:=Z,M:=M} w u x:=by
 induction h with
 |agg vs cs hl _ ih=>exact .agg vs cs hl ih
 |bU vs cs hl _ ih=>exact .bU vs cs hl ih
 |fn f vs cs hl _ ih=>exact .fn f vs cs hl ih
 |own n xs h hp hle hf=>exact .own n xs h hp hle hf
 |ptr n off h=>exact .ptr (G:={G with Z:=Z,M:=M}) n off h
 |row n off len cap k h hl hm=>exact .row (G:={G with Z:=Z,M:=M}) n off len cap k h hl hm
 |mp n h=>exact .mp (G:={G with Z:=Z,M:=M}) n h
 |c7 n h=>exact .c7 (G:={G with Z:=Z,M:=M}) n h
 |vec n o len L k h hs hL hf=>exact .vec (G:={G with Z:=Z,M:=M}) n o len L k h hs hL hf
 |de n i j L k h hs hL hf=>exact .de (G:={G with Z:=Z,M:=M}) n i j L k h hs hL hf
 |hid h h1=>exact .hid h h1
 |d h=>exact .d h
 |aW xs i off b o u x hx hS hu=>exact .aW xs i off b o u x hx hS hu
 |full xs hp hf=>exact .full xs hp hf
 |dead u=>exact .dead u
theorem dY.zm{G:Gh}{w:agZ}{n:Nat}{B:an}(Z:Nat→Prop)(M:Nat)(hz:∀b,Z b→G.Z b)(h:dY G w n B):dY {G with Z:=Z,M:=M} w n B:=by
 cases B with
 |gone=>trivial
 |cells cs=>
  obtain⟨h1,h2,vs,T,h3,h4,h5⟩:=h;exact⟨fun k=>h1 (hz _ k),h2,vs,T,h3,h4,fun i u c hu hc=>(h5 i u c hu hc).zm Z M⟩
 |lp ls p as bd cs=>
  obtain⟨h1,h2,fn,vs,T,h3,h4,h5⟩:=h;exact⟨fun k=>h1 (hz _ k),h2,fn,vs,T,h3,h4,fun i u c hu hc=>(h5 i u c hu hc).zm Z M⟩
 |it sn cs=>
  obtain⟨h1,h2,fn,vs,T,h3,h4,h5⟩:=h;exact⟨fun k=>h1 (hz _ k),h2,fn,vs,T,h3,h4,fun i u c hu hc=>(h5 i u c hu hc).zm Z M⟩
 |map kv=>
  obtain⟨h1,h2,es,c,h3,h4⟩:=h;exact⟨fun k=>h1 (hz _ k),h2,es,c,h3,h4⟩
 |front e k len=>
  obtain⟨h1,hm,h2⟩:=h;refine⟨h1,hm,?_⟩;rcases h2 with h2|⟨g,cap,cur,h2,h3,h4,h5⟩
  ·exact .inl h2
  ·exact .inr ⟨g,cap,cur,h2,h3,fun k=>h4 (hz _ k),h5⟩
 |vec e k cs=>
  obtain⟨h1,hm,hk,h2⟩:=h;refine⟨h1,hm,hk,?_⟩;rcases h2 with h2|⟨g,cap,cur,h2,h3,h4,h5,h6,h7,h8,h9,aJ⟩
  ·exact .inl h2
  ·exact .inr ⟨g,cap,cur,h2,h3,fun k=>h4 (hz _ k),h5,h6,h7,h8,h9,fun i j c x u hc hx hu=>(aJ i j c x u hc hx hu).zm Z M⟩
theorem Gf{h:agU an}{G:Gh}{n:Nat}(Z:Nat→Prop)(M:Nat):bR h {G with Z:=Z,M:=M} n=bR h G n:=by
 unfold bR;cases h[n]? with
 |none=>rfl
 |some B=>cases B<;>rfl
theorem bO.zm{G:Gh}{w:agZ}{h:agU an}(hi:bO G w h)(Z:Nat→Prop)(M:Nat)(hz:∀b,Z b→G.Z b)(hM:M≤w.heap.size):bO {G with Z:=Z,M:=M} w h:=
 ⟨hi.len,fun b hb=>hi.z b (hz b hb),hi.S,fun n B hB=>(hi.dh n B hB).zm Z M hz,fun m n b h1 h2=>hi.inj m n b (by rw[←Gf Z M];exact h1) (by rw[←Gf Z M];exact h2),⟨hi.gl.1,hM⟩⟩
def nT(l:agU Nat)(w:agZ):agZ:=l.foldl (fun w D=>w.putObj D (.deferred none)) w
theorem Rh:∀(l:agU Nat)(w:agZ),(∀D∈l,w.heap[D]?=some (.deferred (some [])))→l.Nodup→
 (nT l w).heap.size=w.heap.size∧(∀b,b ∉ l→(nT l w).heap[b]?=w.heap[b]?)∧(∀b o,(nT l w).cell? ⟨b,o,none⟩=w.cell? ⟨b,o,none⟩)∧(nT l w).os=w.os∧(nT l w).tape=w.tape∧(nT l w).output=w.output
 |[],w,_,_=>⟨rfl,fun _ _=>rfl,fun _ _=>rfl,rfl,rfl,rfl⟩
 |D::l,w,hd,hn=>by
  rw[List.nodup_cons]at hn;have hD:=hd D agb;have aN:=(agl.1 hD).1;obtain⟨h1,h2,h3,h4,h5,h6⟩:=Rh l (w.putObj D (.deferred none)) (fun E hE=>by
    have cO:E≠D:=fun e=>hn.1 (e▸hE);rw[World.putObj_heap_other cO];exact hd E (age _ hE)) hn.2
  refine⟨h1.trans (by simp),fun b hb=> ?_,fun b o=> ?_,h4,h5,h6⟩
  ·exact(h2 b fun h=>hb (age _ h)).trans (World.putObj_heap_other fun e=>hb (e▸agb))
  ·refine(h3 b o).trans ?_;by_cases e:b=D
   ·subst e;unfold World.cell?;simp only[World.putObj_heap_same aN,hD]
   ·exact World.cell?_of_block (World.putObj_heap_other e)
theorem Up{F:Fence}{n:Nat}{P:agX}{fn:Func}{tmps:Array agY}{R:Ending→agZ→Prop}:∀(l:agU Nat)(w:agZ),(∀D∈l,w.heap[D]?=some (.deferred (some [])))→l.Nodup→
 LeavesIn F n P fn tmps R [] .returning (nT l w)→LeavesInM F n P fn tmps R (l.map fun D=>{target:= .collected D,args:= #[]}) .returning w
 |[],w,_,_,h=>h
 |D::l,w,hd,hn,h=>by
  rw[List.nodup_cons]at hn;exact⟨by simp, .inl ⟨D,_,rfl,run_takeDeferred (hd D agb),Up l _ (fun E hE=>by
    have cO:E≠D:=fun e=>hn.1 (e▸hE);rw[World.putObj_heap_other cO];exact hd E (age _ hE)) hn.2 h⟩⟩
theorem abH{N0:Nat}{G G1:Gh}{w w':agZ}{a':Act}{s1:St}(hE:bK N0 {G with M:=w.heap.size} w G1 w')(hN:N0≤G1.N)(hz:∀b,G.Z b→b<w.heap.size)(VK:G.M≤w.heap.size)(hs:cT G1 w' a' s1):
 ∃(w2:agZ)(G2:Gh),(∀(F:Fence)(n:Nat)(P:agX)(fn:Func)(R:Ending→agZ→Prop),(∃v,(results fn a'.tmps).run P w2= .ok v w2∧R (.returned v) w2)→LeavesInM F n P fn a'.tmps R a'.defers .returning w')∧
  bK N0 G w G2 w2∧G2.N=G1.N∧cT G2 w2 {a' with defers:=[]} s1:=by
 obtain⟨l,l1,l2,l3⟩:=hs.df;have hd:∀D∈l,w'.heap[D]?=some (.deferred (some [])):=fun D hD=>(l3 D hD).2.2;obtain⟨h1,h2,h3,h4,h5,h6⟩:=Rh l w' hd l1;have hM:G1.M=w.heap.size:=hE.Z.2;have iK:∀b,G.Z b→b ∉ l:=fun b hb hl=>by
  have:=(l3 b hl).1;have:=hz b hb;omega
 obtain⟨G2,gz⟩:∃G2:Gh,G2={G1 with Z:=G.Z,M:=G.M}:=⟨_,rfl⟩;have z7:∀b,G.Z b→G1.Z b:=hE.Z.1.1;have jC:bO G2 w' s1.h:=by rw[gz];exact hs.inv.zm _ _ z7 (ago VK hE.size)
 have jr:bK N0 G w G2 w':=by
  rw[gz];exact⟨hE.size,hE.S,hE.cell,hE.bg,hE.fr,fM rfl,hE.old,hE.os,hE.tape,hE.output,hE.new⟩
 have jB:bK G2.N G2 w' G2 (nT l w'):=⟨by rw[h1];exact agh _,fun _ _ h=>h,fun b o _=>h3 b o,fun _ _=>rfl,fun _ _=> .inl ⟨rfl,rfl⟩,fM rfl,fun b hb=>h2 b (iK b (by rw[gz]at hb;exact hb)),h4,h5,h6,fun _ _ h=> .inl h⟩;have C4:bO G2 (nT l w') s1.h:=⟨jC.len,fun b hb=>by rw[h1];exact jC.z b hb,fun b o hb=>by rw[h1];exact jC.S b o hb,fun n B hB=>dY.keep (jC.lt hB) jB (agh _) ⟨rfl,rfl,rfl⟩ (fun b hb=>⟨h2 b fun hl=>(hs.inv.dh n B hB).kD (by rw[gz]at hb;cases B<;>exact hb) (l3 b hl).2.1,fun _ h=>h⟩) (jC.dh n B hB),jC.inj,jC.gl.keep jB⟩;refine⟨nT l w',G2,fun F n P fn R h=> ?_,jr.trans (jB.less (by rw[gz];exact hN)),by rw[gz],⟨hs.size,fun i=>aE.keep jB (agh _) (by rw[gz];exact(hs.tmp i).zm _ _),C4,oF.nil _ _⟩⟩;rw[l2];exact Up l w' hd l1 h
section
variable {G:Gh} {w:agZ} {h:agU an}
theorem acN(hi:bO G w h)(fn:FuncId)(tm:Array agY)(D p:Nat)(as bd:Code)(cs:agU AV)(hl:tm.size=cs.length)(hr:∀(i:Nat)(u:agY)(c:AV),tm[i]?=some u→cs[i]?=some c→aE G w u c):bK G.N G w (G.dT w.heap.size) (w.alloc (.loop {state:= .ready,pending:=none,fn:=fn,tmps:=tm,params:= #[p],assign:=as,body:=bd,defers:=D}))∧bO (G.dT w.heap.size) (w.alloc (.loop {state:= .ready,pending:=none,fn:=fn,tmps:=tm,params:= #[p],assign:=as,body:=bd,defers:=D})) (h++[.lp .ready p as bd cs])∧aE (G.dT w.heap.size) (w.alloc (.loop {state:= .ready,pending:=none,fn:=fn,tmps:=tm,params:= #[p],assign:=as,body:=bd,defers:=D})) (.func (.yield w.heap.size) #[] #[]) (.c7 h.length):=by
 have hE:=za G w hi.z hi.S (.loop {state:= .ready,pending:=none,fn:=fn,tmps:=tm,params:= #[p],assign:=as,body:=bd,defers:=D});have hN:G.N≤(G.dT w.heap.size).N:=Nat.le_succ _;have iR:(G.dT w.heap.size).bg h.length=w.heap.size:=by simp [Gh.dT,hi.len]
 have lF:∀n(B:an),n<G.N→B.dU (G.dT w.heap.size) n=B.dU G n:=fun n B hn=>by
  cases B<;>simp [an.dU,Gh.dT,Nat.ne_of_lt hn]
 have fu:∀n,n<G.N→bR (h++[.lp .ready p as bd cs]) (G.dT w.heap.size) n=bR h G n:=fun n hn=>by
  have aN:n<h.length:=by rw[hi.len];exact hn
  unfold bR;rw[agf aN,af9 aN];exact lF n _ hn
 have Ai:bR (h++[.lp .ready p as bd cs]) (G.dT w.heap.size) h.length=some w.heap.size:=by
  rw[dC (B:= .lp .ready p as bd cs) (by simp)];exact congrArg some iR
 refine⟨hE,⟨by simp [Gh.dT,hi.len],fun b hb=>agu (hi.z b hb) hE.size,fun b o hs=>agu (hi.S b o hs) hE.size,fun n B hB=> ?_,fun m n b hm hn=> ?_,hi.gl.keep hE⟩,?_⟩
 ·by_cases hn:n<h.length
  ·rw[agf hn]at hB;have eD:n<G.N:=hi.len▸hn;exact dY.keep eD hE hN ⟨rfl,rfl,rfl⟩ (fun b hb=>⟨Below.heap_alloc w _ _ (hi.iC (n:=n) ((dC hB).trans hb)),fun o h=>h⟩) (hi.dh n B hB)
  ·have lG:n=h.length:=by
    have:=(af5.1 hB).1;simp at this;omega
   subst lG;simp at hB;subst hB;exact⟨by rw[iR];exact fun hz=>agK _ (hi.z _ hz),fun o hs=>by rw[iR]at hs;exact agK _ (hi.S _ _ hs),fn,tm,D,by rw[iR];exact World.alloc_heap_new w _,hl,fun i u c hu hc=>(hr i u c hu hc).keep hE hN⟩
 ·have key:∀n b,bR (h++[.lp .ready p as bd cs]) (G.dT w.heap.size) n=some b→(n<G.N∧bR h G n=some b)∨(n=h.length∧b=w.heap.size):=fun n b hn=>by
   by_cases aN:n<G.N
   ·exact .inl ⟨aN,by rw[←fu n aN];exact hn⟩
   ·by_cases e:n=h.length
    ·subst e;rw[Ai]at hn;cases hn;exact .inr ⟨rfl,rfl⟩
    ·rw[vF (agC (by simp;have:=hi.len;omega))]at hn;cases hn
  rcases key m b hm with⟨_,kd⟩|⟨rfl,rfl⟩<;>rcases key n _ hn with⟨_,eD⟩|⟨rfl,hb⟩
  ·exact hi.inj m n b kd eD
  ·have:=hi.iC kd;omega
  ·have:=hi.iC eD;omega
  ·rfl
 ·have:=aE.c7 (G:=G.dT w.heap.size) (w:=w.alloc (.loop {state:= .ready,pending:=none,fn:=fn,tmps:=tm,params:= #[p],assign:=as,body:=bd,defers:=D})) h.length (by simp [Gh.dT,hi.len])
  rwa [iR]at this
theorem SK{k:Nat}{B B':an}{ob wF:Obj}(hi:bO G w h)(hk:h[k]?=some B)(n4:B.dU G k=some (G.bg k))(hS:∀o,¬G.S (G.bg k) o)(kW:w.heap[G.bg k]?=some ob)(hn:B'= .gone∨B'.dU G k=some (G.bg k))
 (hB:∀w',(∀b o,G.S b o→w'.cell? ⟨b,o,none⟩=w.cell? ⟨b,o,none⟩)→w'.heap[G.bg k]?=some wF→bK G.N G w G w'→dY G w' k B'):bK G.N G w G (w.putObj (G.bg k) wF)∧bO G (w.putObj (G.bg k) wF) (h.set k B'):=by
 have aN:=(agl.1 kW).1;have hZ:¬G.Z (G.bg k):=(hi.dh k B hk).kD n4;have gS:∀b,b≠G.bg k→(w.putObj (G.bg k) wF).heap[b]?=w.heap[b]?:=fun b hb=>World.putObj_heap_other hb;have fg:∀b o,G.S b o→(w.putObj (G.bg k) wF).cell? ⟨b,o,none⟩=w.cell? ⟨b,o,none⟩:=fun b o hs=>World.cell?_of_block (gS b (fun e=>hS o (e▸hs)));have hE:bK G.N G w G (w.putObj (G.bg k) wF):=⟨by simp,fun _ _ h=>h,fg,fun _ _=>rfl,fun _ _=> .inl ⟨rfl,rfl⟩,fM rfl,fun b hb=>gS b (fun e=>hZ (e▸hb)),rfl,rfl,rfl,fun _ _ h=> .inl h⟩;refine⟨hE,?_⟩;have PA:=(af5.1 hk).1;have kx:(h.set k B')[k]?=some B':=by rw[agz PA]
 have eN:∀m,m≠k→(h.set k B')[m]?=h[m]?:=fun m hm=>by rw[agE (Ne.symm hm)]
 have kQ:bR h G k=some (G.bg k):=(dC hk).trans n4;have dL:∀m b,bR (h.set k B') G m=some b→bR h G m=some b:=fun m b hb=>by
  by_cases e:m=k
  ·subst e;rw[dC kx]at hb;rcases hn with rfl|hn
   ·cases hb
   ·rw[hn]at hb;cases hb;exact kQ
  ·unfold bR at hb ⊢;rw[eN m e]at hb;exact hb
 refine⟨by rw[List.length_set];exact hi.len,fun b hb=>agu (hi.z b hb) hE.size,fun b o hs=>agu (hi.S b o hs) hE.size,fun m C hC=> ?_,fun m m' b h1 h2=>hi.inj m m' b (dL m b h1) (dL m' b h2),hi.gl.keep hE⟩;by_cases e:m=k
 ·subst e;rw[kx]at hC;cases hC
  exact hB _ fg (World.putObj_heap_same aN) hE
 ·rw[eN m e]at hC;have cO:∀b,bR h G m=some b→b≠G.bg k:=fun b hb eb=>e (hi.inj m k b hb (by rw[eb];exact kQ));exact dY.keep (hi.lt hC) hE (agh _) ⟨rfl,rfl,rfl⟩ (fun b hb=>⟨gS b (cO _ ((dC hC).trans hb)),fun o h=>h⟩) (hi.dh m C hC)
theorem E1{k:Nat}{ls:LS}{p:Nat}{as bd:Code}{cs:agU AV}(hi:bO G w h)(hk:h[k]?=some (.lp ls p as bd cs)):
 (∀o,¬G.S (G.bg k) o)∧∃(fn:FuncId)(tm:Array agY)(D:Nat),w.heap[G.bg k]?=some (.loop {state:=ls.st,pending:=ls.pd,fn:=fn,tmps:=tm,params:= #[p],assign:=as,body:=bd,defers:=D})∧tm.size=cs.length∧(∀(i:Nat)(u:agY)(c:AV),tm[i]?=some u→cs[i]?=some c→aE G w u c)∧
   ∀(x9:LS),bK G.N G w G (w.putObj (G.bg k) (.loop {state:=x9.st,pending:=x9.pd,fn:=fn,tmps:=tm,params:= #[p],assign:=as,body:=bd,defers:=D}))∧bO G (w.putObj (G.bg k) (.loop {state:=x9.st,pending:=x9.pd,fn:=fn,tmps:=tm,params:= #[p],assign:=as,body:=bd,defers:=D})) (h.set k (.lp x9 p as bd cs)):=by
 obtain⟨h1,h2,fn,tm,D,h3,h4,h5⟩:=hi.dh k _ hk;refine⟨h2,fn,tm,D,h3,h4,h5,fun x9=>SK hi hk rfl h2 h3 (.inr rfl) fun w' hc eB hE=>⟨h1,h2,fn,tm,D,eB,h4,fun i u c hu jk=>(h5 i u c hu jk).keep hE (agh _)⟩⟩
theorem afv{k:Nat}{ls:LS}{p:Nat}{as bd:Code}{cs:agU AV}(hi:bO G w h)(hk:h[k]?=some (.lp ls p as bd cs))(ob:Obj):bK G.N G w G (w.putObj (G.bg k) ob)∧bO G (w.putObj (G.bg k) ob) (h.set k .gone):=by
 obtain⟨h1,h2,fn,tm,D,h3,h4,h5⟩:=hi.dh k _ hk;exact SK hi hk rfl h2 h3 (.inl rfl) fun _ _ _ _=>trivial
theorem aah(hi:bO G w h):bK G.N G w {G with Z:=fun b=>G.Z b∨b=w.heap.size} (w.alloc (.deferred (some [])))∧bO {G with Z:=fun b=>G.Z b∨b=w.heap.size} (w.alloc (.deferred (some []))) h:=by
 have hE:bK G.N G w {G with Z:=fun b=>G.Z b∨b=w.heap.size} (w.alloc (.deferred (some []))):=
  ⟨by simp,fun _ _ h=>h,fun b _ h=>World.cell?_alloc_lt _ _ _ (hi.S _ _ h),fun _ _=>rfl,fun _ _=> .inl ⟨rfl,rfl⟩,⟨⟨fun _ h=> .inl h,fun b h=>h.imp id fun e=>Nat.le_of_eq e.symm⟩,rfl⟩,fun b hb=>Below.heap_alloc w _ b (hi.z b hb),rfl,rfl,rfl,fun _ _ h=> .inl h⟩
 refine⟨hE,hi.len,fun b hb=> ?_,fun b o hs=>agu (hi.S b o hs) hE.size,fun n B hB=> ?_,fun m n b h1 h2=>hi.inj m n b (by rw[←Gf (fun b=>G.Z b∨b=w.heap.size) G.M];exact h1) (by rw[←Gf (fun b=>G.Z b∨b=w.heap.size) G.M];exact h2),hi.gl.keep hE⟩
 ·rcases hb with hb|rfl
  ·exact agu (hi.z b hb) hE.size
  ·simp
 ·exact dY.keep (hi.lt hB) hE (agh _) ⟨rfl,rfl,rfl⟩ (fun b hb=>⟨Below.heap_alloc w _ _ (hi.iC (n:=n) ((dC hB).trans hb)),fun o h=>h⟩) (hi.dh n B hB)
end
end Go.Proofs.YtphmhnabilhbgaaGreatDoor
