/-
  Part 1 of the proof: AbsGlob, AbsCore, AbsOps, AbsHeap, AbsStore, AbsApp, AbsOp, AbsOp2, AbsOp3, AbsMap, AbsVec, AbsVec2, AbsOp4, AbsLeave, AbsLoop.
-/
import Derived.WalkKit
import Derived.Laws.Strings
import Derived.Lib.Hide
import Derived.OrdersIn
import Derived.RangeFuncIn
import Derived.RangeFuncCalls
import Derived.RangeFuncLeaves
import Derived.RangeFuncFrom
import Derived.Deep.MidRow
import Derived.Laws.AppendOwn
import Derived.Maps.OwnOps
import Derived.KernelRfl
import Derived.Deep.AppendSrc
import Derived.Deep.Upon
import Derived.Laws.BytesString
import Derived.Laws.StructEq
import Derived.Laws.MakeOwn
import Derived.Laws.Cover3
namespace Go.Proofs.YtpgmcallngdceaaGreatDoor
open Go.RowKit
abbrev ake:=@Option.bind_some
abbrev akf:=@List.getElem?_eq_some_iff
abbrev akg:=@List.length_append
abbrev akh:=@Bool.and_eq_true
abbrev aki:=@List.length_cons
abbrev akj:=@List.getElem?_eq_getElem
abbrev akk:=@List.length_map
abbrev akl:=@List.mem_cons_self
abbrev akm:=@List.getElem?_map
abbrev akn:=@Nat.le_of_ble_eq_true
abbrev ako:=@List.mem_cons_of_mem
abbrev akp:=@List.getElem?_append_left
abbrev akq:=@Nat.le_refl
abbrev akr:=@List.length_nil
abbrev aks:=@List.mem_of_getElem?
abbrev akt:=@Nat.eq_of_beq_eq_true
abbrev aku:=@Array.getElem?_eq_some_iff
abbrev akv:=@List.getElem?_append_right
abbrev akw:=@List.append_assoc
abbrev akx:=@Nat.le_trans
abbrev aky:=@Option.some.inj
abbrev akz:=@Nat.zero_add
abbrev akA:=@List.append_nil
abbrev akB:=@Array.getElem?_eq_getElem
abbrev akC:=@Array.getElem?_toList
abbrev akD:=@Nat.lt_of_lt_of_le
abbrev akE:=@List.map_cons
abbrev akF:=@List.all_eq_true
abbrev akG:=@Int.toNat_natCast
abbrev akH:=@Nat.not_lt_zero
abbrev akI:=@List.getElem?_set_self
abbrev akJ:=@List.mem_cons
abbrev akK:=@List.map_congr_left
abbrev akL:=@List.getElem?_eq_none
abbrev akM:=@Array.length_toList
abbrev akN:=@List.getElem?_set_ne
abbrev akO:=@List.drop_zero
abbrev akP:=@List.length_replicate
abbrev akQ:=@List.getElem?_cons_succ
abbrev akR:=@List.mem_append
abbrev akS:=@List.take_append_drop
abbrev akT:=@Nat.lt_irrefl
abbrev akU:=@Nat.le_add_right
abbrev akV:=@List.not_mem_nil
abbrev akW:=@decide_eq_true
abbrev akX:=@decide_eq_false
abbrev akY:=@beq_self_eq_true
abbrev akZ:=@List.all_cons
abbrev ak0:=@List.any_cons
abbrev ak1:=@Nat.lt_succ_self
abbrev ak2:=@Bool.or_eq_false_iff
abbrev ak3:Type→Type:=List
abbrev ak4:=ByteArray
abbrev ak5:Type→Type:=Option
abbrev ak6:=Program
abbrev ak7:=Value
abbrev ak8:=World
def bL(a:ak4):ak3 UInt8:=a.data.toList
theorem Mv(a:ak4):a.toList=bL a:=ByteArray.toList_eq a
theorem OF{a b:ak4}(h:bL a=bL b):a=b:=by cases a;cases b;simp only[bL,Array.toList_inj]at h;rw[h]
def vi(l:ak3 Nat):ak3 ak7:=l.map fun n=>Value.int .u8 (Int.ofNat n)
def Dh:ak3 Nat:=(List.range 256).map fun n=>bif (Nat.ble 9 n&&Nat.ble n 13)||n==32 then 1 else 0
def yc:ak3 (Nat×ak3 ak7):=
 (0,vi Dh)::
  []
def yx:ak3 (Nat×ak3 ak7)→Nat→ak5 (ak3 ak7)
 |[],_=>none
 |(k,l)::r,g=>bif k==g then some l else yx r g
theorem Up:∀{t:ak3 (Nat×ak3 ak7)}{g:Nat}{l:ak3 ak7},yx t g=some l→(g,l)∈t
 |[],g,l,h=>by cases h
 |(k,l')::r,g,l,h=>by
  unfold yx at h;cases e:k==g with
  |true=>rw[e]at h;cases h;rw[beq_iff_eq]at e;subst e;simp
  |false=>rw[e]at h;exact ako _ (Up h)
inductive D where
 |v (u:Value)
 |sl (xs:List (List D))
inductive fQ where
 |d (x:D)
 |bE (c:List D) (off:Nat)
 |fn (f:FuncId) (cs:List fQ)
inductive AV where
 |d (x:D)
 |agg (cs:List AV)
 |bk (cs:List AV)
 |ptr (n off:Nat)
 |bE (xs:List (List D)) (i off:Nat)
 |own (n:Nat) (xs:List (List D))
 |full (xs:List (List D))
 |row (n off len cap k:Nat)
 |fn (f:FuncId) (cY:List AV)
 |mp (n:Nat)
 |cH (n:Nat)
 |vec (n o len L k:Nat)
 |cQ (n i j L k:Nat)
 |hid (c:fQ)
 |dead
inductive LS where
 |ready
 |busy
 |done (c:Code)
def LS.st:LS→LoopState
 | .ready=> .ready
 | .busy=> .busy
 | .done _=> .done
def LS.pd:LS→ak5 Code
 | .done c=>some c
 |_=>none
inductive aq where
 |cells (cs:List AV)
 |front (e:TypeId) (k len:Nat)
 |vec (e:TypeId) (k:Nat) (cs:List (List AV))
 |map (kv:List (ByteArray×D))
 |lp (ls:LS) (p:Nat) (as bd:Code) (cs:List AV)
 |it (sn:Bool) (cs:List AV)
 |gone
structure Gh where
 N:Nat
 Z:Nat→Prop
 S:Nat→Nat→Prop
 bm:Nat→Nat
 sg:Nat→Value
 ow:Nat→Option Nat
 fl:Nat→Nat
 M:Nat
inductive dc(S:Nat→Nat→Prop)(w:World):Value→D→Prop
 |v (u:Value):dc S w u (.v u)
 |sl (A:Option Addr) (b o c k:Nat) (xs:List (List D)) (u:Nat→Nat→Value)
    (hA:xs≠ []→A=some ⟨b,o,none⟩) (hc:xs.length≤c) (hm:c≤maxLen)
    (hk:∀x∈xs,x.length=k)
    (hS:∀i j,i<xs.length→j<k→S b (o+i*k+j)∧w.cell? ⟨b,o+i*k+j,none⟩=some (u i j)∧(u i j).oneCell'=true)
    (hu:∀(i j:Nat)(x:List D)(d:D),xs[i]?=some x→x[j]?=some d→dc S w (u i j) d):dc S w (.slice A xs.length c) (.sl xs)
inductive nu(S:Nat→Nat→Prop)(w:World):Value→fQ→Prop
 |d {u:Value} {x:D} (h:dc S w u x):nu S w u (.d x)
 |bE (c:List D) (off b o:Nat) (u:Nat→Value) (hS:∀j,j<c.length→S b (o+j)∧w.cell? ⟨b,o+j,none⟩=some (u j)) (hu:∀(j:Nat)(d:D),c[j]?=some d→dc S w (u j) d):nu S w (.pointer (some ⟨b,o+off,none⟩)) (.bE c off)
 |fn (f:FuncId) (vs:Array Value) (cs:List fQ) (hl:vs.size=cs.length) (h:∀(i:Nat)(u:Value)(c:fQ),vs[i]?=some u→cs[i]?=some c→nu S w u c):nu S w (.func (.func f) #[] vs) (.fn f cs)
structure Uy(s u:Value)(o len L k:Nat):Prop where
 ol:o+len≤L
 sl:∃A c,u= .slice A len c∧len≤c∧c≤maxLen∧L≤c+o∧(o<L→∃g cap,s= .slice (some ⟨g,0,none⟩) L cap∧A=some ⟨g,o*k,none⟩∧o+c=cap)
 all:o=0→len=L→u=s
structure RE(s u:Value)(i j L k:Nat):Prop where
 il:i<L
 pt:∃g cap,s= .slice (some ⟨g,0,none⟩) L cap∧u= .pointer (some ⟨g,i*k+j,none⟩)
inductive aN(G:Gh)(w:World):Value→AV→Prop
 |d {u:Value} {x:D} (h:dc G.S w u x):aN G w u (.d x)
 |agg (vs:Array Value) (cs:List AV) (hl:vs.size=cs.length) (h:∀(i:Nat)(u:Value)(c:AV),vs[i]?=some u→cs[i]?=some c→aN G w u c):aN G w (.agg vs) (.agg cs)
 |bk (vs:Array Value) (cs:List AV) (hl:vs.size=cs.length) (h:∀(i:Nat)(u:Value)(c:AV),vs[i]?=some u→cs[i]?=some c→aN G w u c):aN G w (.tuple vs) (.bk cs)
 |ptr (n off:Nat) (h:n<G.N):aN G w (.pointer (some ⟨G.bm n,off,none⟩)) (.ptr n off)
 |bE (xs:List (List D)) (i off b o:Nat) (u:Nat→Value) (x:List D) (hx:xs[i]?=some x)
  (hS:∀j,j<x.length→G.S b (o+j)∧w.cell? ⟨b,o+j,none⟩=some (u j)) (hu:∀(j:Nat)(d:D),x[j]?=some d→dc G.S w (u j) d):aN G w (.pointer (some ⟨b,o+off,none⟩)) (.bE xs i off)
 |own {u:Value} (n:Nat) (xs:List (List D)) (h:n<G.N) (hp:dc G.S w u (.sl xs)) (hle:xs.length≤G.fl n) (hf:xs.length=G.fl n→u=G.sg n):aN G w u (.own n xs)
 |full {u:Value} (xs:List (List D)) (hp:dc G.S w u (.sl xs)) (hf:∃A,u= .slice A xs.length xs.length):aN G w u (.full xs)
 |row (n off len cap k:Nat) (h:n<G.N) (hl:len≤cap) (hm:cap≤maxLen):aN G w (.slice (some ⟨G.bm n,off,none⟩) len cap) (.row n off len cap k)
 |fn (f:FuncId) (vs:Array Value) (cs:List AV) (hl:vs.size=cs.length) (h:∀(i:Nat)(u:Value)(c:AV),vs[i]?=some u→cs[i]?=some c→aN G w u c):aN G w (.func (.func f) #[] vs) (.fn f cs)
 |mp (n:Nat) (h:n<G.N):aN G w (.map (some (G.bm n))) (.mp n)
 |cH (n:Nat) (h:n<G.N):aN G w (.func (.yield (G.bm n)) #[] #[]) (.cH n)
 |vec {u:Value} (n o len L k:Nat) (h:n<G.N) (hs:∃A l c,u= .slice A l c) (hL:L≤G.fl n) (hf:L=G.fl n→Uy (G.sg n) u o len L k):aN G w u (.vec n o len L k)
 |cQ {u:Value} (n i j L k:Nat) (h:n<G.N) (hs:∃b q,u= .pointer (some ⟨b,q,none⟩)) (hL:L≤G.fl n) (hf:L=G.fl n→RE (G.sg n) u i j L k):aN G w u (.cQ n i j L k)
 |hid {u:Value} {c:fQ} (h:nu G.S w u c) (h1:u.oneCell'=true):aN G w u (.hid c)
 |dead (u:Value):aN G w u .dead
def nG:ak3 (ak4×D)→ak4→ak5 D
 |[],_=>none
 |(k,d)::l,s=>bif bL k==bL s then some d else nG l s
structure wG(S:Nat→Nat→Prop)(w:World)(es:Array MapEntry)(clock:Nat)(kv:List (ByteArray×D)):Prop where
 size:es.size≤maxLen
 stamped:MapKept.Stamped es clock
 x9:∀e∈es.toList,∃s d,e.key= .string s∧nG kv s=some d∧dc S w e.val d
 all:∀s d,nG kv s=some d→∃e∈es.toList,e.key= .string s
 len:es.size≤kv.length
 born:∀(i:Nat)(e:MapEntry),es[i]?=some e→e.born=i
 G5:clock=es.size
def aq.dy(G:Gh)(n:Nat):aq→ak5 Nat
 | .cells _=>some (G.bm n)
 | .front _ _ _=>G.ow n
 | .vec _ _ _=>G.ow n
 | .map _=>some (G.bm n)
 | .lp _ _ _ _ _=>some (G.bm n)
 | .it _ _=>some (G.bm n)
 | .gone=>none
def b6(h:ak3 aq)(G:Gh)(n:Nat):ak5 Nat:=(h[n]?).bind (aq.dy G n)
theorem dm{h:ak3 aq}{G:Gh}{n:Nat}{B:aq}(e:h[n]?=some B):b6 h G n=B.dy G n:=by unfold b6;rw[e];rfl
theorem zf{h:ak3 aq}{G:Gh}{n:Nat}(e:h[n]?=none):b6 h G n=none:=by unfold b6;rw[e];rfl
theorem m4{h:ak3 aq}{G:Gh}{n b:Nat}(e:b6 h G n=some b):∃B,h[n]?=some B∧B.dy G n=some b:=by
 unfold b6 at e;cases hx:h[n]? with
 |none=>rw[hx]at e;cases e
 |some B=>rw[hx]at e;exact⟨B,rfl,e⟩
def dE(G:Gh)(w:ak8)(n:Nat):aq→Prop
 | .cells cs=>¬G.Z (G.bm n)∧(∀o,¬G.S (G.bm n) o)∧∃(vs:Array ak7)(T:TypeId),w.heap[G.bm n]?=some (.cells vs T (0,0))∧vs.size=cs.length∧∀(i:Nat)(u:ak7)(c:AV),vs[i]?=some u→cs[i]?=some c→aN G w u c
 | .front e k len=>G.fl n=len∧len≤maxLen∧((G.ow n=none∧∃A,G.sg n= .slice A len len)∨
  ∃(g cap:Nat)(cur:Array ak7),G.ow n=some g∧G.sg n= .slice (some ⟨g,0,none⟩) len cap∧¬G.Z g∧w.heap[g]?=some (.cells cur e (0,0))∧len≤cap∧cap≤maxLen∧cur.size=cap*k∧∀o,len*k≤o→¬G.S g o)
 | .vec e k cs=>G.fl n=cs.length∧cs.length≤maxLen∧(∀c∈cs,c.length=k)∧((G.ow n=none∧cs=[]∧∃A,G.sg n= .slice A 0 0)∨
  ∃(g cap:Nat)(cur:Array ak7),G.ow n=some g∧G.sg n= .slice (some ⟨g,0,none⟩) cs.length cap∧¬G.Z g∧w.heap[g]?=some (.cells cur e (0,0))∧cs.length≤cap∧cap≤maxLen∧cur.size=cap*k∧(∀o,¬G.S g o)∧
   ∀(i j:Nat)(c:ak3 AV)(x:AV)(u:ak7),cs[i]?=some c→c[j]?=some x→cur[i*k+j]?=some u→aN G w u x)
 | .map kv=>¬G.Z (G.bm n)∧(∀o,¬G.S (G.bm n) o)∧∃(es:Array MapEntry)(clock:Nat),w.heap[G.bm n]?=some (.map es clock)∧wG G.S w es clock kv
 | .lp ls p as bd cs=>¬G.Z (G.bm n)∧(∀o,¬G.S (G.bm n) o)∧∃(fn:FuncId)(tm:Array ak7)(D:Nat),w.heap[G.bm n]?=some (.loop {state:=ls.st,pending:=ls.pd,fn:=fn,tmps:=tm,params:= #[p],assign:=as,body:=bd,defers:=D})∧tm.size=cs.length∧∀(i:Nat)(u:ak7)(c:AV),tm[i]?=some u→cs[i]?=some c→aN G w u c
 | .it sn cs=>¬G.Z (G.bm n)∧(∀o,¬G.S (G.bm n) o)∧∃(fn:Nat)(vs:Array ak7)(_:Unit),w.heap[G.bm n]?=some (.mapIter (some fn) 1 (if sn then #[0]else #[]) 1)∧(vs.size=cs.length∧vs= #[.map (some fn)])∧∀(i:Nat)(u:ak7)(c:AV),vs[i]?=some u→cs[i]?=some c→aN G w u c
 | .gone=>True
def Gw(G:Gh)(w:ak8):Prop:=(∀(g:Nat)(l:ak3 ak7),(g,l)∈yc→∀(j:Nat)(v:ak7),l[j]?=some v→G.S g j∧w.cell? ⟨g,j,none⟩=some v)∧G.M≤w.heap.size
structure bW(G:Gh)(w:World)(h:List aq):Prop where
 len:h.length=G.N
 z:∀b,G.Z b→b<w.heap.size
 S:∀b o,G.S b o→b<w.heap.size
 cW:∀(n:Nat)(B:aq),h[n]?=some B→dE G w n B
 inj:∀(m n b:Nat),b6 h G m=some b→b6 h G n=some b→m=n
 gl:Gw G w
structure bR(N:Nat)(G:Gh)(w:World)(G':Gh)(w':World):Prop where
 size:w.heap.size≤w'.heap.size
 S:∀b o,G.S b o→G'.S b o
 cell:∀b o,G.S b o→w'.cell? ⟨b,o,none⟩=w.cell? ⟨b,o,none⟩
 bm:∀n,n<N→G'.bm n=G.bm n
 fr:∀n,n<N→(G'.fl n=G.fl n∧G'.sg n=G.sg n)∨G.fl n<G'.fl n
 Z:((∀b,G.Z b→G'.Z b)∧∀b,G'.Z b→G.Z b∨w.heap.size≤b)∧G'.M=G.M
 old:∀b,G.Z b→w'.heap[b]?=w.heap[b]?
 os:w'.os=w.os
 tape:w'.tape=w.tape
 output:w'.output=w.output
 new:∀b o,G'.S b o→G.S b o∨¬G.Z b
theorem fZ{Z Z':Nat→Prop}{m M M':Nat}(h:Z'=Z)(hM:M'=M:=by rfl):((∀b,Z b→Z' b)∧∀b,Z' b→Z b∨m≤b)∧M'=M:=⟨⟨fun _ k=>h▸k,fun _ k=> .inl (h▸k)⟩,hM⟩
theorem bR.refl(N:Nat)(G:Gh)(w:ak8):bR N G w G w:=
 ⟨akq _,fun _ _ h=>h,fun _ _ _=>rfl,fun _ _=>rfl,fun _ _=> .inl ⟨rfl,rfl⟩,fZ rfl,fun _ _=>rfl,rfl,rfl,rfl,fun _ _ h=> .inl h⟩
theorem bR.trans{N:Nat}{G G1 G2:Gh}{w w1 w2:ak8}(h:bR N G w G1 w1)(k:bR N G1 w1 G2 w2):bR N G w G2 w2:=
 ⟨akx h.size k.size,fun b o hs=>k.S b o (h.S b o hs),fun b o hs=>(k.cell b o (h.S b o hs)).trans (h.cell b o hs),fun n hn=>(k.bm n hn).trans (h.bm n hn),
  fun n hn=>by
   rcases h.fr n hn with⟨h1,h2⟩|h1<;>rcases k.fr n hn with⟨k1,k2⟩|k1
   ·exact .inl ⟨k1.trans h1,k2.trans h2⟩
   ·exact .inr (h1▸k1)
   ·exact .inr (k1▸h1)
   ·exact .inr (Nat.lt_trans h1 k1),
  ⟨⟨fun b hb=>k.Z.1.1 b (h.Z.1.1 b hb),fun b hb=>(k.Z.1.2 b hb).elim (h.Z.1.2 b) fun hs=> .inr (akx h.size hs)⟩,k.Z.2.trans h.Z.2⟩,fun b hb=>(k.old b (h.Z.1.1 b hb)).trans (h.old b hb),k.os.trans h.os,k.tape.trans h.tape,k.output.trans h.output,fun b o hs=>(k.new b o hs).elim (h.new b o) (fun hn=> .inr fun hz=>hn (h.Z.1.1 b hz))⟩
theorem bR.less{N M:Nat}{G G':Gh}{w w':ak8}(h:bR N G w G' w')(hM:M≤N):bR M G w G' w':=
 ⟨h.size,h.S,h.cell,fun n hn=>h.bm n (akD hn hM),fun n hn=>h.fr n (akD hn hM),h.Z,h.old,h.os,h.tape,h.output,h.new⟩
theorem bR.lI{N:Nat}{G G':Gh}{w w':ak8}(h:bR N G w G' w'){b:Nat}(hb:b<w.heap.size)(hz:¬G.Z b):¬G'.Z b:=fun k=>(h.Z.1.2 b k).elim hz fun hs=>akT _ (akD hb hs)
def pY(G:Gh)(w:ak8)(ds:ak3 Deferred):Prop:=∃l:ak3 Nat,l.Nodup∧ds=l.map (fun D=>{target:= .collected D,args:= #[]})∧∀D∈l,G.M≤D∧G.Z D∧w.heap[D]?=some (.deferred (some []))
theorem pY.nil(G:Gh)(w:ak8):pY G w []:=⟨[],List.nodup_nil,rfl,fun _ h=>absurd h akV⟩
theorem pY.bo{N:Nat}{G G':Gh}{w w':ak8}{ds:ak3 Deferred}(h:pY G w ds)(hE:bR N G w G' w'):pY G' w' ds:=
 let ⟨l,h1,h2,h3⟩:=h
 ⟨l,h1,h2,fun D hD=>⟨hE.Z.2▸(h3 D hD).1,hE.Z.1.1 D (h3 D hD).2.1,(hE.old D (h3 D hD).2.1).trans (h3 D hD).2.2⟩⟩
theorem Gw.bo{N:Nat}{G G':Gh}{w w':ak8}(h:Gw G w)(hE:bR N G w G' w'):Gw G' w':=⟨fun g l hm j v hv=>
 ⟨hE.S _ _ (h.1 g l hm j v hv).1,(hE.cell _ _ (h.1 g l hm j v hv).1).trans (h.1 g l hm j v hv).2⟩,by rw[hE.Z.2];exact akx h.2 hE.size⟩
theorem dc.bo{S S':Nat→Nat→Prop}{w w':ak8}(hS:∀b o,S b o→S' b o)(hc:∀b o,S b o→w'.cell? ⟨b,o,none⟩=w.cell? ⟨b,o,none⟩){u:ak7}{x:D}(h:dc S w u x):dc S' w' u x:=by
 induction h with
 |v u=>exact .v u
 |sl A b o c k xs u hA iK hm hk oG _ ih=>
  exact .sl A b o c k xs u hA iK hm hk (fun i j hi hj=>⟨hS _ _ (oG i j hi hj).1,(hc _ _ (oG i j hi hj).1).trans (oG i j hi hj).2.1,(oG i j hi hj).2.2⟩) ih
theorem nu.bo{S S':Nat→Nat→Prop}{w w':ak8}(hS:∀b o,S b o→S' b o)(hc:∀b o,S b o→w'.cell? ⟨b,o,none⟩=w.cell? ⟨b,o,none⟩){u:ak7}{x:fQ}(h:nu S w u x):nu S' w' u x:=by
 induction h with
 |d h=>exact .d (h.bo hS hc)
 |bE c off b o u h1 h2=>exact .bE c off b o u (fun j hj=>⟨hS _ _ (h1 j hj).1,(hc _ _ (h1 j hj).1).trans (h1 j hj).2⟩) (fun j d hd=>(h2 j d hd).bo hS hc)
 |fn f vs cs hl _ ih=>exact .fn f vs cs hl ih
theorem aN.bo{G G':Gh}{w w':ak8}(hE:bR G.N G w G' w')(hN:G.N≤G'.N){u:ak7}{x:AV}(h:aN G w u x):aN G' w' u x:=by
 induction h with
 |d h=>exact .d (h.bo hE.S hE.cell)
 |agg vs cs hl _ ih=>exact .agg vs cs hl ih
 |bk vs cs hl _ ih=>exact .bk vs cs hl ih
 |ptr n off h=>rw[←hE.bm n h];exact .ptr n off (akD h hN)
 |bE xs i off b o u x hx hS hu=>exact .bE xs i off b o u x hx (fun j hj=>⟨hE.S _ _ (hS j hj).1,(hE.cell _ _ (hS j hj).1).trans (hS j hj).2⟩) (fun j d hd=>(hu j d hd).bo hE.S hE.cell)
 |own n xs h hp hle hf=>
  refine .own n xs (akD h hN) (hp.bo hE.S hE.cell) ?_ ?_
  ·rcases hE.fr n h with⟨h1,_⟩|h1
   ·omega
   ·omega
  ·intro e;rcases hE.fr n h with⟨h1,h2⟩|h1
   ·rw[h2];exact hf (e.trans h1)
   ·omega
 |full xs hp hf=>exact .full xs (hp.bo hE.S hE.cell) hf
 |row n off len cap k h hl hm=>rw[←hE.bm n h];exact .row n off len cap k (akD h hN) hl hm
 |fn f vs cs hl _ ih=>exact .fn f vs cs hl ih
 |mp n h=>rw[←hE.bm n h];exact .mp n (akD h hN)
 |cH n h=>rw[←hE.bm n h];exact .cH n (akD h hN)
 |vec n o len L k h hs hL hf=>
  refine .vec n o len L k (akD h hN) hs ?_ ?_
  ·rcases hE.fr n h with⟨h1,_⟩|h1<;>omega
  ·intro e;rcases hE.fr n h with⟨h1,h2⟩|h1
   ·rw[h2];exact hf (e.trans h1)
   ·omega
 |cQ n i j L k h hs hL hf=>
  refine .cQ n i j L k (akD h hN) hs ?_ ?_
  ·rcases hE.fr n h with⟨h1,_⟩|h1<;>omega
  ·intro e;rcases hE.fr n h with⟨h1,h2⟩|h1
   ·rw[h2];exact hf (e.trans h1)
   ·omega
 |hid h h1=>exact .hid (h.bo hE.S hE.cell) h1
 |dead u=>exact .dead u
structure St where
 n:Nat
 t:List (Nat×AV)
 h:List aq
def bB:ak3 (Nat×AV)→Nat→AV
 |[],_=> .dead
 |(k,x)::l,i=>bif i==k then x else bB l i
theorem kN(k:Nat)(x:AV)(l:ak3 (Nat×AV))(i:Nat):bB ((k,x)::l) i=if i=k then x else bB l i:=by
 simp only[bB,cond_eq_ite,beq_iff_eq]
def dZ(b:Bool)(p:Prop):Prop:=cond b p False
theorem bO{b:Bool}{p:Prop}:dZ b p↔b=true∧p:=by cases b<;>simp [dZ]
def cf(a b:Nat):Bool:=a-b==0
theorem dk{a b:Nat}:cf a b=true↔a≤b:=by simp [cf];omega
def QZ:IntKind→Nat
 | .i8=>0| .i16=>1| .i32=>2| .i64=>3| .u8=>4| .u16=>5| .u32=>6| .u64=>7
def uX(a b:IntKind):Bool:=QZ a==QZ b
theorem NL{a b:IntKind}:uX a b=true↔a=b:=by cases a<;>cases b<;>decide
def St.put(s:St)(dst:ak5 Nat)(x:AV):St:=
 match dst with
 |none=>s
 |some d=>bif s.n-d==0 then s else{s with t:=(d,x)::s.t}
theorem tT{s:St}{d:Nat}(h:d<s.n)(x:AV):s.put (some d) x={s with t:=(d,x)::s.t}:=by
 have:(s.n-d==0)=false:=by simp;omega
 simp only[St.put,this,cond_false]
theorem CB{s:St}{d:Nat}(h:¬d<s.n)(x:AV):s.put (some d) x=s:=by
 have:(s.n-d==0)=true:=by simp;omega
 simp only[St.put,this,cond_true]
def St.wh(s:St)(h:ak3 aq):St:={s with h:=h}
def LG:ak7→AV
 | .agg vs=> .agg (vs.toList.map fun u=> .d (.v u))
 | .tuple vs=> .bk (vs.toList.map fun u=> .d (.v u))
 |u=> .d (.v u)
def ev(s:St):Operand→AV
 | .tmp t=>bB s.t t
 | .const v=>LG v
 | .func f=> .fn f []
 | .global g=>match yx yc g with
   |some l=> .bE [l.map .v] 0 0
   |none=> .dead
def AV.ji:AV→Bool
 | .d (.v u)=>u.oneCell'
 | .d (.sl _)| .ptr .. | .bE .. | .own .. | .full _| .row .. | .fn .. | .mp _| .cH _| .hid _| .vec .. | .cQ .. =>true
 | .agg _| .bk _| .dead=>false
def AV.cells:AV→ak3 AV
 | .agg cs=>cs
 |x=>[x]
def AV.gZ:AV→Bool
 | .agg cs=>cs.all AV.ji
 |x=>x.ji
def D.AI:D→D
 | .v (.slice none 0 0)=> .sl []
 |x=>x
def AV.wF:AV→ak5 D
 | .d x=>some x.AI
 | .own _ xs=>some (.sl xs)
 | .full xs=>some (.sl xs)
 |_=>none
def AV.er:AV→ak5 (ak3 (ak3 D))
 | .d (.sl xs)=>some xs
 | .own _ xs=>some xs
 | .full xs=>some xs
 | .d (.v (.slice none 0 0))=>some []
 |_=>none
def AV.int?:AV→ak5 Int
 | .d (.v (.int _ n))=>some n
 |_=>none
def fQ.av:fQ→AV
 | .d x=> .d x
 | .bE c off=> .bE [c] 0 off
 | .fn f cs=> .hid (.fn f cs)
def eJ(P:ak6)(t:TypeId):ak5 Nat:=(P.info? t).map (·.size)
def kW(P:ak6)(t:TypeId):ak5 Bool:=(P.underlying t).map fun| .struct _=>true| .array .. =>true|_=>false
def qC(P:ak6)(t:TypeId)(i:Nat):ak5 (Nat×Nat×Bool):=
 match P.underlying t with
 |some (.struct fs)=>match fs[i]? with
  |some f=>match eJ P f.type,kW P f.type with
   |some (k+1),some g=>some (f.offset,k+1,g)
   |_,_=>none
  |none=>none
 |_=>none
def dG(P:ak6)(t:TypeId):ak5 (TypeId×Nat):=
 match P.underlying t with
 |some (.slice e)=>(eJ P e).map fun k=>(e,k)
 |_=>none
def sU(P:ak6)(t:TypeId):ak5 (Nat×TypeId×Nat):=
 match P.underlying t with
 |some (.array n e)=>(eJ P e).map fun k=>(n,e,k)
 |_=>none
def fK(P:ak6)(t:TypeId):Bool:=match P.underlying t with|some .string=>true|_=>false
def zA(P:ak6)(t:TypeId):Bool:=match P.underlying t with|some .bool=>true|_=>false
def qZ(P:ak6)(t:TypeId):ak5 IntKind:=match P.underlying t with|some (.int k)=>some k|_=>none
def Ca(P:ak6)(t:TypeId):Bool:=match P.underlying t with|some (.int .u8)=>true|_=>false
def gH(P:ak6)(t:TypeId):ak5 ak7:=(P.info? t).bind (·.zero)
def rR(P:ak6)(t:TypeId):ak5 Nat:=(P.info? t).map (·.bytes)
def MY(op:BinOp)(k:IntKind)(a b:Int):ak5 ak7:=
 match op with
 | .add=>some (.int k (k.wrap (a+b)))
 | .sub=>some (.int k (k.wrap (a-b)))
 | .mul=>some (.int k (k.wrap (a*b)))
 | .eql=>some (.bool (a==b))
 | .neq=>some (.bool (a !=b))
 | .lss=>some (.bool (a<b))
 | .leq=>some (.bool (a≤b))
 | .gtr=>some (.bool (a>b))
 | .geq=>some (.bool (a≥b))
 | .and=>some (.int k (k.wrap (BitVec.ofInt k.bits a&&&BitVec.ofInt k.bits b).toNat))
 | .or=>some (.int k (k.wrap (BitVec.ofInt k.bits a|||BitVec.ofInt k.bits b).toNat))
 | .xor=>some (.int k (k.wrap (BitVec.ofInt k.bits a^^^BitVec.ofInt k.bits b).toNat))
 | .andNot=>some (.int k (k.wrap (BitVec.ofInt k.bits a&&& ~~~BitVec.ofInt k.bits b).toNat))
 |_=>none
def NO(op:BinOp)(a b:ak4):ak5 ak7:=
 match op with
 | .eql=>some (.bool (bL a==bL b))
 | .neq=>some (.bool (!(bL a==bL b)))
 | .lss=>some (.bool (Op.bytesLess (bL a) (bL b)))
 | .leq=>some (.bool (Op.bytesLess (bL a) (bL b)||bL a==bL b))
 | .gtr=>some (.bool (!(Op.bytesLess (bL a) (bL b)||bL a==bL b)))
 | .geq=>some (.bool (!Op.bytesLess (bL a) (bL b)))
 |_=>none
def OW(op:BinOp)(a b:Bool):ak5 ak7:=
 match op with
 | .eql=>some (.bool (a==b))
 | .neq=>some (.bool (!(a==b)))
 |_=>none
def Lx(op:BinOp)(k:IntKind)(a b:Int):ak5 ak7:=
 match op with
 | .quo=>some (.int k (k.wrap (a.tdiv b)))
 | .rem=>some (.int k (a.tmod b))
 |_=>none
def NU(op:BinOp)(k:IntKind)(a b:Int):ak5 ak7:=
 match op with
 | .shl=>some (.int k (k.wrap (a*2^(min b.toNat k.bits))))
 | .shr=>some (.int k (a.fdiv (2^(min b.toNat k.bits))))
 |_=>none
def F1(op:UnOp)(x:ak7):ak5 ak7:=
 match op,x with
 | .not, .bool b=>some (.bool (!b))
 | .neg, .int k n=>some (.int k (k.wrap (0-n)))
 | .xor, .int k n=>some (.int k (k.wrap (BitVec.ofInt k.bits (if k.signed then-1 else k.max)^^^BitVec.ofInt k.bits n).toNat))
 |_,_=>none
def fO(cs:ak3 AV)(off:Nat)(ys:ak3 AV):ak3 AV:=cs.take off++ys++cs.drop (off+ys.length)
def mh(k:Nat):Nat→ak3 D→ak3 (ak3 D)
 |0,_=>[]
 |n+1,l=>l.take k::mh k n (l.drop k)
def nU(places:ak3 (Nat×Nat)):ak3 AV→ak3 (Nat×AV)→ak5 (ak3 AV)
 |cs,[]=>some cs
 |cs,(i,x)::r=>
  match places[i]? with
  |some (off,k)=>bif x.cells.length==k&&cf (off+k) cs.length then nU places (fO cs off x.cells) r else none
  |none=>none
def lY:ak3 AV→ak5 (ak3 D)
 |[]=>some []
 |x::r=>match x.wF,lY r with
  |some d,some l=>some (d::l)
  |_,_=>none
def EI(P:ak6)(fs:ak3 Field):ak5 (ak3 (Nat×Nat)):=fs.mapM fun f=>(eJ P f.type).map fun k=>(f.offset,k)
def I5(P:ak6)(f:FuncId):Bool:=
 match P.funcs[f]? with
 |some fn=>fn.body.isSome&& !(fn.name== "runtime.NumGoroutine")
 |none=>false
def bQ(P:ak6)(f:FuncId)(args:ak3 AV)(h:ak3 aq)(K:AV→ak3 aq→Prop):Prop:=
 I5 P f=true∧∀(G:Gh)(w:ak8)(vs:Array ak7),bW G w h→vs.size=args.length→(∀(i:Nat)(u:ak7)(c:AV),vs[i]?=some u→args[i]?=some c→aN G w u c)→
  Calls P f vs w fun e w'=>∃v G' r h',e= .returned v∧bR G.N G w G' w'∧G.N≤G'.N∧bW G' w' h'∧aN G' w' v r∧K r h'
theorem bQ.mono{P:ak6}{f:FuncId}{args:ak3 AV}{h:ak3 aq}{K K':AV→ak3 aq→Prop}(hc:bQ P f args h K)(hk:∀r h',K r h'→K' r h'):bQ P f args h K':=
 ⟨hc.1,fun G w vs hi hl hr=>(hc.2 G w vs hi hl hr).mono fun _ _ ⟨v,G',r,h',e,x1,x2,x3,x4,x5⟩=>⟨v,G',r,h',e,x1,x2,x3,x4,hk _ _ x5⟩⟩
def qO(h:ak3 aq)(p:AV)(K:ak3 AV→Nat→Prop):Prop:=
 match p with
 | .ptr n off=>match h[n]? with
   |some (.cells cs)=>K cs off
   |_=>False
 | .bE xs i off=>match xs[i]? with
   |some cs=>K (cs.map .d) off
   |none=>False
 |_=>False
def ml(P:ak6)(t:TypeId)(h:ak3 aq)(p:AV)(K:AV→Prop):Prop:=
 qO h p fun cs off=>match kW P t,eJ P t with
  |some true,some k=>dZ (cf (off+k) cs.length) (K (.agg ((cs.drop off).take k)))
  |some false,some _=>match cs[off]? with
   |some c=>K c
   |none=>False
  |_,_=>False
def vw(P:ak6)(t:TypeId)(h:ak3 aq)(p x:AV)(K:ak3 aq→Prop):Prop:=
 match p with
 | .ptr n off=>match h[n]? with
   |some (.cells cs)=>match eJ P t with
    |some k=>dZ (k==x.cells.length&&x.gZ&&cf (off+x.cells.length) cs.length) (K (h.set n (.cells (fO cs off x.cells))))
    |none=>False
   |_=>False
 |_=>False
def qP(P:ak6)(T:TypeId)(x i:AV)(K:AV→Prop):Prop:=
 match dG P T with
 |some (_,k)=>
  match x with
  | .row n off len _ k'=>match i.int? with
    |some z=>dZ (k'==k) (0≤z∧z<len∧K (.ptr n (off+z.toNat*k)))
    |none=>False
  |_=>match x.er,i.int? with
   |some xs,some z=>0≤z∧(match xs[z.toNat]? with|some c=>c.length=k∧K (.bE [c] 0 0)|none=>False)
   |_,_=>False
 |none=>match sU P T,x,i.int? with
  |some (n,_,k), .ptr b off,some z=>0≤z∧z<n∧K (.ptr b (off+z.toNat*k))
  |some (n,_,k), .bE xs i off,some z=>dZ (k==1) (0≤z∧z<n∧(match xs[i]? with|some c=>(match c[off+z.toNat]? with|some d=>K (.bE [[d]] 0 0)|none=>False)|none=>False))
  |_,_,_=>False
def qE(P:ak6)(T:TypeId)(x:AV)(K:Nat→Prop):Prop:=
 match x with
 | .d (.v (.string s))=>dZ (fK P T) (K s.size)
 | .row _ _ len _ _=>dZ (dG P T).isSome (K len)
 |x=>match x.er with
  |some xs=>dZ (dG P T).isSome (K xs.length)
  |none=>False
def iw(ρ:Operand→AV)(x:ak5 Operand)(ag0:Nat)(K:Nat→Prop):Prop:=
 match x with
 |none=>K ag0
 |some y=>match (ρ y).int? with
  |some z=>0≤z∧K z.toNat
  |none=>False
def tE(P:ak6)(T:TypeId)(ρ:Operand→AV)(x:AV)(lo hi mx:ak5 Operand)(K:AV→Prop):Prop:=
 match mx with
 |none=>
  match x with
  | .d (.v (.string b))=>dZ (fK P T) (iw ρ hi b.size fun h=>h≤b.size∧iw ρ lo 0 fun l=>l≤h∧K (.d (.v (.string (b.extract l h)))))
  | .ptr n off=>match sU P T with
    |some (m,_,k)=>dZ (cf m 4096) (iw ρ hi m fun h=>dZ (cf h m) (iw ρ lo 0 fun l=>dZ (cf l h&& !cf m l) (K (.row n (off+l*k) (h-l) (m-l) k))))
    |none=>False
  |x=>match x.er,dG P T with
   |some xs,some (_,k)=>(∀c∈xs,c.length=k)∧iw ρ hi xs.length fun h=>h≤xs.length∧iw ρ lo 0 fun l=>l≤h∧K (.d (.sl ((xs.take h).drop l)))
   |_,_=>False
 |some m=>match lo,hi with
  |none,some y=>match x.er,dG P T with
   |some xs,some (_,k)=>(∀c∈xs,c.length=k)∧iw ρ (some m) 0 fun c=>c≤xs.length∧iw ρ (some y) 0 fun h=>h=c∧K (.full (xs.take h))
   |_,_=>False
  |_,_=>False
def ug(h:ak3 aq)(k:Nat)(x:AV)(K:ak3 (ak3 D)→Prop):Prop:=
 match x with
 | .row n off len _ k'=>match h[n]? with
   |some (.cells cs)=>match lY ((cs.drop off).take (len*k))with
    |some ds=>dZ (k'==k&&cf (off+len*k) cs.length&&((cs.drop off).take (len*k)).all AV.ji) (K (mh k len ds))
    |none=>False
   |_=>False
 |x=>match x.er with
  |some ys=>(∀c∈ys,c.length=k)∧K ys
  |none=>False
def sX(P:ak6)(T:TypeId)(h:ak3 aq)(x y:AV)(K:AV→ak3 aq→Prop):Prop:=
 match dG P T with
 |some (e,k)=>match gH P e,rR P e with
  |some z,some ct=>dZ (cf 1 k&&z.cells.toList.length==k)<|ug h k y fun ys=>
   match x with
   | .own n xs=>match h[n]? with
     |some (.front e' k' len)=>dZ (e'==e&&k'==k)<|len=xs.length∧(∀c∈xs,c.length=k)∧xs.length+ys.length≤maxLen∧(xs.length+ys.length)*ct≤140737488355328∧K (.own n (xs++ys)) (h.set n (.front e k (xs.length+ys.length)))
     |_=>False
   | .d (.v (.slice none 0 0))=>ys.length≤maxLen∧ys.length*ct≤140737488355328∧K (.own h.length ys) (h++[.front e k ys.length])
   | .full xs=>(∀c∈xs,c.length=k)∧xs.length+ys.length≤maxLen∧(xs.length+ys.length)*ct≤140737488355328∧K (.own h.length (xs++ys)) (h++[.front e k (xs.length+ys.length)])
   |_=>False
  |_,_=>False
 |none=>False
def MH(P:ak6)(T:TypeId):ak5 (ak3 (Nat×Nat)):=
 match P.underlying T with
 |some (.struct fs)=>EI P fs.toList
 |_=>none
def xI(P:ak6)(T:TypeId)(ps:ak3 (Nat×AV))(K:AV→Prop):Prop:=
 match MH P T,gH P T with
 |some places,some z=>match nU places (z.cells.toList.map fun u=> .d (.v u)) ps with
  |some cs=>dZ ((ps.all fun p=>p.2.gZ)&&z.cells.toList.all Value.oneCell') (K (.agg cs))
  |none=>False
 |_,_=>False
def tJ(k:Nat):Nat→Nat→ak3 (Nat×Nat)
 |_,0=>[]
 |o,n+1=>(o,k)::tJ k (o+k) n
def rK:Nat→ak3 AV→ak3 AV
 |0,_=>[]
 |n+1,l=>l++rK n l
def vv(P:ak6)(T:TypeId)(len:Nat)(ps:ak3 (Nat×AV))(K:AV→Prop):Prop:=
 match dG P T with
 |some (e,k)=>match gH P e with
  |some z=>match nU (tJ k 0 len) (rK len (z.cells.toList.map fun u=> .d (.v u))) ps with
   |some cs=>match lY cs with
    |some ds=>dZ (cf 1 k&&cf (len*k) 16777216&&z.cells.toList.length==k&&z.cells.toList.all Value.oneCell'&&(ps.all fun p=>p.2.gZ)) (K (.full (mh k len ds)))
    |none=>False
   |none=>False
  |none=>False
 |none=>False
def Ng(P:ak6)(t:TypeId)(x y:AV):ak5 Bool:=
 match x,y with
 | .d (.v (.int k a)), .d (.v (.int k' b))=>bif uX k k'&&(qZ P t).isSome then some (a==b)else none
 | .d (.v (.string a)), .d (.v (.string b))=>bif fK P t then some (bL a==bL b)else none
 | .d (.v (.bool a)), .d (.v (.bool b))=>bif zA P t then some (a==b)else none
 |_,_=>none
def AL(P:ak6)(sub:TypeId→ak3 AV→ak3 AV→ak5 Bool):ak3 Field→ak3 AV→ak3 AV→ak5 Bool
 |[],_,_=>some true
 |f::fs,xs,ys=>bif f.name== "_" then none else
  match kW P f.type with
  |some false=>match xs[f.offset]?,ys[f.offset]? with
   |some x,some y=>match Ng P f.type x y,AL P sub fs xs ys with
    |some a,some b=>some (a&&b)
    |_,_=>none
   |_,_=>none
  |some true=>match eJ P f.type with
   |some k=>bif cf (f.offset+k) xs.length&&cf (f.offset+k) ys.length then match sub f.type ((xs.drop f.offset).take k) ((ys.drop f.offset).take k),AL P sub fs xs ys with
    |some a,some b=>some (a&&b)
    |_,_=>none
    else none
   |none=>none
  |none=>none
def GY(P:ak6):Nat→TypeId→ak3 AV→ak3 AV→ak5 Bool
 |0=>fun _ _ _=>none
 |d+1=>fun T xs ys=>match P.underlying T with
  |some (.struct fs)=>bif P.stoodInHeld T then none else AL P (GY P d) fs.toList xs ys
  |_=>none
def J9(P:ak6)(T:TypeId)(xs ys:ak3 AV):ak5 Bool:=
 match P.underlying T with
 |some (.struct fs)=>bif P.stoodInHeld T||P.eqGuardType P.depth T then none else AL P (GY P 4) fs.toList xs ys
 |_=>none
def xA(op:BinOp)(b:Bool):ak5 ak7:=
 match op with
 | .eql=>some (.bool b)
 | .neq=>some (.bool (!b))
 |_=>none
def w8(P:ak6)(T:TypeId)(op:BinOp)(x y:AV)(K:AV→Prop):Prop:=
 match x,y with
 | .d (.v (.int k a)), .d (.v (.int k' b))=>
   match Lx op k a b with
   |some v=>dZ (uX k k') (b≠0∧K (.d (.v v)))
   |none=>match NU op k a b with
    |some v=>0≤b∧K (.d (.v v))
    |none=>match MY op k a b with
     |some v=>dZ (uX k k') (K (.d (.v v)))
     |none=>False
 | .d (.v (.string a)), .d (.v (.string b))=>match NO op a b with
   |some v=>K (.d (.v v))
   |none=>match op with
    | .add=>a.size+b.size≤maxLen∧K (.d (.v (.string (a++b))))
    |_=>False
 | .d (.v (.bool a)), .d (.v (.bool b))=>match OW op a b with
   |some v=>dZ (zA P T) (K (.d (.v v)))
   |none=>False
 | .agg xs, .agg ys=>match J9 P T xs ys with
   |some b=>match xA op b with
    |some v=>K (.d (.v v))
    |none=>False
   |none=>False
 |_,_=>False
def wZ(op:UnOp)(x:AV)(K:AV→Prop):Prop:=
 match x with
 | .d (.v u)=>match F1 op u with
   |some v=>K (.d (.v v))
   |none=>False
 |_=>False
def vq(P:ak6)(src dst:TypeId)(x:AV)(K:AV→Prop):Prop:=
 match x with
 | .d (.v (.int _ n))=>match qZ P src,qZ P dst with
   |some _,some k=>K (.d (.v (.int k (k.wrap n))))
   |_,_=>False
 | .d (.v (.string b))=>dZ (fK P src&&fK P dst) (K (.d (.v (.string b))))
 |x=>match x.er,dG P src with
  |some xs,some (e,_)=>dZ (Ca P e&&fK P dst) (∃ns:ak3 Int,xs=ns.map (fun n=>[.v (.int .u8 n)])∧K (.d (.v (.string ⟨(ns.map fun n=>UInt8.ofNat n.toNat).toArray⟩))))
  |_,_=>False
def uO(P:ak6)(T:TypeId)(x:AV)(f:Nat)(K:AV→Prop):Prop:=
 match qC P T f,x with
 |some (off,k,true), .agg cs=>dZ (cf (off+k) cs.length) (K (.agg ((cs.drop off).take k)))
 |some (off,_,false), .agg cs=>match cs[off]? with
  |some c=>K c
  |none=>False
 |_,_=>False
def uJ(P:ak6)(T:TypeId):ak5 (TypeId×TypeId):=
 match P.underlying T with
 |some (.map k e)=>some (k,e)
 |_=>none
inductive Sd
 |no
 |lt (n:Nat)
def Sd.ok:Sd→Prop
 | .no=>True
 | .lt n=>n<maxLen
def Gp(Qy:Bool)(z:ak7):ak5 D→AV
 |some d=>bif Qy then .bk [.d d, .d (.v (.bool true))]else .d d
 |none=>bif Qy then .bk [.d (.v z), .d (.v (.bool false))]else .d (.v z)
def nL(P:ak6)(op:Op)(ρ:Operand→AV)(h:ak3 aq):ak5 (AV×ak3 aq×Sd):=
 match op with
 | .makeMap T none=>match uJ P T with
   |some _=>some (.mp h.length,h++[.map []], .no)
   |none=>none
 | .lookup T m i ok=>match uJ P T with
   |some (k,e)=>match gH P e with
    |some z=>match ρ m,ρ i with
     | .mp n, .d (.v (.string s))=>match h[n]? with
       |some (.map kv)=>bif fK P k&&z.oneCell' then some (Gp ok z (nG kv s),h, .no)else none
       |_=>none
     |_,_=>none
    |none=>none
   |none=>none
 | .mapUpdate T m i x=>match uJ P T with
   |some (k,_)=>match ρ m,ρ i,(ρ x).wF with
    | .mp n, .d (.v (.string s)),some d=>match h[n]? with
      |some (.map kv)=>bif fK P k then some (.d (.v undef),h.set n (.map ((s,d)::kv)), .lt kv.length)else none
      |_=>none
    |_,_,_=>none
   |none=>none
 |_=>none
inductive VA
 |no
 |el (c:List AV)
 |st (c:List AV) (cs:List (List AV))
 |mk (cs:List (List AV)) (len m:Nat)
 |ap (cs ys:List (List AV)) (L len:Nat)
 |ix (i:Nat)
 |ol (o len:Nat)
def Mn(P:ak6)(t:TypeId)(c:ak3 AV)(j:Nat):ak5 AV:=
 match kW P t,eJ P t with
 |some true,some k=>bif cf (j+k) c.length then some (.agg ((c.drop j).take k))else none
 |some false,some _=>c[j]?
 |_,_=>none
def bq(xs:ak3 (ak3 D)):ak3 (ak3 AV):=xs.map fun c=>c.map AV.d
def vU(h:ak3 aq)(k:Nat)(y:AV)(ys:ak3 (ak3 AV)):Prop:=
 (∃xs,y.er=some xs∧(∀c∈xs,c.length=k)∧ys=bq xs)∨(∃n o len L e cs,y= .vec n o len L k∧h[n]?=some (.vec e k cs)∧cs.length=L∧ys=(cs.drop o).take len∧∀c∈ys,c.all AV.ji=true)
def sY(ρ:Operand→AV)(d:Int):ak5 Operand→ak5 Int
 |none=>some d
 |some y=>(ρ y).int?
def gC(P:ak6)(op:Op)(ρ:Operand→AV)(h:ak3 aq)(a:VA):ak5 (AV×ak3 aq×Prop):=
 match op with
 | .indexAddr T x i=>match ρ x,(ρ i).int?,dG P T,a with
   | .vec n o len L k,some z,some (_,k'), .ix i'=>match h[n]? with
     |some (.vec _ k2 cs)=>bif k'==k&&k2==k then some (.cQ n i' 0 L k,h,cs.length=L∧0≤z∧z<len∧i'=o+z.toNat)else none
     |_=>none
   |_,_,_,_=>none
 | .fieldAddr S x f=>match ρ x,qC P S f with
   | .cQ n i j L k,some (fo,_,_)=>some (.cQ n i (j+fo) L k,h,True)
   |_,_=>none
 | .nilCheck x=>match ρ x with
   | .cQ n i j L k=>some (.cQ n i j L k,h,True)
   |_=>none
 | .load t p=>match ρ p,a with
   | .cQ n i j L k, .el c=>match h[n]?,Mn P t c j with
     |some (.vec _ k' cs),some x=>bif k'==k then some (x,h,cs.length=L∧cs[i]?=some c)else none
     |_,_=>none
   |_,_=>none
 | .store t p x=>match ρ p,a with
   | .cQ n i j L k, .st c b7=>match h[n]?,eJ P t with
     |some (.vec e k' cs),some q=>bif k'==k&&q==(ρ x).cells.length&&(ρ x).gZ&&cf (j+(ρ x).cells.length) k&&cf 1 k then some (.d (.v undef),h.set n (.vec e k b7),cs.length=L∧cs[i]?=some c∧b7=cs.set i (fO c j (ρ x).cells))else none
     |_,_=>none
   |_,_=>none
 | .slice T x lo hi none=>match ρ x,dG P T,a with
   | .vec n o len L k,some (_,k'), .ol o' fv=>match sY ρ 0 lo,sY ρ len hi with
     |some l,some u=>match h[n]? with
      |some (.vec _ k2 cs)=>bif k'==k&&k2==k then some (.vec n o' fv L k,h,cs.length=L∧0≤l∧l≤u∧u≤(L:Int)-o∧o'=o+l.toNat∧fv=u.toNat-l.toNat)else none
      |_=>none
     |_,_=>none
   |_,_,_=>none
 | .makeSlice T l c=>match dG P T,(ρ l).int?,(ρ c).int?,a with
   |some (e,k),some l,some c, .mk cs len m=>match gH P e,rR P e with
    |some z,some ct=>bif cf 1 k&&z.cells.toList.length==k&&z.cells.toList.all Value.oneCell' then some (.vec h.length 0 len m k,h++[.vec e k cs],0≤l∧l≤c∧l.toNat=len∧c.toNat=m∧cs=List.replicate m (z.cells.toList.map fun u=> .d (.v u))∧m≤maxLen∧ct*m≤281474976710656)else none
    |_,_=>none
   |_,_,_,_=>none
 | .call c=>match c.callee with
   | .builtin .len=>match c.args.toList,c.argTypes.toList with
     |[x],[T]=>match ρ x with
      | .vec n _ len L k=>match h[n]? with
        |some (.vec _ k2 cs)=>bif (dG P T).isSome&&k2==k then some (.d (.v (.int .i64 len)),h,cs.length=L)else none
        |_=>none
      |_=>none
     |_,_=>none
   | .builtin .append=>match c.args.toList,c.argTypes.toList with
     |[x,y],[T,U]=>match dG P T,dG P U,a with
      |some (e,k),some _, .ap b7 ys L' fv=>match gH P e,rR P e with
       |some z,some ct=>bif cf 1 k&&z.cells.toList.length==k then
        match ρ x with
        | .vec n o len L k1=>match h[n]? with
          |some (.vec e1 k2 cs)=>bif k1==k&&k2==k&&e1==e then some (.vec n o fv L' k,h.set n (.vec e k b7),cs.length=L∧vU h k (ρ y) ys∧fv=len+ys.length∧
           ((o+len+ys.length≤L∧L'=L∧b7=cs.take (o+len)++ys++cs.drop (o+len+ys.length))∨(o=0∧len=L∧L'=L+ys.length∧b7=cs++ys∧L'≤maxLen∧L'*ct≤140737488355328)))else none
          |_=>none
        | .d (.v (.slice none 0 0))=>some (.vec h.length 0 fv L' k,h++[.vec e k b7],vU h k (ρ y) ys∧b7=ys∧fv=ys.length∧L'=ys.length∧L'≤maxLen∧L'*ct≤140737488355328)
        | .full xs=>some (.vec h.length 0 fv L' k,h++[.vec e k b7],xs=[]∧vU h k (ρ y) ys∧b7=ys∧fv=ys.length∧L'=ys.length∧L'≤maxLen∧L'*ct≤140737488355328)
        |_=>none
       else none
       |_,_=>none
      |_,_,_=>none
     |_,_=>none
   |_=>none
 |_=>none
def Kf(mx:Bool)(k:IntKind):Int→ak3 AV→ak5 (IntKind×Int)
 |a,[]=>some (k,a)
 |a, .d (.v (.int _ b))::l=>Kf mx k (bif mx then(if b>a then b else a)else(if b<a then b else a)) l
 |_,_=>none
def Bp(mx:Bool):ak3 AV→ak5 (IntKind×Int)
 | .d (.v (.int k a))::l=>Kf mx k a l
 |_=>none
def cp(P:ak6)(o:Oper)(ρ:Operand→AV)(h:ak3 aq)(C:AV→ak3 aq→Prop):Prop:=
 match o.op with
 | .move x| .assign x=>C (ρ x) h
 | .pick c a b=>match ρ c with
   | .d (.v (.bool t))=>(t=true→C (ρ a) h)∧(t=false→C (ρ b) h)
   |_=>False
 | .alloc e=>match gH P e with
   |some z=>C (.ptr h.length 0) (h++[aq.cells (z.cells.toList.map fun u=> .d (.v u))])
   |none=>False
 | .box _ x=>dZ (ρ x).gZ<|C (.ptr h.length 0) (h++[aq.cells (ρ x).cells])
 | .load t a=>ml P t h (ρ a) fun x=>C x h
 | .store t a x=>vw P t h (ρ a) (ρ x) fun h'=>C (.d (.v undef)) h'
 | .nilCheck x=>match ρ x with
   | .ptr n off=>C (.ptr n off) h
   | .bE xs i off=>C (.bE xs i off) h
   | .fn f cs=>C (.fn f cs) h
   |_=>False
 | .fieldAddr S x f=>match qC P S f with
   |some (fo,_,_)=>match ρ x with
    | .ptr n off=>C (.ptr n (off+fo)) h
    | .bE xs i off=>C (.bE xs i (off+fo)) h
    |_=>False
   |none=>False
 | .field T x f=>uO P T (ρ x) f fun y=>C y h
 | .indexAddr T x i=>qP P T (ρ x) (ρ i) fun y=>C y h
 | .index T x i=>match ρ x,(ρ i).int? with
   | .d (.v (.string b)),some z=>dZ (fK P T) (0≤z∧(match b[z.toNat]? with|some c=>C (.d (.v (.int .u8 c.toNat))) h|none=>False))
   |_,_=>False
 | .build T ps=>xI P T (ps.toList.map fun p=>(p.1,ρ p.2)) fun y=>C y h
 | .buildSlice T len ps=>vv P T len (ps.toList.map fun p=>(p.1,ρ p.2)) fun y=>C y h
 | .slice T x lo hi mx=>tE P T ρ (ρ x) lo hi mx fun y=>C y h
 | .extract x i=>match ρ x with
   | .bk cs=>match cs[i]? with
     |some c=>C c h
     |none=>False
   |_=>False
 | .makeFunc (.func f) first cY=>match first.toList with
   |[]=>C (.fn f (cY.toList.map ρ)) h
   |_=>False
 | .binOp op T x y _=>w8 P T op (ρ x) (ρ y) fun v=>C v h
 | .unOp op _ x=>wZ op (ρ x) fun v=>C v h
 | .convert a b x=>vq P a b (ρ x) fun v=>C v h
 | .call c=>match c.callee with
   | .builtin .len=>match c.args.toList,c.argTypes.toList with
     |[x],[T]=>qE P T (ρ x) fun n=>C (.d (.v (.int .i64 n))) h
     |_,_=>False
   | .builtin .append=>match c.args.toList,c.argTypes.toList with
     |[x,y],[T,U]=>dZ (dG P U).isSome<|sX P T h (ρ x) (ρ y) fun v h'=>C v h'
     |_,_=>False
   | .builtin .max=>match Bp true (c.args.toList.map ρ)with
     |some (k,a)=>C (.d (.v (.int k a))) h
     |none=>False
   | .builtin .min=>match Bp false (c.args.toList.map ρ)with
     |some (k,a)=>C (.d (.v (.int k a))) h
     |none=>False
   | .value f=>match ρ f with
     | .fn g cY=>bQ P g (c.args.toList.map ρ++cY) h fun r h'=>C r h'
     | .hid q=>∃g cs,q= .fn g cs∧bQ P g (c.args.toList.map ρ++cs.map fQ.av) h fun r h'=>C r h'
     |_=>False
   |_=>False
 |op=>match nL P op ρ h with
  |some (x,h',p)=>p.ok∧C x h'
  |none=>False
def DD(P:ak6)(o:Oper)(K:St→Prop)(s:St):Prop:=
 match o.op with
 | .binOp op T x y _=>match (ev s x).er,ev s y,dG P T,xA op true,xA op false with
   |some xs, .d (.v (.slice none 0 0)),some _,some v1,some v2=>(xs=[]→K (s.put o.dst (.d (.v v1))))∧K (s.put o.dst (.d (.v v2)))
   |_,_,_,_,_=>False
 |_=>False
def IM(P:ak6)(o:Oper)(K:St→Prop)(s:St):Prop:=∃a x h' p,gC P o.op (ev s) s.h a=some (x,h',p)∧p∧K ((s.wh h').put o.dst x)
def oY(P:ak6)(o:Oper)(K:St→Prop)(s:St):Prop:=cp P o (ev s) s.h fun x h=>K ((s.wh h).put o.dst x)
def aby(P:ak6)(o:Oper)(K:St→Prop)(s:St):Prop:=IM P o K s∨DD P o K s∨oY P o K s
theorem ki(b o n:Nat):(⟨b,o,none⟩:Addr).add n=⟨b,o+n,none⟩:=by unfold Addr.add;split<;>simp_all
structure cx(G:Gh)(w:World)(a:Act)(s:St):Prop where
 size:a.tmps.size=s.n
 tmp:∀i,aN G w (a.tmps.getD i undef) (bB s.t i)
 inv:bW G w s.h
 df:pY G w a.defers
theorem nu.av{G:Gh}{w:ak8}{u:ak7}{c:fQ}(h:nu G.S w u c):aN G w u c.av:=by
 cases h with
 |d h=>exact .d h
 |bE c off b o u h1 h2=>exact .bE [c] 0 off b o u c rfl h1 h2
 |fn f vs cs hl h=>exact .hid (.fn f vs cs hl h) rfl
theorem aN.ji{G:Gh}{w:ak8}{u:ak7}{x:AV}(h:aN G w u x)(hb:x.ji=true):u.oneCell'=true:=by
 cases h with
 |d hp=>cases hp with
  |v u=>exact hb
  |sl=>rfl
 |agg=>simp [AV.ji]at hb
 |bk=>simp [AV.ji]at hb
 |own n xs _ hp=>cases hp;rfl
 |vec n o len L k _ hs=>obtain⟨A,l,c,rfl⟩:=hs;rfl
 |cQ n i j L k _ hs=>obtain⟨b,q,rfl⟩:=hs;rfl
 |full xs hp=>cases hp;rfl
 |hid h h1=>exact h1
 |dead=>simp [AV.ji]at hb
 |_=>rfl
theorem aN.cells{G:Gh}{w:ak8}{u:ak7}{x:AV}(h:aN G w u x)(hb:x.gZ=true):
 u.cells.size=x.cells.length∧∀(i:Nat)(v:ak7)(c:AV),u.cells[i]?=some v→x.cells[i]?=some c→aN G w v c∧v.oneCell'=true:=by
 have one:x.ji=true→x.cells=[x]→u.cells.size=x.cells.length∧∀(i:Nat)(v:ak7)(c:AV),u.cells[i]?=some v→x.cells[i]?=some c→aN G w v c∧v.oneCell'=true:=by
  intro hc hx;have ho:=h.ji hc;have hu:u.cells= #[u]:=by cases u<;>simp_all [Value.cells,Value.oneCell']
  rw[hu,hx];refine⟨rfl,fun i v c h1 h2=> ?_⟩
  match i with
  |0=>simp at h1 h2;subst h1;subst h2;exact⟨h,ho⟩
  |i+1=>simp at h2
 cases x with
 |agg cs=>
  cases h with
  |agg vs cs hl hr=>
   refine⟨hl,fun i v c h1 h2=> ?_⟩;have hv:=hr i v c h1 h2;refine⟨hv,hv.ji ?_⟩;simp only[AV.gZ,akF]at hb;exact hb c (aks h2)
 |bk cs=>simp [AV.gZ,AV.ji]at hb
 |dead=>simp [AV.gZ,AV.ji]at hb
 |_=>exact one hb rfl
theorem bW.lt{G:Gh}{w:ak8}{h:ak3 aq}(hi:bW G w h){n:Nat}{B:aq}(hb:h[n]?=some B):n<G.N:=by
 rw[←hi.len];exact(akf.1 hb).1
theorem bW.ia{G:Gh}{w:ak8}{h:ak3 aq}(hi:bW G w h){n b:Nat}(hb:b6 h G n=some b):b<w.heap.size:=by
 obtain⟨B,hB,hb⟩:=m4 hb;have hr:=hi.cW n B hB;cases B with
 |gone=>cases hb
 |cells cs=>
  obtain⟨_,_,vs,T,hh,_⟩:=hr;cases hb
  exact(aku.1 hh).1
 |lp ls p as bd cs=>
  obtain⟨_,_,fn,vs,T,hh,_⟩:=hr;cases hb
  exact(aku.1 hh).1
 |it sn cs=>
  obtain⟨_,_,fn,vs,T,hh,_⟩:=hr;cases hb
  exact(aku.1 hh).1
 |map kv=>
  obtain⟨_,_,es,c,hh,_⟩:=hr;cases hb
  exact(aku.1 hh).1
 |front e k len=>
  have hb:G.ow n=some b:=hb;obtain⟨_,_,h1|⟨g,cap,cur,h1,_,_,hh,_⟩⟩:=hr
  ·rw[h1.1]at hb;cases hb
  ·rw[h1]at hb;cases hb;exact(aku.1 hh).1
 |vec e k cs=>
  have hb:G.ow n=some b:=hb;obtain⟨_,_,_,h1|⟨g,cap,cur,h1,_,_,hh,_⟩⟩:=hr
  ·rw[h1.1]at hb;cases hb
  ·rw[h1]at hb;cases hb;exact(aku.1 hh).1
theorem dE.lI{G:Gh}{w:ak8}{n b:Nat}{B:aq}(hr:dE G w n B)(hb:B.dy G n=some b):¬G.Z b:=by
 cases B with
 |gone=>cases hb
 |cells cs=>cases hb;exact hr.1
 |lp ls p as bd cs=>cases hb;exact hr.1
 |it sn cs=>cases hb;exact hr.1
 |map kv=>cases hb;exact hr.1
 |front e k len=>
  have hb:G.ow n=some b:=hb;obtain⟨_,_,h1|⟨g,cap,cur,h1,_,hz,_⟩⟩:=hr
  ·rw[h1.1]at hb;cases hb
  ·rw[h1]at hb;cases hb;exact hz
 |vec e k cs=>
  have hb:G.ow n=some b:=hb;obtain⟨_,_,_,h1|⟨g,cap,cur,h1,_,hz,_⟩⟩:=hr
  ·rw[h1.1]at hb;cases hb
  ·rw[h1]at hb;cases hb;exact hz
theorem wG.bo{S S':Nat→Nat→Prop}{w w':ak8}{es:Array MapEntry}{c:Nat}{kv:ak3 (ak4×D)}(h:wG S w es c kv)(hS:∀b o,S b o→S' b o)(hc:∀b o,S b o→w'.cell? ⟨b,o,none⟩=w.cell? ⟨b,o,none⟩):wG S' w' es c kv:=
 ⟨h.size,h.stamped,fun e he=>let ⟨s,d,h1,h2,h3⟩:=h.x9 e he;⟨s,d,h1,h2,h3.bo hS hc⟩,h.all,h.len,h.born,h.G5⟩
theorem dE.bo{G G':Gh}{w w':ak8}{n:Nat}(hn:n<G.N)(hE:bR G.N G w G' w')(hN:G.N≤G'.N){B:aq}
 (hg:G'.fl n=G.fl n∧G'.sg n=G.sg n∧G'.ow n=G.ow n)
 (ho:∀b,B.dy G n=some b→w'.heap[b]?=w.heap[b]?∧∀o,¬G.S b o→¬G'.S b o)
 (h:dE G w n B):dE G' w' n B:=by
 obtain⟨f1,f2,f3⟩:=hg;cases B with
 |gone=>trivial
 |cells cs=>
  obtain⟨h1,h2,vs,T,h3,h4,h5⟩:=h;obtain⟨c2,c1⟩:=ho _ rfl;refine⟨by rw[hE.bm n hn];exact hE.lI (aku.1 h3).1 h1,by rw[hE.bm n hn];exact fun o=>c1 o (h2 o),vs,T,by rw[hE.bm n hn,c2];exact h3,h4,fun i u c hu hc=>(h5 i u c hu hc).bo hE hN⟩
 |lp ls p as bd cs=>
  obtain⟨h1,h2,fn,vs,T,h3,h4,h5⟩:=h;obtain⟨c2,c1⟩:=ho _ rfl;refine⟨by rw[hE.bm n hn];exact hE.lI (aku.1 h3).1 h1,by rw[hE.bm n hn];exact fun o=>c1 o (h2 o),fn,vs,T,by rw[hE.bm n hn,c2];exact h3,h4,fun i u c hu hc=>(h5 i u c hu hc).bo hE hN⟩
 |it sn cs=>
  obtain⟨h1,h2,fn,vs,T,h3,h4,h5⟩:=h;obtain⟨c2,c1⟩:=ho _ rfl;refine⟨by rw[hE.bm n hn];exact hE.lI (aku.1 h3).1 h1,by rw[hE.bm n hn];exact fun o=>c1 o (h2 o),fn,vs,T,by rw[hE.bm n hn,c2];exact h3,h4,fun i u c hu hc=>(h5 i u c hu hc).bo hE hN⟩
 |map kv=>
  obtain⟨h1,h2,es,c,h3,h4⟩:=h;obtain⟨c2,c1⟩:=ho _ rfl;exact⟨by rw[hE.bm n hn];exact hE.lI (aku.1 h3).1 h1,by rw[hE.bm n hn];exact fun o=>c1 o (h2 o),es,c,by rw[hE.bm n hn,c2];exact h3,h4.bo hE.S hE.cell⟩
 |front e k len=>
  obtain⟨h1,hm,h2⟩:=h;refine⟨f1.trans h1,hm,?_⟩;rcases h2 with⟨h2,A,h3⟩|⟨g,cap,cur,h2,h3,h4,h5,h6,h7,h8,h9⟩
  ·exact .inl ⟨f3.trans h2,A,f2.trans h3⟩
  ·obtain⟨f5,f6⟩:=ho g h2;exact .inr ⟨g,cap,cur,f3.trans h2,f2.trans h3,hE.lI (aku.1 h5).1 h4,f5.trans h5,h6,h7,h8,fun o ho=>f6 o (h9 o ho)⟩
 |vec e k cs=>
  obtain⟨h1,hm,hk,h2⟩:=h;refine⟨f1.trans h1,hm,hk,?_⟩;rcases h2 with⟨h2,e2,A,h3⟩|⟨g,cap,cur,h2,h3,h4,h5,h6,h7,h8,h9,az⟩
  ·exact .inl ⟨f3.trans h2,e2,A,f2.trans h3⟩
  ·obtain⟨f5,f6⟩:=ho g h2;exact .inr ⟨g,cap,cur,f3.trans h2,f2.trans h3,hE.lI (aku.1 h5).1 h4,f5.trans h5,h6,h7,h8,fun o=>f6 o (h9 o),fun i j c x u hc hx hu=>(az i j c x u hc hx hu).bo hE hN⟩
theorem cx.put{G:Gh}{w:ak8}{a:Act}{s:St}(h:cx G w a s){v:ak7}{x:AV}(hv:aN G w v x)(dst:ak5 Nat):cx G w (a.put dst v) (s.put dst x):=by
 cases dst with
 |none=>exact h
 |some d=>
  by_cases hd:d<s.n
  ·have e1:s.put (some d) x={s with t:=(d,x)::s.t}:=tT hd x;rw[e1];refine⟨by simp [Act.put,h.size],fun i=> ?_,h.inv,h.df⟩;by_cases hi:i=d
   ·subst hi;have:(a.tmps.setIfInBounds i v).getD i undef=v:=by simp [Array.getD,h.size,hd]
    simp only[Act.put,this,kN,if_true];exact hv
   ·have:(a.tmps.setIfInBounds d v).getD i undef=a.tmps.getD i undef:=by simp [Array.getElem?_setIfInBounds_ne (Ne.symm hi)]
    simp only[Act.put,this,kN,if_neg hi];exact h.tmp i
  ·have e1:s.put (some d) x=s:=CB hd x;have e2:a.put (some d) v=a:=by
    have:a.tmps.setIfInBounds d v=a.tmps:=Array.setIfInBounds_eq_of_size_le (by rw[h.size];omega);simp [Act.put,this]
   rw[e1,e2];exact h
theorem cx.move{G G':Gh}{w w':ak8}{a:Act}{s:St}(h:cx G w a s)(hE:bR G.N G w G' w')(hN:G.N≤G'.N){h':ak3 aq}(hi:bW G' w' h'):cx G' w' a {s with h:=h'}:=
 ⟨h.size,fun i=>(h.tmp i).bo hE hN,hi,h.df.bo hE⟩
theorem cx.ev{G:Gh}{w:ak8}{a:Act}{s:St}(h:cx G w a s)(x:Operand):aN G w (a.eval x) (ev s x):=by
 cases x with
 |tmp t=>exact h.tmp t
 |const v=>
  show aN G w v (LG v);unfold LG;split
  ·rename_i vs
   exact .agg vs _ (by simp) fun i u c hu hc=>by
    simp only[akm,akC,hu,Option.map_some,Option.some.injEq]at hc;subst hc;exact .d (.v u)
  ·rename_i vs
   exact .bk vs _ (by simp) fun i u c hu hc=>by
    simp only[akm,akC,hu,Option.map_some,Option.some.injEq]at hc;subst hc;exact .d (.v u)
  ·exact .d (.v v)
 |global g=>
  show aN G w (.pointer (some ⟨g,0,none⟩)) (match yx yc g with|some l=> .bE [l.map .v] 0 0|none=> .dead);split
  ·next l hl=>
   have hg:=h.inv.gl.1 g l (Up hl);have:=aN.bE (G:=G) (w:=w) [l.map .v] 0 0 g 0 (fun j=>l.getD j undef) (l.map .v) rfl (fun j hj=> ?_) (fun j d hd=> ?_)
   ·exact this
   ·rw[akk]at hj;have e:l[j]?=some l[j]:=akj hj;rw[akz];refine⟨(hg j _ e).1,?_⟩;rw[(hg j _ e).2];simp [hj]
   ·rw[akm]at hd;cases e:l[j]? with
    |none=>rw[e]at hd;cases hd
    |some v=>
     rw[e]at hd;cases hd
     have:l.getD j undef=v:=by simp [List.getD,e]
     rw[this];exact .v v
  ·exact .dead _
 |func f=>exact .fn f #[] [] rfl fun i u c hu=>by simp at hu
def Gh.dw(G:Gh)(b:Nat):Gh:={G with N:=G.N+1,bm:=fun n=>if n=G.N then b else G.bm n}
theorem CU(G:Gh)(w:ak8)(hz:∀b,G.Z b→b<w.heap.size)(hS:∀b o,G.S b o→b<w.heap.size)(o:Obj):bR G.N G w (G.dw w.heap.size) (w.alloc o):=
 ⟨by simp,fun _ _ h=>h,fun b _ h=>World.cell?_alloc_lt _ _ _ (hS _ _ h),fun n hn=>by simp [Gh.dw,Nat.ne_of_lt hn],fun _ _=> .inl ⟨rfl,rfl⟩,fZ rfl,
  fun b hb=>Below.heap_alloc w o b (hz b hb),rfl,rfl,rfl,fun _ _ h=> .inl h⟩
theorem Q7{G:Gh}{w:ak8}{h:ak3 aq}(hi:bW G w h)(vs:Array ak7)(T:TypeId)(cs:ak3 AV)(hl:vs.size=cs.length)
 (hr:∀(i:Nat)(u:ak7)(c:AV),vs[i]?=some u→cs[i]?=some c→aN G w u c):
 bW (G.dw w.heap.size) (w.alloc (.cells vs T)) (h++[.cells cs])∧aN (G.dw w.heap.size) (w.alloc (.cells vs T)) (.pointer (some ⟨w.heap.size,0,none⟩)) (.ptr h.length 0):=by
 have hE:=CU G w hi.z hi.S (.cells vs T);have hN:G.N≤(G.dw w.heap.size).N:=Nat.le_succ _;have iq:(G.dw w.heap.size).bm h.length=w.heap.size:=by simp [Gh.dw,hi.len]
 have lR:∀n(B:aq),n<G.N→B.dy (G.dw w.heap.size) n=B.dy G n:=fun n B hn=>by
  cases B<;>simp [aq.dy,Gh.dw,Nat.ne_of_lt hn]
 have fD:∀n,n<G.N→b6 (h++[.cells cs]) (G.dw w.heap.size) n=b6 h G n:=fun n hn=>by
  have a7:n<h.length:=by rw[hi.len];exact hn
  unfold b6;rw[akp a7,akj a7];exact lR n _ hn
 have Fh:b6 (h++[.cells cs]) (G.dw w.heap.size) h.length=some w.heap.size:=by
  rw[dm (B:= .cells cs) (by simp)];exact congrArg some iq
 refine⟨⟨by simp [Gh.dw,hi.len],fun b hb=>akD (hi.z b hb) hE.size,fun b o hs=>akD (hi.S b o hs) hE.size,fun n B hB=> ?_,fun m n b hm hn=> ?_,hi.gl.bo hE⟩,?_⟩
 ·by_cases hn:n<h.length
  ·rw[akp hn]at hB;have eG:n<G.N:=hi.len▸hn;exact dE.bo eG hE hN ⟨rfl,rfl,rfl⟩ (fun b hb=>⟨Below.heap_alloc w _ _ (hi.ia (n:=n) ((dm hB).trans hb)),fun o h=>h⟩) (hi.cW n B hB)
  ·have l4:n=h.length:=by
    have:=(akf.1 hB).1;simp at this;omega
   subst l4;simp at hB;subst hB;exact⟨by rw[iq];exact fun hz=>akT _ (hi.z _ hz),fun o hs=>by rw[iq]at hs;exact akT _ (hi.S _ _ hs),vs,T,by rw[iq];exact World.alloc_heap_new w _,hl,fun i u c hu hc=>(hr i u c hu hc).bo hE hN⟩
 ·have key:∀n b,b6 (h++[.cells cs]) (G.dw w.heap.size) n=some b→(n<G.N∧b6 h G n=some b)∨(n=h.length∧b=w.heap.size):=fun n b hn=>by
   by_cases a7:n<G.N
   ·exact .inl ⟨a7,by rw[←fD n a7];exact hn⟩
   ·by_cases e:n=h.length
    ·subst e;rw[Fh]at hn;cases hn;exact .inr ⟨rfl,rfl⟩
    ·rw[zf (akL (by simp;have:=hi.len;omega))]at hn;cases hn
  rcases key m b hm with⟨_,jT⟩|⟨rfl,rfl⟩<;>rcases key n _ hn with⟨_,eG⟩|⟨rfl,hb⟩
  ·exact hi.inj m n b jT eG
  ·have:=hi.ia jT;omega
  ·have:=hi.ia eG;omega
  ·rfl
 ·have:=aN.ptr (G:=G.dw w.heap.size) (w:=w.alloc (.cells vs T)) h.length 0 (by simp [Gh.dw,hi.len])
  rwa [iq]at this
theorem Km(w:ak8)(g:Nat)(cs:Array ak7):(w.setRow g cs).heap.size=w.heap.size:=by simp [World.setRow]
theorem afb(w:ak8)(g:Nat)(cs:Array ak7)(b o:Nat)(h:b≠g):(w.setRow g cs).cell? ⟨b,o,none⟩=w.cell? ⟨b,o,none⟩:=World.cell?_of_block (setRow_other w g b cs h)
theorem XY{G:Gh}{w:ak8}{g:Nat}(cs:Array ak7)(hg:¬G.Z g)(hS:∀b o,G.S b o→(w.setRow g cs).cell? ⟨b,o,none⟩=w.cell? ⟨b,o,none⟩):bR G.N G w G (w.setRow g cs):=
 ⟨by rw[Km];exact akq _,fun _ _ h=>h,hS,fun _ _=>rfl,fun _ _=> .inl ⟨rfl,rfl⟩,fZ rfl,fun b hb=>setRow_other w g b cs (fun e=>hg (e▸hb)),rfl,rfl,rfl,fun _ _ h=> .inl h⟩
theorem DK(cs ys:ak3 AV)(off:Nat)(h:off+ys.length≤cs.length):(fO cs off ys).length=cs.length:=by
 simp [fO];omega
theorem adS{R:ak7→AV→Prop}(vs us:Array ak7)(cs ys:ak3 AV)(off:Nat)(hl:vs.size=cs.length)(hu:us.size=ys.length)(hb:off+ys.length≤cs.length)
 (hr:∀(i:Nat)(u:ak7)(c:AV),vs[i]?=some u→cs[i]?=some c→R u c) (ng:∀(i:Nat)(u:ak7)(c:AV),us[i]?=some u→ys[i]?=some c→R u c):
 ∀(i:Nat)(u:ak7)(c:AV),(vs.toList.take off++us.toList++vs.toList.drop (off+us.toList.length)).toArray[i]?=some u→(fO cs off ys)[i]?=some c→R u c:=by
 intro i u c h1 h2;have mM:us.toList.length=ys.length:=by rw[akM,hu]
 rw[mM]at h1;rw[List.getElem?_toArray]at h1;unfold fO at h2;simp only[akw]at h1 h2;have wW:vs.toList.length=cs.length:=by rw[akM,hl]
 by_cases h:i<off
 ·rw[akp (by simp;omega),List.getElem?_take_of_lt h]at h1;rw[akp (by simp;omega),List.getElem?_take_of_lt h]at h2;exact hr i u c (by rw[←akC];exact h1) h2
 ·rw[akv (by simp;omega)]at h1 h2;simp only[List.length_take,wW]at h1 h2;rw[Nat.min_eq_left (by omega)]at h1 h2;by_cases h':i-off<ys.length
  ·rw[akp (by rw[mM];exact h')]at h1;rw[akp h']at h2;exact ng (i-off) u c (by rw[←akC];exact h1) h2
  ·rw[akv (by rw[mM];omega),List.getElem?_drop]at h1;rw[akv (by omega),List.getElem?_drop]at h2;rw[mM]at h1;rw[show off+ys.length+(i-off-ys.length)=i by omega]at h1 h2;exact hr i u c (by rw[←akC];exact h1) h2
theorem agQ{P:ak6}{G:Gh}{w:ak8}{h:ak3 aq}(hi:bW G w h){n off:Nat}{cs:ak3 AV}(hn:h[n]?=some (.cells cs)){t:TypeId}{v:ak7}{x:AV}
 (hv:aN G w v x) (hb:x.gZ=true) (ht:eJ P t=some x.cells.length) (ho:off+x.cells.length≤cs.length):
 ∃w',(storeVar t ⟨G.bm n,off,none⟩ v).run P w= .ok () w'∧bR G.N G w G w'∧bW G w' (h.set n (.cells (fO cs off x.cells))):=by
 obtain⟨hz,hS,vs,T,hh,hl,hr⟩:=hi.cW n _ hn;obtain⟨A9,Q4⟩:=hv.cells hb;obtain⟨i,ik,jn⟩:∃i,P.info? t=some i∧i.size=x.cells.length:=by
  unfold eJ at ht;cases hq:P.info? t with
  |none=>rw[hq]at ht;cases ht
  |some i=>rw[hq]at ht;exact⟨i,rfl,by simpa using ht⟩
 have gj:=run_storeCells_at P (G.bm n) off T v.cells.toList 0 vs w hh (by rw[akM,A9,hl];simpa using ho) (fun u hu=>by
  obtain⟨j,hj⟩:=List.mem_iff_getElem?.1 hu;have hX:v.cells[j]?=some u:=by rw[←akC];exact hj
  have Ae:j<x.cells.length:=by rw[←A9];exact(aku.1 hX).1
  exact(Q4 j u _ hX (akj Ae)).2)
 simp only[Nat.add_zero]at gj;obtain⟨w',dJ⟩:∃w',w'=w.setRow (G.bm n) (vs.toList.take off++v.cells.toList++vs.toList.drop (off+v.cells.toList.length)).toArray:=⟨_,rfl⟩;rw[←dJ]at gj;have hE:bR G.N G w G w':=by
  rw[dJ];exact XY _ hz fun b o hs=>afb w _ _ b o (fun e=>hS o (e▸hs))
 have dV:∀m,m≠n→(h.set n (.cells (fO cs off x.cells)))[m]?=h[m]?:=fun m hm=>by rw[akN (Ne.symm hm)]
 have kT:(h.set n (.cells (fO cs off x.cells)))[n]?=some (.cells (fO cs off x.cells)):=by
  rw[akI (akf.1 hn).1]
 have dB:∀m,b6 (h.set n (.cells (fO cs off x.cells))) G m=b6 h G m:=fun m=>by
  by_cases e:m=n
  ·subst e;rw[dm kT,dm hn];rfl
  ·unfold b6;rw[dV m e]
 have lE:b6 h G n=some (G.bm n):=dm hn;refine⟨w',?_,hE,⟨by rw[List.length_set];exact hi.len,fun b hb=>akD (hi.z b hb) hE.size,fun b o hs=>akD (hi.S b o hs) hE.size,fun m B hB=> ?_,fun m m' b h1 h2=>hi.inj m m' b (by rw[←dB];exact h1) (by rw[←dB];exact h2),hi.gl.bo hE⟩⟩
 ·unfold storeVar;simp only[sizeOf,typeInfo,Sem.run_bind,A9];simp [ik,jn,gj]
 ·by_cases e:m=n
  ·subst e;rw[kT]at hB;cases hB
   refine⟨hz,hS,_,T,by rw[dJ];exact setRow_heap w _ vs _ T _ hh,?_,fun i u c hu hc=> ?_⟩
   ·rw[DK _ _ _ ho];have:v.cells.toList.length=x.cells.length:=by rw[akM];exact A9
    simp only[List.size_toArray,akg,List.length_take,List.length_drop,akM,hl,A9];omega
   ·exact(adS (R:=aN G w) vs v.cells cs x.cells off hl A9 ho hr (fun i u c h1 h2=>(Q4 i u c h1 h2).1) i u c hu hc).bo hE (akq _)
  ·rw[dV m e]at hB;have cu:∀b,b6 h G m=some b→b≠G.bm n:=fun b hb eb=>e (hi.inj m n b hb (by rw[eb];exact lE));refine dE.bo (hi.lt hB) hE (akq _) ⟨rfl,rfl,rfl⟩ (fun b hb=>⟨?_,fun o h=>h⟩) (hi.cW m B hB);rw[dJ];exact setRow_other w _ _ _ (cu _ ((dm hB).trans hb))
theorem dc.nI{S:Nat→Nat→Prop}{w:ak8}{v:ak7}{xs:ak3 (ak3 D)}(h:dc S w v (.sl xs)):
 ∃(A:ak5 Addr)(b o c k:Nat)(u:Nat→Nat→ak7),v= .slice A xs.length c∧(xs≠ []→A=some ⟨b,o,none⟩)∧xs.length≤c∧c≤maxLen∧(∀x∈xs,x.length=k)∧
  (∀i j,i<xs.length→j<k→S b (o+i*k+j)∧w.cell? ⟨b,o+i*k+j,none⟩=some (u i j)∧(u i j).oneCell'=true)∧
  (∀(i j:Nat)(x:ak3 D)(d:D),xs[i]?=some x→x[j]?=some d→dc S w (u i j) d):=by
 cases h with
 |sl A b o c k xs u hA hc hm hk hS hu=>exact⟨A,b,o,c,k,u,rfl,hA,hc,hm,hk,hS,hu⟩
structure Rd(S:Nat→Nat→Prop)(w:World)(k:Nat)(xs:List (List D))(us:List Value):Prop where
 len:us.length=xs.length*k
 wid:∀x∈xs,x.length=k
 one:∀u∈us,u.oneCell'=true
 rel:∀(i j:Nat)(x:List D)(d:D),xs[i]?=some x→x[j]?=some d→∃u,us[i*k+j]?=some u∧dc S w u d
theorem Rd.bo{S S':Nat→Nat→Prop}{w w':ak8}{k:Nat}{xs:ak3 (ak3 D)}{us:ak3 ak7}(h:Rd S w k xs us)(hS:∀b o,S b o→S' b o)(hc:∀b o,S b o→w'.cell? ⟨b,o,none⟩=w.cell? ⟨b,o,none⟩):Rd S' w' k xs us:=
 ⟨h.len,h.wid,h.one,fun i j x d hx hd=>let ⟨u,h1,h2⟩:=h.rel i j x d hx hd;⟨u,h1,h2.bo hS hc⟩⟩
theorem Rd.append{S:Nat→Nat→Prop}{w:ak8}{k:Nat}{xs ys:ak3 (ak3 D)}{us vs:ak3 ak7}(h:Rd S w k xs us)(h':Rd S w k ys vs):Rd S w k (xs++ys) (us++vs):=by
 refine⟨by rw[akg,akg,h.len,h'.len,Nat.add_mul],fun x hx=> ?_,fun u hu=> ?_,fun i j x d hx hd=> ?_⟩
 ·rcases akR.1 hx with hx|hx
  ·exact h.wid x hx
  ·exact h'.wid x hx
 ·rcases akR.1 hu with hu|hu
  ·exact h.one u hu
  ·exact h'.one u hu
 ·by_cases hi:i<xs.length
  ·rw[akp hi]at hx;obtain⟨u,h1,h2⟩:=h.rel i j x d hx hd;exact⟨u,by rw[akp (akf.1 h1).1];exact h1,h2⟩
  ·rw[akv (by omega)]at hx;obtain⟨u,h1,h2⟩:=h'.rel (i-xs.length) j x d hx hd;refine⟨u,?_,h2⟩;have e:i*k+j=xs.length*k+((i-xs.length)*k+j):=by rw[Nat.sub_mul];have:=Nat.mul_le_mul_right k (Nat.le_of_not_lt hi);omega
   rw[e,akv (by rw[h.len];omega),h.len,Nat.add_sub_cancel_left];exact h1
theorem Rd.Ix{S:Nat→Nat→Prop}{w:ak8}{k:Nat}{xs:ak3 (ak3 D)}{us:ak3 ak7}(h:Rd S w k xs us)(b c:Nat)(hc:xs.length≤c)(hm:c≤maxLen)
 (hS:∀o,o<xs.length*k→S b o) (gb:∀(o:Nat)(u:ak7),us[o]?=some u→w.cell? ⟨b,o,none⟩=some u):dc S w (.slice (some ⟨b,0,none⟩) xs.length c) (.sl xs):=by
 refine .sl _ b 0 c k xs (fun i j=>us.getD (i*k+j) undef) (fun _=>rfl) hc hm h.wid (fun i j hi hj=> ?_) (fun i j x d hx hd=> ?_)
 ·have a7:i*k+j<xs.length*k:=by
   have:(i+1)*k≤xs.length*k:=Nat.mul_le_mul_right k hi;rw[Nat.add_mul]at this;omega
  have hg:us[i*k+j]?=some (us[i*k+j]'(by rw[h.len];exact a7)):=akj (by rw[h.len];exact a7);rw[akz];refine⟨hS _ a7,?_,?_⟩
  ·rw[gb _ _ hg];simp [hg]
  ·simp only[List.getD_eq_getElem?_getD,hg,Option.getD_some];exact h.one _ (List.getElem_mem _)
 ·obtain⟨u,h1,h2⟩:=h.rel i j x d hx hd;simp only[List.getD_eq_getElem?_getD,h1,Option.getD_some];exact h2
theorem dc.rd{S:Nat→Nat→Prop}{w:ak8}{v:ak7}{xs:ak3 (ak3 D)}{k:Nat}(h:dc S w v (.sl xs))(fy:0<k)(hk:∀x∈xs,x.length=k):
 ∃us,Rd S w k xs us∧∃A c,v= .slice A xs.length c∧xs.length≤c∧c≤maxLen∧(xs≠ []→∃b o,A=some ⟨b,o,none⟩∧∀(j:Nat)(u:ak7),us[j]?=some u→S b (o+j)∧w.cell? ⟨b,o+j,none⟩=some u):=by
 obtain⟨A,b,o,c,k',u,rfl,hA,hc,hm,hJ,hS,hu⟩:=h.nI;by_cases hx:xs=[]
 ·subst hx;exact⟨[],⟨by simp,(fun _ h=>by cases h),(fun _ h=>by cases h),fun i j x d hx=>by simp at hx⟩,A,c,rfl,hc,hm,fun h=>absurd rfl h⟩
 ·have ek:k'=k:=by
   obtain⟨x,m8⟩:=List.exists_mem_of_ne_nil xs hx;rw[←hJ x m8,hk x m8]
  subst ek;refine⟨(List.range (xs.length*k')).map fun t=>u (t / k') (t%k'),⟨by simp,hk,fun v hv=> ?_,fun i j x d hx hd=> ?_⟩,A,c,rfl,hc,hm,fun cu=>⟨b,o,hA cu,fun j v hv=> ?_⟩⟩
  ·obtain⟨t,ht,rfl⟩:=List.mem_map.1 hv;have pK:=List.mem_range.1 ht;exact(hS (t / k') (t%k') (Nat.div_lt_of_lt_mul (by rw[Nat.mul_comm];exact pK)) (Nat.mod_lt _ fy)).2.2
  ·have hj:j<k':=by rw[←hk x (aks hx)];exact(akf.1 hd).1
   have hi:i<xs.length:=(akf.1 hx).1;refine⟨u i j,?_,hu i j x d hx hd⟩;have a7:i*k'+j<xs.length*k':=by
    have:(i+1)*k'≤xs.length*k':=Nat.mul_le_mul_right k' hi;rw[Nat.add_mul]at this;omega
   rw[akm,List.getElem?_range a7];simp only[Option.map_some,Option.some.injEq];rw[show(i*k'+j)/ k'=i by rw[Nat.add_comm,Nat.add_mul_div_right _ _ fy,Nat.div_eq_of_lt hj,akz],show(i*k'+j)%k'=j by rw[Nat.add_comm,Nat.add_mul_mod_self_right,Nat.mod_eq_of_lt hj]]
  ·rw[akm]at hv;by_cases hj:j<xs.length*k'
   ·rw[List.getElem?_range hj]at hv;simp only[Option.map_some,Option.some.injEq]at hv;subst hv;have:=hS (j / k') (j%k') (Nat.div_lt_of_lt_mul (by rw[Nat.mul_comm];exact hj)) (Nat.mod_lt _ fy);have e:o+j / k'*k'+j%k'=o+j:=by have:=Nat.div_add_mod j k';rw[Nat.mul_comm]at this;omega
    rw[e]at this;exact⟨this.1,this.2.1⟩
   ·rw[akL (by simp;omega)]at hv;cases hv
theorem dc.src{P:ak6}{S:Nat→Nat→Prop}{w:ak8}{v:ak7}{xs:ak3 (ak3 D)}{k:Nat}(h:dc S w v (.sl xs))(fy:0<k)(hk:∀x∈xs,x.length=k){tx e':TypeId}(ht:P.underlying tx=some (.slice e')):
 ∃us,Rd S w k xs us∧Src P k tx v xs.length us w:=by
 obtain⟨us,hr,A,c,rfl,_,_,hA⟩:=h.rd fy hk;refine⟨us,hr,?_⟩;by_cases hx:xs=[]
 ·subst hx;have kS:us=[]:=List.eq_nil_of_length_eq_zero (by rw[hr.len];simp);subst kS;cases A with
  |none=>exact Src.ofNil w ht c
  |some a=>exact Src.ofSlice w ht a 0 c [] (by simp) (fun j u hu=>by simp at hu) (fun u hu=>by cases hu)
 ·obtain⟨b,o,rfl,hc⟩:=hA hx;exact Src.ofSlice w ht _ _ c us hr.len (fun j u hu=>by rw[ki];exact(hc j u hu).2) hr.one
def Gh.fY(G:Gh)(v:ak7)(len:Nat):Gh:=
 {G with N:=G.N+1,sg:=fun n=>if n=G.N then v else G.sg n,fl:=fun n=>if n=G.N then len else G.fl n,ow:=fun n=>if n=G.N then none else G.ow n}
theorem Sr{G:Gh}{w:ak8}{h:ak3 aq}(hi:bW G w h){v:ak7}{xs:ak3 (ak3 D)}(hv:dc G.S w v (.sl xs))(hf:∃A,v= .slice A xs.length xs.length)(e:TypeId)(k:Nat):
 bR G.N G w (G.fY v xs.length) w∧G.N≤(G.fY v xs.length).N∧bW (G.fY v xs.length) w (h++[.front e k xs.length])∧aN (G.fY v xs.length) w v (.own h.length xs):=by
 have cu:∀n,n<G.N→n≠G.N:=fun n hn=>Nat.ne_of_lt hn;have hE:bR G.N G w (G.fY v xs.length) w:=⟨akq _,fun _ _ h=>h,fun _ _ _=>rfl,fun _ _=>rfl,fun n hn=> .inl ⟨by simp [Gh.fY,cu n hn],by simp [Gh.fY,cu n hn]⟩,fZ rfl,fun _ _=>rfl,rfl,rfl,rfl,fun _ _ h=> .inl h⟩;have hN:G.N≤(G.fY v xs.length).N:=Nat.le_succ _;have Tn:xs.length≤maxLen:=by
  obtain⟨A,b,o,c,k',u,_,_,h1,h2,_⟩:=hv.nI;exact akx h1 h2
 have lR:∀n(B:aq),n<G.N→B.dy (G.fY v xs.length) n=B.dy G n:=fun n B hn=>by
  cases B<;>simp [aq.dy,Gh.fY,Nat.ne_of_lt hn]
 have hold:∀n b,b6 (h++[.front e k xs.length]) (G.fY v xs.length) n=some b→b6 h G n=some b:=fun n b hb=>by
  by_cases hn:n<h.length
  ·unfold b6 at hb ⊢;rw[akp hn,akj hn]at hb;rw[akj hn];rw[←hb];exact(lR n _ (hi.len▸hn)).symm
  ·by_cases en:n=h.length
   ·subst en;rw[dm (B:= .front e k xs.length) (by simp)]at hb;simp [aq.dy,Gh.fY,hi.len]at hb
   ·rw[zf (akL (by simp;omega))]at hb;cases hb
 refine⟨hE,hN,⟨by simp [Gh.fY,hi.len],hi.z,hi.S,fun n B hB=> ?_,fun m n b hm hn=>hi.inj m n b (hold m b hm) (hold n b hn),hi.gl.bo hE⟩,?_⟩
 ·by_cases hn:n<h.length
  ·rw[akp hn]at hB;have eG:n<G.N:=hi.len▸hn;exact dE.bo eG hE hN ⟨by simp [Gh.fY,cu n eG],by simp [Gh.fY,cu n eG],by simp [Gh.fY,cu n eG]⟩ (fun b hb=>⟨rfl,fun o h=>h⟩) (hi.cW n B hB)
  ·have l4:n=h.length:=by
    have:=(akf.1 hB).1;simp at this;omega
   subst l4;simp at hB;subst hB;obtain⟨A,hA⟩:=hf;exact⟨by simp [Gh.fY,hi.len],Tn, .inl ⟨by simp [Gh.fY,hi.len],A,by simp [Gh.fY,hi.len,hA]⟩⟩
 ·exact .own h.length xs (by simp [Gh.fY,hi.len]) hv (by simp [Gh.fY,hi.len]) (fun _=>by simp [Gh.fY,hi.len])
theorem Ly{P:ak6}{e k b:Nat}(hk:eJ P e=some k)(hb:rR P e=some b):∃i,P.info? e=some i∧i.size=k∧i.bytes=b:=by
 unfold eJ at hk;unfold rR at hb;cases hq:P.info? e with
 |none=>rw[hq]at hk;cases hk
 |some i=>rw[hq]at hk hb;exact⟨i,rfl,by simpa using hk,by simpa using hb⟩
def Gh.grow(G:Gh)(n:Nat)(S:Nat→Nat→Prop)(v:ak7)(len:Nat)(ow:ak5 Nat):Gh:=
 {G with S:=S,sg:=fun m=>if m=n then v else G.sg m,fl:=fun m=>if m=n then len else G.fl m,ow:=fun m=>if m=n then ow else G.ow m}
theorem Vu{G:Gh}{w w':ak8}{h:ak3 aq}(hi:bW G w h){n e k len fv:Nat}(hn:h[n]?=some (.front e k len))(S:Nat→Nat→Prop)(v:ak7)(g:Nat)
 (hE:bR G.N G w (G.grow n S v fv (some g)) w') (hg:g=w.heap.size∨G.ow n=some g) (hgw:g<w'.heap.size)
 (hS:∀b o,S b o→G.S b o∨b=g) (gn:∀b,b<w.heap.size→b≠g→w'.heap[b]?=w.heap[b]?)
 (hB:dE (G.grow n S v fv (some g)) w' n (.front e k fv)):bW (G.grow n S v fv (some g)) w' (h.set n (.front e k fv)):=by
 have dV:∀m,m≠n→(h.set n (.front e k fv))[m]?=h[m]?:=fun m hm=>by rw[akN (Ne.symm hm)]
 have kT:(h.set n (.front e k fv))[n]?=some (.front e k fv):=by rw[akI (akf.1 hn).1]
 have lR:∀m(B:aq),m≠n→B.dy (G.grow n S v fv (some g)) m=B.dy G m:=fun m B hm=>by
  cases B<;>simp [aq.dy,Gh.grow,hm]
 have dB:∀m,m≠n→b6 (h.set n (.front e k fv)) (G.grow n S v fv (some g)) m=b6 h G m:=fun m hm=>by
  unfold b6;rw[dV m hm];cases h[m]? with
  |none=>rfl
  |some B=>exact lR m B hm
 have wm:∀m,m≠n→b6 h G m≠some g:=fun m hm hb=>by
  rcases hg with hg|hg
  ·have:=hi.ia hb;omega
  ·exact hm (hi.inj m n g hb ((dm hn).trans hg))
 refine⟨by rw[List.length_set];exact hi.len,fun b hb=>akD (hi.z b hb) hE.size,fun b o hs=> ?_,fun m B hm=> ?_,fun m m' b h1 h2=> ?_,hi.gl.bo hE⟩
 ·rcases hS b o hs with hs|hs
  ·exact akD (hi.S b o hs) hE.size
  ·rw[hs];exact hgw
 ·by_cases em:m=n
  ·subst em;rw[kT]at hm;cases hm;exact hB
  ·rw[dV m em]at hm;refine dE.bo (hi.lt hm) hE (akq _) ⟨by simp [Gh.grow,em],by simp [Gh.grow,em],by simp [Gh.grow,em]⟩ (fun b hb=> ?_) (hi.cW m B hm);have hr:b6 h G m=some b:=(dm hm).trans hb;have cu:b≠g:=fun e'=>wm m em (by rw[hr,e']);refine⟨gn _ (hi.ia hr) cu,fun o jx hs=> ?_⟩;rcases hS _ o hs with hs|hs
   ·exact jx hs
   ·exact cu hs
 ·by_cases e1:m=n<;>by_cases e2:m'=n
  ·rw[e1,e2]
  ·subst e1;rw[dB m' e2]at h2;have:b6 (h.set m (.front e k fv)) (G.grow m S v fv (some g)) m=some g:=by rw[dm kT];simp [aq.dy,Gh.grow]
   rw[this]at h1;cases h1;exact absurd h2 (wm m' e2)
  ·subst e2;rw[dB m e1]at h1;have:b6 (h.set m' (.front e k fv)) (G.grow m' S v fv (some g)) m'=some g:=by rw[dm kT];simp [aq.dy,Gh.grow]
   rw[this]at h2;cases h2;exact absurd h1 (wm m e1)
  ·rw[dB m e1]at h1;rw[dB m' e2]at h2;exact hi.inj m m' b h1 h2
set_option maxHeartbeats 1000000 in
theorem PW{P:ak6}{G:Gh}{w:ak8}{h:ak3 aq}(hi:bW G w h){T tx ty e k ct:Nat}{i:TypeInfo}{z:ak7}(hT:P.underlying T=some (.slice e))(jH:P.info? e=some i)(hz:i.zero=some z)(nY:i.size=k)(uM:i.bytes=ct)(iJ:z.cells.size=k)
 (fy:0<k) {n:Nat} {xs ys:ak3 (ak3 D)} (hn:h[n]?=some (.front e k xs.length)) {u v:ak7} (hu:aN G w u (.own n xs)) (lL:∀x∈xs,x.length=k)
 {us:ak3 ak7} (hr:Rd G.S w k ys us) (hs:Src P k tx v ys.length us w) (wI:xs.length+ys.length≤maxLen) (n9:(xs.length+ys.length)*ct≤140737488355328):
 ∃r w' G',(Builtin.append_ #[T,tx] ty #[u,v]).run P w= .ok r w'∧bR G.N G w G' w'∧G.N≤G'.N∧bW G' w' (h.set n (.front e k (xs.length+ys.length)))∧aN G' w' r (.own n (xs++ys)):=by
 subst nY;subst uM;have mI:=hi.lt hn;obtain⟨kR,Tn,Yk⟩:=hi.cW n _ hn;obtain⟨hp,Ws⟩:dc G.S w u (.sl xs)∧u=G.sg n:=by
  cases hu with
  |own _ _ _ hp hle hf=>exact⟨hp,hf kR.symm⟩
 obtain⟨olds,yr,A,c,AO,jJ,p5,hA⟩:=hp.rd fy lL;have DO:h.set n (.front e i.size (xs.length+0))=h:=by
  rw[Nat.add_zero];refine List.ext_getElem? fun m=> ?_;by_cases em:m=n
  ·subst em;rw[akI (akf.1 hn).1,hn]
  ·rw[akN (Ne.symm em)]
 by_cases hy:ys.length=0
 ·have iC:ys=[]:=List.eq_nil_of_length_eq_zero hy;subst iC;have kS:us=[]:=List.eq_nil_of_length_eq_zero (by rw[hr.len];simp);subst kS;have:=run_append_nothing (P:=P) w T tx ty e i hT jH A xs.length c jJ v hs;refine⟨u,w,G,by rw[AO];exact this,bR.refl _ _ _,akq _,?_,by rw[akA];exact hu⟩;simp only[akr];rw[DO];exact hi
 ·have hy0:0<ys.length:=Nat.pos_of_ne_zero hy;have NM:xs.length+ys.length≤9223372036854775807:=by simp only[maxLen]at wI;omega
  have KT:Rd G.S w i.size (xs++ys) (olds++us):=yr.append hr;have grow:c<xs.length+ys.length→∃r w' G',(Builtin.append_ #[T,tx] ty #[u,v]).run P w= .ok r w'∧bR G.N G w G' w'∧G.N≤G'.N∧bW G' w' (h.set n (.front e i.size (xs.length+ys.length)))∧aN G' w' r (.own n (xs++ys)):=by
   intro hg;have hold:(Builtin.firstCells i.size xs.length (.slice A xs.length c)).run P w.drew= .ok olds.toArray w.drew:=by
    by_cases hx:xs=[]
    ·subst hx;have:olds=[]:=List.eq_nil_of_length_eq_zero (by rw[yr.len];simp);subst this;cases A with
     |none=>exact run_firstCells_none _ _ _ _ _
     |some a=>exact run_firstCells_some _ _ _ _ _ _ [] (by simp) (fun j u hu=>by simp at hu)
    ·obtain⟨b,o,rfl,hc⟩:=hA hx;exact run_firstCells_some _ _ _ _ _ _ olds yr.len (fun j u hu=>by rw[ki];exact(hc j u hu).2)
   have de:=run_append_grow_src (P:=P) w T tx ty e i z hT jH hz A xs.length c olds hold v ys.length us hs hg (by omega) (growslice_fits hg n9);obtain⟨cap,iS⟩:∃cap,cap=grownCap w (xs.length+ys.length) c e:=⟨_,rfl⟩;have jc:xs.length+ys.length≤cap:=by rw[iS];exact grownCap_ge _ _ _ _
   have hle:cap≤maxLen:=by rw[iS];exact grownCap_le_maxLen _ _ _ _ wI
   rw[←iS]at de;obtain⟨cur,iP⟩:∃cur,cur=(olds++us).toArray++Builtin.zeroCells z.cells (cap-(xs.length+ys.length)):=⟨_,rfl⟩;rw[←iP]at de;obtain⟨w',dJ⟩:∃w',w'=w.drew.alloc (.cells cur e):=⟨_,rfl⟩;rw[←dJ]at de;have fi:cur.size=cap*i.size:=by
     have:=size_zeroCells z.cells (cap-(xs.length+ys.length));rw[iP,Array.size_append,this,List.size_toArray,KT.len,iJ,akg,←Nat.add_mul]
     congr 1
     omega
   have fD:w'.heap[w.heap.size]?=some (.cells cur e (0,0)):=by rw[dJ];exact World.alloc_heap_new w.drew _
   have PE:∀b,b<w.heap.size→w'.heap[b]?=w.heap[b]?:=fun b hb=>by rw[dJ];exact Below.heap_alloc w.drew _ b hb
   have gL:w'.heap.size=w.heap.size+1:=by rw[dJ];simp
   obtain⟨S,hS⟩:∃S:Nat→Nat→Prop,S=fun b o=>G.S b o∨(b=w.heap.size∧o<(xs.length+ys.length)*i.size):=⟨_,rfl⟩;have gb:∀b o,G.S b o→w'.cell? ⟨b,o,none⟩=w.cell? ⟨b,o,none⟩:=fun b o hs=>World.cell?_of_block (PE b (hi.S b o hs));have hE:bR G.N G w (G.grow n S (.slice (some ⟨w.heap.size,0,none⟩) (xs.length+ys.length) cap) (xs.length+ys.length) (some w.heap.size)) w':=
    ⟨by rw[gL];exact Nat.le_succ _,fun b o h=>by show S b o;rw[hS];exact .inl h,gb,fun _ _=>rfl,
     fun m _=>by
      by_cases em:m=n
      ·right;subst em;simp only[Gh.grow,if_true,kR];omega
      ·left;exact⟨by simp [Gh.grow,em],by simp [Gh.grow,em]⟩,
     fZ rfl,fun b hb=>PE b (hi.z b hb),by rw[dJ];rfl,by rw[dJ];rfl,by rw[dJ];rfl,fun b o hs=>by
      have ck:S b o:=hs;rw[hS]at ck;rcases ck with h|⟨rfl,_⟩
      ·exact .inl h
      ·exact .inr fun hz=>akT _ (hi.z _ hz)⟩
   have hP:dc S w' (.slice (some ⟨w.heap.size,0,none⟩) (xs++ys).length cap) (.sl (xs++ys)):=by
    refine(KT.bo (S':=S) (w':=w') (fun b o h=>by rw[hS];exact .inl h) gb).Ix w.heap.size cap (by rw[akg];exact jc) hle (fun o ho=>by rw[hS];exact .inr ⟨rfl,by rw[akg]at ho;exact ho⟩) (fun o x ho=> ?_);rw[cell_of_row w' w.heap.size o cur e (0,0) fD,iP,Array.getElem?_append_left (by simp only[List.size_toArray];exact(akf.1 ho).1),List.getElem?_toArray];exact ho
   rw[akg]at hP;refine⟨_,w',_,by rw[AO];exact de,hE,akq _,Vu hi hn S _ w.heap.size hE (.inl rfl) (by rw[gL];exact ak1 _) (fun b o hs=> ?_) (fun b hb _=>PE b hb) ?_,?_⟩
   ·rw[hS]at hs;exact hs.imp id And.left
   ·refine⟨by simp [Gh.grow],wI, .inr ⟨w.heap.size,cap,cur,by simp [Gh.grow],by simp [Gh.grow],fun hz=>akT _ (hi.z _ hz),fD,jc,hle,fi,fun o ho hs=> ?_⟩⟩;have ck:S w.heap.size o:=hs;rw[hS]at ck;rcases ck with ck|⟨_,ck⟩
    ·have:=hi.S _ _ ck;omega
    ·omega
   ·exact .own n (xs++ys) mI hP (by simp [Gh.grow]) (fun _=>by simp [Gh.grow])
  rcases Yk with⟨iH,A',j9⟩|⟨g,cap,cur,iH,j9,Ht,pw,MD,MB,Sk,Ub⟩
  ·refine grow ?_;rw[Ws,j9]at AO;cases AO
   omega
  ·have TU:=AO;rw[Ws,j9]at TU;injection TU with Zg _ e1;have e2:=e1.symm;subst e2;subst Zg;by_cases pn:xs.length+ys.length≤c
   ·
    have kG:xs.length*i.size+us.length≤cur.size:=by rw[hr.len,Sk,←Nat.add_mul];exact Nat.mul_le_mul_right _ pn
    have EW:∀o,w.cell? ⟨g,o,none⟩=cur[o]?:=fun o=>cell_of_row w g o cur e (0,0) pw;have zt:∀j,j<us.length→(w.cell? ⟨g,0+xs.length*i.size+j,none⟩).isSome=true:=fun j hj=>by
     rw[EW,akz,akB (by omega)];rfl
    have de:=run_append_room_src (P:=P) w T tx ty e i hT jH g 0 xs.length c v ys.length us hs pn zt
     (fun j hj=>by unfold World.frozen?;rw[pw];simp)
    rw[akz]at de zt;obtain⟨w',dJ⟩:∃w',w'=w.setCells g (xs.length*i.size) us:=⟨_,rfl⟩;rw[←dJ]at de;have acn:g<w.heap.size:=(aku.1 pw).1;have gj:=run_storeCells_at P g (xs.length*i.size) e us 0 cur w pw (by simpa using kG) hs.one;have wQ:=run_storeCells_cells (P:=P) g (xs.length*i.size) us 0 w (by simpa using zt) (fun j hj=>by unfold World.frozen?;rw[pw];simp) hs.one;simp only[Nat.add_zero]at gj wQ;rw[gj]at wQ;have wY:w'=w.setRow g (cur.toList.take (xs.length*i.size)++us++cur.toList.drop (xs.length*i.size+us.length)).toArray:=by
      rw[dJ];injection wQ with _ e2;exact e2.symm
    obtain⟨nO,OO⟩:∃nO:Array ak7,nO=(cur.toList.take (xs.length*i.size)++us++cur.toList.drop (xs.length*i.size+us.length)).toArray:=⟨_,rfl⟩;rw[←OO]at wY;have m7:w'.heap[g]?=some (.cells nO e (0,0)):=by rw[wY];exact setRow_heap w g cur nO e _ pw
    have gn:∀b,b≠g→w'.heap[b]?=w.heap[b]?:=fun b hb=>by rw[wY];exact setRow_other w g b nO hb
    have gL:w'.heap.size=w.heap.size:=by rw[wY];exact Km w g nO
    have iK:∀o,nO[o]?=if o<xs.length*i.size then cur[o]? else if o<xs.length*i.size+us.length then us[o-xs.length*i.size]? else cur[o]?:=fun o=>by
     rw[OO,List.getElem?_toArray,akw];have hl:cur.toList.length=cur.size:=akM;by_cases h1:o<xs.length*i.size
     ·rw[if_pos h1,akp (by simp;omega),List.getElem?_take_of_lt h1,akC]
     ·rw[if_neg h1,akv (by simp;omega)];simp only[List.length_take,hl];rw[Nat.min_eq_left (by omega)];by_cases h2:o<xs.length*i.size+us.length
      ·rw[if_pos h2,akp (by omega)]
      ·rw[if_neg h2,akv (by omega),List.getElem?_drop,show xs.length*i.size+us.length+(o-xs.length*i.size-us.length)=o by omega,akC]
    have YF:nO.size=cur.size:=by
     rw[OO];simp only[List.size_toArray,akg,List.length_take,List.length_drop,akM];omega
    have gb:∀b o,G.S b o→w'.cell? ⟨b,o,none⟩=w.cell? ⟨b,o,none⟩:=fun b o hs=>by
     by_cases eb:b=g
     ·subst eb;have ho:o<xs.length*i.size:=Nat.lt_of_not_le fun hle=>Ub o hle hs;rw[EW,cell_of_row w' b o nO e (0,0) m7,iK,if_pos ho]
     ·exact World.cell?_of_block (gn b eb)
    obtain⟨S,hS⟩:∃S:Nat→Nat→Prop,S=fun b o=>G.S b o∨(b=g∧o<(xs.length+ys.length)*i.size):=⟨_,rfl⟩;have hE:bR G.N G w (G.grow n S (.slice (some ⟨g,0,none⟩) (xs.length+ys.length) c) (xs.length+ys.length) (some g)) w':=
     ⟨by rw[gL];exact akq _,fun b o h=>by show S b o;rw[hS];exact .inl h,gb,fun _ _=>rfl,
      fun m _=>by
       by_cases em:m=n
       ·right;subst em;simp only[Gh.grow,if_true,kR];omega
       ·left;exact⟨by simp [Gh.grow,em],by simp [Gh.grow,em]⟩,
      fZ rfl,fun b hb=>gn b (fun e=>Ht (e▸hb)),by rw[wY];rfl,by rw[wY];rfl,by rw[wY];rfl,fun b o hs=>by
       have ck:S b o:=hs;rw[hS]at ck;rcases ck with h|⟨rfl,_⟩
       ·exact .inl h
       ·exact .inr Ht⟩
    have hP:dc S w' (.slice (some ⟨g,0,none⟩) (xs++ys).length c) (.sl (xs++ys)):=by
     refine(KT.bo (S':=S) (w':=w') (fun b o h=>by rw[hS];exact .inl h) gb).Ix g c (by rw[akg];exact pn) MB (fun o ho=>by rw[hS];exact .inr ⟨rfl,by rw[akg]at ho;exact ho⟩) (fun o x ho=> ?_);rw[cell_of_row w' g o nO e (0,0) m7,iK];have gi:olds.length=xs.length*i.size:=yr.len;by_cases h1:o<xs.length*i.size
     ·rw[if_pos h1];rw[akp (by omega)]at ho;have hx:xs≠ []:=fun e=>by subst e;simp at h1
      obtain⟨b,o',eA,hc⟩:=hA hx;cases eA
      have:=(hc o x ho).2;rw[akz,EW]at this;exact this
     ·rw[if_neg h1];rw[akv (by omega),gi]at ho;have:=(akf.1 ho).1;rw[if_pos (by omega)];exact ho
    rw[akg]at hP;refine⟨_,w',_,by rw[AO];exact de,hE,akq _,Vu hi hn S _ g hE (.inr iH) (by rw[gL];exact acn) (fun b o hs=> ?_) (fun b _ hb=>gn b hb) ?_,?_⟩
    ·rw[hS]at hs;exact hs.imp id And.left
    ·refine⟨by simp [Gh.grow],wI, .inr ⟨g,c,nO,by simp [Gh.grow],by simp [Gh.grow],Ht,m7,pn,MB,by rw[YF,Sk],fun o ho hs=> ?_⟩⟩;have ck:S g o:=hs;rw[hS]at ck;rcases ck with ck|⟨_,ck⟩
     ·exact Ub o (akx (Nat.mul_le_mul_right _ (akU _ _)) ho) ck
     ·omega
    ·exact .own n (xs++ys) mI hP (by simp [Gh.grow]) (fun _=>by simp [Gh.grow])
   ·exact grow (by omega)
def WF(r:ak5 Nat):Fence:={Fence.wide with round:=r}
def gV(N0:Nat)(G:Gh)(w:ak8)(K:St→Prop)(a':Act)(w':ak8):Prop:=∃G' s',bR N0 G w G' w'∧N0≤G'.N∧cx G' w' a' s'∧K s'
section
variable {P:ak6} {r:ak5 Nat} {n N0:Nat} {G:Gh} {w:ak8} {a:Act} {s:St} {o:Oper} {K:St→Prop} {Q:Exit→Act→ak8→Prop}
theorem nR(fm:∀c,o.op≠ .defer c)(hs:cx G w a s)(cn:N0≤G.N){v:ak7}{x:AV}{w':ak8}{G':Gh}{h':ak3 aq}(hr:(execOp a.eval o).run P w= .ok (.value v) w')
 (hE:bR G.N G w G' w') (hN:G.N≤G'.N) (hi:bW G' w' h') (hv:aN G' w' v x) (hK:K ((s.wh h').put o.dst x)):o.wpIn (WF r) n P a w (gV N0 G w K) Q:=by
 refine⟨fun _ _=>trivial,?_⟩;rw[Oper.semAt_eq _ _ _ fm,hr];exact⟨G',_,hE.less cn,akx cn hN,((hs.move hE hN hi).put hv o.dst),hK⟩
theorem eD(fm:∀c,o.op≠ .defer c)(hs:cx G w a s)(cn:N0≤G.N){v:ak7}{x:AV}(hr:(execOp a.eval o).run P w= .ok (.value v) w)(hv:aN G w v x)(hK:K (s.put o.dst x)):
 o.wpIn (WF r) n P a w (gV N0 G w K) Q:=
 nR fm hs cn hr (bR.refl _ _ _) (akq _) hs.inv hv hK
theorem Kv(fm:∀c,o.op≠ .defer c)(hs:cx G w a s)(cn:N0≤G.N){w':ak8}{G':Gh}{h':ak3 aq}(hr:(execOp a.eval o).run P w= .ok .skip w')
 (hE:bR G.N G w G' w') (hN:G.N≤G'.N) (hi:bW G' w' h') (hK:K ((s.wh h').put o.dst (.d (.v undef)))):o.wpIn (WF r) n P a w (gV N0 G w K) Q:=by
 refine⟨fun _ _=>trivial,?_⟩;rw[Oper.semAt_eq _ _ _ fm,hr];exact⟨G',_,hE.less cn,akx cn hN,((hs.move hE hN hi).put (.d (.v undef)) o.dst),hK⟩
theorem RD{t k:Nat}(h:eJ P t=some k):∃i,P.info? t=some i∧i.size=k:=by
 unfold eJ at h;cases hq:P.info? t with
 |none=>rw[hq]at h;cases h
 |some i=>rw[hq]at h;exact⟨i,rfl,by simpa using h⟩
theorem Ja{t:Nat}{z:ak7}(h:gH P t=some z):∃i,P.info? t=some i∧i.zero=some z:=by
 unfold gH at h;cases hq:P.info? t with
 |none=>rw[hq]at h;cases h
 |some i=>rw[hq]at h;exact⟨i,rfl,by simpa using h⟩
theorem Im{t:Nat}{z:ak7}(h:gH P t=some z)(w:ak8):(zeroValue t).run P w= .ok z w:=by
 obtain⟨i,h1,h2⟩:=Ja h;simp [zeroValue,typeInfo,h1,h2]
theorem kC{t k:Nat}(h:eJ P t=some k)(w:ak8):(sizeOf t).run P w= .ok k w:=by
 obtain⟨i,h1,h2⟩:=RD h;simp [sizeOf,typeInfo,h1,h2]
theorem CP{t:Nat}{g:Bool}(h:kW P t=some g)(w:ak8):(isAgg t).run P w= .ok g w:=by
 unfold kW at h;cases hq:P.underlying t with
 |none=>rw[hq]at h;cases h
 |some d=>
  rw[hq]at h;unfold isAgg;rw[Sem.run_bind,run_underlying hq w];simp only[Option.map_some,Option.some.injEq]at h;subst h;cases d<;>rfl
theorem ZB{t:Nat}(h:kW P t=some true):∃d,P.underlying t=some d∧d.isRow=true:=by
 unfold kW at h;cases hq:P.underlying t with
 |none=>rw[hq]at h;cases h
 |some d=>rw[hq]at h;refine⟨d,rfl,?_⟩;cases d<;>simp_all [TypeDesc.isRow]
theorem Qc{t:Nat}{C:AV→Prop}:∀(b o:Nat)(cs:ak3 AV)(off:Nat)(us:Nat→ak7),(∀j,j<cs.length→w.cell? ⟨b,o+j,none⟩=some (us j))→(∀(j:Nat)(c:AV),cs[j]?=some c→aN G w (us j) c)→
 (match kW P t,eJ P t with
  |some true,some k=>dZ (cf (off+k) cs.length) (C (.agg ((cs.drop off).take k)))
  |some false,some _=>match cs[off]? with
   |some c=>C c
   |none=>False
  |_,_=>False)→∃u x,(loadVar t ⟨b,o+off,none⟩).run P w= .ok u w∧aN G w u x∧C x:=by
 intro b o cs off us h1 h2 h3;split at h3
 ·rename_i k hg hk
  obtain⟨hlen,hC⟩:=bO.1 h3;rw[dk]at hlen;obtain⟨d,C5,l8⟩:=ZB hg;have Ia:((List.range k).map fun j=>us (off+j)).length=k:=by simp
  have de:=run_loadVar_mid (P:=P) w b (o+off) t ((List.range k).map fun j=>us (off+j)) d (fun j u hu=>by
   rw[akm]at hu;by_cases hj:j<k
   ·rw[List.getElem?_range hj]at hu;simp only[Option.map_some,Option.some.injEq]at hu;subst hu;have:=h1 (off+j) (by omega)
    rwa [←Nat.add_assoc]at this
   ·rw[akL (by simp;omega)]at hu;cases hu) C5 l8 (by rw[Ia];exact hk)
  refine⟨_,_,de, .agg _ _ (by simp;omega) fun i u c hu hc=> ?_,hC⟩;rw[List.getElem?_toArray,akm]at hu;rw[List.getElem?_take]at hc;split at hc
  ·rename_i nY
   rw[List.getElem?_range nY]at hu;simp only[Option.map_some,Option.some.injEq]at hu;subst hu;rw[List.getElem?_drop]at hc;exact h2 (off+i) c hc
  ·cases hc
 ·rename_i k hg hk
  split at h3
  ·rename_i c hc
   refine⟨us off,c,?_,h2 off c hc,h3⟩;unfold loadVar;rw[Sem.run_bind,CP hg w];simp only[Result.andThen_ok,Bool.false_eq_true,if_false];unfold load;simp only[Sem.run,h1 off (akf.1 hc).1]
  ·exact h3.elim
 ·exact h3.elim
theorem Vw{t:Nat}{p:AV}{v:ak7}{C:AV→Prop}(hi:bW G w s.h)(hv:aN G w v p)(h:ml P t s.h p C):∃u x,(Instr.loadAt t v).run P w= .ok u w∧aN G w u x∧C x:=by
 have key:=Qc (P:=P) (G:=G) (w:=w) (t:=t) (C:=C);unfold ml qO at h;cases p with
 |ptr m off=>
  simp only at h;split at h
  ·rename_i cs hm
   obtain⟨_,_,vs,T,hh,hl,hr⟩:=hi.cW m _ hm;cases hv with
   |ptr _ _ xg=>
    obtain⟨u,x,h1,h2,h3⟩:=key (G.bm m) 0 cs off (fun j=>vs.getD j undef) (fun j hj=>by
     have hX:j<vs.size:=by rw[hl];exact hj
     rw[akz,cell_of_row w (G.bm m) j vs T (0,0) hh];simp [Array.getD,hX]) (fun j c hc=>by
     have hX:j<vs.size:=by rw[hl];exact(akf.1 hc).1
     exact hr j _ c (by simp [Array.getD,hX]) hc) h
    rw[akz]at h1;exact⟨u,x,by simp [Instr.loadAt,Instr.sureAddr,h1],h2,h3⟩
  ·exact h.elim
 |bE xs i off=>
  simp only at h;split at h
  ·rename_i cs fi
   cases hv with
   |bE _ _ _ b o us x hx hS hu=>
    rw[hx]at fi;cases fi
    obtain⟨u,y,h1,h2,h3⟩:=key b o (cs.map .d) off us (fun j hj=>(hS j (by simpa using hj)).2) (fun j c hc=>by
     rw[akm]at hc;cases hd:cs[j]? with
     |none=>rw[hd]at hc;cases hc
     |some d=>rw[hd]at hc;cases hc;exact .d (hu j d hd)) h
    exact⟨u,y,by simp [Instr.loadAt,Instr.sureAddr,h1],h2,h3⟩
  ·exact h.elim
 |_=>exact h.elim
theorem aN.list{u:ak7}{x:AV}{xs:ak3 (ak3 D)}(h:aN G w u x)(hx:x.er=some xs):dc G.S w u (.sl xs):=by
 unfold AV.er at hx;split at hx
 ·cases hx;cases h with|d h=>exact h
 ·cases hx;cases h with|own _ _ _ h=>exact h
 ·cases hx;cases h with|full _ h=>exact h
 ·cases hx
  cases h with
  |d h=>
   cases h with
   |v=>exact .sl none 0 0 0 0 [] (fun _ _=>undef) (fun h=>absurd rfl h) (akq _) (by simp) (fun _ h=>by cases h) (fun i j hi=>by simp at hi) (fun i j x d hx=>by simp at hx)
 ·cases hx
theorem aN.int{u:ak7}{x:AV}{z:Int}(h:aN G w u x)(hx:x.int?=some z):∃k,u= .int k z:=by
 unfold AV.int? at hx;split at hx
 ·rename_i k m
  cases hx
  cases h with
  |d h=>cases h with|v=>exact⟨k,rfl⟩
 ·cases hx
theorem aN.bool{u:ak7}{t:Bool}(h:aN G w u (.d (.v (.bool t)))):u= .bool t:=by
 cases h with|d h=>cases h with|v=>rfl
theorem aN.val{u v:ak7}(h:aN G w u (.d (.v v))):u=v:=by
 cases h with|d h=>cases h with|v=>rfl
theorem ir{T e k:Nat}(h:dG P T=some (e,k)):P.underlying T=some (.slice e)∧eJ P e=some k:=by
 unfold dG at h;split at h
 ·rename_i e' he
  cases hq:eJ P e' with
  |none=>rw[hq]at h;cases h
  |some k'=>rw[hq]at h;simp at h;obtain⟨rfl,rfl⟩:=h;exact⟨he,hq⟩
 ·cases h
theorem Oi{T m e k:Nat}(h:sU P T=some (m,e,k)):P.underlying T=some (.array m e)∧eJ P e=some k:=by
 unfold sU at h;split at h
 ·rename_i m' e' he
  cases hq:eJ P e' with
  |none=>rw[hq]at h;cases h
  |some k'=>rw[hq]at h;simp at h;obtain⟨rfl,rfl,rfl⟩:=h;exact⟨he,hq⟩
 ·cases h
theorem aho{T:Nat}{x i:AV}{u v:ak7}{C:AV→Prop}(hu:aN G w u x)(hv:aN G w v i)(h:qP P T x i C):∃p y,(Instr.indexAt T u v).run P w= .ok p w∧aN G w p y∧C y:=by
 unfold qP at h;split at h
 ·rename_i e k hT
  obtain⟨dY,eF⟩:=ir hT;split at h
  ·rename_i m off len cap k'
   split at h
   ·rename_i z hz
    obtain⟨sT,h0,a7,hC⟩:=bO.1 h;rw[beq_iff_eq]at sT;subst sT;obtain⟨kz,rfl⟩:=hv.int hz;cases hu with
    |row _ _ _ _ _ hm hl nj=>
     have hN:(z.toNat:Int)=z:=Int.toNat_of_nonneg h0;refine⟨_,_,?_, .ptr m (off+z.toNat*k') hm,hC⟩;simp [Instr.indexAt,asIntOf,run_underlying dY,h0,a7,kC eF,ki]
   ·exact h.elim
  ·split at h
   ·rename_i xs z j0 hz
    obtain⟨h0,h⟩:=h;obtain⟨kz,rfl⟩:=hv.int hz;split at h
    ·rename_i c hc
     obtain⟨hk,hC⟩:=h;obtain⟨A,b,o,cc,k',us,rfl,hA,jJ,p5,hJ,hS,kS⟩:=(hu.list j0).nI;have a7:z.toNat<xs.length:=(akf.1 hc).1;have cu:xs≠ []:=fun e=>by subst e;simp at a7
     have ek:k'=k:=by rw[←hJ c (aks hc),hk]
     subst ek;rw[hA cu];have Pe:z<(xs.length:Int):=by omega
     refine⟨_, .bE [c] 0 0,?_, .bE [c] 0 0 b (o+z.toNat*k') (us z.toNat) c rfl (fun j hj=> ?_) (fun j d hd=>kS _ _ _ _ hc hd),hC⟩
     ·simp [Instr.indexAt,asIntOf,run_underlying dY,h0,Pe,kC eF,ki]
     ·have:=hS z.toNat j a7 (by rw[hk]at hj;exact hj);exact⟨this.1,this.2.1⟩
    ·exact h.elim
   ·exact h.elim
 ·split at h
  ·rename_i m e k b off z hT hz
   obtain⟨h0,a7,hC⟩:=h;obtain⟨dY,eF⟩:=Oi hT;obtain⟨kz,rfl⟩:=hv.int hz;cases hu with
   |ptr _ _ hb=>
    refine⟨_,_,?_, .ptr b (off+z.toNat*k) hb,hC⟩;simp [Instr.indexAt,Instr.sureAddr,asIntOf,run_underlying dY,h0,a7,kC eF,ki]
  ·rename_i m e k xs i' off z hT hz
   obtain⟨uD,h0,a7,h9⟩:=bO.1 h;rw[beq_iff_eq]at uD;subst uD;obtain⟨dY,eF⟩:=Oi hT;obtain⟨kz,rfl⟩:=hv.int hz;split at h9
   ·rename_i c hc
    split at h9
    ·rename_i d hd
     cases hu with
     |bE _ _ _ b o us c' iK hS kS=>
      rw[hc]at iK;cases iK
      have adk:=(akf.1 hd).1;refine⟨_, .bE [[d]] 0 0,?_, .bE [[d]] 0 0 b (o+(off+z.toNat)) (fun _=>us (off+z.toNat)) [d] rfl (fun j hj=> ?_) (fun j d' iA=> ?_),h9⟩
      ·simp [Instr.indexAt,Instr.sureAddr,asIntOf,run_underlying dY,h0,a7,kC eF,ki,Nat.add_assoc]
      ·simp at hj;subst hj;exact hS _ adk
      ·match j with
       |0=>simp at iA;subst iA;exact kS _ _ hd
       |j+1=>simp at iA
    ·exact h9.elim
   ·exact h9.elim
  ·exact h.elim
theorem qj{T:Nat}(h:fK P T=true):P.underlying T=some .string:=by
 unfold fK at h;split at h
 ·assumption
 ·cases h
theorem af1{T:Nat}{x:AV}{u:ak7}{ty:Nat}{C:Nat→Prop}(hu:aN G w u x)(h:qE P T x C):∃m:Nat,(Builtin.len_ #[T] ty #[u]).run P w= .ok (.int .i64 m) w∧C m:=by
 have So:∀(A:ak5 Addr)(l c:Nat),(dG P T).isSome=true→(Builtin.len_ #[T] ty #[.slice A l c]).run P w= .ok (.int .i64 l) w:=by
  intro A l c hT;obtain⟨⟨e,k⟩,hT⟩:=Option.isSome_iff_exists.1 hT;simp [Builtin.len_,run_underlying (ir hT).1,goInt]
 unfold qE at h;split at h
 ·rename_i b
  have:=hu.val;subst this;obtain⟨hT,hC⟩:=bO.1 h;exact⟨b.size,by simp [Builtin.len_,run_underlying (qj hT),goInt],hC⟩
 ·cases hu with
  |row=>exact⟨_,So _ _ _ (bO.1 h).1,(bO.1 h).2⟩
 ·split at h
  ·rename_i xs j0
   obtain⟨A,b,o,c,k,us,rfl,_⟩:=(hu.list j0).nI;exact⟨_,So _ _ _ (bO.1 h).1,(bO.1 h).2⟩
  ·exact h.elim
def Bu(a:Act)(x:ak5 Operand)(d m:Nat):Prop:=match x with|none=>m=d|some y=>∃k z,a.eval y= .int k z∧0≤z∧m=z.toNat
theorem sS{x:ak5 Operand}{d:Nat}{C:Nat→Prop}(hs:cx G w a s)(h:iw (ev s) x d C):∃m,C m∧Bu a x d m:=by
 cases x with
 |none=>exact⟨_,h,rfl⟩
 |some y=>
  unfold iw at h;simp only at h;split at h
  ·rename_i z hz
   obtain⟨k,hk⟩:=(hs.ev y).int hz;exact⟨_,h.2,k,z,hk,h.1,rfl⟩
  ·exact h.elim
theorem AK{k:IntKind}{z:Int}{y:Nat}{code:BoundsCode}(h0:0≤z)(h:z.toNat≤y)(w:ak8):(Instr.sliceBound (.int k z) y code).run P w= .ok z.toNat w:=by
 have:z≤(y:Int):=by omega
 simp [Instr.sliceBound,asIntOf,h0,this]
theorem Fi{lo hi:ak5 Operand}{len cap l h:Nat}{AJ:Bool}(gi:Bu a lo 0 l)(pM:Bu a hi len h)(hl:l≤h)(hh:h≤cap)(w:ak8):
 (Instr.sliceBounds AJ len cap (lo.map a.eval) (hi.map a.eval) none).run P w= .ok (l,h,cap) w:=by
 unfold Bu at gi pM;cases lo with
 |none=>
  subst gi;cases hi with
  |none=>subst pM;simp [Instr.sliceBounds]
  |some y=>
   obtain⟨k,z,e,h0,rfl⟩:=pM;simp [Instr.sliceBounds,e,AK h0 hh]
 |some x=>
  obtain⟨k',z',e',Ug,rfl⟩:=gi;cases hi with
  |none=>subst pM;simp [Instr.sliceBounds,e',AK Ug hl]
  |some y=>
   obtain⟨k,z,e,h0,rfl⟩:=pM;simp [Instr.sliceBounds,e,e',AK h0 hh,AK Ug hl]
theorem dc.part{S:Nat→Nat→Prop}{v:ak7}{xs:ak3 (ak3 D)}{k:Nat}(hp:dc S w v (.sl xs))(hk:∀c∈xs,c.length=k){l h:Nat}(hl:l≤h)(hh:h≤xs.length):
 ∃A c,v= .slice A xs.length c∧xs.length≤c∧dc S w (.slice (if c=l then A else A.map (·.add (l*k))) (h-l) (c-l)) (.sl ((xs.take h).drop l)):=by
 obtain⟨A,b,o,c,k',us,rfl,hA,jJ,p5,hJ,hS,kS⟩:=hp.nI;refine⟨A,c,rfl,jJ,?_⟩;have hlen:((xs.take h).drop l).length=h-l:=by simp;omega
 rw[←hlen];by_cases hx:xs=[]
 ·subst hx;have e:((([]:ak3 (ak3 D)).take h).drop l)=[]:=by simp
  rw[e];exact .sl _ 0 0 (c-l) 0 [] (fun _ _=>undef) (fun h=>absurd rfl h) (Nat.zero_le _) (by omega) (fun _ h=>by cases h) (fun i j hi=>by simp at hi) (fun i j x d hx=>by simp at hx)
 ·have ek:k'=k:=by
   obtain⟨x,m8⟩:=List.exists_mem_of_ne_nil xs hx;rw[←hJ x m8,hk x m8]
  subst ek;have dV:∀i,i<h-l→((xs.take h).drop l)[i]?=xs[l+i]?:=fun i hi=>by
   rw[List.getElem?_drop,List.getElem?_take_of_lt (by omega)]
  refine .sl _ b (o+l*k') (c-l) k' _ (fun i j=>us (l+i) j) (fun cu=> ?_) (by rw[hlen];omega) (by omega) (fun x hx=>hk x (List.mem_of_mem_take (List.mem_of_mem_drop hx))) (fun i j hi hj=> ?_) (fun i j x d hx hd=> ?_)
  ·have KQ:0<((xs.take h).drop l).length:=List.length_pos_iff.2 cu;rw[hlen]at KQ;rw[if_neg (by omega),hA hx];simp [ki]
  ·rw[hlen]at hi;have:=hS (l+i) j (by omega) hj;rw[Nat.add_mul,←Nat.add_assoc]at this;exact this
  ·have hi:=(akf.1 hx).1;rw[hlen]at hi;rw[dV i hi]at hx;exact kS _ _ _ _ hx hd
theorem YC{T:Nat}{x:AV}{u:ak7}{lo hi mx:ak5 Operand}{C:AV→Prop}(hs:cx G w a s)(hu:aN G w u x)(h:tE P T (ev s) x lo hi mx C):
 ∃p y,(Instr.sliceAt T u (lo.map a.eval) (hi.map a.eval) (mx.map a.eval)).run P w= .ok p w∧aN G w p y∧C y:=by
 unfold tE at h;split at h
 ·split at h
  ·rename_i b
   obtain⟨hT,h⟩:=bO.1 h;have hT:=qj hT;have:=hu.val;subst this;obtain⟨m,h,hm⟩:=sS hs h;obtain⟨xH,h⟩:=h;obtain⟨l,h,hl⟩:=sS hs h;obtain⟨rO,h⟩:=h;refine⟨_,_,?_, .d (.v _),h⟩;have hb:=Fi (P:=P) (AJ:=false) hl hm rO xH w;simp [Instr.sliceAt,Instr.slice,run_underlying hT,hb]
  ·rename_i m off
   split at h
   ·rename_i c e k hT
    rw[bO,dk]at h;obtain⟨p5,h⟩:=h;have p5:c≤maxLen:=by unfold maxLen;omega
    obtain⟨dY,eF⟩:=Oi hT;obtain⟨hh,h,hm⟩:=sS hs h;obtain⟨xH,h⟩:=bO.1 h;rw[dk]at xH;obtain⟨l,h,hl⟩:=sS hs h;obtain⟨rO,h⟩:=bO.1 h;simp only[akh,dk,Bool.not_eq_true',←Bool.not_eq_true,Nat.not_le]at rO;obtain⟨rO,jJ⟩:=rO;have hb:=Fi (P:=P) (AJ:=false) hl hm rO xH w;cases hu with
    |ptr _ _ xg=>
     refine⟨_,_,?_, .row m (off+l*k) (hh-l) (c-l) k xg (by omega) (by omega),h⟩;simp [Instr.sliceAt,Instr.sureAddr,run_underlying dY,hb,kC eF,ki,Nat.ne_of_gt jJ]
   ·exact h.elim
  ·split at h
   ·rename_i xs e k j0 hT
    obtain⟨hk,h⟩:=h;obtain⟨dY,eF⟩:=ir hT;obtain⟨hh,h,hm⟩:=sS hs h;obtain⟨xH,h⟩:=h;obtain⟨l,h,hl⟩:=sS hs h;obtain⟨rO,h⟩:=h;obtain⟨A,c,rfl,jJ,hp⟩:=(hu.list j0).part hk rO xH;have hb:=Fi (P:=P) (AJ:=true) hl hm rO (akx xH jJ) w;refine⟨_,_,?_, .d hp,h⟩;simp [Instr.sliceAt,Instr.slice,run_underlying dY,hb,kC eF]
   ·exact h.elim
 ·rename_i y
  split at h
  case h_2=>exact h.elim
  rename_i yh
  split at h
  ·rename_i xs e k j0 hT
   obtain⟨hk,h⟩:=h;obtain⟨dY,eF⟩:=ir hT;obtain⟨c',h3,hc⟩:=sS hs h;obtain⟨fx,h3⟩:=h3;obtain⟨hh,h4,hm⟩:=sS hs h3;obtain⟨rfl,h5⟩:=h4;clear h h3;obtain⟨k1,z1,e1,p1,q1⟩:=hc;obtain⟨k2,z2,e2,p2,q2⟩:=hm;obtain⟨A,c,rfl,jJ,hp⟩:=(hu.list j0).part hk (Nat.zero_le hh) fx;have hp':dc G.S w (.slice A hh hh) (.sl (xs.take hh)):=by
    have h1:(if c=0 then A else A.map (·.add (0*k)))=A:=by
     split
     ·rfl
     ·cases A<;>simp [Addr.add]
    rw[h1,akO]at hp;obtain⟨A',b,o,c2,k',us,e,r1,r2,r3,r4,r5,r6⟩:=hp.nI;have hl:(xs.take hh).length=hh:=by simp;omega
    injection e with eA e3 e4;subst eA;have:=dc.sl (S:=G.S) (w:=w) A b o hh k' (xs.take hh) us r1 (by omega) (by omega) r4 r5 r6
    rwa [hl]at this
   refine⟨.slice A hh hh, .full (xs.take hh),?_, .full _ hp' ⟨A,by simp;omega⟩,h5⟩;have b1:(Instr.sliceBound (.int k1 z1) c .slice3Acap).run P w= .ok hh w:=by rw[AK p1 (by omega),q1]
   have b2:(Instr.sliceBound (.int k2 z2) hh .slice3B).run P w= .ok hh w:=by rw[AK p2 (by omega),←q2]
   simp only[Option.map_some,Option.map_none,e1,e2];have hA:A.map (·.add 0)=A:=by cases A<;>simp [Addr.add]
   simp [Instr.sliceAt,Instr.slice,Instr.sliceBounds,run_underlying dY,b1,b2,kC eF,hA]
  ·exact h.elim
theorem LC:∀{cs:ak3 AV}{ds:ak3 D},lY cs=some ds→ds.length=cs.length∧∀(i:Nat)(c:AV)(d:D),cs[i]?=some c→ds[i]?=some d→c.wF=some d
 |[],ds,h=>by simp [lY]at h;subst h;simp
 |c::cs,ds,h=>by
  unfold lY at h;split at h
  ·rename_i d l hd hl
   cases h
   obtain⟨h1,h2⟩:=LC hl;refine⟨by simp [h1],fun i c' d' hc iA=> ?_⟩
   match i with
   |0=>simp at hc iA;subst hc;subst iA;exact hd
   |i+1=>exact h2 i c' d' (by simpa using hc) (by simpa using iA)
  ·cases h
theorem dc.AI{S:Nat→Nat→Prop}{w:ak8}{u:ak7}{x:D}(h:dc S w u x):dc S w u x.AI:=by
 unfold D.AI;split
 ·cases h with
  |v=>exact .sl none 0 0 0 0 [] (fun _ _=>undef) (fun h=>absurd rfl h) (akq _) (Nat.zero_le _) (fun _ h=>absurd h akV) (fun i j hi=>absurd hi (akH _)) (fun i j x d hx=>by simp at hx)
 ·exact h
theorem aN.Lz{u:ak7}{x:AV}{d:D}(h:aN G w u x)(hx:x.wF=some d):dc G.S w u d:=by
 unfold AV.wF at hx;split at hx
 ·cases hx;cases h with|d h=>exact h.AI
 ·cases hx;cases h with|own _ _ _ h=>exact h
 ·cases hx;cases h with|full _ h=>exact h
 ·cases hx
theorem qw(k:Nat):∀(m:Nat)(l:ak3 D),(mh k m l).length=m
 |0,_=>rfl
 |m+1,l=>by simp [mh,qw k m]
theorem NK(k:Nat):∀(m:Nat)(l:ak3 D)(i:Nat),i<m→(mh k m l)[i]?=some ((l.drop (i*k)).take k)
 |0,_,_,h=>by omega
 |m+1,l,0,_=>by simp [mh]
 |m+1,l,i+1,h=>by
  have:=NK k m (l.drop k) i (by omega);rw[mh,akQ,this,List.drop_drop,Nat.add_mul,Nat.one_mul,Nat.add_comm k]
theorem Sb{k m:Nat}{us:ak3 ak7}{ds:ak3 D}(hl:ds.length=m*k)(hu:us.length=m*k)(h1:∀u∈us,u.oneCell'=true)
 (hr:∀(i:Nat)(u:ak7)(d:D),us[i]?=some u→ds[i]?=some d→dc G.S w u d):Rd G.S w k (mh k m ds) us:=by
 have hb:∀i,i<m→(i+1)*k≤m*k:=fun i hi=>Nat.mul_le_mul_right k hi;refine⟨by rw[qw,hu],fun x hx=> ?_,h1,fun i j x d hx hd=> ?_⟩
 ·obtain⟨i,hi⟩:=List.mem_iff_getElem?.1 hx;have JP:i<m:=by have:=(akf.1 hi).1;rwa [qw]at this
  rw[NK k m ds i JP]at hi;cases hi
  have:=hb i JP;rw[Nat.add_mul]at this;simp;omega
 ·have JP:i<m:=by have:=(akf.1 hx).1;rwa [qw]at this
  rw[NK k m ds i JP]at hx;cases hx
  rw[List.getElem?_take]at hd;split at hd
  ·rw[List.getElem?_drop]at hd;have:=(akf.1 hd).1;have a7:i*k+j<us.length:=by omega
   exact⟨us[i*k+j],akj a7,hr _ _ _ (akj a7) hd⟩
  ·cases hd
theorem agV{k U e':Nat}{y:AV}{v:ak7}{C:ak3 (ak3 D)→Prop}(hi:bW G w s.h)(hv:aN G w v y)(hk:0<k)(hU:P.underlying U=some (.slice e'))(h:ug s.h k y C):
 ∃ys us,Rd G.S w k ys us∧Src P k U v ys.length us w∧C ys:=by
 unfold ug at h;split at h
 ·rename_i m off len cap k'
  split at h
  ·rename_i cs hm
   split at h
   ·rename_i ds s7
    obtain⟨ep,hC⟩:=bO.1 h;simp only[akh,beq_iff_eq,dk]at ep;obtain⟨⟨rfl,hlen⟩,fF⟩:=ep;obtain⟨h1,h2⟩:=LC s7;obtain⟨_,_,vs,T,hh,hl,hr⟩:=hi.cW m _ hm;cases hv with
    |row _ _ _ _ _ xg jJ nj=>
     have hdl:ds.length=len*k':=by rw[h1];simp;omega
     have mM:((vs.toList.drop off).take (len*k')).length=len*k':=by simp;omega
     have zC:∀(i:Nat)(u:ak7)(c:AV),((vs.toList.drop off).take (len*k'))[i]?=some u→((cs.drop off).take (len*k'))[i]?=some c→aN G w u c:=fun i u c hu hc=>by
      rw[List.getElem?_take]at hu hc;split at hu
      ·rename_i nY
       rw[if_pos nY]at hc;rw[List.getElem?_drop]at hu hc;exact hr _ u c (by rw[←akC];exact hu) hc
      ·cases hu
     have fx:((cs.drop off).take (len*k')).length=len*k':=by simp;omega
     have SJ:∀u∈(vs.toList.drop off).take (len*k'),u.oneCell'=true:=fun u hu=>by
      obtain⟨i,hi⟩:=List.mem_iff_getElem?.1 hu;have iX:i<len*k':=by rw[←mM];exact(akf.1 hi).1
      have BF:=akj (l:=(cs.drop off).take (len*k')) (i:=i) (by rw[fx];exact iX);exact(zC i u _ hi BF).ji (akF.1 fF _ (aks BF))
     have Ev:=Sb (G:=G) (w:=w) (k:=k') (m:=len) hdl mM SJ (fun i u d hu hd=>by
      have iX:i<len*k':=by rw[←mM];exact(akf.1 hu).1
      have BF:=akj (l:=(cs.drop off).take (len*k')) (i:=i) (by rw[fx];exact iX);exact(zC i u _ hu BF).Lz (h2 i _ d BF hd))
     refine⟨_,_,Ev,?_,hC⟩;rw[qw];refine Src.ofSlice w hU _ len cap _ mM (fun j u hu=> ?_) SJ;rw[List.getElem?_take]at hu;split at hu
     ·rw[List.getElem?_drop,akC]at hu;rw[ki,cell_of_row w _ _ vs T (0,0) hh];exact hu
     ·cases hu
   ·exact h.elim
  ·exact h.elim
 ·split at h
  ·rename_i ys iC
   obtain⟨us,h1,h2⟩:=(hv.list iC).src (P:=P) hk h.1 hU;exact⟨ys,us,h1,h2,h.2⟩
  ·exact h.elim
theorem IL:dc G.S w (.slice none 0 0) (.sl []):=
 .sl none 0 0 0 0 [] (fun _ _=>undef) (fun h=>absurd rfl h) (akq _) (by simp) (fun _ h=>by cases h) (fun i j hi=>by simp at hi) (fun i j x d hx=>by simp at hx)
theorem aiB(h:ak3 aq)(x y:aq):(h++[x]).set h.length y=h++[y]:=by simp
theorem agD{T U ty e':Nat}{x y:AV}{u v:ak7}{C:AV→ak3 aq→Prop}(hi:bW G w s.h)(hu:aN G w u x)(hv:aN G w v y)(hU:P.underlying U=some (.slice e'))(h:sX P T s.h x y C):
 ∃p w' G' q h',(Builtin.append_ #[T,U] ty #[u,v]).run P w= .ok p w'∧bR G.N G w G' w'∧G.N≤G'.N∧bW G' w' h'∧aN G' w' p q∧C q h':=by
 unfold sX at h;split at h
 ·rename_i e k hT
  obtain⟨dY,eF⟩:=ir hT;split at h
  ·rename_i z ct hz n9
   obtain⟨ep,h⟩:=bO.1 h;simp only[akh,beq_iff_eq,dk,akM]at ep;obtain⟨hk,iJ⟩:=ep;obtain⟨i,ik,jn,J8⟩:=Ly eF n9;have SU:i.zero=some z:=by
    obtain⟨i',h1,h2⟩:=Ja hz;rw[ik]at h1;cases h1;exact h2
   obtain⟨ys,us,hr,hs,h2⟩:=agV hi hv hk hU h;clear h;have fresh:∀(xs:ak3 (ak3 D)),dc G.S w u (.sl xs)→(∃A,u= .slice A xs.length xs.length)→(∀c∈xs,c.length=k)→xs.length+ys.length≤maxLen→(xs.length+ys.length)*ct≤140737488355328→
    C (.own s.h.length (xs++ys)) (s.h++[.front e k (xs.length+ys.length)])→
    ∃p w' G' q h',(Builtin.append_ #[T,U] ty #[u,v]).run P w= .ok p w'∧bR G.N G w G' w'∧G.N≤G'.N∧bW G' w' h'∧aN G' w' p q∧C q h':=by
    intro xs hp hf lL hm hb hC;obtain⟨a1,a2,a3,a4⟩:=Sr hi hp hf e k;obtain⟨p,w',G',r1,r2,r3,r4,r5⟩:=PW (P:=P) (ty:=ty) a3 dY ik SU jn J8 iJ hk (n:=s.h.length) (xs:=xs) (ys:=ys) (by simp) a4 lL (hr.bo a1.S a1.cell) hs hm hb;rw[aiB]at r4;exact⟨p,w',G',_,_,r1,a1.trans (r2.less a2),akx a2 r3,r4,r5,hC⟩
   split at h2
   ·rename_i m xs
    split at h2
    ·rename_i e2 k2 len hm
     obtain⟨ep,rfl,lL,nj,hb,hC⟩:=bO.1 h2;simp only[akh,beq_iff_eq]at ep;obtain⟨rfl,rfl⟩:=ep;obtain⟨p,w',G',r1,r2,r3,r4,r5⟩:=PW (P:=P) (ty:=ty) hi dY ik SU jn J8 iJ hk hm hu lL hr hs nj hb;exact⟨p,w',G',_,_,r1,r2,r3,r4,r5,hC⟩
    ·exact h2.elim
   ·have:=hu.val;subst this;obtain⟨nj,hb,hC⟩:=h2;exact fresh [] IL ⟨none,rfl⟩ (fun _ h=>by cases h) (by simpa using nj) (by simpa using hb) (by simpa using hC)
   ·rename_i xs
    obtain⟨lL,nj,hb,hC⟩:=h2;cases hu with
    |full _ hp hf=>exact fresh xs hp hf lL nj hb hC
   ·exact h2.elim
  ·exact h.elim
 ·exact h.elim
end
theorem W9(off:Nat):∀(l:ak3 ak7)(k:Nat)(cs:Array ak7),((l.zipIdx k).foldl (fun cs(p:ak7×Nat)=>cs.setIfInBounds (off+p.2) p.1) cs).size=cs.size∧
 ∀i,off+k+l.length≤cs.size→((l.zipIdx k).foldl (fun cs(p:ak7×Nat)=>cs.setIfInBounds (off+p.2) p.1) cs)[i]?=if off+k≤i∧i<off+k+l.length then l[i-(off+k)]? else cs[i]?
 |[],k,cs=>⟨rfl,fun i _=>by
    have h:¬(off+k≤i∧i<off+k+([]:ak3 ak7).length):=by simp
    rw[if_neg h];rfl⟩
 |u::l,k,cs=>by
  obtain⟨h1,h2⟩:=W9 off l (k+1) (cs.setIfInBounds (off+k) u);simp only[List.zipIdx_cons,List.foldl_cons];refine⟨by rw[h1];simp,fun i hi=> ?_⟩;simp only[aki]at hi ⊢;rw[h2 i (by simp;omega)];by_cases ha:off+(k+1)≤i∧i<off+(k+1)+l.length
  ·rw[if_pos ha,if_pos ⟨by omega,by omega⟩];rw[show i-(off+k)=i-(off+(k+1))+1 by omega,akQ]
  ·rw[if_neg ha];by_cases hb:i=off+k
   ·subst hb;rw[if_pos ⟨akq _,by omega⟩,Nat.sub_self,List.getElem?_cons_zero,Array.getElem?_setIfInBounds_self_of_lt (by omega)]
   ·rw[if_neg (by omega),Array.getElem?_setIfInBounds_ne (Ne.symm hb)]
section
variable {P:ak6} {G:Gh} {w:ak8}
structure Row(G:Gh)(w:World)(vs:Array Value)(cs:List AV):Prop where
 len:vs.size=cs.length
 rel:∀(i:Nat)(u:Value)(c:AV),vs[i]?=some u→cs[i]?=some c→aN G w u c
 one:∀(i:Nat)(u:Value),vs[i]?=some u→u.oneCell'=true
theorem abU{vs us:Array ak7}{cs ys:ak3 AV}(h:Row G w vs cs)(h':Row G w us ys){off:Nat}(hb:off+ys.length≤cs.length):
 Row G w (us.zipIdx.foldl (fun cs(p:ak7×Nat)=>cs.setIfInBounds (off+p.2) p.1) vs) (fO cs off ys):=by
 have e:us.zipIdx.foldl (fun cs(p:ak7×Nat)=>cs.setIfInBounds (off+p.2) p.1) vs=(us.toList.zipIdx 0).foldl (fun cs(p:ak7×Nat)=>cs.setIfInBounds (off+p.2) p.1) vs:=by
  rw[←Array.foldl_toList,Array.toList_zipIdx]
 obtain⟨h1,h2⟩:=W9 off us.toList 0 vs;rw[←e]at h1 h2;have hl:us.toList.length=ys.length:=by rw[akM,h'.len]
 have hle:off+0+us.toList.length≤vs.size:=by rw[hl,h.len];omega
 have hs:∀i,(fO cs off ys)[i]?=if off+0≤i∧i<off+0+us.toList.length then ys[i-off]? else cs[i]?:=fun i=>by
  unfold fO;rw[akw];by_cases ha:i<off
  ·rw[akp (by simp;omega),List.getElem?_take_of_lt ha,if_neg (by omega)]
  ·rw[akv (by simp;omega)];simp only[List.length_take];rw[Nat.min_eq_left (by omega)];by_cases hb:i-off<ys.length
   ·rw[akp hb,if_pos (by omega)]
   ·rw[akv (by omega),List.getElem?_drop,if_neg (by omega),show off+ys.length+(i-off-ys.length)=i by omega]
 refine⟨by rw[h1,DK _ _ _ hb,h.len],fun i u c hu hc=> ?_,fun i u hu=> ?_⟩
 ·rw[h2 i hle]at hu;rw[hs]at hc;split at hu
  ·rename_i hp
   rw[if_pos hp]at hc;exact h'.rel _ _ _ (by rw[←akC];exact hu) hc
  ·rename_i hp
   rw[if_neg hp]at hc;exact h.rel _ _ _ hu hc
 ·rw[h2 i hle]at hu;split at hu
  ·exact h'.one _ _ (by rw[←akC];exact hu)
  ·exact h.one _ _ hu
theorem aN.Ro{u:ak7}{x:AV}(h:aN G w u x)(hb:x.gZ=true):Row G w u.cells x.cells:=by
 obtain⟨h1,h2⟩:=h.cells hb;refine⟨h1,fun i v c hv hc=>(h2 i v c hv hc).1,fun i v hv=> ?_⟩;have a7:i<x.cells.length:=by rw[←h1];exact(aku.1 hv).1
 exact(h2 i v _ hv (akj a7)).2
theorem Og(place:Nat→ak5 (Nat×Nat))(places:ak3 (Nat×Nat))(hp:∀i pl,places[i]?=some pl→place i=some pl):∀(ps:ak3 (Nat×AV))(qs:ak3 (Nat×ak7))(cs b7:ak3 AV)(vs:Array ak7),Row G w vs cs→
 qs.length=ps.length→(∀(i:Nat)(p:Nat×AV)(q:Nat×ak7),ps[i]?=some p→qs[i]?=some q→q.1=p.1∧aN G w q.2 p.2)→(ps.all fun p=>p.2.gZ)=true→nU places cs ps=some b7→
 ∃fh,Instr.fill place vs qs=some fh∧Row G w fh b7
 |[],[],cs,b7,vs,h,_,_,_,hf=>by
  simp only[nU,Option.some.injEq]at hf;subst hf;exact⟨vs,rfl,h⟩
 |[],_::_,_,_,_,_,hl,_,_,_=>by simp at hl
 |_::_,[],_,_,_,_,hl,_,_,_=>by simp at hl
 |(j,x)::ps,(j',u)::qs,cs,b7,vs,h,hl,hr,hb,hf=>by
  obtain⟨e1,e2⟩:=hr 0 (j,x) (j',u) rfl rfl;simp only at e1 e2;subst e1;simp only[akZ,akh]at hb;unfold nU at hf;split at hf
  ·rename_i off k Cb
   rw[cond_eq_ite]at hf;split at hf
   ·rename_i hc
    simp only[akh,beq_iff_eq,dk]at hc;have m7:=e2.Ro hb.1;obtain⟨fh,h1,h2⟩:=Og place places hp ps qs _ b7 _ (abU h m7 (by rw[hc.1];exact hc.2)) (by simpa using hl) (fun i p q hp hq=>hr (i+1) p q (by simpa using hp) (by simpa using hq)) hb.2 hf;refine⟨fh,?_,h2⟩;unfold Instr.fill;rw[hp _ _ Cb];have h3:¬(u.cells.size≠k||decide (off+u.cells.size>vs.size))=true:=by
     rw[m7.len,hc.1,h.len];simp;exact hc.2
    simp only[h3];exact h1
   ·cases hf
  ·cases hf
theorem XI{z:Array ak7}(h:z.toList.all Value.oneCell'=true):z.all (·.oneCell')=true:=by
 rw[akF]at h;exact Array.all_eq_true_iff_forall_mem.2 fun u hu=>h u (Array.mem_toList_iff.2 hu)
theorem agT(z:ak7)(h:z.cells.all (·.oneCell')=true):Row G w z.cells (z.cells.toList.map fun u=> .d (.v u)):=by
 refine⟨by simp,fun i u c hu hc=> ?_,fun i u hu=>Array.all_eq_true_iff_forall_mem.1 h u (Array.mem_of_getElem? hu)⟩;rw[akm,akC,hu]at hc;cases hc
 exact .d (.v u)
theorem Rm:∀(fs:ak3 Field)(ps:ak3 (Nat×Nat))(w:ak8),EI P fs=some ps→(fs.mapM (m:=Sem) fun f=>do pure (f.offset,←sizeOf f.type)).run P w= .ok ps w
 |[],ps,w,h=>by simp [EI]at h;subst h;simp
 |f::fs,ps,w,h=>by
  unfold EI at h;simp only[List.mapM_cons,Option.bind_eq_bind,Option.bind_eq_some_iff,Option.map_eq_some_iff,Option.pure_def,Option.some.injEq]at h;obtain⟨p,⟨k,hk,rfl⟩,qs,hq,rfl⟩:=h;have ih:=Rm fs qs w hq;simp only[List.mapM_cons,Sem.run_bind,kC hk,Sem.run_pure,Result.andThen_ok,ih]
theorem ac3{T:Nat}{ps:ak3 (Nat×AV)}{qs:Array (Nat×ak7)}{C:AV→Prop}(hl:qs.toList.length=ps.length)
 (hr:∀(i:Nat)(p:Nat×AV)(q:Nat×ak7),ps[i]?=some p→qs.toList[i]?=some q→q.1=p.1∧aN G w q.2 p.2) (h:xI P T ps C):∃u y,(Instr.build T qs).run P w= .ok u w∧aN G w u y∧C y:=by
 unfold xI at h;split at h
 ·rename_i places z Jw hz
  obtain⟨fs,hT,Cb⟩:∃fs,P.underlying T=some (.struct fs)∧EI P fs.toList=some places:=by
   unfold MH at Jw;split at Jw
   ·exact⟨_,by assumption,Jw⟩
   ·cases Jw
  ·split at h
   ·rename_i cs hf
    obtain⟨ep,hC⟩:=bO.1 h;simp only[akh]at ep;obtain⟨hb,fF⟩:=ep;have fF:=XI fF;have kR:(fs.mapM (m:=Sem) fun f=>do pure (f.offset,←sizeOf f.type)).run P w= .ok places.toArray w:=by
     rw[Array.mapM_eq_mapM_toList];have:=Rm fs.toList places w Cb;have e:(Functor.map List.toArray (fs.toList.mapM (m:=Sem) fun f=>do pure (f.offset,←sizeOf f.type)):Sem _)=(fs.toList.mapM (m:=Sem) fun f=>do pure (f.offset,←sizeOf f.type))>>=fun l=>pure l.toArray:=rfl;rw[e,Sem.run_bind,this];rfl
    obtain⟨fh,h1,h2⟩:=Og (fun i=>places.toArray[i]?) places (fun i pl h=>by simpa using h) ps qs.toList _ cs z.cells (agT (G:=G) (w:=w) z fF) hl hr hb hf;refine⟨.agg fh, .agg cs,?_, .agg fh cs h2.len h2.rel,hC⟩;unfold Instr.build;simp only[Sem.run_bind,Im hz,Result.andThen_ok,run_underlying hT,kR,h1,Sem.run_pure]
   ·exact h.elim
 ·exact h.elim
theorem Wn{T:Nat}(h:zA P T=true):P.underlying T=some .bool:=by
 unfold zA at h;split at h
 ·assumption
 ·cases h
theorem JA{T:Nat}{k:IntKind}(h:qZ P T=some k):P.underlying T=some (.int k):=by
 unfold qZ at h;split at h
 ·cases h;assumption
 ·cases h
theorem UE{t off:Nat}{vs:Array ak7}{u:ak7}(ha:kW P t=some false)(hu:vs[off]?=some u):(part t vs off).run P w= .ok u w:=by
 unfold part;rw[Sem.run_bind,CP ha w];simp [hu]
theorem Yf{t:Nat}{u v:ak7}{x y:AV}{b:Bool}(d:Nat)(hu:aN G w u x)(hv:aN G w v y)(h:Ng P t x y=some b):(Op.equalIn (d+1) t u v).run P w= .ok b w:=by
 unfold Ng at h;split at h
 ·have e1:=hu.val;have e2:=hv.val;subst e1;subst e2
  rename_i k a k' b'
  cases hc:uX k k'&&(qZ P t).isSome with
  |false=>rw[hc]at h;cases h
  |true=>
   rw[hc]at h;cases h;rw[akh,NL]at hc;obtain⟨rfl,hc⟩:=hc;obtain⟨k2,hk⟩:=Option.isSome_iff_exists.1 hc;exact run_equalIn_int w d t k k2 a b' (JA hk)
 ·have e1:=hu.val;have e2:=hv.val;subst e1;subst e2;cases hc:fK P t with
  |false=>rw[hc]at h;cases h
  |true=>rw[hc]at h;cases h;rw[←Mv,←Mv];exact run_equalIn_string w d t _ _ (qj hc)
 ·have e1:=hu.val;have e2:=hv.val;subst e1;subst e2;cases hc:zA P t with
  |false=>rw[hc]at h;cases h
  |true=>rw[hc]at h;cases h;exact run_equalIn_bool w d t _ _ (Wn hc)
 ·cases h
theorem acM{t off k:Nat}{vs:Array ak7}(ha:kW P t=some true)(hk:eJ P t=some k):(part t vs off).run P w= .ok (.agg (vs.extract off (off+k))) w:=by
 unfold part;rw[Sem.run_bind,CP ha w];simp [kC hk]
theorem XA{us:Array ak7}{xs:ak3 AV}{off k:Nat}(hx:us.size=xs.length)(hb:off+k≤xs.length)(hu:∀(i:Nat)(u:ak7)(c:AV),us[i]?=some u→xs[i]?=some c→aN G w u c):
 (us.extract off (off+k)).size=((xs.drop off).take k).length∧∀(i:Nat)(u:ak7)(c:AV),(us.extract off (off+k))[i]?=some u→((xs.drop off).take k)[i]?=some c→aN G w u c:=by
 refine⟨by simp;omega,fun i u c h1 h2=> ?_⟩;rw[List.getElem?_take]at h2;split at h2
 ·next hi=>
  rw[List.getElem?_drop]at h2;rw[Array.getElem?_extract]at h1;split at h1
  ·exact hu _ _ _ h1 h2
  ·cases h1
 ·cases h2
theorem Kk{sub:TypeId→ak3 AV→ak3 AV→ak5 Bool}(d:Nat)
 (BW:∀(T:Nat)(us vs:Array ak7)(xs ys:ak3 AV)(b:Bool),us.size=xs.length→vs.size=ys.length→(∀(i:Nat)(u:ak7)(c:AV),us[i]?=some u→xs[i]?=some c→aN G w u c)→(∀(i:Nat)(u:ak7)(c:AV),vs[i]?=some u→ys[i]?=some c→aN G w u c)→sub T xs ys=some b→(Op.equalIn (d+1) T (.agg us) (.agg vs)).run P w= .ok b w)
 {us vs:Array ak7} {xs ys:ak3 AV} (hx:us.size=xs.length) (hy:vs.size=ys.length)
 (hu:∀(i:Nat)(u:ak7)(c:AV),us[i]?=some u→xs[i]?=some c→aN G w u c) (hv:∀(i:Nat)(u:ak7)(c:AV),vs[i]?=some u→ys[i]?=some c→aN G w u c):
 ∀(fs:ak3 Field)(b:Bool),AL P sub fs xs ys=some b→(Op.eqFields (d+1) us vs fs).run P w= .ok b w
 |[],b,h=>by cases h;simp [Op.eqFields]
 |f::fs,b,h=>by
  unfold AL at h;cases hn:f.name== "_" with
  |true=>rw[hn]at h;cases h
  |false=>
   rw[hn]at h;simp only[cond_false]at h;have cu:f.name≠ "_" :=by simpa using hn
   split at h
   ·next e1=>
    split at h
    ·next x y e2 e3=>
     split at h
     ·next a c e4 e5=>
      cases h
      have l1:f.offset<us.size:=by rw[hx];exact(akf.1 e2).1
      have l2:f.offset<vs.size:=by rw[hy];exact(akf.1 e3).1
      have g1:=akB l1;have g2:=akB l2;simp only[Op.eqFields,if_pos cu,Sem.run_bind,UE (w:=w) e1 g1,UE (w:=w) e1 g2,Result.andThen_ok,Yf d (hu _ _ _ g1 e2) (hv _ _ _ g2 e3) e4];cases a with
      |true=>simp only[Bool.not_true,Bool.false_eq_true,if_false,Bool.true_and];exact Kk d BW hx hy hu hv fs c e5
      |false=>simp
     ·cases h
    ·cases h
   ·next e1=>
    split at h
    ·next k e2=>
     cases jX:cf (f.offset+k) xs.length&&cf (f.offset+k) ys.length with
     |false=>rw[jX]at h;cases h
     |true=>
      rw[jX]at h;rw[akh,dk,dk]at jX;simp only[cond_true]at h;split at h
      ·next a c e4 e5=>
       cases h
       obtain⟨p1,p2⟩:=XA hx jX.1 hu;obtain⟨q1,q2⟩:=XA hy jX.2 hv;simp only[Op.eqFields,if_pos cu,Sem.run_bind,acM (w:=w) e1 e2,Result.andThen_ok,BW _ _ _ _ _ a p1 q1 p2 q2 e4];cases a with
       |true=>simp only[Bool.not_true,Bool.false_eq_true,if_false,Bool.true_and];exact Kk d BW hx hy hu hv fs c e5
       |false=>simp
      ·cases h
    ·cases h
   ·cases h
theorem Wc:∀(n d:Nat)(T:Nat)(us vs:Array ak7)(xs ys:ak3 AV)(b:Bool),us.size=xs.length→vs.size=ys.length→(∀(i:Nat)(u:ak7)(c:AV),us[i]?=some u→xs[i]?=some c→aN G w u c)→(∀(i:Nat)(u:ak7)(c:AV),vs[i]?=some u→ys[i]?=some c→aN G w u c)→GY P n T xs ys=some b→(Op.equalIn (d+n+1) T (.agg us) (.agg vs)).run P w= .ok b w
 |0,_,_,_,_,_,_,_,_,_,_,_,h=>by cases h
 |n+1,d,T,us,vs,xs,ys,b,hx,hy,hu,hv,h=>by
  unfold GY at h;split at h
  ·next fs hT=>
   cases hc:P.stoodInHeld T with
   |true=>rw[hc]at h;cases h
   |false=>
    rw[hc]at h;have hf:P.fieldsOf T=fs:=by unfold Program.fieldsOf;rw[hT]
    rw[show d+(n+1)+1=(d+n+1)+1 by omega,run_equalIn_struct w (d+n+1) T us vs (by rw[hf];exact hT) hc,hf];exact Kk (d+n) (fun T' Ks fh Lo N1 b'=>Wc n d T' Ks fh Lo N1 b') hx hy hu hv _ b h
  ·cases h
theorem af9{T:Nat}{us vs:Array ak7}{xs ys:ak3 AV}{b:Bool}(hx:us.size=xs.length)(hy:vs.size=ys.length)
 (hu:∀(i:Nat)(u:ak7)(c:AV),us[i]?=some u→xs[i]?=some c→aN G w u c) (hv:∀(i:Nat)(u:ak7)(c:AV),vs[i]?=some u→ys[i]?=some c→aN G w u c) (h:J9 P T xs ys=some b):
 P.eqGuardType P.depth T=false∧(Op.equalIn 10000 T (.agg us) (.agg vs)).run P w= .ok b w:=by
 unfold J9 at h;split at h
 ·next fs hT=>
  cases hc:P.stoodInHeld T||P.eqGuardType P.depth T with
  |true=>rw[hc]at h;cases h
  |false=>
   rw[hc]at h;rw[ak2]at hc;refine⟨hc.2,?_⟩;have hf:P.fieldsOf T=fs:=by unfold Program.fieldsOf;rw[hT]
   rw[run_equalIn_struct w 9999 T us vs (by rw[hf];exact hT) hc.1,hf];exact Kk 9998 (fun T' Ks fh Lo N1 b'=>Wc 4 9994 T' Ks fh Lo N1 b') hx hy hu hv _ b h
 ·cases h
theorem ac7{op:BinOp}{x y:AV}{u v:ak7}{T:Nat}{X Y:Operand}{C:AV→Prop}(hu:aN G w u x)(hv:aN G w v y)(h:w8 P T op x y C):
 ∃r z,(do eqGuard op T X Y u v;binOp op T u v:Sem ak7).run P w= .ok r w∧aN G w r z∧C z:=by
 unfold w8 at h;split at h
 ·rename_i k a k' b
  have e1:=hu.val;have e2:=hv.val;subst e1;subst e2;have hg:(eqGuard op T X Y (.int k a) (.int k' b)).run P w= .ok () w:=by unfold eqGuard;cases op<;>simp
  rw[Sem.run_bind,hg];simp only[Result.andThen_ok];split at h
  ·rename_i z hq
   obtain⟨sT,hp,hC⟩:=bO.1 h;rw[NL]at sT;subst sT;refine⟨z,_,?_, .d (.v z),hC⟩;cases op<;>simp [Lx]at hq<;>subst hq<;>simp [binOp,Op.intDiv,hp]
  ·split at h
   ·rename_i z hq
    refine⟨z,_,?_, .d (.v z),h.2⟩;have hb:¬b<0:=by omega
    cases op<;>simp [NU]at hq<;>subst hq<;>simp [binOp,Op.shift,hb]
   ·split at h
    ·rename_i z hq
     obtain⟨sT,hC⟩:=bO.1 h;rw[NL]at sT;subst sT;refine⟨z,_,?_, .d (.v z),hC⟩;cases op<;>simp [MY]at hq<;>subst hq<;>simp [binOp,Op.intArith,Op.intCmp,Op.intBits]
    ·exact h.elim
 ·rename_i a b
  have e1:=hu.val;have e2:=hv.val;subst e1;subst e2;have hg:(eqGuard op T X Y (.string a) (.string b)).run P w= .ok () w:=by unfold eqGuard;cases op<;>simp
  rw[Sem.run_bind,hg];simp only[Result.andThen_ok];split at h
  ·rename_i z hq
   refine⟨z,_,?_, .d (.v z),h⟩;cases op<;>simp [NO]at hq<;>subst hq<;>simp [binOp,Op.stringOp,Mv]
  ·split at h
   ·refine⟨_,_,?_, .d (.v _),h.2⟩;have hm:¬(((a.size+b.size:Nat):Int)>IntKind.i64.max):=by
     have:=h.1;unfold maxLen at this;have e:IntKind.i64.max=9223372036854775807:=by decide
     rw[e];omega
    simp only[binOp,Op.stringOp];rw[if_neg hm];rfl
   ·exact h.elim
 ·rename_i a b
  have e1:=hu.val;have e2:=hv.val;subst e1;subst e2;have hg:(eqGuard op T X Y (.bool a) (.bool b)).run P w= .ok () w:=by unfold eqGuard;cases op<;>simp
  rw[Sem.run_bind,hg];simp only[Result.andThen_ok];split at h
  ·rename_i z hq
   obtain⟨hT,hC⟩:=bO.1 h;have hT:=Wn hT;refine⟨z,_,?_, .d (.v z),hC⟩;have hb:=run_equalIn_bool (P:=P) w 9999 T a b hT;cases op<;>simp [OW]at hq<;>subst hq<;>simp [binOp,Op.equal,Op.maxDepth,hb]
  ·exact h.elim
 ·rename_i xs ys
  cases hu with
  |agg us _ Fw tw=>
   cases hv with
   |agg vs _ IN Ha=>
    split at h
    ·next b hb=>
     obtain⟨hg,he⟩:=af9 Fw IN tw Ha hb;rw[Sem.run_bind,run_eqGuard_agg w op T X Y us vs hg];simp only[Result.andThen_ok];split at h
     ·next z hz=>
      refine⟨z,_,?_, .d (.v z),h⟩;cases op<;>simp [xA]at hz<;>subst hz
      ·rw[run_eql_struct,he];rfl
      ·rw[run_neq_struct,he];rfl
     ·exact h.elim
    ·exact h.elim
 ·exact h.elim
theorem ajn{op:UnOp}{x:AV}{u:ak7}{C:AV→Prop}(hu:aN G w u x)(h:wZ op x C):∃r z,(Op.unary op u).run P w= .ok r w∧aN G w r z∧C z:=by
 unfold wZ at h;split at h
 ·rename_i v
  have e:=hu.val;subst e;split at h
  ·rename_i z hq
   refine⟨z,_,?_, .d (.v z),h⟩;unfold F1 at hq;split at hq
   ·cases hq;simp [Op.unary]
   ·cases hq;simp [Op.unary,Op.intArith]
   ·cases hq;simp [Op.unary,Op.intBits]
   ·cases hq
  ·exact h.elim
 ·exact h.elim
theorem aay{T:Nat}(h:Ca P T=true):P.underlying T=some (.int .u8):=by
 unfold Ca at h;split at h
 ·assumption
 ·cases h
theorem XS{a b:Nat}{x:AV}{u:ak7}{C:AV→Prop}(hu:aN G w u x)(h:vq P a b x C):∃r z,(convert a b u).run P w= .ok r w∧aN G w r z∧C z:=by
 unfold vq at h;split at h
 ·rename_i k2 m
  have e:=hu.val;subst e;split at h
  ·rename_i k1 k h1 h2
   refine⟨_,_,?_, .d (.v _),h⟩;simp [convert,run_underlying (JA h1),run_underlying (JA h2),Conv.intToInt]
  ·exact h.elim
 ·rename_i s
  have e:=hu.val;subst e;obtain⟨ep,hC⟩:=bO.1 h;rw[akh]at ep;refine⟨_,_,?_, .d (.v _),hC⟩;simp [convert,run_underlying (qj ep.1),run_underlying (qj ep.2)]
 ·split at h
  ·rename_i xs e k j0 hT
   obtain⟨ep,ns,rfl,hC⟩:=bO.1 h;rw[akh]at ep;refine⟨_,_,?_, .d (.v _),hC⟩;obtain⟨A,bb,o,cc,k',us,rfl,hA,jJ,p5,hJ,hS,kS⟩:=(hu.list j0).nI;rw[run_convert_bytes_string w a b e A _ cc (ir hT).1 (aay ep.1) (qj ep.2)];simp only[akk]at hA jJ hS ⊢;cases ns with
   |nil=>
    cases A with
    |none=>rfl
    |some ad=>
     have hl:=run_loadCells_list (P:=P) w ad (([]:ak3 Int).map (Value.int .u8)) (fun j v hj=>by simp at hj);simp only[List.map_nil,akr]at hl;have:=run_bytesToString (P:=P) w ad 0 cc [] (by simpa using hl);exact this
   |cons n0 ns=>
    have Jg:=hA (by simp);subst Jg;have uD:k'=1:=(hJ [.v (.int .u8 n0)] (by simp)).symm;subst uD;have hl:=run_loadCells_list (P:=P) w ⟨bb,o,none⟩ ((n0::ns).map (Value.int .u8)) (fun j v hj=>by
     have a7:=(akf.1 hj).1;rw[akk]at a7;have h1:=(hS j 0 a7 (by omega)).2.1;rw[akm,akj a7]at hj;cases hj
     have h2:=kS j 0 [.v (.int .u8 ((n0::ns)[j]))] (.v (.int .u8 ((n0::ns)[j]))) (by rw[akm,akj a7];rfl) rfl;have h3:us j 0= .int .u8 ((n0::ns)[j]):=by
      generalize us j 0=q at h2;cases h2;rfl
     rw[ki];rw[h3]at h1
     simpa using h1)
    rw[akk]at hl;rw[run_bytesToString w _ _ cc _ hl];have key:∀(l:ak3 Int)(r:ak4),l.foldl (fun r n=>r.push (UInt8.ofNat n.toNat)) r=⟨r.data++(l.map fun n=>UInt8.ofNat n.toNat).toArray⟩:=by
      intro l
      induction l with
      |nil=>intro r;simp
      |cons x l ih=>intro r;rw[List.foldl_cons,ih];simp [ByteArray.push]
    rw[key];have EP:ByteArray.empty.data= #[]:=rfl;rw[EP];simp
  ·exact h.elim
theorem ON{T f off k:Nat}{g:Bool}(h:qC P T f=some (off,k,g)):∃fs fd,P.underlying T=some (.struct fs)∧fs[f]?=some fd∧eJ P fd.type=some k∧0<k∧kW P fd.type=some g∧fd.offset=off:=by
 unfold qC at h;split at h
 ·rename_i fs hT
  split at h
  ·rename_i fd hf
   split at h
   ·rename_i k' g' h1 h2
    cases h
    exact⟨fs,fd,hT,hf,h1,Nat.succ_pos _,h2,rfl⟩
   ·cases h
  ·cases h
 ·cases h
theorem KW{T f off k o b:Nat}{g:Bool}(h:qC P T f=some (off,k,g)):(Instr.fieldAt T (.pointer (some ⟨b,o,none⟩)) f).run P w= .ok (.pointer (some ⟨b,o+off,none⟩)) w:=by
 obtain⟨fs,fd,h1,h2,h3,h4,h5,rfl⟩:=ON h;simp [Instr.fieldAt,run_underlying h1,h2,Instr.sureAddr,fieldPlace,kC h3,Nat.ne_of_gt h4,ki]
theorem acz{T f:Nat}{x:AV}{u:ak7}{C:AV→Prop}(hu:aN G w u x)(h:uO P T x f C):∃r z,(Instr.field T u f).run P w= .ok r w∧aN G w r z∧C z:=by
 unfold uO at h;split at h
 ·rename_i off k cs hT
  obtain⟨hl,hC⟩:=bO.1 h;rw[dk]at hl;obtain⟨fs,fd,h1,h2,h3,h4,h5,rfl⟩:=ON hT;cases hu with
  |agg vs _ hlen hr=>
   refine⟨.agg (vs.extract fd.offset (fd.offset+k)),_,?_, .agg _ _ ?_ fun i u c hu hc=> ?_,hC⟩
   ·simp [Instr.field,run_underlying h1,h2,asAgg,part,CP h5,kC h3]
   ·simp;omega
   ·rw[Array.getElem?_extract]at hu;rw[List.getElem?_take]at hc;split at hc
    ·rw[List.getElem?_drop]at hc;split at hu
     ·exact hr _ u c hu hc
     ·cases hu
    ·cases hc
 ·rename_i off k cs hT
  obtain⟨fs,fd,h1,h2,h3,h4,h5,rfl⟩:=ON hT;split at h
  ·rename_i c hc
   cases hu with
   |agg vs _ hlen hr=>
    have a7:fd.offset<vs.size:=by rw[hlen];exact(akf.1 hc).1
    refine⟨vs[fd.offset],c,?_,hr _ _ c (akB a7) hc,h⟩;simp [Instr.field,run_underlying h1,h2,asAgg,part,CP h5,akB a7]
  ·exact h.elim
 ·exact h.elim
end
def Gh.Fa(G:Gh)(b m:Nat):Gh:={G with S:=fun c o=>G.S c o∨(c=b∧o<m)}
theorem PY{G:Gh}{w:ak8}{h:ak3 aq}(hi:bW G w h)(ob:Obj)(m:Nat):bR G.N G w (G.Fa w.heap.size m) (w.alloc ob)∧bW (G.Fa w.heap.size m) (w.alloc ob) h:=by
 have hE:bR G.N G w (G.Fa w.heap.size m) (w.alloc ob):=
  ⟨by simp,fun _ _ h=> .inl h,fun b _ h=>World.cell?_alloc_lt _ _ _ (hi.S _ _ h),fun _ _=>rfl,fun _ _=> .inl ⟨rfl,rfl⟩,fZ rfl,fun b hb=>Below.heap_alloc w ob b (hi.z b hb),rfl,rfl,rfl,fun b o hs=>hs.imp id fun⟨e,_⟩ hz=>akT _ (hi.z _ (e▸hz))⟩
 refine⟨hE,hi.len,fun b hb=>akD (hi.z b hb) hE.size,fun b o hs=> ?_,fun n B hB=> ?_,fun m n b h1 h2=>hi.inj m n b h1 h2,hi.gl.bo hE⟩
 ·rcases hs with hs|⟨rfl,_⟩
  ·exact akD (hi.S b o hs) hE.size
  ·simp
 ·refine dE.bo (hi.lt hB) hE (akq _) ⟨rfl,rfl,rfl⟩ (fun b hb=> ?_) (hi.cW n B hB);have a7:=hi.ia (n:=n) (b:=b) ((dm hB).trans hb);refine⟨Below.heap_alloc w _ _ a7,fun o jx hs=> ?_⟩;rcases hs with hs|⟨e,_⟩
  ·exact jx hs
  ·omega
theorem RA(k:Nat):∀(n o i:Nat)(pl:Nat×Nat),(tJ k o n)[i]?=some pl→pl=(o+i*k,k)
 |0,_,_,_,h=>by simp [tJ]at h
 |n+1,o,0,pl,h=>by simp [tJ]at h;rw[←h];simp
 |n+1,o,i+1,pl,h=>by
  have:=RA k n (o+k) i pl (by simpa [tJ]using h);rw[this,Nat.add_mul];simp;omega
theorem WM(l:ak3 AV):∀n,(rK n l).length=n*l.length
 |0=>by simp [rK]
 |n+1=>by rw[rK,akg,WM l n,Nat.add_mul];omega
theorem Xy(l:ak3 AV):∀(n i:Nat),i<n*l.length→(rK n l)[i]?=l[i%l.length]?
 |0,i,h=>by omega
 |n+1,i,h=>by
  rw[rK];by_cases hi:i<l.length
  ·rw[akp hi,Nat.mod_eq_of_lt hi]
  ·rw[akv (by omega),Xy l n _ (by rw[Nat.add_mul]at h;omega),←Nat.mod_eq_sub_mod (by omega)]
theorem adq(z:ak7){k:Nat}(hz:z.cells.size=k)(n:Nat):rK n (z.cells.toList.map fun u=> .d (.v u))=(List.range (n*k)).map fun i=> .d (.v (z.cells[i%z.cells.size]!)):=by
 have hl:(z.cells.toList.map fun u=>AV.d (.v u)).length=k:=by simp [hz]
 refine List.ext_getElem? fun i=> ?_;by_cases hi:i<n*k
 ·rw[Xy _ _ _ (by rw[hl];exact hi),akm,akm,List.getElem?_range hi,hl,hz,akC];have hk:0<k:=Nat.pos_of_ne_zero fun e=>by subst e;simp at hi
  have a7:i%k<z.cells.size:=by rw[hz];exact Nat.mod_lt _ hk
  rw[akB a7];simp only[Option.map_some];rw[getElem!_pos z.cells (i%k) a7]
 ·rw[akL (by rw[WM,hl];omega),akL (by simp;omega)]
theorem Tl:∀{ps:ak3 (Nat×AV)}{places:ak3 (Nat×Nat)}{cs b7:ak3 AV},nU places cs ps=some b7→b7.length=cs.length
 |[],_,_,_,h=>by simp only[nU,Option.some.injEq]at h;rw[h]
 |(i,x)::ps,places,cs,b7,h=>by
  unfold nU at h;split at h
  ·rw[cond_eq_ite]at h;split at h
   ·rename_i hc
    simp only[akh,beq_iff_eq,dk]at hc;rw[Tl h,DK _ _ _ (by rw[hc.1];exact hc.2)]
   ·cases h
  ·cases h
section
variable {P:ak6} {r:ak5 Nat} {n N0:Nat} {G:Gh} {w:ak8} {a:Act} {s:St} {o:Oper} {K:St→Prop} {Q:Exit→Act→ak8→Prop}
theorem afM{T len:Nat}{h:ak3 aq}{ps:ak3 (Nat×AV)}{qs:Array (Nat×ak7)}{C:AV→Prop}(hi:bW G w h)(hl:qs.toList.length=ps.length)
 (hr:∀(i:Nat)(p:Nat×AV)(q:Nat×ak7),ps[i]?=some p→qs.toList[i]?=some q→q.1=p.1∧aN G w q.2 p.2) (hC:vv P T len ps C):
 ∃u w' G' y,(Instr.buildSlice T len qs).run P w= .ok u w'∧bR G.N G w G' w'∧G.N≤G'.N∧bW G' w' h∧aN G' w' u y∧C y:=by
 unfold vv at hC;split at hC
 ·rename_i e k hT
  obtain⟨dY,eF⟩:=ir hT;split at hC
  ·rename_i z hz
   split at hC
   ·rename_i cs hf
    split at hC
    ·rename_i ds s7
     obtain⟨ep,hC⟩:=bO.1 hC;simp only[akh,beq_iff_eq,dk,akM]at ep;obtain⟨⟨⟨⟨hk,hsm⟩,iJ⟩,fF⟩,hb⟩:=ep;have fF:=XI fF;rw[adq z iJ]at hf;have Cb:=RA k;obtain⟨z0,vV⟩:∃z0:Array ak7,z0=if len*k=0 then #[]else z.cells:=⟨_,rfl⟩
     obtain⟨zr,DB⟩:∃zr:Array ak7,zr=(Array.range (len*k)).map (z0[·%z0.size]!):=⟨_,rfl⟩;have m7:Row G w zr ((List.range (len*k)).map fun i=> .d (.v (z.cells[i%z.cells.size]!))):=by
      have Ce:∀i,i<len*k→z0[i%z0.size]! =z.cells[i%z.cells.size]! :=fun i hi=>by rw[vV,if_neg (by omega)]
      refine⟨by rw[DB];simp,fun i u c hu hc=> ?_,fun i u hu=> ?_⟩
      ·rw[DB,Array.getElem?_map]at hu;rw[akm]at hc;by_cases hi:i<len*k
       ·rw[List.getElem?_range hi]at hc;rw[Array.getElem?_range,if_pos hi]at hu;simp only[Option.map_some,Option.some.injEq]at hu hc;subst hu;subst hc;rw[Ce i hi];exact .d (.v _)
       ·rw[akL (by simp;omega)]at hc;cases hc
      ·rw[DB,Array.getElem?_map]at hu;by_cases hi:i<len*k
       ·rw[Array.getElem?_range,if_pos hi]at hu;simp only[Option.map_some,Option.some.injEq]at hu;subst hu;rw[Ce i hi];have a7:i%z.cells.size<z.cells.size:=Nat.mod_lt _ (by omega);rw[getElem!_pos z.cells _ a7];exact Array.all_eq_true_iff_forall_mem.1 fF _ (Array.getElem_mem _)
       ·rw[Array.getElem?_eq_none (by simp;omega)]at hu;cases hu
     obtain⟨fh,h1,h2⟩:=Og (fun i=>some (i*k,k)) (tJ k 0 len) (fun i pl h=>by
      have:=Cb len 0 i pl h;rw[this];simp) ps qs.toList _ cs zr m7 hl hr hb hf
     obtain⟨d1,d2⟩:=LC s7;have fx:cs.length=len*k:=by
      have:=Tl hf;rw[this];simp
     have wW:fh.size=len*k:=by rw[h2.len,fx]
     obtain⟨i1,i2⟩:=PY hi (.cells fh e) (len*k);have Ev:Rd G.S w k (mh k len ds) fh.toList:=Sb (by rw[d1,fx]) (by rw[akM,wW]) (fun u hu=>by
      obtain⟨j,hj⟩:=List.mem_iff_getElem?.1 hu;exact h2.one j u (by rw[←akC];exact hj)) (fun i u d hu hd=>by
      have a7:i<cs.length:=by rw[←d1];exact(akf.1 hd).1
      exact(h2.rel i u _ (by rw[←akC];exact hu) (akj a7)).Lz (d2 i _ d (akj a7) hd))
     have hp:dc (G.Fa w.heap.size (len*k)).S (w.alloc (.cells fh e)) (.slice (some ⟨w.heap.size,0,none⟩) len len) (.sl (mh k len ds)):=by
      have:=(Ev.bo i1.S i1.cell).Ix w.heap.size len (by rw[qw];exact akq _) (by have:=Nat.le_mul_of_pos_right len hk;simp only[maxLen];omega) (fun o ho=> .inr ⟨rfl,by rw[qw]at ho;exact ho⟩) (fun o u hu=>by
       rw[World.cell?_alloc_new];rw[←akC];exact hu)
      rwa [qw]at this
     refine⟨_,_,_,_,?_,i1,akq _,i2, .full _ hp ⟨some ⟨w.heap.size,0,none⟩,by rw[qw]⟩,hC⟩;have jx:¬(len*k>2^24):=by omega
     unfold Instr.buildSlice;simp only[Sem.run_bind,run_underlying dY,Result.andThen_ok,kC eF,jx,if_false];by_cases h0:len*k=0
     ·rw[if_pos h0]at vV;subst vV;subst DB;simp [h0]at h1;simp [h0,h1,newRow]
     ·rw[if_neg h0]at vV;subst vV;subst DB;simp [h0,Im hz,h1,newRow]
    ·exact hC.elim
   ·exact hC.elim
  ·exact hC.elim
 ·exact hC.elim
end
section
variable {P:ak6} {G:Gh} {w:ak8} {h:ak3 aq}
theorem y6(k s:ak4)(d:D)(l:ak3 (ak4×D)):nG ((k,d)::l) s=if k=s then some d else nG l s:=by
 have e1:nG ((k,d)::l) s=bif bL k==bL s then some d else nG l s:=rfl;rw[e1];by_cases e:k=s
 ·subst e;rw[if_pos rfl];simp
 ·rw[if_neg e];have:(bL k==bL s)=false:=by rw[beq_eq_false_iff_ne];exact fun he=>e (OF he)
  rw[this];rfl
theorem Jq{T k e:TypeId}(h:uJ P T=some (k,e)):P.underlying T=some (.map k e):=by
 unfold uJ at h;split at h
 ·next k' e' hT=>cases h;exact hT
 ·cases h
theorem acX(hi:bW G w h):bR G.N G w (G.dw w.heap.size) (w.alloc (.map #[] 0))∧bW (G.dw w.heap.size) (w.alloc (.map #[] 0)) (h++[.map []])∧aN (G.dw w.heap.size) (w.alloc (.map #[] 0)) (.map (some w.heap.size)) (.mp h.length):=by
 have hE:=CU G w hi.z hi.S (.map #[] 0);have hN:G.N≤(G.dw w.heap.size).N:=Nat.le_succ _;have iq:(G.dw w.heap.size).bm h.length=w.heap.size:=by simp [Gh.dw,hi.len]
 have lR:∀n(B:aq),n<G.N→B.dy (G.dw w.heap.size) n=B.dy G n:=fun n B hn=>by
  cases B<;>simp [aq.dy,Gh.dw,Nat.ne_of_lt hn]
 have fD:∀n,n<G.N→b6 (h++[.map []]) (G.dw w.heap.size) n=b6 h G n:=fun n hn=>by
  have a7:n<h.length:=by rw[hi.len];exact hn
  unfold b6;rw[akp a7,akj a7];exact lR n _ hn
 have Fh:b6 (h++[.map []]) (G.dw w.heap.size) h.length=some w.heap.size:=by
  rw[dm (B:= .map []) (by simp)];exact congrArg some iq
 refine⟨hE,⟨by simp [Gh.dw,hi.len],fun b hb=>akD (hi.z b hb) hE.size,fun b o hs=>akD (hi.S b o hs) hE.size,fun n B hB=> ?_,fun m n b hm hn=> ?_,hi.gl.bo hE⟩,?_⟩
 ·by_cases hn:n<h.length
  ·rw[akp hn]at hB;have eG:n<G.N:=hi.len▸hn;exact dE.bo eG hE hN ⟨rfl,rfl,rfl⟩ (fun b hb=>⟨Below.heap_alloc w _ _ (hi.ia (n:=n) ((dm hB).trans hb)),fun o h=>h⟩) (hi.cW n B hB)
  ·have l4:n=h.length:=by
    have:=(akf.1 hB).1;simp at this;omega
   subst l4;simp at hB;subst hB;exact⟨by rw[iq];exact fun hz=>akT _ (hi.z _ hz),fun o hs=>by rw[iq]at hs;exact akT _ (hi.S _ _ hs), #[],0,by rw[iq];exact World.alloc_heap_new w _,
    ⟨by simp,MapKept.stamped_empty 0,fun e he=>(by simp at he),fun s d hs=>(by cases hs),by simp,fun i e he=>(by simp at he),rfl⟩⟩
 ·have key:∀n b,b6 (h++[.map []]) (G.dw w.heap.size) n=some b→(n<G.N∧b6 h G n=some b)∨(n=h.length∧b=w.heap.size):=fun n b hn=>by
   by_cases a7:n<G.N
   ·exact .inl ⟨a7,by rw[←fD n a7];exact hn⟩
   ·by_cases e:n=h.length
    ·subst e;rw[Fh]at hn;cases hn;exact .inr ⟨rfl,rfl⟩
    ·rw[zf (akL (by simp;have:=hi.len;omega))]at hn;cases hn
  rcases key m b hm with⟨_,jT⟩|⟨rfl,rfl⟩<;>rcases key n _ hn with⟨_,eG⟩|⟨rfl,hb⟩
  ·exact hi.inj m n b jT eG
  ·have:=hi.ia jT;omega
  ·have:=hi.ia eG;omega
  ·rfl
 ·have:=aN.mp (G:=G.dw w.heap.size) (w:=w.alloc (.map #[] 0)) h.length (by simp [Gh.dw,hi.len])
  rwa [iq]at this
theorem rX{s:ak4}:MapKept.IsKey .string (.string s):=trivial
theorem ac9{T k e:TypeId}{z:ak7}{n:Nat}{kv:ak3 (ak4×D)}{s:ak4}{ok:Bool}(hi:bW G w h)(hT:uJ P T=some (k,e))(hz:gH P e=some z)(hk:fK P k=true)(hn:h[n]?=some (.map kv)):
 ∃v,(Instr.lookup T (.map (some (G.bm n))) (.string s) ok).run P w= .ok v w∧aN G w v (Gp ok z (nG kv s)):=by
 obtain⟨_,_,es,clock,hh,hm⟩:=hi.cW n _ hn;have BG:∀x∈es.toList,MapKept.IsKey .string x.key:=fun x hx=>by
  obtain⟨s',d,h1,_⟩:=hm.x9 x hx;rw[h1];exact rX
 have qt:=qj hk;have one:∀(v:ak7)(d:D)(b:Bool),dc G.S w v d→aN G w (if ok then .tuple #[v, .bool b]else v) (bif ok then .bk [.d d, .d (.v (.bool b))]else .d d):=fun v d b hp=>by
  cases ok with
  |false=>exact .d hp
  |true=>
   refine .bk #[v, .bool b] _ rfl fun i u c hu hc=> ?_
   match i with
   |0=>simp at hu hc;subst hu;subst hc;exact .d hp
   |1=>simp at hu hc;subst hu;subst hc;exact .d (.v _)
   |i+2=>simp at hu
 rcases MapKept.findNow_spec (rX (s:=s)) es.toList 0 BG with⟨h1,h2⟩|⟨j,e0,h1,h2,h3⟩
 ·have af7:nG kv s=none:=by
   cases hq:nG kv s with
   |none=>rfl
   |some d=>
    obtain⟨x,hx,lL⟩:=hm.all s d hq;exact absurd lL (h2 x hx)
  refine⟨if ok then .tuple #[z, .bool false]else z,?_,?_⟩
  ·simp [Instr.lookup,run_underlying (Jq hT),MapKept.run_getObj_map hh,MapKept.run_checkKey qt rX,MapKept.run_findKey qt h1,Im hz,Result.andThen]
  ·rw[af7];have:=one z (.v z) false (.v z);unfold Gp;exact this
 ·have mm:e0∈es.toList:=aks h2;obtain⟨s',d,k1,k2,k3⟩:=hm.x9 e0 mm;rw[h3]at k1;cases k1
  refine⟨if ok then .tuple #[e0.val, .bool true]else e0.val,?_,?_⟩
  ·simp [Instr.lookup,run_underlying (Jq hT),MapKept.run_getObj_map hh,MapKept.run_checkKey qt rX,MapKept.run_findKey qt h1,Result.andThen]
  ·rw[k2];have:=one e0.val d true k3;unfold Gp;exact this
theorem Zz{T k e:TypeId}{n:Nat}{kv:ak3 (ak4×D)}{s:ak4}{v:ak7}{d:D}(hi:bW G w h)(hT:uJ P T=some (k,e))(hk:fK P k=true)(hn:h[n]?=some (.map kv))(hv:dc G.S w v d)(hlen:kv.length<maxLen):
 ∃w',(Instr.mapUpdate T (.map (some (G.bm n))) (.string s) v).run P w= .ok () w'∧bR G.N G w G w'∧bW G w' (h.set n (.map ((s,d)::kv))):=by
 obtain⟨hZ,hS,es,clock,hh,hm⟩:=hi.cW n _ hn;have BG:∀x∈es.toList,MapKept.IsKey .string x.key:=fun x hx=>by
  obtain⟨s',d,h1,_⟩:=hm.x9 x hx;rw[h1];exact rX
 have qt:=qj hk;have fin:∀(vI:Array MapEntry)(CL:Nat)(w':ak8),w'=ChangeMaps.setBlock w (G.bm n) (.map vI CL)→wG G.S w vI CL ((s,d)::kv)→bR G.N G w G w'∧bW G w' (h.set n (.map ((s,d)::kv))):=by
  intro vI CL w' dJ jT;have gn:∀b,b≠G.bm n→w'.heap[b]?=w.heap[b]?:=fun b hb=>by rw[dJ];exact ChangeMaps.heap_setBlock_other hh _ hb
  have DO:w'.heap[G.bm n]?=some (.map vI CL):=by rw[dJ];exact ChangeMaps.heap_setBlock_same hh _
  have gL:w'.heap.size=w.heap.size:=by rw[dJ];simp [ChangeMaps.setBlock]
  have gb:∀b o,G.S b o→w'.cell? ⟨b,o,none⟩=w.cell? ⟨b,o,none⟩:=fun b o hs=>World.cell?_of_block (gn b (fun e=>hS o (e▸hs)));have hE:bR G.N G w G w':=⟨by rw[gL];exact akq _,fun _ _ h=>h,gb,fun _ _=>rfl,fun _ _=> .inl ⟨rfl,rfl⟩,fZ rfl,fun b hb=>gn b (fun e=>hZ (e▸hb)),by rw[dJ];rfl,by rw[dJ];rfl,by rw[dJ];rfl,fun _ _ h=> .inl h⟩;refine⟨hE,?_⟩;have lE:b6 h G n=some (G.bm n):=dm hn;have kT:(h.set n (.map ((s,d)::kv)))[n]?=some (.map ((s,d)::kv)):=by rw[akI (akf.1 hn).1]
  have dV:∀m,m≠n→(h.set n (.map ((s,d)::kv)))[m]?=h[m]?:=fun m hm=>by rw[akN (Ne.symm hm)]
  have dB:∀m,b6 (h.set n (.map ((s,d)::kv))) G m=b6 h G m:=fun m=>by
   by_cases e:m=n
   ·subst e;rw[dm kT,dm hn];rfl
   ·unfold b6;rw[dV m e]
  refine⟨by rw[List.length_set];exact hi.len,fun b hb=>akD (hi.z b hb) hE.size,fun b o hs=>akD (hi.S b o hs) hE.size,fun m B hB=> ?_,fun m m' b h1 h2=>hi.inj m m' b (by rw[←dB];exact h1) (by rw[←dB];exact h2),hi.gl.bo hE⟩;by_cases e:m=n
  ·subst e;rw[kT]at hB;cases hB
   exact⟨hZ,hS,vI,CL,DO,jT.bo (fun _ _ h=>h) gb⟩
  ·rw[dV m e]at hB;have cu:∀b,b6 h G m=some b→b≠G.bm n:=fun b hb eb=>e (hi.inj m n b hb (by rw[eb];exact lE));exact dE.bo (hi.lt hB) hE (akq _) ⟨rfl,rfl,rfl⟩ (fun b hb=>⟨gn b (cu _ ((dm hB).trans hb)),fun o h=>h⟩) (hi.cW m B hB)
 rcases MapKept.findNow_spec (rX (s:=s)) es.toList 0 BG with⟨h1,h2⟩|⟨j,e0,h1,h2,h3⟩
 ·have jT:wG G.S w (es.push ⟨.string s,v,clock⟩) (clock+1) ((s,d)::kv):=by
   refine⟨by have:=hm.len;simp;omega,MapKept.stamped_push hm.stamped h2,fun x hx=> ?_,fun s' d' ck=> ?_,by have:=hm.len;simp;omega,fun i e he=> ?_,by rw[hm.G5];simp⟩
   ·simp only[Array.toList_push,akR,List.mem_singleton]at hx;rcases hx with hx|rfl
    ·obtain⟨s',d',k1,k2,k3⟩:=hm.x9 x hx;refine⟨s',d',k1,?_,k3⟩;rw[y6,if_neg (fun e=>h2 x hx (by rw[k1,e]))];exact k2
    ·exact⟨s,d,rfl,by rw[y6,if_pos rfl],hv⟩
   ·rw[y6]at ck;simp only[Array.toList_push,akR,List.mem_singleton];split at ck
    ·next e=>subst e;exact⟨_, .inr rfl,rfl⟩
    ·obtain⟨x,hx,hk⟩:=hm.all s' d' ck;exact⟨x, .inl hx,hk⟩
   ·rw[Array.getElem?_push]at he;split at he
    ·next ei=>cases he;rw[ei];exact hm.G5
    ·exact hm.born i e he
  obtain⟨f1,f2⟩:=fin _ _ _ rfl jT;refine⟨_,?_,f1,f2⟩;simp [Instr.mapUpdate,run_underlying (Jq hT),MapKept.run_getObj_map hh,MapKept.run_checkKey qt rX,MapKept.run_findKey qt h1,MapKept.run_setObj_map _ hh,Result.andThen,ChangeMaps.setBlock]
 ·have hj:es[j]?=some e0:=by simpa using h2
  have Ae:j<es.toList.length:=(akf.1 h2).1;have ada:∀e',es[j]?=some e'→({e' with key:= .string s,val:=v}:MapEntry).key=e'.key:=fun e' Iw=>by rw[hj]at Iw;cases Iw;exact h3.symm
  have Ia:(es.modify j (fun e'=>{e' with key:= .string s,val:=v})).toList=es.toList.set j {e0 with key:= .string s,val:=v}:=by
   rw[Array.toList_modify];exact ChangeMaps.modify_eq_set _ _ _ _ h2
  have jy:(es.toList.map (·.key)).Nodup:=hm.stamped.2.2;have jT:wG G.S w (es.modify j (fun e'=>{e' with key:= .string s,val:=v})) clock ((s,d)::kv):=by
   refine⟨by simpa using hm.size,MapKept.stamped_modify hm.stamped _ _ (fun _ _=>rfl) (fun e' _ Iw=>ada e' Iw),fun x hx=> ?_,fun s' d' ck=> ?_,by have:=hm.len;simp;omega,fun i e he=> ?_,by rw[hm.G5];simp⟩
   ·rw[Ia]at hx;obtain⟨i,di,ex⟩:=List.getElem_of_mem hx;rw[List.getElem_set]at ex;split at ex
    ·rw[←ex];exact⟨s,d,rfl,by rw[y6,if_pos rfl],hv⟩
    ·next cu=>
     have jn:i<es.toList.length:=by simpa using di
     have m8:x∈es.toList:=by rw[←ex];exact List.getElem_mem jn
     obtain⟨s',d',k1,k2,k3⟩:=hm.x9 x m8;refine⟨s',d',k1,?_,k3⟩;rw[y6,if_neg ?_]
     ·exact k2
     ·intro vI;have a1:(es.toList.map (·.key))[i]?=some (.string s):=by rw[akm,akj jn,ex];simp [k1,vI]
      have a2:(es.toList.map (·.key))[j]?=some (.string s):=by rw[akm,h2];simp [h3]
      have hii:i<(es.toList.map (·.key)).length:=by simpa using jn
      exact cu ((List.getElem?_inj hii jy).1 (a1.trans a2.symm)).symm
   ·rw[Ia];rw[y6]at ck;split at ck
    ·next e=>subst e;exact⟨_,List.mem_iff_getElem?.2 ⟨j,akI Ae⟩,rfl⟩
    ·next cu=>
     obtain⟨x,hx,hk⟩:=hm.all s' d' ck;obtain⟨i,di,ex⟩:=List.getElem_of_mem hx;refine⟨x,List.mem_iff_getElem.2 ⟨i,by simpa using di,?_⟩,hk⟩;rw[List.getElem_set];split
     ·next e=>
      subst e;exfalso;have:es.toList[j]?=some x:=by rw[akj di,ex]
      rw[this]at h2;cases h2
      rw[h3]at hk;injection hk with hk;exact cu hk
     ·exact ex
   ·rw[Array.getElem?_modify]at he;split at he
    ·next ei=>
     subst ei;rw[hj]at he;cases he
     exact hm.born _ e0 hj
    ·exact hm.born i e he
  obtain⟨f1,f2⟩:=fin _ _ _ rfl jT;refine⟨_,?_,f1,f2⟩;simp [Instr.mapUpdate,run_underlying (Jq hT),MapKept.run_getObj_map hh,MapKept.run_checkKey qt rX,MapKept.run_findKey qt h1,hj,h3,MapKept.run_keyThatStays rX,MapKept.run_setObj_map _ hh,Result.andThen,ChangeMaps.setBlock]
end
set_option linter.unusedVariables false
set_option linter.unusedSimpArgs false
section
variable {P:ak6} {G:Gh} {w:ak8} {h:ak3 aq}
theorem Jv{w':ak8}(hi:bW G w h){n:Nat}{B B':aq}(hn:h[n]?=some B)(tI:∀G':Gh,B.dy G' n=G'.ow n)(Ni:∀G':Gh,B'.dy G' n=G'.ow n)(S:Nat→Nat→Prop)(v:ak7)(len:Nat)(ow:ak5 Nat)
 (hE:bR G.N G w (G.grow n S v len ow) w') (hg:∀g,ow=some g→(g=w.heap.size∨G.ow n=some g)∧g<w'.heap.size)
 (hS:∀b o,S b o→G.S b o∨ow=some b) (gn:∀b,b<w.heap.size→ow≠some b→w'.heap[b]?=w.heap[b]?)
 (hB:dE (G.grow n S v len ow) w' n B'):bW (G.grow n S v len ow) w' (h.set n B'):=by
 have dV:∀m,m≠n→(h.set n B')[m]?=h[m]?:=fun m hm=>by rw[akN (Ne.symm hm)]
 have kT:(h.set n B')[n]?=some B':=by rw[akI (akf.1 hn).1]
 have lR:∀m(C:aq),m≠n→C.dy (G.grow n S v len ow) m=C.dy G m:=fun m C hm=>by
  cases C<;>simp [aq.dy,Gh.grow,hm]
 have dB:∀m,m≠n→b6 (h.set n B') (G.grow n S v len ow) m=b6 h G m:=fun m hm=>by
  unfold b6;rw[dV m hm];cases h[m]? with
  |none=>rfl
  |some C=>exact lR m C hm
 have ED:b6 (h.set n B') (G.grow n S v len ow) n=ow:=by rw[dm kT,Ni];simp [Gh.grow]
 have wm:∀m b,m≠n→ow=some b→b6 h G m≠some b:=fun m b hm ho hb=>by
  rcases (hg b ho).1 with hg|hg
  ·have:=hi.ia hb;omega
  ·exact hm (hi.inj m n b hb ((dm hn).trans ((tI G).trans hg)))
 refine⟨by rw[List.length_set];exact hi.len,fun b hb=>akD (hi.z b hb) hE.size,fun b o hs=> ?_,fun m C hm=> ?_,fun m m' b h1 h2=> ?_,hi.gl.bo hE⟩
 ·rcases hS b o hs with hs|hs
  ·exact akD (hi.S b o hs) hE.size
  ·exact(hg b hs).2
 ·by_cases em:m=n
  ·subst em;rw[kT]at hm;cases hm;exact hB
  ·rw[dV m em]at hm;refine dE.bo (hi.lt hm) hE (akq _) ⟨by simp [Gh.grow,em],by simp [Gh.grow,em],by simp [Gh.grow,em]⟩ (fun b hb=> ?_) (hi.cW m C hm);have hr:b6 h G m=some b:=(dm hm).trans hb;have cu:ow≠some b:=fun e'=>wm m b em e' hr;refine⟨gn _ (hi.ia hr) cu,fun o jx hs=> ?_⟩;rcases hS _ o hs with hs|hs
   ·exact jx hs
   ·exact cu hs
 ·by_cases e1:m=n<;>by_cases e2:m'=n
  ·rw[e1,e2]
  ·subst e1;rw[dB m' e2]at h2;rw[ED]at h1;exact absurd h2 (wm m' b e2 h1)
  ·subst e2;rw[dB m e1]at h1;rw[ED]at h2;exact absurd h1 (wm m b e1 h2)
  ·rw[dB m e1]at h1;rw[dB m' e2]at h2;exact hi.inj m m' b h1 h2
def Gh.dL(G:Gh)(v:ak7)(len:Nat)(ow:ak5 Nat):Gh:=
 {G with N:=G.N+1,sg:=fun n=>if n=G.N then v else G.sg n,fl:=fun n=>if n=G.N then len else G.fl n,ow:=fun n=>if n=G.N then ow else G.ow n}
theorem Pa{w':ak8}(hi:bW G w h)(B:aq)(tI:∀(G':Gh) n,B.dy G' n=G'.ow n)(v:ak7)(len:Nat)(ow:ak5 Nat)(hw:(∀b,b<w.heap.size→w'.heap[b]?=w.heap[b]?)∧w.heap.size≤w'.heap.size∧w'.os=w.os∧w'.tape=w.tape∧w'.output=w.output)
 (how:∀g,ow=some g→w.heap.size≤g)
 (hB:dE (G.dL v len ow) w' G.N B):bR G.N G w (G.dL v len ow) w'∧bW (G.dL v len ow) w' (h++[B]):=by
 have cu:∀n,n<G.N→n≠G.N:=fun n hn=>Nat.ne_of_lt hn;have hE:bR G.N G w (G.dL v len ow) w':=⟨hw.2.1,fun _ _ h=>h,fun b o hs=>World.cell?_of_block (hw.1 b (hi.S b o hs)),fun _ _=>rfl,fun n hn=> .inl ⟨by simp [Gh.dL,cu n hn],by simp [Gh.dL,cu n hn]⟩,fZ rfl,fun b hb=>hw.1 b (hi.z b hb),hw.2.2.1,hw.2.2.2.1,hw.2.2.2.2,fun _ _ h=> .inl h⟩;have hN:G.N≤(G.dL v len ow).N:=Nat.le_succ _;have lR:∀n(C:aq),n<G.N→C.dy (G.dL v len ow) n=C.dy G n:=fun n C hn=>by
  cases C<;>simp [aq.dy,Gh.dL,Nat.ne_of_lt hn]
 have key:∀n b,b6 (h++[B]) (G.dL v len ow) n=some b→(n<G.N∧b6 h G n=some b)∨(n=G.N∧ow=some b):=fun n b hb=>by
  by_cases hn:n<h.length
  ·unfold b6 at hb;rw[akp hn,akj hn]at hb;exact .inl ⟨hi.len▸hn,by unfold b6;rw[akj hn,←hb];exact(lR n _ (hi.len▸hn)).symm⟩
  ·by_cases en:n=h.length
   ·subst en;rw[dm (B:=B) (by simp),tI]at hb;exact .inr ⟨hi.len,by simpa [Gh.dL,hi.len]using hb⟩
   ·rw[zf (akL (by simp;omega))]at hb;cases hb
 refine⟨hE,by simp [Gh.dL,hi.len],fun b hb=>akD (hi.z b hb) hw.2.1,fun b o hs=>akD (hi.S b o hs) hw.2.1,fun n C hC=> ?_,fun m n b h1 h2=> ?_,hi.gl.bo hE⟩
 ·by_cases hn:n<h.length
  ·rw[akp hn]at hC;have eG:n<G.N:=hi.len▸hn;exact dE.bo eG hE hN ⟨by simp [Gh.dL,cu n eG],by simp [Gh.dL,cu n eG],by simp [Gh.dL,cu n eG]⟩ (fun b hb=>⟨hw.1 b (hi.ia ((dm hC).trans hb)),fun o h=>h⟩) (hi.cW n C hC)
  ·have l4:n=h.length:=by
    have:=(akf.1 hC).1;simp at this;omega
   subst l4;simp at hC;subst hC;rw[hi.len];exact hB
 ·rcases key m b h1 with⟨_,a1⟩|⟨rfl,a1⟩<;>rcases key n b h2 with⟨_,b1⟩|⟨rfl,b1⟩
  ·exact hi.inj m n b a1 b1
  ·have:=hi.ia a1;have:=how b b1;omega
  ·have:=hi.ia b1;have:=how b a1;omega
  ·rfl
theorem aN.zk{n o len L k:Nat}{e:TypeId}{cs:ak3 (ak3 AV)}{u:ak7}(hi:bW G w h)(hn:h[n]?=some (.vec e k cs))(hL:cs.length=L)(hv:aN G w u (.vec n o len L k)):Uy (G.sg n) u o len L k:=by
 have hb:=(hi.cW n _ hn).1;cases hv with|vec _ _ _ _ _ h1 h2 h3 h4=>exact h4 (by rw[←hL,hb])
theorem aN.Xs{n i j L k:Nat}{e:TypeId}{k':Nat}{cs:ak3 (ak3 AV)}{u:ak7}(hi:bW G w h)(hn:h[n]?=some (.vec e k' cs))(hL:cs.length=L)(hv:aN G w u (.cQ n i j L k)):RE (G.sg n) u i j L k:=by
 have hb:=(hi.cW n _ hn).1;cases hv with|cQ _ _ _ _ _ h1 h2 h3 h4=>exact h4 (by rw[←hL,hb])
theorem I9{n:Nat}{e k:Nat}{cs:ak3 (ak3 AV)}(hi:bW G w h)(hn:h[n]?=some (.vec e k cs))(cu:cs≠ []):∃(g cap:Nat)(cur:Array ak7),G.ow n=some g∧G.sg n= .slice (some ⟨g,0,none⟩) cs.length cap∧¬G.Z g∧w.heap[g]?=some (.cells cur e (0,0))∧cs.length≤cap∧cap≤maxLen∧cur.size=cap*k∧(∀o,¬G.S g o)∧
        ∀(i j:Nat)(c:ak3 AV)(x:AV)(u:ak7),cs[i]?=some c→c[j]?=some x→cur[i*k+j]?=some u→aN G w u x:=by
 obtain⟨_,_,_,h4|h4⟩:=hi.cW n _ hn
 ·exact absurd h4.2.1 cu
 ·exact h4
theorem Df{n:Nat}{e k:Nat}{cs:ak3 (ak3 AV)}(hi:bW G w h)(hn:h[n]?=some (.vec e k cs)):∀c∈cs,c.length=k:=(hi.cW n _ hn).2.2.1
theorem lh{i k L j:Nat}(hi:i<L)(hj:j<k):i*k+j<L*k:=by
 have:(i+1)*k≤L*k:=Nat.mul_le_mul_right k hi;rw[Nat.add_mul]at this;omega
theorem I7{i k j:Nat}(hj:j<k):(i*k+j)/ k=i∧(i*k+j)%k=j:=by
 have hk:0<k:=by omega
 exact⟨by rw[Nat.add_comm,Nat.add_mul_div_right _ _ hk,Nat.div_eq_of_lt hj,akz],by rw[Nat.add_comm,Nat.add_mul_mod_self_right,Nat.mod_eq_of_lt hj]⟩
theorem ZC{i i' j j' k:Nat}(hj:j<k)(hX:j'<k)(e:i*k+j=i'*k+j'):i=i'∧j=j':=by
 have h1:=I7 (i:=i) hj;have h2:=I7 (i:=i') hX;exact⟨by rw[←h1.1,←h2.1,e],by rw[←h1.2,←h2.2,e]⟩
theorem aeu{t n i j L k:Nat}{e:TypeId}{cs:ak3 (ak3 AV)}{c:ak3 AV}{x:AV}{v:ak7}(hi:bW G w h)(hn:h[n]?=some (.vec e k cs))(hL:cs.length=L)(hc:cs[i]?=some c)(hx:Mn P t c j=some x)(hv:aN G w v (.cQ n i j L k)):
 ∃u,(Instr.loadAt t v).run P w= .ok u w∧aN G w u x:=by
 have iX:i<cs.length:=(akf.1 hc).1;have TY:c.length=k:=Df hi hn c (aks hc);obtain⟨g,cap,cur,r1,r2,r3,r4,r5,r6,r7,r8,r9⟩:=I9 hi hn (fun e=>by subst e;simp at iX);obtain⟨_,g',KZ,p1,p2⟩:=hv.Xs hi hn hL;rw[r2]at p1;cases p1
 have h1:∀q,q<c.length→w.cell? ⟨g,i*k+q,none⟩=some (cur.getD (i*k+q) undef):=fun q hq=>by
  rw[cell_of_row w g _ cur e (0,0) r4];have:i*k+q<cur.size:=by
    rw[r7];exact akD (lh iX (by omega)) (Nat.mul_le_mul_right k r5)
  simp [Array.getD,this]
 have h2:∀(q:Nat)(y:AV),c[q]?=some y→aN G w (cur.getD (i*k+q) undef) y:=fun q y hq=>by
  have LR:=(akf.1 hq).1;have a7:i*k+q<cur.size:=by
   rw[r7];exact akD (lh iX (by omega)) (Nat.mul_le_mul_right k r5)
  have e1:cur[i*k+q]?=some (cur.getD (i*k+q) undef):=by simp [Array.getD,a7]
  exact r9 i q c y _ hc hq e1
 have key:=Qc (P:=P) (G:=G) (w:=w) (t:=t) (C:=(·=x)) g (i*k) c j (fun q=>cur.getD (i*k+q) undef) h1 h2 (by
  unfold Mn at hx;revert hx;cases kW P t with
  |none=>intro hx;cases hx
  |some ag=>
   cases eJ P t with
   |none=>cases ag<;>(intro hx;cases hx)
   |some kk=>
    cases ag with
    |true=>
     simp only;intro hx;cases hb:cf (j+kk) c.length with
     |false=>rw[hb]at hx;cases hx
     |true=>rw[hb]at hx;cases hx;exact rfl
    |false=>
     simp only;intro hx;rw[hx])
 obtain⟨u,y,k1,k2,rfl⟩:=key;refine⟨u,?_,k2⟩;rw[p2];simp [Instr.loadAt,Instr.sureAddr,k1]
theorem ZN{t b off k:Nat}{T:TypeId}{v:ak7}{vs:Array ak7}(hh:w.heap[b]?=some (.cells vs T (0,0)))(ht:eJ P t=some k)(hk:v.cells.size=k)(fF:∀u∈v.cells.toList,u.oneCell'=true)(hb:off+k≤vs.size):
 (storeVar t ⟨b,off,none⟩ v).run P w= .ok () (w.setRow b (vs.toList.take off++v.cells.toList++vs.toList.drop (off+v.cells.toList.length)).toArray):=by
 obtain⟨i,ik,jn⟩:=RD ht;have gj:=run_storeCells_at P b off T v.cells.toList 0 vs w hh (by rw[akM,hk];simpa using hb) fF;simp only[Nat.add_zero]at gj;unfold storeVar;simp only[sizeOf,typeInfo,Sem.run_bind,hk];simp [ik,jn,gj]
theorem QW(vs:Array ak7)(us:ak3 ak7)(off q:Nat)(hb:off+us.length≤vs.size):(vs.toList.take off++us++vs.toList.drop (off+us.length)).toArray[q]?=if off≤q∧q<off+us.length then us[q-off]? else vs[q]?:=by
 rw[List.getElem?_toArray,akw];have wW:vs.toList.length=vs.size:=akM;by_cases h1:q<off
 ·rw[akp (by simp;omega),List.getElem?_take_of_lt h1,if_neg (by omega),akC]
 ·rw[akv (by simp;omega)];simp only[List.length_take,wW];rw[Nat.min_eq_left (by omega)];by_cases h2:q<off+us.length
  ·rw[akp (by omega),if_pos (by omega)]
  ·rw[akv (by omega),List.getElem?_drop,if_neg (by omega),show off+us.length+(q-off-us.length)=q by omega,akC]
theorem W4(vs:Array ak7)(us:ak3 ak7)(off:Nat)(hb:off+us.length≤vs.size):(vs.toList.take off++us++vs.toList.drop (off+us.length)).toArray.size=vs.size:=by
 simp only[List.size_toArray,akg,List.length_take,List.length_drop,akM];omega
theorem aaQ(cs ys:ak3 AV)(off q:Nat)(hb:off+ys.length≤cs.length):(fO cs off ys)[q]?=if off≤q∧q<off+ys.length then ys[q-off]? else cs[q]?:=by
 unfold fO;rw[akw];by_cases h1:q<off
 ·rw[akp (by simp;omega),List.getElem?_take_of_lt h1,if_neg (by omega)]
 ·rw[akv (by simp;omega)];simp only[List.length_take];rw[Nat.min_eq_left (by omega)];by_cases h2:q<off+ys.length
  ·rw[akp (by omega),if_pos (by omega)]
  ·rw[akv (by omega),List.getElem?_drop,if_neg (by omega),show off+ys.length+(q-off-ys.length)=q by omega]
theorem WA{n e k g cap:Nat}{cs b7:ak3 (ak3 AV)}{cur:Array ak7}{us:ak3 ak7}{off:Nat}(hi:bW G w h)(hn:h[n]?=some (.vec e k cs))(fy:0<k)(r1:G.ow n=some g)(r2:G.sg n= .slice (some ⟨g,0,none⟩) cs.length cap)(r3:¬G.Z g)(r4:w.heap[g]?=some (.cells cur e (0,0)))(r5:cs.length≤cap)(r6:cap≤maxLen)(r7:cur.size=cap*k)(r8:∀o,¬G.S g o)
 (hb:off+us.length≤cur.size) (hl:b7.length=cs.length) (gz:∀c∈b7,c.length=k)
 (zC:∀(i j:Nat)(c:ak3 AV)(x:AV)(u:ak7),b7[i]?=some c→c[j]?=some x→(if off≤i*k+j∧i*k+j<off+us.length then us[i*k+j-off]? else cur[i*k+j]?)=some u→aN G w u x):
 ∃G',bR G.N G w G' (w.setRow g (cur.toList.take off++us++cur.toList.drop (off+us.length)).toArray)∧G'.N=G.N∧bW G' (w.setRow g (cur.toList.take off++us++cur.toList.drop (off+us.length)).toArray) (h.set n (.vec e k b7))∧(∀m,G'.sg m=G.sg m)∧(∀m,G'.fl m=G.fl m):=by
 obtain⟨w',dJ⟩:∃w',w'=w.setRow g (cur.toList.take off++us++cur.toList.drop (off+us.length)).toArray:=⟨_,rfl⟩;rw[←dJ];have gn:∀b,b≠g→w'.heap[b]?=w.heap[b]?:=fun b hb=>by rw[dJ];exact setRow_other w g b _ hb
 have m7:w'.heap[g]?=some (.cells (cur.toList.take off++us++cur.toList.drop (off+us.length)).toArray e (0,0)):=by rw[dJ];exact setRow_heap w g cur _ e _ r4
 have gL:w'.heap.size=w.heap.size:=by rw[dJ];exact Km w g _
 obtain⟨G',qu⟩:∃G',G'=G.grow n G.S (G.sg n) (G.fl n) (some g):=⟨_,rfl⟩;have O8:∀m,G'.sg m=G.sg m:=fun m=>by rw[qu];simp only[Gh.grow];split<;>simp_all
 have kR:∀m,G'.fl m=G.fl m:=fun m=>by rw[qu];simp only[Gh.grow];split<;>simp_all
 have hE:bR G.N G w G' w':=⟨by rw[gL];exact akq _,fun b o h=>by rw[qu];exact h,fun b o hs=>World.cell?_of_block (gn b (fun e=>r8 o (e▸hs))),fun _ _=>by rw[qu];rfl,fun m _=> .inl ⟨kR m,O8 m⟩,fZ (by rw[qu];rfl) (by rw[qu];rfl),fun b hb=>gn b (fun e=>r3 (e▸hb)),by rw[dJ];rfl,by rw[dJ];rfl,by rw[dJ];rfl,fun b o hs=> .inl (by rw[qu]at hs;exact hs)⟩;have mU:=hi.cW n _ hn;refine⟨G',hE,by rw[qu];rfl,?_,O8,kR⟩;subst qu;refine Jv hi hn (fun _=>rfl) (fun _=>rfl) _ _ _ _ hE (fun g' p7=> ?_) (fun b o hs=> .inl hs) (fun b _ eW=>gn b (fun e=>eW (by rw[e]))) ?_
 ·cases p7;exact⟨.inr r1,by rw[gL];exact(aku.1 r4).1⟩
 ·refine⟨by rw[kR,hl];exact mU.1,by rw[hl];exact mU.2.1,gz, .inr ⟨g,cap,_,by simp [Gh.grow],by rw[O8,hl];exact r2,r3,m7,by rw[hl];exact r5,r6,by rw[W4 _ _ _ hb];exact r7,r8,fun i j c x u hc hx hu=> ?_⟩⟩;rw[QW _ _ _ _ hb]at hu;exact(zC i j c x u hc hx hu).bo hE (akq _)
theorem Zb{t n i j L k:Nat}{e:TypeId}{cs:ak3 (ak3 AV)}{c:ak3 AV}{x:AV}{v u:ak7}(hi:bW G w h)(hn:h[n]?=some (.vec e k cs))(hL:cs.length=L)(hc:cs[i]?=some c)(hv:aN G w v (.cQ n i j L k))(hx:aN G w u x)(Of:x.gZ=true)(ht:eJ P t=some x.cells.length)(hj:j+x.cells.length≤k)(fy:0<k):
 ∃w' G',(Instr.storeAt t v u).run P w= .ok () w'∧bR G.N G w G' w'∧G.N≤G'.N∧bW G' w' (h.set n (.vec e k (cs.set i (fO c j x.cells)))):=by
 have iX:i<cs.length:=(akf.1 hc).1;have gz:=Df hi hn;have TY:c.length=k:=gz c (aks hc);obtain⟨g,cap,cur,r1,r2,r3,r4,r5,r6,r7,r8,r9⟩:=I9 hi hn (fun e=>by subst e;simp at iX);obtain⟨_,g',KZ,p1,p2⟩:=hv.Xs hi hn hL;rw[r2]at p1;cases p1
 obtain⟨c1,c2⟩:=hx.cells Of;have mM:u.cells.toList.length=x.cells.length:=by rw[akM,c1]
 have fF:∀y∈u.cells.toList,y.oneCell'=true:=fun y hy=>by
  obtain⟨q,hq⟩:=List.mem_iff_getElem?.1 hy;have LR:u.cells[q]?=some y:=by rw[←akC];exact hq
  have hql:q<x.cells.length:=by rw[←c1];exact(aku.1 LR).1
  exact(c2 q y _ LR (akj hql)).2
 have kG:i*k+j+x.cells.length≤cur.size:=by
  have h1:(i+1)*k≤cap*k:=Nat.mul_le_mul_right k (akD iX r5);rw[Nat.add_mul]at h1;rw[r7];omega
 have de:=ZN (P:=P) (off:=i*k+j) r4 ht c1 fF kG;obtain⟨G',e1,e2,e3,_⟩:=WA (us:=u.cells.toList) (off:=i*k+j) (b7:=cs.set i (fO c j x.cells)) hi hn fy r1 r2 r3 r4 r5 r6 r7 r8 (by rw[mM];exact kG) (by rw[List.length_set]) (fun d hd=>by
     obtain⟨q,hq⟩:=List.mem_iff_getElem?.1 hd;by_cases e:i=q
     ·subst e;rw[akI iX]at hq;cases hq
      rw[DK _ _ _ (by omega)];exact TY
     ·rw[akN e]at hq;exact gz d (aks hq)) (fun a b d y z hd hy hz=>by
     have gP:b<k:=by
      by_cases e:i=a
      ·subst e;rw[akI iX]at hd;cases hd
       have:=(akf.1 hy).1;rw[DK _ _ _ (by omega)]at this;omega
      ·rw[akN e]at hd;rw[←gz d (aks hd)];exact(akf.1 hy).1
     rw[mM]at hz;by_cases e:i=a
     ·subst e;rw[akI iX]at hd;cases hd
      rw[aaQ _ _ _ _ (by omega)]at hy;by_cases hb:j≤b∧b<j+x.cells.length
      ·rw[if_pos hb]at hy;rw[if_pos (by omega),show i*k+b-(i*k+j)=b-j by omega,akC]at hz;exact(c2 _ _ _ hz hy).1
      ·rw[if_neg hb]at hy;rw[if_neg (by omega)]at hz;exact r9 i b c y z hc hy hz
     ·rw[akN e]at hd;rw[if_neg ?_]at hz
      ·exact r9 a b d y z hd hy hz
      ·intro hh;have:a*k+b=i*k+(a*k+b-i*k):=by omega
       exact e ((ZC (i:=a) (i':=i) (j:=b) (j':=a*k+b-i*k) gP (by omega) this).1.symm))
 refine⟨_,G',?_,e1,by rw[e2];exact akq _,e3⟩;rw[p2];simp [Instr.storeAt,Instr.sureAddr,de]
end
section
variable {P:ak6} {G:Gh} {w:ak8} {h:ak3 aq}
structure zo(G:Gh)(w:World)(k:Nat)(ys:List (List AV))(us:List Value):Prop where
 len:us.length=ys.length*k
 wid:∀c∈ys,c.length=k
 one:∀u∈us,u.oneCell'=true
 rel:∀(i j:Nat)(c:List AV)(x:AV)(u:Value),ys[i]?=some c→c[j]?=some x→us[i*k+j]?=some u→aN G w u x
theorem MF{k tx e':Nat}{y:AV}{v:ak7}{ys:ak3 (ak3 AV)}(hi:bW G w h)(hv:aN G w v y)(hs:vU h k y ys)(fy:0<k)(hT:P.underlying tx=some (.slice e')):
 ∃us,zo G w k ys us∧Src P k tx v ys.length us w:=by
 rcases hs with⟨xs,h1,h2,rfl⟩|⟨n,o,len,L,e,cs,rfl,h2,h3,h4,h5⟩
 ·obtain⟨us,hr,vH⟩:=(hv.list h1).src fy h2 hT;have hl:(bq xs).length=xs.length:=by unfold bq;rw[akk]
  refine⟨us,⟨by rw[hl];exact hr.len,fun c hc=> ?_,hr.one,fun i j c x u hc hx hu=> ?_⟩,by rw[hl];exact vH⟩
  ·unfold bq at hc;obtain⟨d,hd,rfl⟩:=List.mem_map.1 hc;rw[akk];exact h2 d hd
  ·unfold bq at hc;rw[akm]at hc;cases m8:xs[i]? with
   |none=>rw[m8]at hc;cases hc
   |some d=>
    rw[m8]at hc;cases hc
    rw[akm]at hx;cases hy:d[j]? with
    |none=>rw[hy]at hx;cases hx
    |some z=>
     rw[hy]at hx;cases hx
     obtain⟨u',a1,a2⟩:=hr.rel i j d z m8 hy;rw[a1]at hu;cases hu
     exact .d a2
 ·have jU:=hv.zk hi h2 h3;obtain⟨A,c,rfl,c1,c2,c3,c4⟩:=jU.sl;have xx:ys.length=len:=by rw[h4,List.length_take,List.length_drop,h3];have:=jU.ol;omega
  by_cases h0:len=0
  ·subst h0;have:ys=[]:=List.eq_nil_of_length_eq_zero xx;subst this;refine⟨[],⟨by simp,(fun _ h=>by cases h),(fun _ h=>by cases h),fun i j c x u hc=>by simp at hc⟩,?_⟩;cases A with
   |none=>exact Src.ofNil w hT c
   |some a=>exact Src.ofSlice w hT a 0 c [] (by simp) (fun j u hu=>by simp at hu) (fun u hu=>by cases hu)
  ·have ho:o<L:=by have:=jU.ol;omega
   obtain⟨g,cap,p1,rfl,p3⟩:=c4 ho;have cu:cs≠ []:=fun e=>by subst e;simp at h3;omega
   obtain⟨g',KZ,cur,r1,r2,r3,r4,r5,r6,r7,r8,r9⟩:=I9 hi h2 cu;rw[r2]at p1;cases p1
   have gz:=Df hi h2;have gb:∀q,q<len*k→o*k+q<cur.size:=fun q hq=>by
    have h1:(o+len)*k≤cap*k:=Nat.mul_le_mul_right k (by have:=jU.ol;omega);rw[Nat.add_mul]at h1;rw[r7];omega
   have iC:∀i,i<len→ys[i]?=cs[o+i]?:=fun i di=>by rw[h4,List.getElem?_take_of_lt di,List.getElem?_drop]
   have fF:∀q,q<len*k→(cur.getD (o*k+q) undef).oneCell'=true:=fun q hq=>by
    have Np:q / k<len:=Nat.div_lt_of_lt_mul (by rw[Nat.mul_comm];exact hq);have hkj:q%k<k:=Nat.mod_lt _ fy;obtain⟨d,fi⟩:∃d,cs[o+q / k]?=some d:=⟨_,akj (by have:=jU.ol;omega)⟩;have EW:=gz _ (aks fi);obtain⟨x,hx⟩:∃x,d[q%k]?=some x:=⟨_,akj (by rw[EW];exact hkj)⟩;have e1:(o+q / k)*k+q%k=o*k+q:=by
     rw[Nat.add_mul];have:=Nat.div_add_mod q k;rw[Nat.mul_comm]at this;omega
    have hu':cur[(o+q / k)*k+q%k]?=some (cur.getD (o*k+q) undef):=by
     rw[e1];simp [Array.getD,gb q hq]
    refine(r9 _ _ _ _ _ fi hx hu').ji ?_;have mm:d∈ys:=aks ((iC _ Np).trans fi);have:=h5 _ mm;rw[akF]at this;exact this _ (aks hx)
   refine⟨(List.range (len*k)).map fun q=>cur.getD (o*k+q) undef,⟨by rw[xx];simp,fun c hc=>gz c ?_,fun u hu=> ?_,fun i j c x u hc hx hu=> ?_⟩,?_⟩
   ·rw[h4]at hc;exact List.mem_of_mem_drop (List.mem_of_mem_take hc)
   ·obtain⟨q,hq,rfl⟩:=List.mem_map.1 hu;exact fF q (List.mem_range.1 hq)
   ·have iX:i<len:=by rw[←xx];exact(akf.1 hc).1
    rw[iC i iX]at hc;have G7:j<k:=by rw[←gz c (aks hc)];exact(akf.1 hx).1
    have a7:i*k+j<len*k:=lh iX G7;rw[akm,List.getElem?_range a7]at hu;simp only[Option.map_some,Option.some.injEq]at hu;refine r9 (o+i) j c x u hc hx ?_;rw[←hu,show(o+i)*k+j=o*k+(i*k+j) by rw[Nat.add_mul];omega];simp [Array.getD,gb _ a7]
   ·rw[xx];refine Src.ofSlice w hT _ len c _ (by simp) (fun j u hu=> ?_) (fun u hu=> ?_)
    ·rw[ki,cell_of_row w g _ cur e (0,0) r4];rw[akm]at hu;by_cases hj:j<len*k
     ·rw[List.getElem?_range hj]at hu;simp only[Option.map_some,Option.some.injEq]at hu;rw[←hu];simp [Array.getD,gb _ hj]
     ·rw[akL (by simp;omega)]at hu;cases hu
    ·obtain⟨q,hq,rfl⟩:=List.mem_map.1 hu;exact fF q (List.mem_range.1 hq)
theorem zo.bo{G':Gh}{w':ak8}{k:Nat}{ys:ak3 (ak3 AV)}{us:ak3 ak7}(h:zo G w k ys us)(hE:bR G.N G w G' w')(hN:G.N≤G'.N):zo G' w' k ys us:=
 ⟨h.len,h.wid,h.one,fun i j c x u h1 h2 h3=>(h.rel i j c x u h1 h2 h3).bo hE hN⟩
theorem Y6{α:Type}{k:Nat}(l:ak3 α)(us:ak3 α)(m i j:Nat)(hl:l.length=m*k)(hj:j<k):(l++us)[i*k+j]?=if i<m then l[i*k+j]? else us[(i-m)*k+j]?:=by
 by_cases h:i<m
 ·rw[if_pos h,akp (by rw[hl];exact lh h hj)]
 ·have h1:m*k≤i*k:=Nat.mul_le_mul_right k (by omega);rw[if_neg h,akv (by rw[hl];omega),hl,Nat.sub_mul,show i*k+j-m*k=i*k-m*k+j by omega]
theorem PG{e k cap:Nat}{cs:ak3 (ak3 AV)}{cur:Array ak7}(hi:bW G w h)(h1:cs.length≤cap)(h2:cap≤maxLen)(h3:cur.size=cap*k)(gz:∀c∈cs,c.length=k)(w0:ak8)(nM:w0.heap=w.heap∧w0.os=w.os∧w0.tape=w.tape∧w0.output=w.output)
 (zC:∀(i j:Nat)(c:ak3 AV)(x:AV)(u:ak7),cs[i]?=some c→c[j]?=some x→cur[i*k+j]?=some u→aN G w u x):
 ∃G',bR G.N G w G' (w0.alloc (.cells cur e))∧G.N≤G'.N∧bW G' (w0.alloc (.cells cur e)) (h++[.vec e k cs])∧∀len,len≤cs.length→aN G' (w0.alloc (.cells cur e)) (.slice (some ⟨w.heap.size,0,none⟩) len cap) (.vec h.length 0 len cs.length k):=by
 have gL:w0.heap.size=w.heap.size:=by rw[nM.1]
 have fD:(w0.alloc (.cells cur e)).heap[w.heap.size]?=some (.cells cur e (0,0)):=by rw[←gL];exact World.alloc_heap_new w0 _
 have hold:∀b,b<w.heap.size→(w0.alloc (.cells cur e)).heap[b]?=w.heap[b]?:=fun b hb=>by rw[Below.heap_alloc w0 _ b (by rw[gL];exact hb),nM.1]
 have hw:(∀b,b<w.heap.size→(w0.alloc (.cells cur e)).heap[b]?=w.heap[b]?)∧w.heap.size≤(w0.alloc (.cells cur e)).heap.size∧(w0.alloc (.cells cur e)).os=w.os∧(w0.alloc (.cells cur e)).tape=w.tape∧(w0.alloc (.cells cur e)).output=w.output:=
  ⟨hold,by simp [gL],nM.2.1,nM.2.2.1,nM.2.2.2⟩
 obtain⟨sv,kV⟩:∃sv,sv=Value.slice (some ⟨w.heap.size,0,none⟩) cs.length cap:=⟨_,rfl⟩;obtain⟨E6,_⟩:bR G.N G w (G.dL sv cs.length (some w.heap.size)) (w0.alloc (.cells cur e))∧True:=by
  refine⟨⟨hw.2.1,fun _ _ h=>h,fun b o hs=>World.cell?_of_block (hw.1 b (hi.S b o hs)),fun _ _=>rfl,fun n hn=> .inl ⟨by simp [Gh.dL,Nat.ne_of_lt hn],by simp [Gh.dL,Nat.ne_of_lt hn]⟩,fZ rfl,fun b hb=>hw.1 b (hi.z b hb),hw.2.2.1,hw.2.2.2.1,hw.2.2.2.2,fun _ _ h=> .inl h⟩,trivial⟩
 obtain⟨hE,hI⟩:=Pa (w':=w0.alloc (.cells cur e)) hi (.vec e k cs) (fun _ _=>rfl) sv cs.length (some w.heap.size) hw (fun g hg=>by cases hg;exact akq _) (by
  refine⟨by simp [Gh.dL],akx h1 h2,gz, .inr ⟨w.heap.size,cap,cur,by simp [Gh.dL],by simp [Gh.dL,kV],fun hz=>akT _ (hi.z _ hz),fD,h1,h2,h3,fun o hs=>akT _ (hi.S _ _ hs),fun i j c x u hc hx hu=>(zC i j c x u hc hx hu).bo E6 (Nat.le_succ _)⟩⟩)
 refine⟨_,hE,Nat.le_succ _,hI,fun len hlen=> ?_⟩;rw[hi.len];refine .vec G.N 0 len cs.length k (by simp [Gh.dL]) ⟨_,_,_,rfl⟩ (by simp [Gh.dL]) fun _=>⟨by omega,⟨_,_,rfl,akx hlen h1,h2,h1,fun _=>⟨w.heap.size,cap,by simp [Gh.dL,kV],by simp,by simp⟩⟩,fun _ e=>by subst e;simp [Gh.dL,kV]⟩
theorem agJ{T e k len m ct:Nat}{i:TypeInfo}{z:ak7}{kl kc:IntKind}{l c:Int}(hi:bW G w h)(hT:P.underlying T=some (.slice e))(jH:P.info? e=some i)(hz:i.zero=some z)(nY:i.size=k)(uM:i.bytes=ct)(iJ:z.cells.toList.length=k)(fy:0<k)
 (h0:0≤l) (jJ:l≤c) (hl:l.toNat=len) (hc:c.toNat=m) (hm:m≤maxLen) (hb:ct*m≤281474976710656):
 ∃u w' G',(Instr.makeSlice T (.int kl l) (.int kc c)).run P w= .ok u w'∧bR G.N G w G' w'∧G.N≤G'.N∧bW G' w' (h++[.vec e k (List.replicate m (z.cells.toList.map fun u=> .d (.v u)))])∧aN G' w' u (.vec h.length 0 len m k):=by
 subst nY;subst uM;have eW:(i.bytes:Int)*c≤281474976710656:=by
  have:((i.bytes*m:Nat):Int)≤281474976710656:=by omega
  rw[Int.natCast_mul,←hc,Int.toNat_of_nonneg (by omega)]at this;exact this
 have h63:c≤9223372036854775807:=by have h:=hm;simp [maxLen]at h;omega
 have de:=run_make (P:=P) w T e i z hT jH hz kl kc l c h0 jJ eW h63;rw[hl,hc]at de;have fx:(List.replicate m (z.cells.toList.map fun u=>AV.d (.v u))).length=m:=akP;obtain⟨G',g1,g2,g3,g4⟩:=PG (e:=e) (k:=i.size) (cap:=m) (cs:=List.replicate m (z.cells.toList.map fun u=>AV.d (.v u))) (cur:=madeCells z.cells (m*i.size)) hi (by rw[fx];exact akq _) hm (size_madeCells _ _) (fun c hc=>by
  rw[List.eq_of_mem_replicate hc,akk];exact iJ) w ⟨rfl,rfl,rfl,rfl⟩ (fun a b c x u hc hx hu=>by
  have:=List.eq_of_mem_replicate (aks hc);subst this;rw[akm]at hx;cases hq:z.cells.toList[b]? with
  |none=>rw[hq]at hx;cases hx
  |some y=>
   rw[hq]at hx;cases hx
   have gP:b<i.size:=by rw[←iJ];exact(akf.1 hq).1
   have NW:a<m:=by have:=(akf.1 hc).1;rwa [fx]at this
   unfold madeCells at hu;have a7:a*i.size+b<m*i.size:=lh NW gP;rw[Array.getElem?_map,Array.getElem?_range,if_pos a7]at hu;simp only[Option.map_some,Option.some.injEq]at hu;have hY:z.cells.size=i.size:=by rw[←akM];exact iJ
   rw[hY,(I7 (i:=a) gP).2]at hu;have qV:z.cells[b]?=some y:=by rw[←akC];exact hq
   rw[getElem!_pos z.cells b (by rw[hY];exact gP)]at hu;rw[akB (by rw[hY];exact gP)]at qV;cases qV
   subst hu;exact .d (.v _))
 rw[fx]at g4;refine⟨_,_,G',de,g1,g2,g3,g4 len ?_⟩;rw[←hl,←hc];omega
theorem YW{T tx ty e k ct n o len L:Nat}{i:TypeInfo}{z:ak7}{u v:ak7}{cs ys:ak3 (ak3 AV)}{us:ak3 ak7}(hi:bW G w h)(hT:P.underlying T=some (.slice e))(jH:P.info? e=some i)(hz:i.zero=some z)(nY:i.size=k)(uM:i.bytes=ct)(iJ:z.cells.size=k)(fy:0<k)
 (hn:h[n]?=some (.vec e k cs)) (hL:cs.length=L) (hu:aN G w u (.vec n o len L k)) (hr:zo G w k ys us) (hs:Src P k tx v ys.length us w)
 {L':Nat} {b7:ak3 (ak3 AV)} (pD:(o+len+ys.length≤L∧L'=L∧b7=cs.take (o+len)++ys++cs.drop (o+len+ys.length))∨(o=0∧len=L∧L'=L+ys.length∧b7=cs++ys∧L'≤maxLen∧L'*ct≤140737488355328)):
 ∃r w' G',(Builtin.append_ #[T,tx] ty #[u,v]).run P w= .ok r w'∧bR G.N G w G' w'∧G.N≤G'.N∧bW G' w' (h.set n (.vec e k b7))∧aN G' w' r (.vec n o (len+ys.length) L' k):=by
 subst nY;subst uM;have mI:=hi.lt hn;have gz:=Df hi hn;have jU:=hu.zk hi hn hL;have mU:=hi.cW n _ hn;have aj9:=jU;obtain⟨JJ,⟨A,c,rfl,c1,c2,c3,c4⟩,call⟩:=jU;by_cases hy:ys.length=0
 ·have iC:ys=[]:=List.eq_nil_of_length_eq_zero hy;subst iC;have kS:us=[]:=List.eq_nil_of_length_eq_zero (by rw[hr.len];simp);subst kS;have de:=run_append_nothing (P:=P) w T tx ty e i hT jH A len c c1 v hs;have e1:b7=cs:=by
   rcases pD with⟨_,_,e⟩|⟨_,_,_,e,_⟩
   ·rw[e];simp
   ·rw[e];simp
  have e2:L'=L:=by
   rcases pD with⟨_,e,_⟩|⟨_,_,e,_⟩
   ·exact e
   ·rw[e];simp
  subst e1;subst e2;refine⟨_,w,G,de,bR.refl _ _ _,akq _,?_,by simpa using hu⟩;have:h.set n (.vec e i.size b7)=h:=by
   refine List.ext_getElem? fun m=> ?_;by_cases em:m=n
   ·subst em;rw[akI (akf.1 hn).1,hn]
   ·rw[akN (Ne.symm em)]
  rw[this];exact hi
 ·have hy0:0<ys.length:=Nat.pos_of_ne_zero hy;have room:len+ys.length≤c→∀g cap cur,G.ow n=some g→G.sg n= .slice (some ⟨g,0,none⟩) cs.length cap→¬G.Z g→w.heap[g]?=some (.cells cur e (0,0))→cs.length≤cap→cap≤maxLen→cur.size=cap*i.size→(∀o,¬G.S g o)→
      (∀(a b:Nat)(d:ak3 AV)(x:AV)(q:ak7),cs[a]?=some d→d[b]?=some x→cur[a*i.size+b]?=some q→aN G w q x)→A=some ⟨g,o*i.size,none⟩→o+c=cap→
      ∃r w' G',(Builtin.append_ #[T,tx] ty #[.slice A len c,v]).run P w= .ok r w'∧bR G.N G w G' w'∧G.N≤G'.N∧bW G' w' (h.set n (.vec e i.size b7))∧aN G' w' r (.vec n o (len+ys.length) L' i.size):=by
   intro pn g cap cur r1 r2 r3 r4 r5 r6 r7 r8 r9 rA rc;have kG:(o+len)*i.size+us.length≤cur.size:=by
    rw[hr.len,r7,←Nat.add_mul];exact Nat.mul_le_mul_right _ (by omega)
   have zt:∀j,j<us.length→(w.cell? ⟨g,o*i.size+len*i.size+j,none⟩).isSome=true:=fun j hj=>by
    rw[cell_of_row w g _ cur e (0,0) r4,akB (by rw[Nat.add_mul]at kG;omega)];rfl
   have de:=run_append_room_src (P:=P) w T tx ty e i hT jH g (o*i.size) len c v ys.length us hs pn zt (fun j hj=>by unfold World.frozen?;rw[r4];simp);have gj:=run_storeCells_at P g (o*i.size+len*i.size) e us 0 cur w r4 (by rw[Nat.add_mul]at kG;simpa using kG) hr.one;have wQ:=run_storeCells_cells (P:=P) g (o*i.size+len*i.size) us 0 w (by simpa using zt) (fun j hj=>by unfold World.frozen?;rw[r4];simp) hr.one;simp only[Nat.add_zero]at gj wQ;rw[gj]at wQ;injection wQ with _ e2;rw[←e2,←Nat.add_mul]at de;rw[rA];have fD:∀(a b:Nat)(d:ak3 AV)(x:AV)(q:ak7),b7[a]?=some d→d[b]?=some x→(if(o+len)*i.size≤a*i.size+b∧a*i.size+b<(o+len)*i.size+us.length then us[a*i.size+b-(o+len)*i.size]? else cur[a*i.size+b]?)=some q→aN G w q x:=by
    intro a b d x q hd hx hq;have Ot:d.length=i.size:=by
     have hm:=aks hd;rcases pD with⟨_,_,e⟩|⟨_,_,_,e,_⟩
     ·rw[e]at hm;rcases akR.1 hm with hm|hm
      ·rcases akR.1 hm with hm|hm
       ·exact gz d (List.mem_of_mem_take hm)
       ·exact hr.wid d hm
      ·exact gz d (List.mem_of_mem_drop hm)
     ·rw[e]at hm;rcases akR.1 hm with hm|hm
      ·exact gz d hm
      ·exact hr.wid d hm
    have gP:b<i.size:=by rw[←Ot];exact(akf.1 hx).1
    have J0:(a<o+len∧cs[a]?=some d)∨(o+len≤a∧a<o+len+ys.length∧ys[a-(o+len)]?=some d)∨(o+len+ys.length≤a∧cs[a]?=some d):=by
     rcases pD with⟨hf,_,e⟩|⟨e0,e1,_,e,_⟩
     ·rw[e]at hd;have Ls:(cs.take (o+len)).length=o+len:=by rw[List.length_take];omega
      by_cases h1:a<o+len
      ·rw[akw,akp (by rw[Ls];exact h1),List.getElem?_take_of_lt h1]at hd;exact .inl ⟨h1,hd⟩
      ·rw[akw,akv (by rw[Ls];omega),Ls]at hd;by_cases h2:a-(o+len)<ys.length
       ·rw[akp h2]at hd;exact .inr (.inl ⟨by omega,by omega,hd⟩)
       ·rw[akv (by omega),List.getElem?_drop,show o+len+ys.length+(a-(o+len)-ys.length)=a by omega]at hd;exact .inr (.inr ⟨by omega,hd⟩)
     ·rw[e]at hd;by_cases h1:a<cs.length
      ·rw[akp h1]at hd;exact .inl ⟨by omega,hd⟩
      ·rw[akv (by omega)]at hd;have:=(akf.1 hd).1;exact .inr (.inl ⟨by omega,by omega,by rw[show a-(o+len)=a-cs.length by omega];exact hd⟩)
    rcases J0 with⟨h1,h2⟩|⟨h1,h2,h3⟩|⟨h1,h2⟩
    ·rw[if_neg (by have:=lh h1 gP;omega)]at hq;exact r9 a b d x q h2 hx hq
    ·have hle:(o+len)*i.size≤a*i.size:=Nat.mul_le_mul_right _ h1;have a7:a*i.size+b<(o+len+ys.length)*i.size:=lh h2 gP;rw[Nat.add_mul (o+len)]at a7;rw[if_pos ⟨by omega,by rw[hr.len];exact a7⟩]at hq;refine hr.rel (a-(o+len)) b d x q h3 hx ?_;rw[Nat.sub_mul,show a*i.size-(o+len)*i.size+b=a*i.size+b-(o+len)*i.size by omega];exact hq
    ·have hle:(o+len+ys.length)*i.size≤a*i.size:=Nat.mul_le_mul_right _ h1;rw[Nat.add_mul (o+len)]at hle;rw[if_neg (by rw[hr.len];omega)]at hq;exact r9 a b d x q h2 hx hq
   have VY:∀d∈b7,d.length=i.size:=fun d hm=>by
    rcases pD with⟨_,_,e⟩|⟨_,_,_,e,_⟩
    ·rw[e]at hm;rcases akR.1 hm with hm|hm
     ·rcases akR.1 hm with hm|hm
      ·exact gz d (List.mem_of_mem_take hm)
      ·exact hr.wid d hm
     ·exact gz d (List.mem_of_mem_drop hm)
    ·rw[e]at hm;rcases akR.1 hm with hm|hm
     ·exact gz d hm
     ·exact hr.wid d hm
   rcases pD with⟨hf,eL,ec⟩|⟨e0,e1,eL,ec,js,lH⟩
   ·have fx:b7.length=cs.length:=by rw[ec];simp;omega
    obtain⟨G',k1,k2,k3,k4,k5⟩:=WA (us:=us) (off:=(o+len)*i.size) (b7:=b7) hi hn fy r1 r2 r3 r4 r5 r6 r7 r8 kG fx VY fD;refine⟨_,_,G',de,k1,by rw[k2];exact akq _,k3,?_⟩;refine .vec n o (len+ys.length) L' i.size (by rw[k2];exact mI) ⟨_,_,_,rfl⟩ (by rw[k5,eL,mU.1,hL];exact akq _) fun _=> ?_;rw[k4];refine⟨by omega,⟨_,_,rfl,pn,c2,by omega,fun ho=> ?_⟩,fun ho hl=> ?_⟩
    ·rw[eL]at ho ⊢;obtain⟨g2,Tk,q1,q2,q3⟩:=c4 ho;exact⟨g2,Tk,q1,by rw[←q2,rA],q3⟩
    ·subst ho;rw[r2,hL,←eL,←hl];simp at rc;subst rc;simp
   ·subst e0;subst e1;simp only[akz,Nat.zero_mul]at*;subst rc;obtain⟨w',dJ⟩:∃w',w'=w.setRow g (cur.toList.take (len*i.size)++us++cur.toList.drop (len*i.size+us.length)).toArray:=⟨_,rfl⟩;rw[←dJ]at de;have gn:∀b,b≠g→w'.heap[b]?=w.heap[b]?:=fun b hb=>by rw[dJ];exact setRow_other w g b _ hb
    have m7:w'.heap[g]?=some (.cells (cur.toList.take (len*i.size)++us++cur.toList.drop (len*i.size+us.length)).toArray e (0,0)):=by rw[dJ];exact setRow_heap w g cur _ e _ r4
    have gL:w'.heap.size=w.heap.size:=by rw[dJ];exact Km w g _
    obtain⟨sv,kV⟩:∃sv,sv=Value.slice (some ⟨g,0,none⟩) L' c:=⟨_,rfl⟩;have fx:b7.length=L':=by rw[ec,akg,hL,eL]
    have kR:G.fl n=len:=by rw[mU.1,hL]
    have hE:bR G.N G w (G.grow n G.S sv L' (some g)) w':=⟨by rw[gL];exact akq _,fun _ _ h=>h,fun b q hs=>World.cell?_of_block (gn b (fun e=>r8 q (e▸hs))),fun _ _=>rfl,fun m _=>by
        by_cases em:m=n
        ·right;subst em;simp only[Gh.grow,if_true,kR];omega
        ·left;exact⟨by simp [Gh.grow,em],by simp [Gh.grow,em]⟩,fZ rfl,fun b hb=>gn b (fun e=>r3 (e▸hb)),by rw[dJ];rfl,by rw[dJ];rfl,by rw[dJ];rfl,fun b q hs=> .inl hs⟩
    refine⟨_,w',_,de,hE,akq _,Jv hi hn (fun _=>rfl) (fun _=>rfl) _ _ _ _ hE (fun g' p7=>by cases p7;exact⟨.inr r1,by rw[gL];exact(aku.1 r4).1⟩) (fun b q hs=> .inl hs) (fun b _ eW=>gn b (fun e=>eW (by rw[e]))) ?_,?_⟩
    ·refine⟨by simp [Gh.grow,fx],by rw[fx];exact js,VY, .inr ⟨g,c,_,by simp [Gh.grow],by simp [Gh.grow,kV,fx],r3,m7,by rw[fx];omega,r6,by rw[W4 _ _ _ kG];exact r7,r8,fun a b d x q hd hx hq=> ?_⟩⟩;rw[QW _ _ _ _ kG]at hq;exact(fD a b d x q hd hx hq).bo hE (akq _)
    ·refine .vec n 0 (len+ys.length) L' i.size mI ⟨_,_,_,rfl⟩ (by simp [Gh.grow]) fun _=>⟨by omega,⟨_,_,rfl,pn,c2,by omega,fun _=>⟨g,c,by simp [Gh.grow,kV],by simp,by simp⟩⟩,fun _ e=> ?_⟩;simp [Gh.grow,kV,eL]
  rcases mU.2.2.2 with⟨b1,b2,A',b3⟩|⟨g,cap,cur,r1,r2,r3,r4,r5,r6,r7,r8,r9⟩
  ·
   subst b2;simp at hL;subst hL;have ho:o=0:=by omega
   have Iz:len=0:=by omega
   subst ho;subst Iz;have:=call rfl rfl;rw[b3]at this;injection this with q1 _ q2;subst q2;rcases pD with⟨hf,_,_⟩|⟨_,_,eL,ec,js,lH⟩
   ·omega
   ·simp only[akz,List.nil_append]at eL ec;subst ec;rw[eL]at js lH;have NM:b7.length≤9223372036854775807:=by simp only[maxLen]at js;omega
    have hold:(Builtin.firstCells i.size 0 (.slice A 0 0)).run P w.drew= .ok ([]:ak3 ak7).toArray w.drew:=by
     cases A with
     |none=>exact run_firstCells_none _ _ _ _ _
     |some a=>exact run_firstCells_some _ _ _ _ _ _ [] (by simp) (fun j u hu=>by simp at hu)
    have de:=run_append_grow_src (P:=P) w T tx ty e i z hT jH hz A 0 0 [] hold v b7.length us hs (by omega) (by omega) (growslice_fits (by omega) (by simpa using lH));simp only[akz,List.nil_append]at de;obtain⟨cap,iS⟩:∃cap,cap=grownCap w b7.length 0 e:=⟨_,rfl⟩;have jc:b7.length≤cap:=by rw[iS];exact grownCap_ge _ _ _ _
    have hle:cap≤maxLen:=by rw[iS];exact grownCap_le_maxLen _ _ _ _ js
    rw[←iS]at de;obtain⟨cur,iP⟩:∃cur,cur=us.toArray++Builtin.zeroCells z.cells (cap-b7.length):=⟨_,rfl⟩;rw[←iP]at de;have fi:cur.size=cap*i.size:=by
      have:=size_zeroCells z.cells (cap-b7.length);rw[iP,Array.size_append,this,List.size_toArray,hr.len,iJ,←Nat.add_mul]
      congr 1
      omega
    have fD:(w.drew.alloc (.cells cur e)).heap[w.heap.size]?=some (.cells cur e (0,0)):=World.alloc_heap_new w.drew _;have wO:∀b,b<w.heap.size→(w.drew.alloc (.cells cur e)).heap[b]?=w.heap[b]?:=fun b hb=>Below.heap_alloc w.drew _ b hb;obtain⟨sv,kV⟩:∃sv,sv=Value.slice (some ⟨w.heap.size,0,none⟩) L' cap:=⟨_,rfl⟩;have kR:G.fl n=0:=by rw[mU.1];rfl
    have hE:bR G.N G w (G.grow n G.S sv L' (some w.heap.size)) (w.drew.alloc (.cells cur e)):=⟨by simp,fun _ _ h=>h,fun b q hs=>World.cell?_of_block (wO b (hi.S b q hs)),fun _ _=>rfl,fun m _=>by
        by_cases em:m=n
        ·right;subst em;simp only[Gh.grow,if_true,kR];omega
        ·left;exact⟨by simp [Gh.grow,em],by simp [Gh.grow,em]⟩,fZ rfl,fun b hb=>wO b (hi.z b hb),rfl,rfl,rfl,fun b q hs=> .inl hs⟩
    refine⟨_,_,_,de,hE,akq _,Jv hi hn (fun _=>rfl) (fun _=>rfl) _ _ _ _ hE (fun g' p7=>by cases p7;exact⟨.inl rfl,by simp⟩) (fun b q hs=> .inl hs) (fun b hb _=>wO b hb) ?_,?_⟩
    ·refine⟨by simp [Gh.grow,eL],js,hr.wid, .inr ⟨w.heap.size,cap,cur,by simp [Gh.grow],by simp [Gh.grow,kV,eL],fun hz=>akT _ (hi.z _ hz),fD,jc,hle,fi,fun q hs=>akT _ (hi.S _ _ hs),fun a b d x q hd hx hq=> ?_⟩⟩;have gP:b<i.size:=by rw[←hr.wid d (aks hd)];exact(akf.1 hx).1
     have a7:a*i.size+b<us.length:=by rw[hr.len];exact lh (akf.1 hd).1 gP
     rw[iP,Array.getElem?_append_left (by simpa using a7),List.getElem?_toArray]at hq;exact(hr.rel a b d x q hd hx hq).bo hE (akq _)
    ·rw[akz];refine .vec n 0 b7.length L' i.size mI ⟨_,_,_,rfl⟩ (by simp [Gh.grow]) fun _=>⟨by omega,⟨_,_,rfl,jc,hle,by omega,fun _=>⟨w.heap.size,cap,by simp [Gh.grow,kV],by simp,by simp⟩⟩,fun _ e=> ?_⟩;simp [Gh.grow,kV,eL]
  ·
   rcases pD with⟨hf,eL,ec⟩|⟨e0,e1,eL,ec,js,lH⟩
   ·obtain⟨g2,Tk,q1,q2,q3⟩:=c4 (by omega);rw[r2]at q1;injection q1 with q4 _ q5;cases q4
    subst q5;exact room (by omega) g cap cur r1 r2 r3 r4 r5 r6 r7 r8 r9 q2 q3
   ·have:=call e0 e1;rw[r2]at this;injection this with q2 _ q3;by_cases pn:len+ys.length≤c
    ·exact room pn g cap cur r1 r2 r3 r4 r5 r6 r7 r8 r9 (by rw[q2,e0];simp) (by omega)
    ·subst e0;subst q2;subst q3;rw[eL]at js lH;have NM:L+ys.length≤9223372036854775807:=by simp only[maxLen]at js;omega
     have GI:(cur.toList.take (len*i.size)).length=len*i.size:=by
      rw[List.length_take,akM,r7];exact Nat.min_eq_left (Nat.mul_le_mul_right _ c1)
     have hold:(Builtin.firstCells i.size len (.slice (some ⟨g,0,none⟩) len c)).run P w.drew= .ok (cur.toList.take (len*i.size)).toArray w.drew:=
      run_firstCells_some _ _ _ _ _ _ _ GI (fun j q hq=>by
       rw[ki,akz];show w.cell? ⟨g,j,none⟩=some q;rw[cell_of_row w g _ cur e (0,0) r4,←akC];have Ae:=(akf.1 hq).1;rw[GI]at Ae;rw[List.getElem?_take_of_lt Ae]at hq;exact hq)
     have de:=run_append_grow_src (P:=P) w T tx ty e i z hT jH hz (some ⟨g,0,none⟩) len c _ hold v ys.length us hs (by omega) (by omega) (growslice_fits (by omega) (by rw[e1];exact lH));obtain⟨cap,iS⟩:∃cap,cap=grownCap w (len+ys.length) c e:=⟨_,rfl⟩;have jc:len+ys.length≤cap:=by rw[iS];exact grownCap_ge _ _ _ _
     have hle:cap≤maxLen:=by rw[iS];exact grownCap_le_maxLen _ _ _ _ (by rw[e1];exact js)
     rw[←iS]at de;obtain⟨tF,iP⟩:∃tF,tF=(cur.toList.take (len*i.size)++us).toArray++Builtin.zeroCells z.cells (cap-(len+ys.length)):=⟨_,rfl⟩;rw[←iP]at de;have IN:(cur.toList.take (len*i.size)++us).length=(len+ys.length)*i.size:=by rw[akg,GI,hr.len,←Nat.add_mul]
     have fi:tF.size=cap*i.size:=by
      have:=size_zeroCells z.cells (cap-(len+ys.length));rw[iP,Array.size_append,this,List.size_toArray,IN,iJ,←Nat.add_mul]
      congr 1
      omega
     have fD:(w.drew.alloc (.cells tF e)).heap[w.heap.size]?=some (.cells tF e (0,0)):=World.alloc_heap_new w.drew _;have wO:∀b,b<w.heap.size→(w.drew.alloc (.cells tF e)).heap[b]?=w.heap[b]?:=fun b hb=>Below.heap_alloc w.drew _ b hb;obtain⟨sv,kV⟩:∃sv,sv=Value.slice (some ⟨w.heap.size,0,none⟩) L' cap:=⟨_,rfl⟩;have kR:G.fl n=L:=by rw[mU.1,hL]
     have fx:b7.length=L':=by rw[ec,akg,hL,eL]
     have hE:bR G.N G w (G.grow n G.S sv L' (some w.heap.size)) (w.drew.alloc (.cells tF e)):=⟨by simp,fun _ _ h=>h,fun b q hs=>World.cell?_of_block (wO b (hi.S b q hs)),fun _ _=>rfl,fun m _=>by
         by_cases em:m=n
         ·right;subst em;simp only[Gh.grow,if_true,kR];omega
         ·left;exact⟨by simp [Gh.grow,em],by simp [Gh.grow,em]⟩,fZ rfl,fun b hb=>wO b (hi.z b hb),rfl,rfl,rfl,fun b q hs=> .inl hs⟩
     refine⟨_,_,_,de,hE,akq _,Jv hi hn (fun _=>rfl) (fun _=>rfl) _ _ _ _ hE (fun g' p7=>by cases p7;exact⟨.inl rfl,by simp⟩) (fun b q hs=> .inl hs) (fun b hb _=>wO b hb) ?_,?_⟩
     ·refine⟨by simp [Gh.grow,fx],by rw[fx,eL];exact js,fun d hd=> ?_, .inr ⟨w.heap.size,cap,tF,by simp [Gh.grow],by simp [Gh.grow,kV,fx],fun hz=>akT _ (hi.z _ hz),fD,by rw[fx];omega,hle,fi,fun q hs=>akT _ (hi.S _ _ hs),fun a b d x q hd hx hq=> ?_⟩⟩
      ·rw[ec]at hd;rcases akR.1 hd with hd|hd
       ·exact gz d hd
       ·exact hr.wid d hd
      ·refine aN.bo hE (akq _) ?_;have Ot:d.length=i.size:=by
        have hm:=aks hd;rw[ec]at hm;rcases akR.1 hm with hm|hm
        ·exact gz d hm
        ·exact hr.wid d hm
       have gP:b<i.size:=by rw[←Ot];exact(akf.1 hx).1
       have hal:a<len+ys.length:=by
        have:=(akf.1 hd).1;rw[fx,eL]at this;omega
       have a7:a*i.size+b<(cur.toList.take (len*i.size)++us).length:=by rw[IN];exact lh hal gP
       rw[iP,Array.getElem?_append_left (by simpa using a7),List.getElem?_toArray,Y6 _ us len a b GI gP]at hq;rw[ec]at hd;by_cases h1:a<len
       ·rw[if_pos h1,List.getElem?_take_of_lt (lh h1 gP),akC]at hq;rw[akp (by omega)]at hd;exact r9 a b d x q hd hx hq
       ·rw[if_neg h1]at hq;rw[akv (by omega)]at hd;exact hr.rel (a-len) b d x q (by rw[←hd];congr 1;omega) hx hq
     ·refine .vec n 0 (len+ys.length) L' i.size mI ⟨_,_,_,rfl⟩ (by simp [Gh.grow]) fun _=>⟨by omega,⟨_,_,rfl,jc,hle,by omega,fun _=>⟨w.heap.size,cap,by simp [Gh.grow,kV],by simp,by simp⟩⟩,fun _ e=> ?_⟩;simp [Gh.grow,kV,eL,e1]
theorem WI{T tx ty e k ct:Nat}{i:TypeInfo}{z:ak7}{A:ak5 Addr}{v:ak7}{ys:ak3 (ak3 AV)}{us:ak3 ak7}(hi:bW G w h)(hT:P.underlying T=some (.slice e))(jH:P.info? e=some i)(hz:i.zero=some z)(nY:i.size=k)(uM:i.bytes=ct)(iJ:z.cells.size=k)(fy:0<k)
 (hr:zo G w k ys us) (hs:Src P k tx v ys.length us w) (js:ys.length≤maxLen) (lH:ys.length*ct≤140737488355328):
 ∃r w' G',(Builtin.append_ #[T,tx] ty #[.slice A 0 0,v]).run P w= .ok r w'∧bR G.N G w G' w'∧G.N≤G'.N∧bW G' w' (h++[.vec e k ys])∧aN G' w' r (.vec h.length 0 ys.length ys.length k):=by
 subst nY;subst uM;by_cases hy:ys.length=0
 ·have iC:ys=[]:=List.eq_nil_of_length_eq_zero hy;subst iC;have kS:us=[]:=List.eq_nil_of_length_eq_zero (by rw[hr.len];simp);subst kS;have de:=run_append_nothing (P:=P) w T tx ty e i hT jH A 0 0 (akq _) v hs;obtain⟨hE,hI⟩:=Pa (w':=w) hi (.vec e i.size []) (fun _ _=>rfl) (.slice A 0 0) 0 none ⟨fun _ _=>rfl,akq _,rfl,rfl,rfl⟩ (fun g hg=>by cases hg) ⟨by simp [Gh.dL],by simp,(fun _ h=>by cases h), .inl ⟨by simp [Gh.dL],rfl,A,by simp [Gh.dL]⟩⟩;refine⟨_,w,_,de,hE,Nat.le_succ _,hI,?_⟩;rw[hi.len];exact .vec G.N 0 0 0 i.size (by simp [Gh.dL]) ⟨_,_,_,rfl⟩ (by simp) fun _=>⟨by omega,⟨A,0,rfl,akq _,Nat.zero_le _,by omega,fun h=>by omega⟩,fun _ _=>by simp [Gh.dL]⟩
 ·have NM:ys.length≤9223372036854775807:=by simp only[maxLen]at js;omega
  have hold:(Builtin.firstCells i.size 0 (.slice A 0 0)).run P w.drew= .ok ([]:ak3 ak7).toArray w.drew:=by
   cases A with
   |none=>exact run_firstCells_none _ _ _ _ _
   |some a=>exact run_firstCells_some _ _ _ _ _ _ [] (by simp) (fun j u hu=>by simp at hu)
  have de:=run_append_grow_src (P:=P) w T tx ty e i z hT jH hz A 0 0 [] hold v ys.length us hs (by omega) (by omega) (growslice_fits (by omega) (by simpa using lH));simp only[akz,List.nil_append]at de;obtain⟨cap,iS⟩:∃cap,cap=grownCap w ys.length 0 e:=⟨_,rfl⟩;have jc:ys.length≤cap:=by rw[iS];exact grownCap_ge _ _ _ _
  have hle:cap≤maxLen:=by rw[iS];exact grownCap_le_maxLen _ _ _ _ js
  rw[←iS]at de;obtain⟨cur,iP⟩:∃cur,cur=us.toArray++Builtin.zeroCells z.cells (cap-ys.length):=⟨_,rfl⟩;rw[←iP]at de;have fi:cur.size=cap*i.size:=by
    have:=size_zeroCells z.cells (cap-ys.length);rw[iP,Array.size_append,this,List.size_toArray,hr.len,iJ,←Nat.add_mul]
    congr 1
    omega
  obtain⟨G',g1,g2,g3,g4⟩:=PG (e:=e) (k:=i.size) (cap:=cap) (cs:=ys) (cur:=cur) hi jc hle fi hr.wid w.drew ⟨rfl,rfl,rfl,rfl⟩ (fun a b d x q hd hx hq=>by
   have gP:b<i.size:=by rw[←hr.wid d (aks hd)];exact(akf.1 hx).1
   have a7:a*i.size+b<us.length:=by rw[hr.len];exact lh (akf.1 hd).1 gP
   rw[iP,Array.getElem?_append_left (by simpa using a7),List.getElem?_toArray]at hq;exact hr.rel a b d x q hd hx hq)
  exact⟨_,_,G',de,g1,g2,g3,g4 _ (akq _)⟩
end
section
variable {P:ak6} {r:ak5 Nat} {n N0:Nat} {G:Gh} {w:ak8} {a:Act} {s:St} {o:Oper} {K:St→Prop} {Q:Exit→Act→ak8→Prop}
theorem Ee(hs:cx G w a s)(l:Array Operand):(l.map a.eval).size=(l.toList.map (ev s)).length∧∀(i:Nat)(u:ak7)(c:AV),(l.map a.eval)[i]?=some u→(l.toList.map (ev s))[i]?=some c→aN G w u c:=by
 refine⟨by simp,fun i u c hu hc=> ?_⟩;rw[Array.getElem?_map]at hu;rw[akm,akC]at hc;cases hx:l[i]? with
 |none=>rw[hx]at hu;cases hu
 |some x=>rw[hx]at hu hc;cases hu;cases hc;exact hs.ev x
theorem WC(hs:cx G w a s)(l:Array (Nat×Operand)):(l.map fun(i,x)=>(i,a.eval x)).toList.length=(l.toList.map fun p=>(p.1,ev s p.2)).length∧
 ∀(i:Nat)(p:Nat×AV)(q:Nat×ak7),(l.toList.map fun p=>(p.1,ev s p.2))[i]?=some p→(l.map fun(i,x)=>(i,a.eval x)).toList[i]?=some q→q.1=p.1∧aN G w q.2 p.2:=by
 refine⟨by simp,fun i p q hp hq=> ?_⟩;rw[akC,Array.getElem?_map]at hq;rw[akm,akC]at hp;cases hx:l[i]? with
 |none=>rw[hx]at hp;cases hp
 |some x=>rw[hx]at hp hq;cases hp;cases hq;exact⟨rfl,hs.ev x.2⟩
theorem CF{x y:Operand}{T U:TypeId}(c:Call)(hc:c.callee= .builtin .append)(h1:c.args.toList=[x,y])(h2:c.argTypes.toList=[T,U])(ho:o.op= .call c):
 (execOp a.eval o).run P w=((Builtin.append_ #[T,U] o.type #[a.eval x,a.eval y]).run P w).andThen fun v w'=> .ok (.value v) w':=by
 have e1:c.args= #[x,y]:=by rw[←Array.toList_inj];exact h1
 have e2:c.argTypes= #[T,U]:=by rw[←Array.toList_inj];exact h2
 unfold execOp;simp only[ho,resolve,hc,e1,e2,invoke,builtin,Sem.run_bind,Sem.run_pure,Result.andThen_ok,List.map_toArray,akE,List.map_nil]
theorem S5{x:Operand}{T:TypeId}(c:Call)(hc:c.callee= .builtin .len)(h1:c.args.toList=[x])(h2:c.argTypes.toList=[T])(ho:o.op= .call c):
 (execOp a.eval o).run P w=((Builtin.len_ #[T] o.type #[a.eval x]).run P w).andThen fun v w'=> .ok (.value v) w':=by
 have e1:c.args= #[x]:=by rw[←Array.toList_inj];exact h1
 have e2:c.argTypes= #[T]:=by rw[←Array.toList_inj];exact h2
 unfold execOp;simp only[ho,resolve,hc,e1,e2,invoke,builtin,Sem.run_bind,Sem.run_pure,Result.andThen_ok,List.map_toArray,akE,List.map_nil]
theorem Z3(c:Call)(hc:c.callee= .builtin .max)(ho:o.op= .call c):
 (execOp a.eval o).run P w=((Builtin.max_ c.argTypes o.type (c.args.map a.eval)).run P w).andThen fun v w'=> .ok (.value v) w':=by
 unfold execOp;simp only[ho,resolve,hc,invoke,builtin,Sem.run_bind,Sem.run_pure,Result.andThen_ok]
theorem YT(c:Call)(hc:c.callee= .builtin .min)(ho:o.op= .call c):
 (execOp a.eval o).run P w=((Builtin.min_ c.argTypes o.type (c.args.map a.eval)).run P w).andThen fun v w'=> .ok (.value v) w':=by
 unfold execOp;simp only[ho,resolve,hc,invoke,builtin,Sem.run_bind,Sem.run_pure,Result.andThen_ok]
theorem TK{mx:Bool}{k k':IntKind}{z:Int}:∀(l:ak3 AV)(vs:ak3 ak7)(x:Int),vs.length=l.length→(∀(i:Nat)(u:ak7)(c:AV),vs[i]?=some u→l[i]?=some c→aN G w u c)→Kf mx k x l=some (k',z)→
 (vs.foldlM (if mx then Builtin.max2 else Builtin.min2) (.int k x)).run P w= .ok (.int k' z) w
 |[],[],x,_,_,h=>by cases h;simp
 |[],_::_,_,hl,_,_=>by simp at hl
 |_::_,[],_,hl,_,_=>by simp at hl
 |y::l,u::vs,x,hl,hr,h=>by
  unfold Kf at h;split at h
  ·next e=>cases e
  ·next k2 b l' e=>
   cases e
   have e1:=(hr 0 u _ rfl rfl).val;subst e1;have ih:=TK l vs _ (by simpa using hl) (fun i u c hu hc=>hr (i+1) u c (by simpa using hu) (by simpa using hc)) h;rw[List.foldlM_cons,Sem.run_bind];cases mx with
   |true=>simp only[if_true,cond_true]at ih ⊢;simp only[Builtin.max2,Sem.run_pure,Result.andThen_ok];exact ih
   |false=>simp only[Bool.false_eq_true,if_false,cond_false]at ih ⊢;simp only[Builtin.min2,Sem.run_pure,Result.andThen_ok];exact ih
  ·cases h
theorem Wf{mx:Bool}{k:IntKind}{z:Int}{l:ak3 AV}{vs:Array ak7}(hl:vs.size=l.length)(hr:∀(i:Nat)(u:ak7)(c:AV),vs[i]?=some u→l[i]?=some c→aN G w u c)(h:Bp mx l=some (k,z)):
 ∃u us,vs.toList=u::us∧(us.foldlM (if mx then Builtin.max2 else Builtin.min2) u).run P w= .ok (.int k z) w:=by
 unfold Bp at h;split at h
 ·next k2 x l'=>
  cases hv:vs.toList with
  |nil=>rw[←akM,hv]at hl;simp at hl
  |cons u us=>
   refine⟨u,us,rfl,?_⟩;have ng:∀(i:Nat)(v:ak7)(c:AV),(u::us)[i]?=some v→(AV.d (.v (.int k2 x))::l')[i]?=some c→aN G w v c:=fun i v c h1 h2=>hr i v c (by rw[←akC,hv];exact h1) h2;have e1:=(ng 0 u _ rfl rfl).val;subst e1;refine TK l' us x ?_ (fun i v c h1 h2=>ng (i+1) v c (by simpa using h1) (by simpa using h2)) h;rw[←akM,hv]at hl;simpa using hl
 ·cases h
theorem UA{f:FuncId}(h:I5 P f=true)(args:Array ak7)(w:ak8):(callFunc f args).run P w= .ok (.enter f args) w:=by
 unfold I5 at h;cases hq:P.funcs[f]? with
 |none=>rw[hq]at h;simp at h
 |some fn=>
  rw[hq]at h;simp only[akh,Bool.not_eq_true']at h;obtain⟨h1,h2⟩:=h;have h3:fn.body≠none:=by intro e;rw[e]at h1;cases h1
  have h4:fn.name≠ "runtime.NumGoroutine" :=by simpa using h2
  simp [callFunc,hq,h4,h3]
theorem ab9(hs:cx G w a s)(cn:N0≤G.N){x:AV}{h':ak3 aq}{p:Sd}(hx:nL P o.op (ev s) s.h=some (x,h',p))(hp:p.ok)(hK:K ((s.wh h').put o.dst x)):o.wpIn (WF r) n P a w (gV N0 G w K) Q:=by
 have cV:=hs.ev;unfold nL at hx;split at hx
 next T ho=>
  split at hx
  ·next q hT=>
   cases hx
   obtain⟨i1,i2,i3⟩:=acX hs.inv;exact nR (by rw[ho];simp) hs cn (v:= .map (some w.heap.size)) (by unfold execOp;simp [ho,run_makeMap,Result.andThen]) i1 (Nat.le_succ _) i2 i3 hK
  ·cases hx
 next T m i ok ho=>
  split at hx
  ·next k e hT=>
   split at hx
   ·next z hz=>
    split at hx
    ·next b s' hm hi=>
     split at hx
     ·next kv hn=>
      cases hc:fK P k&&z.oneCell' with
      |false=>rw[hc]at hx;cases hx
      |true=>
       rw[hc]at hx;cases hx
       rw[akh]at hc;obtain⟨v,r1,r2⟩:=ac9 (ok:=ok) (s:=s') hs.inv hT hz hc.1 hn;have e1:=cV m;rw[hm]at e1;have e2:=cV i;rw[hi]at e2;have e2:=e2.val;have OY:a.eval m= .map (some (G.bm b)):=by
         generalize a.eval m=u at e1;cases e1 with|mp _ _=>rfl
       exact eD (by rw[ho];simp) hs cn (by unfold execOp;simp [ho,OY,e2,r1,Result.andThen]) r2 hK
     ·cases hx
    ·cases hx
   ·cases hx
  ·cases hx
 next T m i y ho=>
  split at hx
  ·next k e hT=>
   split at hx
   ·next b s' d hm hi hd=>
    split at hx
    ·next kv hn=>
     cases hc:fK P k with
     |false=>rw[hc]at hx;cases hx
     |true=>
      rw[hc]at hx;cases hx
      obtain⟨w',r1,r2,r3⟩:=Zz (s:=s') hs.inv hT hc hn ((cV y).Lz hd) hp;have e1:=cV m;rw[hm]at e1;have e2:=cV i;rw[hi]at e2;have e2:=e2.val;have OY:a.eval m= .map (some (G.bm b)):=by
       generalize a.eval m=u at e1;cases e1 with|mp _ _=>rfl
      exact Kv (by rw[ho];simp) hs cn (by unfold execOp;simp [ho,OY,e2,r1,Result.andThen]) r2 (akq _) r3 hK
    ·cases hx
   ·cases hx
  ·cases hx
 next=>cases hx
theorem QP(hs:cx G w a s)(cn:N0≤G.N)(h:oY P o K s):o.wpIn (WF r) n P a w (gV N0 G w K) Q:=by
 have cV:=hs.ev;unfold oY cp at h;split at h
 next x ho=>exact eD (by rw[ho];simp) hs cn (v:=a.eval x) (by unfold execOp;rw[ho];rfl) (cV x) h
 next x ho=>exact eD (by rw[ho];simp) hs cn (v:=a.eval x) (by unfold execOp;rw[ho];rfl) (cV x) h
 next c x y ho=>
  split at h
  next t hc=>
   have hb:=cV c;rw[hc]at hb;have e:=hb.bool;cases t with
   |true=>exact eD (by rw[ho];simp) hs cn (v:=a.eval x) (by unfold execOp;simp [ho,e,asBool]) (cV x) (h.1 rfl)
   |false=>exact eD (by rw[ho];simp) hs cn (v:=a.eval y) (by unfold execOp;simp [ho,e,asBool]) (cV y) (h.2 rfl)
  next=>exact h.elim
 next e ho=>
  split at h
  next z hz=>
   obtain⟨i1,i2⟩:=Q7 hs.inv z.cells e (z.cells.toList.map fun u=> .d (.v u)) (by simp) (fun i u c hu hc=>by
    rw[akm,akC,hu]at hc;cases hc;exact .d (.v u))
   exact nR (by rw[ho];simp) hs cn (by unfold execOp;simp [ho,Instr.alloc,Im hz,newVar,newRow]) (CU G w hs.inv.z hs.inv.S _) (Nat.le_succ _) i1 i2 h
  next=>exact h.elim
 next e x ho=>
  obtain⟨hb,hK⟩:=bO.1 h;have hr:=(cV x).Ro hb;obtain⟨i1,i2⟩:=Q7 hs.inv (a.eval x).cells e (ev s x).cells hr.len hr.rel;exact nR (by rw[ho];simp) hs cn (by unfold execOp;simp [ho,Instr.box,newVar,newRow]) (CU G w hs.inv.z hs.inv.S _) (Nat.le_succ _) i1 i2 hK
 next t x ho=>
  obtain⟨u,y,h1,h2,h3⟩:=Vw hs.inv (cV x) h;exact eD (by rw[ho];simp) hs cn (by unfold execOp;simp [ho,h1]) h2 h3
 next t x y ho=>
  unfold vw at h;split at h
  next m off hm=>
   split at h
   next cs fi=>
    split at h
    case h_2=>exact h.elim
    rename_i k hk
    obtain⟨ep,h4⟩:=bO.1 h;simp only[akh,beq_iff_eq,dk]at ep;obtain⟨⟨rfl,h2⟩,h3⟩:=ep;have h1:=hk;have hx:=cV x;rw[hm]at hx;obtain⟨w',r1,r2,r3⟩:=agQ (P:=P) hs.inv fi (cV y) h2 h1 h3;have ex:a.eval x= .pointer (some ⟨G.bm m,off,none⟩):=by
     generalize a.eval x=u at hx;cases hx with
     |ptr=>rfl
    exact Kv (by rw[ho];simp) hs cn (by unfold execOp;simp [ho,Instr.storeAt,Instr.sureAddr,ex,r1]) r2 (akq _) r3 h4
   next=>exact h.elim
  next=>exact h.elim
 next x ho=>
  have hx:=cV x;split at h
  next m off hm=>
   rw[hm]at hx;generalize ea:a.eval x=u at hx;cases hx with
   |ptr _ _ xg=>exact eD (by rw[ho];simp) hs cn (by unfold execOp;simp [ho,ea]) (.ptr m off xg) h
  next xs i off hm=>
   rw[hm]at hx;generalize ea:a.eval x=u at hx;have mn:=hx;cases hx with
   |bE=>exact eD (by rw[ho];simp) hs cn (by unfold execOp;simp [ho,ea]) mn h
  next f cs hm=>
   rw[hm]at hx;generalize ea:a.eval x=u at hx;have mn:=hx;cases hx with
   |fn=>exact eD (by rw[ho];simp) hs cn (by unfold execOp;simp [ho,ea]) mn h
  next=>exact h.elim
 next T x f ho=>
  split at h
  next fo k g hT=>
   have hx:=cV x;split at h
   next m off hm=>
    rw[hm]at hx;generalize ea:a.eval x=u at hx;cases hx with
    |ptr _ _ xg=>exact eD (by rw[ho];simp) hs cn (by unfold execOp;simp [ho,ea,KW hT]) (.ptr m (off+fo) xg) h
   next xs i off hm=>
    rw[hm]at hx;generalize ea:a.eval x=u at hx;cases hx with
    |bE _ _ _ b oo us c hx hS hu=>exact eD (by rw[ho];simp) hs cn (by unfold execOp;simp [ho,ea,KW hT];rfl) (by rw[Nat.add_assoc];exact .bE xs i (off+fo) b oo us c hx hS hu) h
   next=>exact h.elim
  next=>exact h.elim
 next T x f ho=>
  obtain⟨u,y,h1,h2,h3⟩:=acz (cV x) h;exact eD (by rw[ho];simp) hs cn (by unfold execOp;simp [ho,h1]) h2 h3
 next T x i ho=>
  obtain⟨u,y,h1,h2,h3⟩:=aho (cV x) (cV i) h;exact eD (by rw[ho];simp) hs cn (by unfold execOp;simp [ho,h1]) h2 h3
 next T x i ho=>
  split at h
  next b z hb hz=>
   obtain⟨hT,h0,h⟩:=bO.1 h;have hT:=qj hT;have hx:=cV x;rw[hb]at hx;have ex:=hx.val;obtain⟨k,ei⟩:=(cV i).int hz;split at h
   next c hc=>
    refine eD (by rw[ho];simp) hs cn (v:= .int .u8 c.toNat) ?_ (.d (.v _)) h;unfold execOp;simp [ho,Instr.index,ex,ei,asIntOf,run_underlying hT,h0,hc]
   next=>exact h.elim
  next=>exact h.elim
 next T ps ho=>
  obtain⟨p1,p2⟩:=WC hs ps;obtain⟨u,y,h1,h2,h3⟩:=ac3 p1 p2 h;exact eD (by rw[ho];simp) hs cn (by unfold execOp;simp only[ho,Sem.run_bind,h1];rfl) h2 h3
 next T len ps ho=>
  obtain⟨p1,p2⟩:=WC hs ps;obtain⟨u,w',G',y,h1,h2,h3,h4,h5,h6⟩:=afM (T:=T) hs.inv p1 p2 h;exact nR (by rw[ho];simp) hs cn (by unfold execOp;simp only[ho,Sem.run_bind,h1];rfl) h2 h3 h4 h5 h6
 next T x lo hi mx ho=>
  obtain⟨u,y,h1,h2,h3⟩:=YC hs (cV x) h;exact eD (by rw[ho];simp) hs cn (by unfold execOp;simp [ho,h1]) h2 h3
 next x i ho=>
  have hx:=cV x;split at h
  next cs fi=>
   rw[fi]at hx;generalize ea:a.eval x=u at hx;split at h
   next c hc=>
    cases hx with
    |bk vs _ hl hr=>
     have a7:i<vs.size:=by rw[hl];exact(akf.1 hc).1
     exact eD (by rw[ho];simp) hs cn (v:=vs[i]) (by unfold execOp;simp [ho,ea,Instr.extract,a7]) (hr i _ c (akB a7) hc) h
   next=>exact h.elim
  next=>exact h.elim
 next f first cY ho=>
  split at h
  case h_2=>exact h.elim
  rename_i Ol
  have Ol:first= #[]:=by rw[←Array.toList_inj];exact Ol
  subst Ol;obtain⟨p1,p2⟩:=Ee hs cY;exact eD (by rw[ho];simp) hs cn (v:= .func (.func f) #[] (cY.map a.eval)) (by unfold execOp;simp [ho,Instr.makeFunc]) (.fn f _ _ p1 p2) h
 next op T x y U ho=>
  obtain⟨u,z,h1,h2,h3⟩:=ac7 (X:=x) (Y:=y) (cV x) (cV y) h;refine eD (by rw[ho];simp) hs cn ?_ h2 h3;unfold execOp;simp only[ho];rw[Sem.run_bind,h1];rfl
 next op T x ho=>
  obtain⟨u,z,h1,h2,h3⟩:=ajn (P:=P) (cV x) h;exact eD (by rw[ho];simp) hs cn (by unfold execOp;simp [ho,h1]) h2 h3
 next t u x ho=>
  obtain⟨u,z,h1,h2,h3⟩:=XS (cV x) h;exact eD (by rw[ho];simp) hs cn (by unfold execOp;simp [ho,h1]) h2 h3
 next c ho=>
  have jy:∀c,o.op≠ .defer c:=by rw[ho];simp
  split at h
  next hc=>
   split at h
   next x T h1 h2=>
    obtain⟨m,r1,r2⟩:=af1 (ty:=o.type) (cV x) h;exact eD jy hs cn (by rw[S5 c hc h1 h2 ho,r1];rfl) (.d (.v _)) r2
   next=>exact h.elim
  next hc=>
   split at h
   next x y T U h1 h2=>
    obtain⟨hU,h⟩:=bO.1 h;obtain⟨⟨e',k'⟩,hU⟩:=Option.isSome_iff_exists.1 hU;obtain⟨p,w',G',q,h',r1,r2,r3,r4,r5,r6⟩:=agD (ty:=o.type) hs.inv (cV x) (cV y) (ir hU).1 h;exact nR jy hs cn (by rw[CF c hc h1 h2 ho,r1];rfl) r2 r3 r4 r5 r6
   next=>exact h.elim
  next hc=>
   split at h
   next k z hf=>
    obtain⟨p1,p2⟩:=Ee hs c.args;obtain⟨u,us,e1,e2⟩:=Wf (P:=P) p1 p2 hf;refine eD jy hs cn (v:= .int k z) ?_ (.d (.v _)) h;rw[Z3 c hc ho];unfold Builtin.max_;rw[e1];simp only[if_true]at e2;rw[e2];rfl
   next=>exact h.elim
  next hc=>
   split at h
   next k z hf=>
    obtain⟨p1,p2⟩:=Ee hs c.args;obtain⟨u,us,e1,e2⟩:=Wf (P:=P) p1 p2 hf;refine eD jy hs cn (v:= .int k z) ?_ (.d (.v _)) h;rw[YT c hc ho];unfold Builtin.min_;rw[e1];simp only[Bool.false_eq_true,if_false]at e2;rw[e2];rfl
   next=>exact h.elim
  next f hc=>
   have call:∀(g:FuncId)(cY:ak3 AV)(vs:Array ak7),a.eval f= .func (.func g) #[] vs→vs.size=cY.length→(∀(i:Nat)(u:ak7)(c:AV),vs[i]?=some u→cY[i]?=some c→aN G w u c)→
       bQ P g (c.args.toList.map (ev s)++cY) s.h (fun r h'=>K ((s.wh h').put o.dst r))→o.wpIn (WF r) n P a w (gV N0 G w K) Q:=by
       intro g cY vs ea hl hr h;obtain⟨p1,p2⟩:=Ee hs c.args;obtain⟨Mt,jd⟩:=h;have wx:=jd G w (c.args.map a.eval++vs) hs.inv (by rw[Array.size_append,akg,p1,hl]) (fun i u x hu hx=>by
        by_cases hi:i<(c.args.map a.eval).size
        ·rw[Array.getElem?_append_left hi]at hu;rw[akp (by rw[←p1];exact hi)]at hx;exact p2 i u x hu hx
        ·rw[Array.getElem?_append_right (by omega)]at hu;rw[akv (by rw[←p1];omega)]at hx;rw[p1]at hu;exact hr _ u x hu hx)
       refine⟨fun _ _=>trivial,?_⟩;have de:(o.semAt (WF r).round a.eval).run P w= .ok (.enter g (c.args.map a.eval++vs)) w:=by
        rw[Oper.semAt_eq _ _ _ jy];unfold execOp;simp only[ho,resolve,hc,ea];simp [Deferred.ofValue,invoke,UA Mt]
       rw[de];refine⟨fun h=>(by simp [WF,Fence.wide]at h),?_⟩;have h2:=callsIn_wide (n:=n-1).2 wx;refine CallsIn.mono (F:=WF r) h2 ?_;rintro e w' ⟨v,G',x,h',rfl,x1,x2,x3,x4,x5⟩;exact⟨G',_,x1.less cn,akx cn x2,(hs.move x1 x2 x3).put x4 o.dst,x5⟩
   split at h
   next g cY hg=>
    have hf:=cV f;rw[hg]at hf;generalize ea:a.eval f=u at hf;cases hf with
    |fn _ vs _ hl hr=>exact call g cY vs ea hl hr h
   next q hg=>
    obtain⟨g,cs,rfl,h⟩:=h;have hf:=cV f;rw[hg]at hf;generalize ea:a.eval f=u at hf;cases hf with
    |hid hq h1=>
     cases hq with
     |fn _ vs _ hl hr=>exact call g (cs.map fQ.av) vs ea (by rw[akk];exact hl) (fun i u c hu hc=>by
        rw[akm]at hc;cases hx:cs[i]? with
        |none=>rw[hx]at hc;cases hc
        |some d=>rw[hx]at hc;cases hc;exact(hr i u d hu hx).av) h
   next=>exact h.elim
  next=>exact h.elim
 next op _=>
  split at h
  next x h' p hx=>exact ab9 hs cn hx h.1 h.2
  next=>exact h.elim
theorem MQ(hs:cx G w a s){x:ak5 Operand}{d:Nat}{z:Int}(h:sY (ev s) d x=some z)(h0:0≤z):Bu a x d z.toNat:=by
 cases x with
 |none=>
  simp only[sY,Option.some.injEq]at h;subst h;show _=d;exact akG d
 |some y=>
  simp only[sY]at h;obtain⟨k,e⟩:=(hs.ev y).int h;exact⟨k,z,e,h0,rfl⟩
theorem k9{α:Type}{b:Bool}{x y:α}(h:(bif b then some x else none)=some y):b=true∧x=y:=by
 cases b with
 |true=>exact⟨rfl,aky h⟩
 |false=>cases h
theorem afE{α:Type}{b:Bool}{x:ak5 α}{y:α}(h:(bif b then x else none)=some y):b=true∧x=some y:=by
 cases b with
 |true=>exact⟨rfl,h⟩
 |false=>cases h
theorem U1(hs:cx G w a s)(cn:N0≤G.N)(h:IM P o K s):o.wpIn (WF r) n P a w (gV N0 G w K) Q:=by
 obtain⟨va,x,h',p,hx,hp,hK⟩:=h;have cV:=hs.ev;unfold gC at hx;split at hx
 next T y i ho=>
  split at hx
  ·next n' o' len L k z e k' i' e1 e2 e3=>
   split at hx
   ·next e4 k2 cs hn=>
    obtain⟨hb,he⟩:=k9 hx;cases he
    rw[akh,beq_iff_eq,beq_iff_eq]at hb;obtain⟨rfl,rfl⟩:=hb;obtain⟨hL,h0,a7,rfl⟩:=hp;obtain⟨dY,eF⟩:=ir e3;obtain⟨kz,ez⟩:=(cV i).int e2;have hv:=cV y;rw[e1]at hv;have jU:=hv.zk hs.inv hn hL;obtain⟨JJ,⟨A,c,q1,q2,q3,q4,q5⟩,_⟩:=jU;obtain⟨g,cap,s1,rfl,s3⟩:=q5 (by omega);have Pe:z<(len:Int):=a7;refine eD (by rw[ho];simp) hs cn (v:= .pointer (some ⟨g,o'*k2+z.toNat*k2,none⟩)) ?_ (.cQ n' (o'+z.toNat) 0 L k2 (hs.inv.lt hn) ⟨_,_,rfl⟩ (by rw[(hs.inv.cW n' _ hn).1,hL];exact akq _) fun _=>⟨by omega,g,cap,s1,?_⟩) hK
    ·unfold execOp;simp [ho,q1,ez,Instr.indexAt,asIntOf,run_underlying dY,h0,Pe,kC eF,ki]
    ·rw[Nat.add_mul];rfl
   ·cases hx
  ·cases hx
 next T y f ho=>
  split at hx
  ·next n' i j L k fo q g e1 hT=>
   cases hx
   have hv:=cV y;rw[e1]at hv;generalize ea:a.eval y=u at hv;cases hv with
   |cQ _ _ _ _ _ mI Nv hL hf=>
    obtain⟨pb,pq,rfl⟩:=Nv;refine eD (by rw[ho];simp) hs cn (v:= .pointer (some ⟨pb,pq+fo,none⟩)) (by unfold execOp;simp [ho,ea,KW hT]) (.cQ n' i (j+fo) L k mI ⟨_,_,rfl⟩ hL fun e=> ?_) hK;obtain⟨a1,g2,cap,a2,a3⟩:=hf e;refine⟨a1,g2,cap,a2,?_⟩;injection a3 with a3;injection a3 with a3;injection a3 with a4 a5;subst a4;subst a5;rw[Nat.add_assoc]
  ·cases hx
 next y ho=>
  split at hx
  ·next n' i j L k e1=>
   cases hx
   have hv:=cV y;rw[e1]at hv;have Q1:=hv;generalize ea:a.eval y=u at hv Q1;cases hv with
   |cQ _ _ _ _ _ mI Nv hL hf=>
    obtain⟨pb,pq,rfl⟩:=Nv;exact eD (by rw[ho];simp) hs cn (by unfold execOp;simp [ho,ea]) Q1 hK
  ·cases hx
 next t y ho=>
  split at hx
  ·next n' i j L k c e1=>
   split at hx
   ·next e k' cs z hn hz=>
    obtain⟨hb,he⟩:=k9 hx;cases he
    rw[beq_iff_eq]at hb;subst hb;have hv:=cV y;rw[e1]at hv;obtain⟨u,r1,r2⟩:=aeu hs.inv hn hp.1 hp.2 hz hv;exact eD (by rw[ho];simp) hs cn (by unfold execOp;simp [ho,r1]) r2 hK
   ·cases hx
  ·cases hx
 next t y z ho=>
  split at hx
  ·next n' i j L k c b7 e1=>
   split at hx
   ·next e k' cs q hn hq=>
    obtain⟨hb,he⟩:=k9 hx;cases he
    simp only[akh,beq_iff_eq,dk]at hb;obtain⟨⟨⟨⟨rfl,rfl⟩,Of⟩,hj⟩,fy⟩:=hb;obtain⟨hL,hc,rfl⟩:=hp;have hv:=cV y;rw[e1]at hv;obtain⟨w',G',r1,r2,r3,r4⟩:=Zb hs.inv hn hL hc hv (cV z) Of hq hj fy;exact Kv (by rw[ho];simp) hs cn (by unfold execOp;simp [ho,r1]) r2 r3 r4 hK
   ·cases hx
  ·cases hx
 next T y lo hi ho=>
  split at hx
  ·next n' o' len L k e k' oo ll e1 hT=>
   split at hx
   ·next l u hl hu=>
    split at hx
    ·next e4 k2 cs hn=>
     obtain⟨hb,he⟩:=k9 hx;cases he
     rw[akh,beq_iff_eq,beq_iff_eq]at hb;obtain⟨rfl,rfl⟩:=hb;obtain⟨hL,h0,hlu,huL,rfl,rfl⟩:=hp;obtain⟨dY,eF⟩:=ir hT;have hv:=cV y;rw[e1]at hv;have jU:=hv.zk hs.inv hn hL;obtain⟨JJ,⟨A,c,q1,q2,q3,q4,q5⟩,_⟩:=jU;have hb:=Fi (P:=P) (AJ:=true) (MQ hs hl h0) (MQ hs hu (by omega)) (by omega) (show u.toNat≤c by omega) w;refine eD (by rw[ho];simp) hs cn (v:= .slice (if c=l.toNat then A else A.map (·.add (l.toNat*k2))) (u.toNat-l.toNat) (c-l.toNat)) ?_ (.vec n' (o'+l.toNat) (u.toNat-l.toNat) L k2 (hs.inv.lt hn) ⟨_,_,_,rfl⟩ (by rw[(hs.inv.cW n' _ hn).1,hL];exact akq _) fun _=>⟨by omega,⟨_,_,rfl,by omega,by omega,by omega,fun uq=> ?_⟩,fun h1 h2=> ?_⟩) hK
     ·unfold execOp;simp [ho,q1,Instr.sliceAt,Instr.slice,run_underlying dY,hb,kC eF]
     ·obtain⟨g,cap,s1,rfl,s3⟩:=q5 (by omega);refine⟨g,cap,s1,?_,by omega⟩;rw[if_neg (by omega)];simp [ki,Nat.add_mul]
     ·have ho0:o'=0:=by omega
      have Iz:l.toNat=0:=by omega
      subst ho0;rw[Iz];rw[Iz]at h2;simp only[Nat.sub_zero]at h2 ⊢;by_cases hL0:L=0
      ·subst hL0;have:len=0:=by omega
       subst this
       rename_i ep
       rw[←ep rfl rfl,q1,h2];split
       ·rfl
       ·cases A<;>simp [Addr.add]
      ·obtain⟨g,cap,s1,rfl,s3⟩:=q5 (by omega);rw[s1,h2];have:c=cap:=by omega
       subst this;split<;>simp [ki]
    ·cases hx
   ·cases hx
  ·cases hx
 next T l c ho=>
  split at hx
  ·next e k z1 z2 cs len m hT e1 e2=>
   split at hx
   ·next z ct hz n9=>
    obtain⟨hb,he⟩:=k9 hx;cases he
    simp only[akh,beq_iff_eq,dk]at hb;obtain⟨⟨fy,iJ⟩,_⟩:=hb;obtain⟨h0,jJ,hl,hc,rfl,hm,jX⟩:=hp;obtain⟨dY,eF⟩:=ir hT;obtain⟨inf,i1,i2,i3⟩:=Ly eF n9;have Eu:inf.zero=some z:=by
     obtain⟨i',j1,j2⟩:=Ja hz;rw[i1]at j1;cases j1;exact j2
    obtain⟨k1,Z8⟩:=(cV l).int e1;obtain⟨k2,ez2⟩:=(cV c).int e2;obtain⟨u,w',G',r1,r2,r3,r4,r5⟩:=agJ (kl:=k1) (kc:=k2) hs.inv dY i1 Eu i2 i3 iJ fy h0 jJ hl hc hm jX;exact nR (by rw[ho];simp) hs cn (by unfold execOp;simp [ho,Z8,ez2,r1]) r2 r3 r4 r5 hK
   ·cases hx
  ·cases hx
 next c ho=>
  have jy:∀c,o.op≠ .defer c:=by rw[ho];simp
  split at hx
  next hc=>
   split at hx
   ·next y T h1 h2=>
    split at hx
    ·next n' oo len L k e1=>
     split at hx
     ·next e4 k2 cs hn=>
      obtain⟨hb,he⟩:=k9 hx;cases he
      rw[akh,beq_iff_eq]at hb;obtain⟨hT,rfl⟩:=hb;obtain⟨⟨e,q⟩,hT⟩:=Option.isSome_iff_exists.1 hT;have hv:=cV y;rw[e1]at hv;have jU:=hv.zk hs.inv hn hp;obtain⟨JJ,⟨A,cc,q1,q2,q3,q4,q5⟩,_⟩:=jU;exact eD jy hs cn (v:= .int .i64 len) (by rw[S5 c hc h1 h2 ho,q1];simp [Builtin.len_,run_underlying (ir hT).1,goInt]) (.d (.v _)) hK
     ·cases hx
    ·cases hx
   ·cases hx
  next hc=>
   split at hx
   ·next y z T U h1 h2=>
    split at hx
    ·next e k pU b7 ys L' fv hT hU=>
     split at hx
     ·next z0 ct hz n9=>
      obtain⟨hb,hx⟩:=afE hx;rw[akh,beq_iff_eq,dk]at hb;obtain⟨fy,iJ⟩:=hb;obtain⟨dY,eF⟩:=ir hT;obtain⟨inf,i1,i2,i3⟩:=Ly eF n9;have Eu:inf.zero=some z0:=by
       obtain⟨i',j1,j2⟩:=Ja hz;rw[i1]at j1;cases j1;exact j2
      have hY:z0.cells.size=k:=by rw[←akM];exact iJ
      obtain⟨eU,kU⟩:=pU;split at hx
      ·next n' oo len L k1 e1=>
       split at hx
       ·next e4 k2 cs hn=>
        obtain⟨hb,he⟩:=k9 hx;cases he
        simp only[akh,beq_iff_eq]at hb;obtain⟨⟨rfl,rfl⟩,rfl⟩:=hb;obtain⟨hL,vH,rfl,pD⟩:=hp;obtain⟨us,hr,Fk⟩:=MF (tx:=U) hs.inv (cV z) vH fy (ir hU).1;have hv:=cV y;rw[e1]at hv;obtain⟨u,w',G',r1,r2,r3,r4,r5⟩:=YW (ty:=o.type) hs.inv dY i1 Eu i2 i3 hY fy hn hL hv hr Fk pD;exact nR jy hs cn (by rw[CF c hc h1 h2 ho,r1];rfl) r2 r3 r4 r5 hK
       ·cases hx
      ·next e1=>
       cases hx
       obtain⟨vH,rfl,rfl,rfl,js,lH⟩:=hp;obtain⟨us,hr,Fk⟩:=MF (tx:=U) hs.inv (cV z) vH fy (ir hU).1;have hv:=cV y;rw[e1]at hv;have ev:=hv.val;obtain⟨u,w',G',r1,r2,r3,r4,r5⟩:=WI (ty:=o.type) (A:=none) hs.inv dY i1 Eu i2 i3 hY fy hr Fk js lH;exact nR jy hs cn (by rw[CF c hc h1 h2 ho,ev,r1];rfl) r2 r3 r4 r5 hK
      ·next xs e1=>
       cases hx
       obtain⟨rfl,vH,rfl,rfl,rfl,js,lH⟩:=hp;obtain⟨us,hr,Fk⟩:=MF (tx:=U) hs.inv (cV z) vH fy (ir hU).1;have hv:=cV y;rw[e1]at hv;obtain⟨A,eA⟩:∃A,a.eval y= .slice A 0 0:=by
        generalize a.eval y=u at hv;cases hv with|full _ _ hf=>exact hf
       obtain⟨u,w',G',r1,r2,r3,r4,r5⟩:=WI (ty:=o.type) (A:=A) hs.inv dY i1 Eu i2 i3 hY fy hr Fk js lH;exact nR jy hs cn (by rw[CF c hc h1 h2 ho,eA,r1];rfl) r2 r3 r4 r5 hK
      ·cases hx
     ·cases hx
    ·cases hx
   ·cases hx
  next=>cases hx
 next=>cases hx
theorem agW(hs:cx G w a s)(cn:N0≤G.N)(h:DD P o K s):o.wpIn (WF r) n P a w (gV N0 G w K) Q:=by
 have cV:=hs.ev;unfold DD at h;split at h
 ·next op T x y U ho=>
  split at h
  ·next xs pT v1 v2 hx hy hT h1 h2=>
   obtain⟨e,k⟩:=pT;have dY:=(ir hT).1;have hv:=cV y;rw[hy]at hv;have ey:=hv.val;obtain⟨A,b,oo,c,k',u,ex,hA,_,_,_,_,_⟩:=((cV x).list hx).nI;have hg:(eqGuard op T x y (a.eval x) (a.eval y)).run P w= .ok () w:=by rw[ex,ey];unfold eqGuard;cases op<;>simp
   have de:(binOp op T (a.eval x) (a.eval y)).run P w= .ok (if A.isNone then v1 else v2) w:=by
    rw[ex,ey];have hq:=run_equal_slice_nil (P:=P) (w:=w) T e A xs.length c dY;cases op<;>simp [xA]at h1 h2<;>subst h1<;>subst h2<;>simp [binOp,hq]<;>cases A<;>rfl
   have hex:(execOp a.eval o).run P w= .ok (.value (if A.isNone then v1 else v2)) w:=by
    unfold execOp;simp only[ho];rw[Sem.run_bind,Sem.run_bind,hg];simp only[Result.andThen_ok];rw[de];rfl
   cases A with
   |none=>
    have j0:xs=[]:=Classical.byContradiction fun cu=>by have:=hA cu;cases this
    exact eD (by rw[ho];simp) hs cn hex (.d (.v _)) (h.1 j0)
   |some ad=>exact eD (by rw[ho];simp) hs cn hex (.d (.v _)) h.2
  ·exact h.elim
 ·exact h.elim
theorem Oa(hs:cx G w a s)(cn:N0≤G.N)(h:aby P o K s):o.wpIn (WF r) n P a w (gV N0 G w K) Q:=by
 rcases h with h|h|h
 ·exact U1 hs cn h
 ·exact agW hs cn h
 ·exact QP hs cn h
end
theorem aN.zm{G:Gh}{w:ak8}{u:ak7}{x:AV}(Z:Nat→Prop)(M:Nat)(h:aN G w u x):aN {G with Z:=Z,M:=M} w u x:=by
 induction h with
 |agg vs cs hl _ ih=>exact .agg vs cs hl ih
 |bk vs cs hl _ ih=>exact .bk vs cs hl ih
 |fn f vs cs hl _ ih=>exact .fn f vs cs hl ih
 |own n xs h hp hle hf=>exact .own n xs h hp hle hf
 |ptr n off h=>exact .ptr (G:={G with Z:=Z,M:=M}) n off h
 |row n off len cap k h hl hm=>exact .row (G:={G with Z:=Z,M:=M}) n off len cap k h hl hm
 |mp n h=>exact .mp (G:={G with Z:=Z,M:=M}) n h
 |cH n h=>exact .cH (G:={G with Z:=Z,M:=M}) n h
 |vec n o len L k h hs hL hf=>exact .vec (G:={G with Z:=Z,M:=M}) n o len L k h hs hL hf
 |cQ n i j L k h hs hL hf=>exact .cQ (G:={G with Z:=Z,M:=M}) n i j L k h hs hL hf
 |hid h h1=>exact .hid h h1
 |d h=>exact .d h
 |bE xs i off b o u x hx hS hu=>exact .bE xs i off b o u x hx hS hu
 |full xs hp hf=>exact .full xs hp hf
 |dead u=>exact .dead u
theorem dE.zm{G:Gh}{w:ak8}{n:Nat}{B:aq}(Z:Nat→Prop)(M:Nat)(hz:∀b,Z b→G.Z b)(h:dE G w n B):dE {G with Z:=Z,M:=M} w n B:=by
 cases B with
 |gone=>trivial
 |cells cs=>
  obtain⟨h1,h2,vs,T,h3,h4,h5⟩:=h;exact⟨fun k=>h1 (hz _ k),h2,vs,T,h3,h4,fun i u c hu hc=>(h5 i u c hu hc).zm Z M⟩
 |lp ls p as bd cs=>
  obtain⟨h1,h2,fn,vs,T,h3,h4,h5⟩:=h;exact⟨fun k=>h1 (hz _ k),h2,fn,vs,T,h3,h4,fun i u c hu hc=>(h5 i u c hu hc).zm Z M⟩
 |it sn cs=>
  obtain⟨h1,h2,fn,vs,T,h3,h4,h5⟩:=h;exact⟨fun k=>h1 (hz _ k),h2,fn,vs,T,h3,h4,fun i u c hu hc=>(h5 i u c hu hc).zm Z M⟩
 |map kv=>
  obtain⟨h1,h2,es,c,h3,h4⟩:=h;exact⟨fun k=>h1 (hz _ k),h2,es,c,h3,h4⟩
 |front e k len=>
  obtain⟨h1,hm,h2⟩:=h;refine⟨h1,hm,?_⟩;rcases h2 with h2|⟨g,cap,cur,h2,h3,h4,h5⟩
  ·exact .inl h2
  ·exact .inr ⟨g,cap,cur,h2,h3,fun k=>h4 (hz _ k),h5⟩
 |vec e k cs=>
  obtain⟨h1,hm,hk,h2⟩:=h;refine⟨h1,hm,hk,?_⟩;rcases h2 with h2|⟨g,cap,cur,h2,h3,h4,h5,h6,h7,h8,h9,az⟩
  ·exact .inl h2
  ·exact .inr ⟨g,cap,cur,h2,h3,fun k=>h4 (hz _ k),h5,h6,h7,h8,h9,fun i j c x u hc hx hu=>(az i j c x u hc hx hu).zm Z M⟩
theorem HX{h:ak3 aq}{G:Gh}{n:Nat}(Z:Nat→Prop)(M:Nat):b6 h {G with Z:=Z,M:=M} n=b6 h G n:=by
 unfold b6;cases h[n]? with
 |none=>rfl
 |some B=>cases B<;>rfl
theorem bW.zm{G:Gh}{w:ak8}{h:ak3 aq}(hi:bW G w h)(Z:Nat→Prop)(M:Nat)(hz:∀b,Z b→G.Z b)(hM:M≤w.heap.size):bW {G with Z:=Z,M:=M} w h:=
 ⟨hi.len,fun b hb=>hi.z b (hz b hb),hi.S,fun n B hB=>(hi.cW n B hB).zm Z M hz,fun m n b h1 h2=>hi.inj m n b (by rw[←HX Z M];exact h1) (by rw[←HX Z M];exact h2),⟨hi.gl.1,hM⟩⟩
def oD(l:ak3 Nat)(w:ak8):ak8:=l.foldl (fun w D=>w.putObj D (.deferred none)) w
theorem WB:∀(l:ak3 Nat)(w:ak8),(∀D∈l,w.heap[D]?=some (.deferred (some [])))→l.Nodup→
 (oD l w).heap.size=w.heap.size∧(∀b,b ∉ l→(oD l w).heap[b]?=w.heap[b]?)∧(∀b o,(oD l w).cell? ⟨b,o,none⟩=w.cell? ⟨b,o,none⟩)∧(oD l w).os=w.os∧(oD l w).tape=w.tape∧(oD l w).output=w.output
 |[],w,_,_=>⟨rfl,fun _ _=>rfl,fun _ _=>rfl,rfl,rfl,rfl⟩
 |D::l,w,hd,hn=>by
  rw[List.nodup_cons]at hn;have hD:=hd D akl;have a7:=(aku.1 hD).1;obtain⟨h1,h2,h3,h4,h5,h6⟩:=WB l (w.putObj D (.deferred none)) (fun E hE=>by
    have cu:E≠D:=fun e=>hn.1 (e▸hE);rw[World.putObj_heap_other cu];exact hd E (ako _ hE)) hn.2
  refine⟨h1.trans (by simp),fun b hb=> ?_,fun b o=> ?_,h4,h5,h6⟩
  ·exact(h2 b fun h=>hb (ako _ h)).trans (World.putObj_heap_other fun e=>hb (e▸akl))
  ·refine(h3 b o).trans ?_;by_cases e:b=D
   ·subst e;unfold World.cell?;simp only[World.putObj_heap_same a7,hD]
   ·exact World.cell?_of_block (World.putObj_heap_other e)
theorem VF{F:Fence}{n:Nat}{P:ak6}{fn:Func}{tmps:Array ak7}{R:Ending→ak8→Prop}:∀(l:ak3 Nat)(w:ak8),(∀D∈l,w.heap[D]?=some (.deferred (some [])))→l.Nodup→
 LeavesIn F n P fn tmps R [] .returning (oD l w)→LeavesInM F n P fn tmps R (l.map fun D=>{target:= .collected D,args:= #[]}) .returning w
 |[],w,_,_,h=>h
 |D::l,w,hd,hn,h=>by
  rw[List.nodup_cons]at hn;exact⟨by simp, .inl ⟨D,_,rfl,run_takeDeferred (hd D akl),VF l _ (fun E hE=>by
    have cu:E≠D:=fun e=>hn.1 (e▸hE);rw[World.putObj_heap_other cu];exact hd E (ako _ hE)) hn.2 h⟩⟩
theorem ajA{N0:Nat}{G G1:Gh}{w w':ak8}{a':Act}{s1:St}(hE:bR N0 {G with M:=w.heap.size} w G1 w')(hN:N0≤G1.N)(hz:∀b,G.Z b→b<w.heap.size)(hMw:G.M≤w.heap.size)(hs:cx G1 w' a' s1):
 ∃(w2:ak8)(G2:Gh),(∀(F:Fence)(n:Nat)(P:ak6)(fn:Func)(R:Ending→ak8→Prop),(∃v,(results fn a'.tmps).run P w2= .ok v w2∧R (.returned v) w2)→LeavesInM F n P fn a'.tmps R a'.defers .returning w')∧
  bR N0 G w G2 w2∧G2.N=G1.N∧cx G2 w2 {a' with defers:=[]} s1:=by
 obtain⟨l,l1,l2,l3⟩:=hs.df;have hd:∀D∈l,w'.heap[D]?=some (.deferred (some [])):=fun D hD=>(l3 D hD).2.2;obtain⟨h1,h2,h3,h4,h5,h6⟩:=WB l w' hd l1;have hM:G1.M=w.heap.size:=hE.Z.2;have hY:∀b,G.Z b→b ∉ l:=fun b hb hl=>by
  have:=(l3 b hl).1;have:=hz b hb;omega
 obtain⟨G2,fV⟩:∃G2:Gh,G2={G1 with Z:=G.Z,M:=G.M}:=⟨_,rfl⟩;have BW:∀b,G.Z b→G1.Z b:=hE.Z.1.1;have jn:bW G2 w' s1.h:=by rw[fV];exact hs.inv.zm _ _ BW (akx hMw hE.size)
 have iV:bR N0 G w G2 w':=by
  rw[fV];exact⟨hE.size,hE.S,hE.cell,hE.bm,hE.fr,fZ rfl,hE.old,hE.os,hE.tape,hE.output,hE.new⟩
 have jl:bR G2.N G2 w' G2 (oD l w'):=⟨by rw[h1];exact akq _,fun _ _ h=>h,fun b o _=>h3 b o,fun _ _=>rfl,fun _ _=> .inl ⟨rfl,rfl⟩,fZ rfl,fun b hb=>h2 b (hY b (by rw[fV]at hb;exact hb)),h4,h5,h6,fun _ _ h=> .inl h⟩;have J8:bW G2 (oD l w') s1.h:=⟨jn.len,fun b hb=>by rw[h1];exact jn.z b hb,fun b o hb=>by rw[h1];exact jn.S b o hb,fun n B hB=>dE.bo (jn.lt hB) jl (akq _) ⟨rfl,rfl,rfl⟩ (fun b hb=>⟨h2 b fun hl=>(hs.inv.cW n B hB).lI (by rw[fV]at hb;cases B<;>exact hb) (l3 b hl).2.1,fun _ h=>h⟩) (jn.cW n B hB),jn.inj,jn.gl.bo jl⟩;refine⟨oD l w',G2,fun F n P fn R h=> ?_,iV.trans (jl.less (by rw[fV];exact hN)),by rw[fV],⟨hs.size,fun i=>aN.bo jl (akq _) (by rw[fV];exact(hs.tmp i).zm _ _),J8,pY.nil _ _⟩⟩;rw[l2];exact VF l w' hd l1 h
section
variable {G:Gh} {w:ak8} {h:ak3 aq}
theorem ad5(hi:bW G w h)(fn:FuncId)(tm:Array ak7)(D p:Nat)(as bd:Code)(cs:ak3 AV)(hl:tm.size=cs.length)(hr:∀(i:Nat)(u:ak7)(c:AV),tm[i]?=some u→cs[i]?=some c→aN G w u c):bR G.N G w (G.dw w.heap.size) (w.alloc (.loop {state:= .ready,pending:=none,fn:=fn,tmps:=tm,params:= #[p],assign:=as,body:=bd,defers:=D}))∧bW (G.dw w.heap.size) (w.alloc (.loop {state:= .ready,pending:=none,fn:=fn,tmps:=tm,params:= #[p],assign:=as,body:=bd,defers:=D})) (h++[.lp .ready p as bd cs])∧aN (G.dw w.heap.size) (w.alloc (.loop {state:= .ready,pending:=none,fn:=fn,tmps:=tm,params:= #[p],assign:=as,body:=bd,defers:=D})) (.func (.yield w.heap.size) #[] #[]) (.cH h.length):=by
 have hE:=CU G w hi.z hi.S (.loop {state:= .ready,pending:=none,fn:=fn,tmps:=tm,params:= #[p],assign:=as,body:=bd,defers:=D});have hN:G.N≤(G.dw w.heap.size).N:=Nat.le_succ _;have iq:(G.dw w.heap.size).bm h.length=w.heap.size:=by simp [Gh.dw,hi.len]
 have lR:∀n(B:aq),n<G.N→B.dy (G.dw w.heap.size) n=B.dy G n:=fun n B hn=>by
  cases B<;>simp [aq.dy,Gh.dw,Nat.ne_of_lt hn]
 have fD:∀n,n<G.N→b6 (h++[.lp .ready p as bd cs]) (G.dw w.heap.size) n=b6 h G n:=fun n hn=>by
  have a7:n<h.length:=by rw[hi.len];exact hn
  unfold b6;rw[akp a7,akj a7];exact lR n _ hn
 have Fh:b6 (h++[.lp .ready p as bd cs]) (G.dw w.heap.size) h.length=some w.heap.size:=by
  rw[dm (B:= .lp .ready p as bd cs) (by simp)];exact congrArg some iq
 refine⟨hE,⟨by simp [Gh.dw,hi.len],fun b hb=>akD (hi.z b hb) hE.size,fun b o hs=>akD (hi.S b o hs) hE.size,fun n B hB=> ?_,fun m n b hm hn=> ?_,hi.gl.bo hE⟩,?_⟩
 ·by_cases hn:n<h.length
  ·rw[akp hn]at hB;have eG:n<G.N:=hi.len▸hn;exact dE.bo eG hE hN ⟨rfl,rfl,rfl⟩ (fun b hb=>⟨Below.heap_alloc w _ _ (hi.ia (n:=n) ((dm hB).trans hb)),fun o h=>h⟩) (hi.cW n B hB)
  ·have l4:n=h.length:=by
    have:=(akf.1 hB).1;simp at this;omega
   subst l4;simp at hB;subst hB;exact⟨by rw[iq];exact fun hz=>akT _ (hi.z _ hz),fun o hs=>by rw[iq]at hs;exact akT _ (hi.S _ _ hs),fn,tm,D,by rw[iq];exact World.alloc_heap_new w _,hl,fun i u c hu hc=>(hr i u c hu hc).bo hE hN⟩
 ·have key:∀n b,b6 (h++[.lp .ready p as bd cs]) (G.dw w.heap.size) n=some b→(n<G.N∧b6 h G n=some b)∨(n=h.length∧b=w.heap.size):=fun n b hn=>by
   by_cases a7:n<G.N
   ·exact .inl ⟨a7,by rw[←fD n a7];exact hn⟩
   ·by_cases e:n=h.length
    ·subst e;rw[Fh]at hn;cases hn;exact .inr ⟨rfl,rfl⟩
    ·rw[zf (akL (by simp;have:=hi.len;omega))]at hn;cases hn
  rcases key m b hm with⟨_,jT⟩|⟨rfl,rfl⟩<;>rcases key n _ hn with⟨_,eG⟩|⟨rfl,hb⟩
  ·exact hi.inj m n b jT eG
  ·have:=hi.ia jT;omega
  ·have:=hi.ia eG;omega
  ·rfl
 ·have:=aN.cH (G:=G.dw w.heap.size) (w:=w.alloc (.loop {state:= .ready,pending:=none,fn:=fn,tmps:=tm,params:= #[p],assign:=as,body:=bd,defers:=D})) h.length (by simp [Gh.dw,hi.len])
  rwa [iq]at this
theorem UQ{k:Nat}{B B':aq}{ob Ap:Obj}(hi:bW G w h)(hk:h[k]?=some B)(tI:B.dy G k=some (G.bm k))(hS:∀o,¬G.S (G.bm k) o)(mQ:w.heap[G.bm k]?=some ob)(hn:B'= .gone∨B'.dy G k=some (G.bm k))
 (hB:∀w',(∀b o,G.S b o→w'.cell? ⟨b,o,none⟩=w.cell? ⟨b,o,none⟩)→w'.heap[G.bm k]?=some Ap→bR G.N G w G w'→dE G w' k B'):bR G.N G w G (w.putObj (G.bm k) Ap)∧bW G (w.putObj (G.bm k) Ap) (h.set k B'):=by
 have a7:=(aku.1 mQ).1;have hZ:¬G.Z (G.bm k):=(hi.cW k B hk).lI tI;have gn:∀b,b≠G.bm k→(w.putObj (G.bm k) Ap).heap[b]?=w.heap[b]?:=fun b hb=>World.putObj_heap_other hb;have gb:∀b o,G.S b o→(w.putObj (G.bm k) Ap).cell? ⟨b,o,none⟩=w.cell? ⟨b,o,none⟩:=fun b o hs=>World.cell?_of_block (gn b (fun e=>hS o (e▸hs)));have hE:bR G.N G w G (w.putObj (G.bm k) Ap):=⟨by simp,fun _ _ h=>h,gb,fun _ _=>rfl,fun _ _=> .inl ⟨rfl,rfl⟩,fZ rfl,fun b hb=>gn b (fun e=>hZ (e▸hb)),rfl,rfl,rfl,fun _ _ h=> .inl h⟩;refine⟨hE,?_⟩;have hkl:=(akf.1 hk).1;have kT:(h.set k B')[k]?=some B':=by rw[akI hkl]
 have dV:∀m,m≠k→(h.set k B')[m]?=h[m]?:=fun m hm=>by rw[akN (Ne.symm hm)]
 have lE:b6 h G k=some (G.bm k):=(dm hk).trans tI;have dB:∀m b,b6 (h.set k B') G m=some b→b6 h G m=some b:=fun m b hb=>by
  by_cases e:m=k
  ·subst e;rw[dm kT]at hb;rcases hn with rfl|hn
   ·cases hb
   ·rw[hn]at hb;cases hb;exact lE
  ·unfold b6 at hb ⊢;rw[dV m e]at hb;exact hb
 refine⟨by rw[List.length_set];exact hi.len,fun b hb=>akD (hi.z b hb) hE.size,fun b o hs=>akD (hi.S b o hs) hE.size,fun m C hC=> ?_,fun m m' b h1 h2=>hi.inj m m' b (dB m b h1) (dB m' b h2),hi.gl.bo hE⟩;by_cases e:m=k
 ·subst e;rw[kT]at hC;cases hC
  exact hB _ gb (World.putObj_heap_same a7) hE
 ·rw[dV m e]at hC;have cu:∀b,b6 h G m=some b→b≠G.bm k:=fun b hb eb=>e (hi.inj m k b hb (by rw[eb];exact lE));exact dE.bo (hi.lt hC) hE (akq _) ⟨rfl,rfl,rfl⟩ (fun b hb=>⟨gn b (cu _ ((dm hC).trans hb)),fun o h=>h⟩) (hi.cW m C hC)
theorem IJ{k:Nat}{ls:LS}{p:Nat}{as bd:Code}{cs:ak3 AV}(hi:bW G w h)(hk:h[k]?=some (.lp ls p as bd cs)):
 (∀o,¬G.S (G.bm k) o)∧∃(fn:FuncId)(tm:Array ak7)(D:Nat),w.heap[G.bm k]?=some (.loop {state:=ls.st,pending:=ls.pd,fn:=fn,tmps:=tm,params:= #[p],assign:=as,body:=bd,defers:=D})∧tm.size=cs.length∧(∀(i:Nat)(u:ak7)(c:AV),tm[i]?=some u→cs[i]?=some c→aN G w u c)∧
   ∀(zq:LS),bR G.N G w G (w.putObj (G.bm k) (.loop {state:=zq.st,pending:=zq.pd,fn:=fn,tmps:=tm,params:= #[p],assign:=as,body:=bd,defers:=D}))∧bW G (w.putObj (G.bm k) (.loop {state:=zq.st,pending:=zq.pd,fn:=fn,tmps:=tm,params:= #[p],assign:=as,body:=bd,defers:=D})) (h.set k (.lp zq p as bd cs)):=by
 obtain⟨h1,h2,fn,tm,D,h3,h4,h5⟩:=hi.cW k _ hk;refine⟨h2,fn,tm,D,h3,h4,h5,fun zq=>UQ hi hk rfl h2 h3 (.inr rfl) fun w' hc dJ hE=>⟨h1,h2,fn,tm,D,dJ,h4,fun i u c hu iK=>(h5 i u c hu iK).bo hE (akq _)⟩⟩
theorem XT{k:Nat}{ls:LS}{p:Nat}{as bd:Code}{cs:ak3 AV}(hi:bW G w h)(hk:h[k]?=some (.lp ls p as bd cs))(ob:Obj):bR G.N G w G (w.putObj (G.bm k) ob)∧bW G (w.putObj (G.bm k) ob) (h.set k .gone):=by
 obtain⟨h1,h2,fn,tm,D,h3,h4,h5⟩:=hi.cW k _ hk;exact UQ hi hk rfl h2 h3 (.inl rfl) fun _ _ _ _=>trivial
theorem aaN(hi:bW G w h):bR G.N G w {G with Z:=fun b=>G.Z b∨b=w.heap.size} (w.alloc (.deferred (some [])))∧bW {G with Z:=fun b=>G.Z b∨b=w.heap.size} (w.alloc (.deferred (some []))) h:=by
 have hE:bR G.N G w {G with Z:=fun b=>G.Z b∨b=w.heap.size} (w.alloc (.deferred (some []))):=
  ⟨by simp,fun _ _ h=>h,fun b _ h=>World.cell?_alloc_lt _ _ _ (hi.S _ _ h),fun _ _=>rfl,fun _ _=> .inl ⟨rfl,rfl⟩,⟨⟨fun _ h=> .inl h,fun b h=>h.imp id fun e=>Nat.le_of_eq e.symm⟩,rfl⟩,fun b hb=>Below.heap_alloc w _ b (hi.z b hb),rfl,rfl,rfl,fun _ _ h=> .inl h⟩
 refine⟨hE,hi.len,fun b hb=> ?_,fun b o hs=>akD (hi.S b o hs) hE.size,fun n B hB=> ?_,fun m n b h1 h2=>hi.inj m n b (by rw[←HX (fun b=>G.Z b∨b=w.heap.size) G.M];exact h1) (by rw[←HX (fun b=>G.Z b∨b=w.heap.size) G.M];exact h2),hi.gl.bo hE⟩
 ·rcases hb with hb|rfl
  ·exact akD (hi.z b hb) hE.size
  ·simp
 ·exact dE.bo (hi.lt hB) hE (akq _) ⟨rfl,rfl,rfl⟩ (fun b hb=>⟨Below.heap_alloc w _ _ (hi.ia (n:=n) ((dm hB).trans hb)),fun o h=>h⟩) (hi.cW n B hB)
end
end Go.Proofs.YtpgmcallngdceaaGreatDoor
