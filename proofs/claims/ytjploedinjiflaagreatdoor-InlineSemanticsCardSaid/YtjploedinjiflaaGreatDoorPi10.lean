/-
  Part 10 of the proof.
-/
import Derived.Test.YtjploedinjiflaaGreatDoorPi9
set_option linter.defProp false
namespace Go.Proofs.YtjploedinjiflaaGreatDoor
open IntKind (u64 i64)
open Tryz
open Go.RowKit
set_option maxRecDepth 100000
set_option maxHeartbeats 0
set_option linter.unusedVariables false
def Z6{α β γ:Type}{a:Option α}{b:α->Option β}{f:α->β->Option γ}{r:γ}(h:Option.bind a (λx=>Option.bind (b x) (f x))=some r):∃x,a=some x/\∃y,b x=some y/\f x y=some r:=have⟨x,p,h⟩:=bJ h;have⟨y,q,h⟩:=bJ h;⟨x,p,y,q,h⟩
def Ys{α β:Type}{P:α->β->Prop}(a:α)(b:β)(h:P a b:=by kernel_rfl):∃a b,P a b:=⟨a,b,h⟩
def dB:aH:=⟨(0:Int64),(0:Int64)⟩
def gU:aQ:=⟨(0:Int),(0:Int),(0:Int),(0:Int),(0:Int)⟩
def iH:aK:=⟨(0:Int64),[]⟩
def zu:U AV:=[Y 0,cd (bs []),bg 0,bg 0,Y 0,Y 0,Y 0,Y 0,Y 0,bg 0,.d (.v (.slice none 0 0)),.d (.v (.slice none 0 0)),.d (.v (.slice none 0 0))]
def cf0(v:aQ)(r:U AV):U AV:=(Y v.bt)::(Y v.bW)::(Y v.bR)::(Y v.b9)::(Y v.b8)::r
def gF(v:aI)(r:U AV):U AV:=(I (bQ v.bj))::(I (dP v.cO))::(I (dA v.aS))::(I (dy v.ax))::(I (bQ v.cB))::r
def P7(N:Nat):U aK->Nat->O Bool
 |[],_=>some false
 |v4::a,b=>bif (decide ((v4.xL.length:Int)>20))then some true else(P7 N a (b+1))
def V3(N:Nat)(a:U aK):O Bool:=P7 N a 0
def aoU{N a}:KO 10 [I (dF a)] aG (V3 N a):=
 fw func10 (gA [[],[]] (gT ny 0 a λe=>eX 1 [] [0,3] 0 (λc=>⟨17,[(0,I (dF a)),(3,Y c)],[]⟩) (λc b f=>gR [[(7,oL a fJ)],[f0 (bY b)],[]]) (λc g j b f h=>gA [[(7,oL a fJ)],[t0 (bZ b)],[(7,oE (mQ (bA b))),(16,oL g.xL fO)]] (bV λi=>gb h () [[f0 i],[(5,oq (ck b rfl e))]] b))))
def AF(N:Nat)(b:Int)(d:au->Int->O Int):U au->Nat->Int->O Int
 |[],_,a=>some a
 |v10::c,e,a=>bif (decide (a<=b))then(d v10 (aY (b-a))).bind λf=>(λg=>AF N b d c (e+1) g) (aY (a+f))else some a
def NU(N:Nat)(b:Int->O Int)(c:Int):U aK->Nat->Int->O Int
 |[],_,a=>b a
 |d::e,f,a=>bif (decide (a<=c))then(λg=>NU N b c e (f+1) g) (aY (a+(d.xL.length:Int)))else b a
def Cy(N:Nat)(b:Int)(e:au->Int->O Int):U au->Nat->Int->O Int
 |[],_,a=>some a
 |c::f,g,a=>bif (decide (a<=b))then(e c (aY (b-a))).bind λd=>(λh=>Cy N b e f (g+1) h) (aY (a+d))else some a
def Du(N:Nat)(a:Int)(c:au->Int->O Int)(d:au):U aT->Nat->Int->O Int
 |[],_,b=>AF N a c d.bk 0 b
 |e::f,g,b=>bif (decide (b<=a))then NU N (λh=>Du N a c d f (g+1) h) a e.bC 0 (aY ((aY (b+(e.aU.xL.length:Int)))+(e.bC.length:Int)))else Cy N a c d.bk 0 b
def wo(N:Nat):Nat->au->Int->O Int
 |0,_,_=>none
 |d+1,a,b=>Du N b (wo N d) a a.xIdx 0 (aY ((aY ((1:Int)+(a.aU.xL.length:Int)))+(a.xIdx.length:Int)))
def WJ(N:Nat)(a:au)(b:Int):O Int:=wo N N a b
abbrev L2:=λa=>([.cells (aL a).cells]:List ao)
def alP(N:Nat):∀d:Nat,(∀{a:au}{h:Int},KO 11 [aL a,Y h] Y (wo N d a h)):=by
 intro d
 induction d with
 |zero=>intro a h r J;rw[wo]at J;cases J
 |succ d ih=>
  have k:= @ih;intro a h;rw[wo];exact fw func11 (gA [[],[(10,oL a.aU.xL fO),(22,oL a.xIdx gv)],[]] (gB po 0 11 a.xIdx λx=>iC 1 [] [1,2,5,6] 1 (λm(o:Int)=>⟨101,[(1,Y h),(2,A1),(5,Y o),(6,Y m)],L2 a⟩) (λm o b A=>gA [[(10,oL a.xIdx gv),(18,bF (bY b)),(21,bF (bY b)),(24,bF (bY b)),(28,bF (bY b))],[(0,bF rfl)],[]] (gB qi 0 12 a.bk λB=>iC 2 [] [1,2,5,8] 1 (λp(g:Int)=>⟨101,[(1,Y h),(2,A1),(5,Y g),(8,Y p)],L2 a⟩) (λp g c C=>gR [[(10,oL a.bk iM),(18,bF (bY c)),(21,bF (bY c)),(24,bF (bY c)),(28,bF (bY c))],[(0,bF rfl)],[]]) (λp E F g c C G=>gA [[(10,oL a.bk iM),(18,bT (bZ c)),(21,bT (bZ c)),(24,bT (bZ c)),(28,bT (bZ c))]] (tY λH=>ay λK L=>gb G (aY (g+K)) [[(0,bT H)],[(13,oE (kg (bA c))),(28,cK k L)],[(5,oq (ck c rfl B))]] c)))) (λm l v6 o b A y=>gA [[(10,oL a.xIdx gv),(18,bT (bZ b)),(21,bT (bZ b)),(24,bT (bZ b)),(28,bT (bZ b))]] (aC (λq=>gA [[(0,bT q)],[(13,oE (j5 (bA b))),(25,oL l.aU.xL fO),(40,oE (j5 (bA b))),(49,oL l.bC fJ)],[]] (liH (λ_=>(agb 0 11 (cg a.xIdx) km ·)) λM=>have P:=tX fJ (asn (j:=3) (d:= .sl (dF l.bC)) M (j5 (bA b)) rfl);iC 3 [] [1,2,5,6,7] 1 (λt(i:Int)=>⟨101,[(1,Y h),(2,A1),(5,Y i),(6,Y m),(7,Y t)],L2 a⟩) (λt i e Q=>gb y i [[(13,oE (j5 (bA b))),(22,oL l.bC fJ),(30,bF (bY e)),(33,bF (bY e)),(36,bF (bY e)),(40,bF (bY e))],[(0,bF rfl)],[(5,oq (ck b rfl x))]] b) (λt z a7 i e Q R=>gA [[(13,oE (j5 (bA b))),(22,oL l.bC fJ),(30,bT (bZ e)),(33,bT (bZ e)),(36,bT (bZ e)),(40,bT (bZ e))]] (aC (λu=>gb R (aY (i+(z.xL.length:Int))) [[(0,bT u)],[(13,oE (j5 (bA b))),(25,oE (mQ (bA e))),(34,oL z.xL fO)],[(5,oq (ck e rfl P))]] e) λu=>gb y i [[(0,bF u)],[(5,oq (ck b rfl x))]] b)))) λq=>gA [[(0,bF q)],[]] (gB qi 0 12 a.bk λS=>iC 4 [] [1,2,5,8] 1 (λv(n:Int)=>⟨101,[(1,Y h),(2,A1),(5,Y n),(8,Y v)],L2 a⟩) (λv n f T=>gR [[(10,oL a.bk iM),(18,bF (bY f)),(21,bF (bY f)),(24,bF (bY f)),(28,bF (bY f))],[(0,bF rfl)],[]]) (λv W dM n f T pk=>gA [[(10,oL a.bk iM),(18,bT (bZ f)),(21,bT (bZ f)),(24,bT (bZ f)),(28,bT (bZ f))]] (tY λdQ=>ay λw dJ=>gb pk (aY (n+w)) [[(0,bT dQ)],[(13,oE (kg (bA f))),(28,cK k dJ)],[(5,oq (ck f rfl S))]] f)))))))
def aqV{N a b}:KO 11 [aL a,Y b] Y (WJ N a b):=(alP N N)
def Ie(N:Nat)(a:aF)(d:O Bool):Nat->Int->O Bool
 |0,_=>none
 |e+1,b=>bif (decide (b<(aY ((a.aJ.length:Int)+(a.bI.length:Int)))))then bif (Nat.ble ((0+a.aJ.length)*48) 140737488355328)then bif (Nat.ble ((a.aJ.length+a.bI.length)*48) 140737488355328)then bif (decide ((0:Int)<=b))then((a.aJ++a.bI)[(b).toNat]?).bind λc=>bif (decide ((c.dq.xL.length:Int)>20))then some true else(λf=>Ie N a d e f) (aY (b+(1:Int)))else none else none else none else d
def FK(N:Nat)(b:Int):U aF->Nat->O Bool
 |[],_=>some false
 |a::d,c=>(bif (decide ((a.aJ.length:Int)>12))then some true else(bif (decide ((a.bI.length:Int)>12))then some true else (WJ N a.aX b).bind λe=>some (decide (e>b)))).bind λf=>bif f then some true else Ie N a (FK N b d (c+1)) N (0:Int)
def K4(N:Nat)(c:Int)(d:aI):U cl->Nat->O Bool
 |[],_=>FK N c d.ax 0
 |v10::a,e=>(bif (decide ((v10.aJ.length:Int)>12))then some true else (V3 N v10.aJ).bind λb=>some b).bind λf=>bif f then some true else(K4 N c d a (e+1))
def NV(N:Nat)(b:Int)(a:aI):U cQ->Nat->O Bool
 |[],_=>K4 N b a a.aS 0
 |v6::c,d=>bif (decide ((v6.aU.xL.length:Int)>20))then some true else(NV N b a c (d+1))
def Hh(N:Nat)(a:aI)(b:Int):O Bool:=(bif (decide ((a.bj.length:Int)>12))then some true else(bif (decide ((a.cO.length:Int)>12))then some true else(bif (decide ((a.aS.length:Int)>12))then some true else(bif (decide ((a.ax.length:Int)>12))then some true else some (decide ((a.cB.length:Int)>12)))))).bind λc=>bif c then some true else NV N b a a.cO 0
def xx(a:aI)(l:U ao):U ao:= .cells (di a).cells::l
abbrev Rj:=λa=>([.cells (dX a).cells]:List ao)
def arL{N a d}:KO 4 [di a,Y d] aG (Hh N a d):=
 fw func4 (gA [[]] (gG (λw=>[(38,aG w)]) (λ_=>(xx a [])) (dH (7,oL a.bj jt) (aC (λk=>gE [(4,bT k),(10,bT rfl),(16,bT rfl),(22,bT rfl)] []) λk=>dS (4,bF k) (dH (22,oL a.cO ql) (aC (λl=>gE [(10,bT l),(16,bT rfl),(22,bT rfl)] []) λl=>dS (10,bF l) (dH (40,oL a.aS pe) (aC (λm=>gE [(16,bT m),(22,bT rfl)] []) λm=>dS (16,bF m) (dH (58,oL a.ax kO) (aC (λn=>gE [(22,bT n)] []) λn=>gE [(22,bF n)] [(76,oL a.cB jt)])))))))) λw=>iy λ_=>gB E5 0 1 a.cO λz=>eX 1 [] [1,2,5] 1 (λo=>⟨135,[(1,Y d),(2,A1),(5,Y o)],xx a []⟩) (λo f A=>gA [[(10,oL a.cO ql)],[f0 (bY f)],[]] (gB Fs 0 2 a.aS λB=>eX 2 [] [1,2,6] 1 (λp=>⟨135,[(1,Y d),(2,A1),(6,Y p)],xx a []⟩) (λp e C=>gA [[(10,oL a.aS pe)],[f0 (bY e)],[]] (gB Ci 0 3 a.ax λE=>eX 3 [] [1,2,7] 1 (λc=>⟨135,[(1,Y d),(2,A1),(7,Y c)],xx a []⟩) (λc g F=>gR [[(10,oL a.ax kO)],[f0 (bY g)],[]]) (λc b G g F H=>gA [[(10,oL a.ax kO)],[t0 (bZ g)],[(10,oE (nI (bA g)))]] (gG (λx=>[(108,aG x)]) (λ_=>(xx a (Rj b))) (dH (7,oL b.aJ kt) (aC (λq=>gE [(4,bT q),(10,bT rfl)] []) λq=>dS (4,bF q) (dH (22,oL b.bI kt) (aC (λr=>gE [(10,bT r)] []) λr=>ay λaW J=>gE [(10,bF r)] [(43,cK aqV J)])))) λx=>bV λK=>Xh 4 [[f0 K],[]] [1,2,7,8,9] 2 (λ(j:Int)=>⟨135,[(1,Y d),(2,A1),(7,Y c),(8,An),(9,Y j)],xx a (Rj b)⟩) (Ie N b (FK N d G (c+1))) (λaP j f4 L=>gA [[(10,oL b.aJ kt),(19,oL b.bI kt)]] (aC (λt=>gA [[t0 t]] (dW λM=>dW λP=>dW λQ=>ay λh R=>li (λ_=>(aex 3 bH [(10,Ar)] (xx a [.cells (dX b).cells,.front 65 3 (b.aJ++b.bI).length,.cells (vO h).cells]) ⟨[(10,awq qD b.aJ M),(19,oA qD b.aJ b.bI P),(25,⟨_,_,.el (xs:=dC (b.aJ++b.bI)) (i:=j) (Tr Q) (uo R)⟩)],by kernel_rfl⟩ ·)) (gA [[(10,oL h.dq.xL fO)]] (bV λS=>Na L (aY (j+(1:Int))) [[f0 S],[]])))) λt=>gb H () [[f0 t],[(5,oq (ck g rfl E))]] g)))))) (λp u T e C W=>gA [[(10,oL a.aS pe)],[t0 (bZ e)]] (gG (λy=>[(78,aG y)]) (λ_=>(xx a [])) (dH (10,oE (xM (bA e))) (dH (19,oL u.aJ fJ) (aC (λv=>gE [(8,bT v)] []) λv=>ay λv21 mo=>gE [(8,bF v)] [(37,oE (xM (bA e))),(46,cK aoU mo)]))) λy=>bV λoG=>gb W () [[f0 oG],[(5,oq (ck e rfl B))]] e)))) (λo v6 v7 f A aV=>gA [[(10,oL a.cO ql)],[t0 (bZ f)],[(10,oE (C3 (bA f))),(22,oL v6.aU.xL fO)]] (bV λvG=>gb aV () [[f0 vG],[(5,oq (ck f rfl z))]] f))))
def Vq(N:Nat)(a:so):O aK:=some (⟨0,[(⟨a,(1:Int64)⟩:bD)]⟩:aK)
def abZ{N a}:KO 12 [cd a] cJ (Vq N a):=
 fw func12 (gR [[],[]])
def ahH(N:Nat)(b:so):U aK->Nat->(U aT)->O au
 |[],_,a=>some (⟨3,b,dB,gU,iH,a,[]⟩:au)
 |c::d,e,a=>bif (Nat.ble ((a.length+1)*72) 140737488355328)then(λf=>ahH N b d (e+1) f) (a++[(⟨c,bs [],[]⟩:aT)])else none
def LZ(N:Nat)(a:so)(b:U aK):O au:=ahH N a b 0 []
def S3{N e a}:KO 14 [cd e,I (dF a)] aL (LZ N e a):=
 fw func14 (gA [[],[],[]] (li (λ_=>(MY 1 11 93 4 [] (.inr km) ·)) (gT ny 1 a λh=>FI 1 [] [1,4,5,6] 3 [] [(0,10),(0,11),(0,12),(1,10),(1,12)] (λf(b:(U aT))=>⟨26,[(1,I (dF a)),(4,A1),(5,An),(6,Y f)],[.cells zu,.cells [Y 3,cd e,bg 0,bg 0,Y 0,Y 0,Y 0,Y 0,Y 0,bg 0,.d (.v (.slice none 0 0)),.own 2 (cg b),.d (.v (.slice none 0 0))],.front 93 4 b.length]⟩) (λf b c i=>gR [[(7,oL a fJ)],[f0 (bY c)],[]]) (λf g l b c i j=>dW λk=>yp j (b++[(⟨g,bs [],[]⟩:aT)]) [[(7,oL a fJ)],[t0 (bZ c)],[(13,oE (mQ (bA c))),(25,oA po b ([(⟨g,bs [],[]⟩:aT)]) k)],[(5,oq (ck c rfl h))]] c))))
def Lz(N:Nat)(a:aK)(b:Int)(c:so)(d:aH)(e:aQ)(f:Int64):O au:=(LZ N (bs [97]) [a]).bind λg=>some (⟨4,bs [],dB,gU,iH,[],[g,(⟨b,c,d,e,(⟨f,[]⟩:aK),[],[]⟩:au)]⟩:au)
def RH{N g b c a e f}:KP 13 [cJ g,A1] [.cells ((Y b)::(cd c)::(bg a.xN)::(bg a.xD)::cf0 e [bg f,I [],I [],I []])] aL (λ_=>[.cells ((Y b)::(cd c)::(bg a.xN)::(bg a.xD)::cf0 e [bg f,I [],I [],I []])]) (Lz N g b c a e f):=
 fh 1 func13 (ay λh i=>gH [[],[(7,cK S3 i),(14,oq (congrArg AV.full (oY [h,(⟨b,c,a,e,(⟨f,[]⟩:aK),[],[]⟩:au)]).symm))]])
def U0(N:Nat)(a:au)(b:au):O au:=some (⟨6,bs [],dB,gU,iH,[],[a,b]⟩:au)
def abC{N a b}:KO 15 [aL a,aL b] aL (U0 N a b):=
 fw func15 (gR [[],[(8,oq (congrArg AV.full (oY [a,b]).symm))]])
def Mo(N:Nat)(a:aI):O Bool:=(bif (decide ((if(a.cB.length:Int)>(if(a.ax.length:Int)>(if(a.aS.length:Int)>(a.bj.length:Int)then(a.aS.length:Int)else(a.bj.length:Int))then(a.ax.length:Int)else(if(a.aS.length:Int)>(a.bj.length:Int)then(a.aS.length:Int)else(a.bj.length:Int)))then(a.cB.length:Int)else(if(a.ax.length:Int)>(if(a.aS.length:Int)>(a.bj.length:Int)then(a.aS.length:Int)else(a.bj.length:Int))then(a.ax.length:Int)else(if(a.aS.length:Int)>(a.bj.length:Int)then(a.aS.length:Int)else(a.bj.length:Int))))<=64))then some (decide ((a.cO.length:Int)<=256))else some false).bind λb=>some b
abbrev RX:=λa=>([.cells (di a).cells]:List ao)
def atO{N a}:KO 54 [di a] aG (Mo N a):=
 fw func54 (gA [[]] (gG (λc=>[(2,aG c)]) (λ_=>(RX a)) (dH (7,oL a.bj jt) (dH (16,oL a.aS pe) (dH (25,oL a.ax kO) (dH (34,oL a.cB jt) (aC (λb=>gE [(14,bT b)] [(52,oL a.cO ql)]) λb=>gE [(14,bF b)] []))))) λc=>gR []))
def JC(N:Nat)(a:Int):O Bool:=(bif (decide (a>=97))then some (decide (a<=122))else some false).bind λb=>some b
def ac1{N b}:KO 136 [.d (.v (.int .i32 b))] aG (JC N b):=
 fw func136 (gA [[]] (gG (λc=>[(2,aG c)]) (λ_=>[]) (aC (λa=>gE [(2,bT a)] []) λa=>gE [(2,bF a)] []) λc=>gR []))
def Ke(N:Nat)(a:Int):O Bool:=(bif (decide (a>=48))then some (decide (a<=57))else some false).bind λb=>some b
def apm{N b}:KO 173 [.d (.v (.int .i32 b))] aG (Ke N b):=
 fw func173 (gA [[]] (gG (λc=>[(2,aG c)]) (λ_=>[]) (aC (λa=>gE [(2,bT a)] []) λa=>gE [(2,bF a)] []) λc=>gR []))
def MR(N:Nat)(a:Int):O Bool:=(JC N a).bind λb=>(bif b then some true else (Ke N a).bind λc=>(bif c then some true else some (a==95))).bind λd=>some d
def auu{N c}:KO 138 [.d (.v (.int .i32 c))] aG (MR N c):=
 fw func138 (gA [[]] (ay λh f=>gG (λe=>[(2,aG e)]) (λ_=>[]) (dH (4,cK ac1 f) (aC (λa=>gE [(2,bT a),(6,bT rfl)] []) λa=>ay λi g=>dS (2,bF a) (dH (13,cK apm g) (aC (λb=>gE [(6,bT b)] []) λb=>gE [(6,bF b)] [])))) λe=>gR []))
def Gm(N:Nat)(b:so):Nat->Int->O Int
 |0,_=>none
 |c+1,a=>(bif (decide (a<(b.size:Int)))then bif (decide ((0:Int)<=a))then(b[(a).toNat]?).bind λd=>(MR N (IntKind.i32.wrap (d.toNat:Int))).bind λe=>some e else none else some false).bind λf=>bif f then(λg=>Gm N b c g) (aY (a+(1:Int)))else some a
def Mt(N:Nat)(a:so):O Int:=Gm N a N (0:Int)
def aiN{N a}:KP 137 [cd a,.fn 138 []] [] Y (λ_=>[]) (Mt N a):=
 fh 0 func137 (Xh 1 [[],[]] [0,1,5] 0 (λ(b:Int)=>⟨21,[(0,cd a),(1,.fn 138 []),(5,Y b)],[]⟩) (Gm N a) (λk b l f=>gG (λe=>[(17,aG e)]) (λ_=>[]) (aC (λc=>dW λg=>ay λm h=>ay λn j=>gE [(4,bT c)] [(25,⟨_,_,.ch (i:=b) (Tr g) h⟩),(31,cK auu j)]) λc=>gE [(4,bF c)] []) λe=>aC (λd=>Na f (aY (b+(1:Int))) [[t0 d],[]]) λd=>gH [[f0 d],[]]))
def UN(N:Nat):O (U so):=some p7
def apg{N r}(J:UN N=some r):gq prog 174 [] (·=(I (bQ r))):=by
 cases J;exact ata
def Kj(N:Nat)(a:so):U so->Nat->O Int
 |[],_=>some (-1:Int)
 |c::d,b=>bif (bL a==bL c)then some (b:Int)else(Kj N a d (b+1))
def On(N:Nat)(a:U so)(b:so):O Int:=Kj N b a 0
def aiP{N a c}:KO 53 [I (bQ a),cd c] Y (On N a c):=
 fw func53 (gA [[],[(4,oL a jt)]] (gT tR 0 a λf=>eX 1 [] [0,1,7,8] 0 (λe=>⟨19,[(0,I (bQ a)),(1,cd c),(7,Y a.length),(8,Y e)],[]⟩) (λe b g=>gR [[],[f0 (bY b)],[]]) (λe j k b g h=>gA [[],[t0 (bZ b)],[],[(10,oE (rM (bA b)))]] (bV λi=>gb h () [[f0 i],[(2,oq (ck b rfl f))]] b))))
def g_slices_Contains_string_string(N:Nat)(a:U so)(b:so):O Bool:=(On N a b).bind λc=>some (decide (c>=0))
def Ry{N a b}:KO 24 [I (bQ a),cd b] aG (g_slices_Contains_string_string N a b):=
 fw func24 (ay λe c=>gR [[],[(7,cK aiP c)]])
def PM(N:Nat)(a:so):O Bool:=(UN N).bind λb=>(g_slices_Contains_string_string N b a).bind λc=>some c
def atv{N a}:KO 139 [cd a] aG (PM N a):=
 fw func139 (ay λd b=>ay λe c=>gR [[],[(1,cL (apg b)),(7,cK Ry c)]])
def zS(N:Nat)(a:so):O Bool:=(bif (bL a==bL (bs []))then some false else(bif (decide ((a.size:Int)<=16))then (a[0]?).bind λb=>(JC N (IntKind.i32.wrap (b.toNat:Int))).bind λc=>(bif c then (Mt N a).bind λd=>(bif (d==(a.size:Int))then (PM N a).bind λe=>some (!e)else some false)else some false)else some false)).bind λf=>some f
def Lx{N a}:KO 95 [cd a] aG (zS N a):=
 fw func95 (gA [[]] (gG (λf=>[(2,aG f)]) (λ_=>[]) (aC (λb=>gE [(2,bF (dG b)),(7,bF rfl),(13,bF rfl),(20,bF rfl)] []) λb=>dS (2,bT (eF b)) (aC (λc=>ay λl g=>ay λm h=>dS (7,bT c) (dH (28,⟨_,_,.ch (i:=0) gy g⟩) (dH (34,cK ac1 h) (aC (λd=>ay λn j=>dS (13,bT d) (dH (46,oQ [cd a,.fn 138 []] [] [] (aiN _ j)) (aC (λe=>ay λo k=>gE [(20,bT e)] [(67,cK atv k)]) λe=>gE [(20,bF e)] []))) λd=>gE [(13,bF d),(20,bF rfl)] [])))) λc=>gE [(7,bF c),(13,bF rfl),(20,bF rfl)] [])) λf=>gR []))
def Dr(N:Nat)(b:so)(c:Int)(e:aI)(a:U (so×Int)):O (Int×(U (so×Int))):=(zS N b).bind λd=>bif d then bif ((ic a b 0) !=0)then some ((8:Int),a)else bif (Nat.blt a.length 9223372036854775807)then some ((0:Int),((b,c)::a))else none else some ((7:Int),a)
abbrev Ix:=λa b=>([.cells (gF a [.mp 1]),.map (fV b)]:List ao)
def S0{N a f b c}:KP 55 [A1,cd a,Y f] (Ix b c) (λr=>Y r.1) (λr=>(Ix b r.2)) (Dr N a f b c):=
 fh 2 func55 (ay λi g=>gA [[],[(4,cK Lx g)]] (aC (λd=>gA [[f0 (dG d)],[(17,oq (HB false c a))]] (aC (λe=>gH [[t0 e],[]]) λe=>dW λh=>gH [[f0 e],[(19,⟨_,_,.sd (o:= .none) (SQ h)⟩)],[]])) λd=>gH [[t0 (eF d)],[]]))
def jK(N:Nat)(a:Bool):O Bool:=bif a then some true else some false
def PY(N:Nat)(a:so):O Bool:=bif (bL a==bL (bs [115,105,122,101]))then jK N (bL a==bL (bs [115,105,122,101]))else bif (bL a==bL (bs [119,104,101,114,101]))then jK N (bL a==bL (bs [119,104,101,114,101]))else bif (bL a==bL (bs [105,110]))then jK N (bL a==bL (bs [105,110]))else bif (bL a==bL (bs [100,101,102]))then jK N (bL a==bL (bs [100,101,102]))else bif (bL a==bL (bs [111,117,116]))then jK N (bL a==bL (bs [111,117,116]))else bif (bL a==bL (bs [115,117,109]))then jK N (bL a==bL (bs [115,117,109]))else bif (bL a==bL (bs [112,114,111,100]))then jK N (bL a==bL (bs [112,114,111,100]))else bif (bL a==bL (bs [109,105,110]))then jK N (bL a==bL (bs [109,105,110]))else bif (bL a==bL (bs [109,97,120]))then jK N (bL a==bL (bs [109,97,120]))else bif (bL a==bL (bs [115,99,97,110]))then jK N (bL a==bL (bs [115,99,97,110]))else bif (bL a==bL (bs [111,118,101,114]))then jK N (bL a==bL (bs [111,118,101,114]))else bif (bL a==bL (bs [105,102]))then jK N (bL a==bL (bs [105,102]))else bif (bL a==bL (bs [99,97,115,116]))then jK N (bL a==bL (bs [99,97,115,116]))else bif (bL a==bL (bs [102,114,97,99]))then jK N (bL a==bL (bs [102,114,97,99]))else bif (bL a==bL (bs [105,110,116]))then jK N (bL a==bL (bs [105,110,116]))else bif (bL a==bL (bs [102,105,120]))then jK N (bL a==bL (bs [102,105,120]))else bif (bL a==bL (bs [99,101,105,108]))then jK N (bL a==bL (bs [99,101,105,108]))else bif (bL a==bL (bs [102,108,111,111,114]))then jK N (bL a==bL (bs [102,108,111,111,114]))else bif (bL a==bL (bs [122,101,114,111]))then jK N (bL a==bL (bs [122,101,114,111]))else bif (bL a==bL (bs [101,118,101,110]))then jK N (bL a==bL (bs [101,118,101,110]))else bif (bL a==bL (bs [115,97,116]))then jK N (bL a==bL (bs [115,97,116]))else jK N (bL a==bL (bs [119,114,97,112]))
def arR{N a}:KO 172 [cd a] aG (PY N a):=
 fw func172 (nF 1 [[],[],[]] [4] 0 (λ(y:Bool)=>⟨27,[(4,aG y)],[]⟩) (jK N) (λA b=>aC (λc=>gm b (bL a==bL (bs [115,105,122,101])) [[t0 c]]) λc=>gA [[f0 c],[]] (aC (λd=>gm b (bL a==bL (bs [119,104,101,114,101])) [[t0 d]]) λd=>gA [[f0 d],[]] (aC (λe=>gm b (bL a==bL (bs [105,110])) [[t0 e]]) λe=>gA [[f0 e],[]] (aC (λf=>gm b (bL a==bL (bs [100,101,102])) [[t0 f]]) λf=>gA [[f0 f],[]] (aC (λg=>gm b (bL a==bL (bs [111,117,116])) [[t0 g]]) λg=>gA [[f0 g],[]] (aC (λh=>gm b (bL a==bL (bs [115,117,109])) [[t0 h]]) λh=>gA [[f0 h],[]] (aC (λi=>gm b (bL a==bL (bs [112,114,111,100])) [[t0 i]]) λi=>gA [[f0 i],[]] (aC (λj=>gm b (bL a==bL (bs [109,105,110])) [[t0 j]]) λj=>gA [[f0 j],[]] (aC (λk=>gm b (bL a==bL (bs [109,97,120])) [[t0 k]]) λk=>gA [[f0 k],[]] (aC (λl=>gm b (bL a==bL (bs [115,99,97,110])) [[t0 l]]) λl=>gA [[f0 l],[]] (aC (λm=>gm b (bL a==bL (bs [111,118,101,114])) [[t0 m]]) λm=>gA [[f0 m],[]] (aC (λn=>gm b (bL a==bL (bs [105,102])) [[t0 n]]) λn=>gA [[f0 n],[]] (aC (λo=>gm b (bL a==bL (bs [99,97,115,116])) [[t0 o]]) λo=>gA [[f0 o],[]] (aC (λp=>gm b (bL a==bL (bs [102,114,97,99])) [[t0 p]]) λp=>gA [[f0 p],[]] (aC (λq=>gm b (bL a==bL (bs [105,110,116])) [[t0 q]]) λq=>gA [[f0 q],[]] (aC (λr=>gm b (bL a==bL (bs [102,105,120])) [[t0 r]]) λr=>gA [[f0 r],[]] (aC (λt=>gm b (bL a==bL (bs [99,101,105,108])) [[t0 t]]) λt=>gA [[f0 t],[]] (aC (λu=>gm b (bL a==bL (bs [102,108,111,111,114])) [[t0 u]]) λu=>gA [[f0 u],[]] (aC (λv=>gm b (bL a==bL (bs [122,101,114,111])) [[t0 v]]) λv=>gA [[f0 v],[]] (aC (λw=>gm b (bL a==bL (bs [101,118,101,110])) [[t0 w]]) λw=>gA [[f0 w],[]] (aC (λx=>gm b (bL a==bL (bs [115,97,116])) [[t0 x]]) λx=>gm b (bL a==bL (bs [119,114,97,112])) [[f0 x],[]]))))))))))))))))))))) (λy=>bV λz=>gR [[f0 z],[]]))
def Cx(N:Nat)(c:so):Nat->Int->O Bool
 |0,_=>none
 |d+1,b=>bif (decide (b<(c.size:Int)))then bif (decide ((0:Int)<=b))then(c[(b).toNat]?).bind λa=>(bif (decide ((a.toNat:Int)<97))then(bif (decide ((a.toNat:Int)<48))then some ((a.toNat:Int) !=95)else(bif (decide ((a.toNat:Int)>57))then some ((a.toNat:Int) !=95)else some false))else(bif (decide ((a.toNat:Int)>122))then(bif (decide ((a.toNat:Int)<48))then some ((a.toNat:Int) !=95)else(bif (decide ((a.toNat:Int)>57))then some ((a.toNat:Int) !=95)else some false))else some false)).bind λe=>bif e then some false else(λf=>Cx N c d f) (aY (b+(1:Int)))else none else some true
def Iq(N:Nat)(a:so):O Bool:=(bif (decide ((a.size:Int)<1))then some true else(bif (decide ((a.size:Int)>16))then some true else (PY N a).bind λc=>(bif c then some true else (a[0]?).bind λb=>(bif (decide ((b.toNat:Int)<97))then some true else some (decide ((b.toNat:Int)>122)))))).bind λd=>bif d then some false else Cx N a N (0:Int)
def aaC{N a}:KO 130 [cd a] aG (Iq N a):=
 fw func130 (gA [[]] (gG (λn=>[(26,aG n)]) (λ_=>[]) (aC (λe=>gE [(3,bT e),(8,bT rfl),(12,bT rfl),(17,bT rfl)] []) λe=>dS (3,bF e) (aC (λf=>gE [(8,bT f),(12,bT rfl),(17,bT rfl)] []) λf=>ay λy q=>dS (8,bF f) (dH (31,cK arR q) (aC (λg=>gE [(12,bT g),(17,bT rfl)] []) λg=>ay λz o=>dS (12,bF g) (dH (43,⟨_,_,.ch (i:=0) gy o⟩) (aC (λh=>gE [(17,bT h)] []) λh=>gE [(17,bF h)] [(58,⟨_,_,.ch (i:=0) gy o⟩)])))))) λn=>bV λr=>Xh 1 [[f0 r],[]] [0,28,29] 0 (λ(d:Int)=>⟨54,[(0,cd a),(28,Y (a.size:Int)),(29,Y d)],[]⟩) (Cx N a) (λA d B t=>gA [[]] (tY λu=>dW λv=>ay λC w=>gA [[t0 u],[],[(7,⟨_,_,.ch (i:=d) (Tr v) w⟩)]] (gG (λp=>[(52,aG p)]) (λ_=>[]) (aC (λj=>dS (2,bT j) (dS (6,bT rfl) (aC (λb=>gE [(9,bT b),(14,bT rfl)] [(37,bT b)]) λb=>dS (9,bF b) (dH (37,bF b) (aC (λk=>gE [(14,bT k)] []) λk=>gE [(14,bF k)] []))))) λj=>dS (2,bF j) (aC (λl=>dS (6,bT l) (aC (λc=>gE [(9,bT c),(14,bT rfl)] [(37,bT c)]) λc=>dS (9,bF c) (dH (37,bF c) (aC (λm=>gE [(14,bT m)] []) λm=>gE [(14,bF m)] [])))) λl=>gE [(6,bF l),(9,uN),(14,bF rfl)] [])) λp=>bV λx=>Na t (aY (d+(1:Int))) [[f0 x],[]])))))
def Mp(N:Nat)(b:aK):U bD->Nat->O Int
 |[],_=>some (0:Int)
 |v4::c,a=>(Iq N v4.ar).bind λd=>(bif d then(bif (v4.dh.toInt==0)then some true else(bif (decide ((a:Int)>0))then bif (decide ((0:Int)<=(aY ((a:Int)-(1:Int)))))then(b.xL[(aY ((a:Int)-(1:Int))).toNat]?).bind λe=>some (!(Op.bytesLess (bL e.ar) (bL v4.ar)))else none else some false))else some true).bind λf=>bif f then some (1:Int)else(Mp N b c (a+1))
def uU(N:Nat)(a:aK):O Int:=Mp N a a.xL 0
abbrev T6:=λa=>([.cells (cJ a).cells]:List ao)
def zM{N a}:KO 131 [cJ a] Y (uU N a):=
 fw func131 (gA [[],[(7,oL a.xL fO)]] (gT rm 6 a.xL λj=>eX 1 [] [1,6,7,8] 1 (λe=>⟨39,[(1,A1),(6,I (cY a.xL)),(7,Y a.xL.length),(8,Y e)],T6 a⟩) (λe b k=>gR [[],[f0 (bY b)],[]]) (λe l r b k m=>gA [[],[t0 (bZ b)],[(4,oE (jL (bA b)))]] (ay λt n=>gG (λh=>[(37,aG h)]) (λ_=>[.cells (cJ a).cells,.cells (lB l).cells]) (dH (7,cK aaC n) (aC (λf=>dS (4,bF (dG f)) (aC (λg=>gE [(9,bT g),(12,uN)] []) λg=>dS (9,bF g) (aC (λc=>dW λo=>ay λu p=>gE [(12,bT c)] [(52,⟨_,_,.el (xs:=cY a.xL) (i:=(aY ((e:Int)-(1:Int)))) (Tr o) (jL p)⟩),(70,bT c)]) λc=>gE [(12,bF c)] [(70,bF c)]))) λf=>gE [(4,bT (eF f)),(9,bT rfl),(12,uN)] [])) λh=>bV λq=>gb m () [[f0 q],[(2,oq (ck b rfl j))]] b))))
def Ro(N:Nat)(a:cQ):O Int:=(uU N a.aU).bind λb=>some b
def alE{N a}:KO 96 [pH a] Y (Ro N a):=
 fw func96 (ay λc b=>gR [[],[(7,cK zM b)]])
def Oc(N:Nat)(a:U (so×Int)):U bD->Nat->O Int
 |[],_=>some (0:Int)
 |b::c,d=>bif ((ic a b.ar 0) !=1)then some (9:Int)else(Oc N a c (d+1))
def Cr(N:Nat)(a:aK)(d:aI)(b:U (so×Int)):O Int:=(uU N a).bind λc=>bif (c !=0)then some (1:Int)else Oc N b a.xL 0
def SU{N a e c}:KP 97 [A1,cJ a] (Ix e c) Y (λ_=>(Ix e c)) (Cr N a e c):=
 fh 2 func97 (ay λn i=>gA [[],[(4,cK zM i)]] (aC (λf=>gH [[t0 f],[]]) λf=>gA [[f0 f],[(7,oL a.xL fO)]] (gT rm 11 a.xL λj=>eX 1 [] [0,11,12,13] 3 (λg=>⟨26,[(0,A1),(11,I (cY a.xL)),(12,Y a.xL.length),(13,Y g)],[.cells (gF e [.mp 1]),.map (fV c),.cells (cJ a).cells]⟩) (λg b k=>gH [[],[f0 (bY b)],[]]) (λg l o b k m=>gA [[],[t0 (bZ b)],[(1,oE (jL (bA b)))],[(20,oq (HB false c l.ar))]] (aC (λh=>gH [[t0 h],[]]) λh=>gb m () [[f0 h],[(2,oq (ck b rfl j))]] b)))))
def Kg(N:Nat)(a:cQ)(b:aI)(c:U (so×Int)):O Int:=(Ro N a).bind λd=>bif (d !=0)then some (1:Int)else(Cr N a.aU b c).bind λe=>some e
def ard{N a b c}:KP 56 [A1,pH a] (Ix b c) Y (λ_=>(Ix b c)) (Kg N a b c):=
 fh 2 func56 (ay λg e=>gA [[],[(4,cK alE e)]] (aC (λd=>gH [[t0 d],[]]) λd=>ay λh f=>gH [[f0 d],[(10,oQ [A1,cJ a.aU] [.cells (gF b [.mp 1]),.map (fV c),.cells (pH a).cells] [0,1] (SU _ f))]]))
def Qq(N:Nat)(a:aQ):O Bool:=some ((a.bt==a.bt)&&((a.bW==0)&&((a.bR==0)&&((a.b9==0)&&((a.b8==0)&&true)))))
def aiO{N a}:KO 162 [cN a] aG (Qq N a):=
 fw func162 (gR [[],[]])
def yv(N:Nat)(a:aQ):O Int:=(bif (decide (a.b9>=1))then(bif (decide (a.b9<=4))then(bif (a.b8==1)then some true else some (a.b8==2))else some false)else some false).bind λb=>(bif (a.bt !=2)then some true else(bif (decide (a.bW<2))then some true else(bif (decide (a.bW>31))then some true else(bif (decide (a.bR<0))then some true else(bif (decide (a.bR>30))then some true else some (!b)))))).bind λc=>bif c then some (10:Int)else some (0:Int)
abbrev T1:=λa=>([.cells (cN a).cells]:List ao)
def Pq{N b}:KO 163 [cN b] Y (yv N b):=
 fw func163 (gA [[]] (gG (λj=>[(3,aG j)]) (λ_=>(T1 b)) (aC (λc=>dS (3,bT c) (aC (λd=>dS (8,bT d) (aC (λa=>gE [(12,bT a)] [(49,bT a)]) λa=>gE [(12,bF a)] [(49,bF a)])) λd=>gE [(8,bF d),(12,uN)] [])) λc=>gE [(3,bF c),(8,bF rfl),(12,uN)] []) λj=>gG (λk=>[(48,aG k)]) (λ_=>(T1 b)) (aC (λe=>gE [(3,bT e),(8,bT rfl),(13,bT rfl),(18,bT rfl),(23,bT rfl)] []) λe=>dS (3,bF e) (aC (λf=>gE [(8,bT f),(13,bT rfl),(18,bT rfl),(23,bT rfl)] []) λf=>dS (8,bF f) (aC (λg=>gE [(13,bT g),(18,bT rfl),(23,bT rfl)] []) λg=>dS (13,bF g) (aC (λh=>gE [(18,bT h),(23,bT rfl)] []) λh=>dS (18,bF h) (aC (λi=>gE [(23,bT i)] []) λi=>gE [(23,bF i)] []))))) λk=>bV λl=>gR [[f0 l],[]]))
def Ny(N:Nat)(a:aQ)(b:Bool):O Int:=bif b then(Qq N a).bind λc=>bif c then some (0:Int)else some (10:Int)else bif (a.bt==2)then(yv N a).bind λd=>bif (d==0)then some (0:Int)else some (10:Int)else some (10:Int)
def n9(N:Nat)(a:aQ):O Int:=bif (a.bt==1)then Ny N a (a.bt==1)else Ny N a (a.bt==3)
def qq{N a}:KO 123 [cN a] Y (n9 N a):=
 fw func123 (nF 1 [[],[],[]] [1,4,5] 1 (λ(d:Bool)=>⟨15,[(1,A1),(4,Y a.bt),(5,aG d)],T1 a⟩) (Ny N a) (λk e=>aC (λb=>gm e (a.bt==1) [[t0 b]]) λb=>gm e (a.bt==3) [[f0 b],[]]) (λd=>aC (λc=>ay λl f=>gA [[t0 c],[(4,cK aiO f)]] (bV λg=>gR [[f0 g],[]])) λc=>gA [[f0 c],[]] (tY λh=>ay λm i=>gA [[t0 h],[(4,cK Pq i)]] (bV λj=>gR [[f0 j],[]]))))
def HG(N:Nat):U Int->Nat->Int->O Int
 |[],_,a=>some a
 |b::c,d,a=>(λe=>HG N c (d+1) e) (if b>a then b else a)
def WY(N:Nat)(a:U Int):O Int:=(a[0]?).bind λb=>HG N (a.drop 1) 1 b
def GI(N:Nat)(a:U Int):O Int:=bif (decide ((a.length:Int)<1))then none else WY N a
def aui{N a r}(J:GI N a=some r):KF 140 [I (bN a)] (Y r):=by
 rw[GI]at J;refine QY func140 ?_;refine wj0 bH r 1 [[],[(4,oL a ig)]] [0] 0 ⟨25,[(0,I (bN a))],[]⟩ (WY N a) ?_ ?_
 ·intro p h;apply bc J<;>intro i J
  ·cases J
  exact nU bH h () [[(0,bF i)]] J
 intro J;rw[WY]at J;obtain⟨j,l,J⟩:=bJ J;refine gr bH [[(4,oE (k:=0) (kK l))],[]] ?_;refine zc o6 0 a λm=> ?_;refine J5 bH 2 [] [0,3,4] 0 (λ((b,c,e):Nat×(U Int)×Int)=>⟨25,[(0,I (bN a)),(3,Y e),(4,Y b)],[]⟩) (λ((b,c,e):Nat×(U Int)×Int)=>a.drop b=c/\HG N c b e=some r) (λ((b,c,e):Nat×(U Int)×Int)=>c.length) (1,a.drop 1,j) ⟨rfl,J⟩ ?_;rintro⟨b,c,e⟩ ⟨f,J⟩ q n;cases c with
 |nil=>
  rw[HG]at J;cases J;exact wr bH [[(7,oL a ig)],[(0,bF (bY f))],[]]
 |cons g o=>
  rw[HG]at J;exact DY bH n (b+1,o,(if g>e then g else e)) [[(7,oL a ig)],[(0,bT (bZ f))],[(10,oE (kK (bA f)))],[(5,oq (ck f rfl m))]] ⟨kG f,J⟩
def AB(N:Nat)(a:aQ)(b:U Int):O Int:=(n9 N a).bind λc=>bif (c !=0)then some (10:Int)else(GI N b).bind λd=>bif (decide (d>6))then some (11:Int)else some (0:Int)
def acx{N a b}:KO 98 [cN a,I (bN b)] Y (AB N a b):=
 fw func98 (ay λh c=>gA [[],[(4,cK qq c)]] (bV λe=>ay λi f=>gA [[f0 e],[(4,cL (aui f))]] (bV λg=>gR [[f0 g],[]])))
def Nl(N:Nat)(b:Int×(U (so×Int)))(c:aI):U aK->Nat->O (Int×(U (so×Int)))
 |[],_=>some ((0:Int),b.2)
 |d::e,f=>(Cr N d c b.2).bind λa=>bif (a !=0)then some (a,b.2)else(Nl N b c e (f+1))
def Nv(N:Nat)(b:cl)(c:aI)(e:U (so×Int)):O (Int×(U (so×Int))):=(Dr N b.ar (2:Int) c e).bind λa=>bif (a.1 !=0)then some (a.1,a.2)else(AB N b.aw ([(b.aJ.length:Int)])).bind λd=>bif (d !=0)then some (d,a.2)else Nl N a c b.aJ 0
def yN(a:aI)(l:U ao):U ao:= .cells (gF a [.mp 1])::l
def asb{N a b e}:KP 57 [A1,mj a] (Ix b e) (λr=>Y r.1) (λr=>(Ix b r.2)) (Nv N a b e):=
 fh 2 func57 (ay λj l=>gA [[],[(10,oR [A1,cd a.ar,Y 2] (yN b [.map (fV e),.cells (mj a).cells]) [0,1] (S0 _ l))],[]] (aC (λf=>gH [[t0 f],[]]) λf=>ay λu m=>gA [[f0 f],[(13,oL a.aJ fJ),(19,cK acx m)],[]] (aC (λg=>gH [[t0 g],[]]) λg=>gA [[f0 g],[(7,oL a.aJ fJ)]] (gT ny 28 a.aJ λn=>eX 1 [] [0,28,29,30] 3 (λh=>⟨41,[(0,A1),(28,I (dF a.aJ)),(29,Y a.aJ.length),(30,Y h)],yN b [.map (fV j.2),.cells (mj a).cells]⟩) (λh c o=>gH [[],[f0 (bY c)],[]]) (λh k v c o p=>ay λq t=>gA [[],[t0 (bZ c)],[(1,oE (mQ (bA c)))],[(7,oQ [A1,cJ k] (yN b [.map (fV j.2),.cells (mj a).cells,.cells (cJ k).cells]) [0,1] (SU _ t))],[]] (aC (λi=>gH [[t0 i],[]]) λi=>gb p () [[f0 i],[(2,oq (ck c rfl n))]] c))))))
def Qn(N:Nat)(a:Int):O Unit:=bif decide ((0:Int)<=a)&&Nat.ble (a.toNat*48) 140737488355328 then some ()else none
def arB{N v1 r}(J:Qn N v1=some r):da prog 175 [.d (.v (.slice none 0 0)),Y v1] [] λb h1=>b= .own 0 []/\h1=[.front 65 3 0]:=by
 obtain⟨a,_⟩:=eY J;rw[Zo]at a;have e:Int.ofNat v1.toNat=v1:=Int.toNat_of_nonneg (Tr a.1);have h:=ap2 a.2;rw[e]at h;exact h
def Ak(N:Nat):U (U cq)->Nat->(U cq)->O (U cq)
 |[],_,a=>some a
 |v10::b,c,a=>bif (Nat.ble ((a.length+v10.length)*48) 140737488355328)then(λd=>Ak N b (c+1) d) (a++v10)else none
def wm(N:Nat)(b:U (U cq)):U (U cq)->Nat->Int->O (U cq)
 |[],_,a=>(Qn N a).bind λf=>Ak N b 0 []
 |v4::c,d,a=>bif (decide ((aY (a+(v4.length:Int)))<0))then none else(λe=>wm N b c (d+1) e) (aY (a+(v4.length:Int)))
def Dq(N:Nat)(a:U (U cq)):O (U cq):=wm N a a 0 (0:Int)
def awl{N a r}(J:Dq N a=some r):KF 141 [I (qF a)] (I (dC r)):=by
 rw[Dq]at J;refine QY func141 ?_;refine gr bH [[],[],[(4,oL a Ue)]] ?_;refine zc awn 0 a λk=> ?_;refine TP bH 1 [] [0,3,9,10,11] 0 a (λh(g:Int)=>⟨36,[(0,I (qF a)),(3,Y g),(9,I (qF a)),(10,Y a.length),(11,Y h)],[]⟩) (wm N a) (0:Int) J ?_ ?_
 ·intro h g c J l;rw[wm]at J;obtain⟨w,m,J⟩:=bJ J;refine gr bH [[],[(0,bF (bY c))],[(4,⟨_,_,.kZ (arB m)⟩)],[(4,oL a Ue)]] ?_;refine zc awn 0 a λn=> ?_;refine TP bH 2 [] [6,25,26,27] 1 a (λi(b:U cq)=>⟨36,[(6,.own 0 (dC b)),(25,I (qF a)),(26,Y a.length),(27,Y i)],[.front 65 3 b.length]⟩) (Ak N) [] J ?_ ?_
  ·intro i b e J o;rw[Ak]at J;cases J;exact wr bH [[],[(0,bF (bY e))],[]]
  intro i f p b e J o q;rw[Ak]at J;obtain⟨t,J⟩:=kA J;exact wb bH q (b++f) [[],[(0,bT (bZ e))],[(1,oE (abk (bA e)))],[(7,oA qD b f t)],[(2,oq (ck e rfl n))]] e J
 intro h j x g c J l u;rw[wm]at J;refine gr bH [[],[(0,bT (bZ c))],[(1,oE (abk (bA c)))],[(7,oL j kt)],[]] ?_;apply bc J<;>intro v J;{cases J}
 exact wb bH u (aY (g+(j.length:Int))) [[(0,bF v)],[(2,oq (ck c rfl k))]] c J
def Lo(N:Nat)(c:U (so×Int))(g:aI):U cq->Nat->(U (so×Bool))->O Int
 |[],_,_=>some (0:Int)
 |a::h,i,d=>(zS N a.ar).bind λe=>bif e then(bif (ic d a.ar false)then some true else some ((ic c a.ar 0)==1)).bind λf=>bif f then some (8:Int)else bif (Nat.blt d.length 9223372036854775807)then(Cr N a.dq g c).bind λb=>bif (b !=0)then some b else(λj=>Lo N c g h (i+1) j) ((a.ar,true)::d)else none else some (7:Int)
def PR(N:Nat)(a:aF)(b:aI)(c:U (so×Int)):O Int:=(Dq N ([a.aJ,a.bI])).bind λd=>Lo N c b d 0 []
def uk(a:aI)(b:U (so×Int))(c:aF)(l:U ao):U ao:= .cells (gF a [.mp 1]):: .map (fV b):: .cells (dX c).cells::l
def atI{N g e a}:KP 99 [A1,dX g] (Ix e a) Y (λ_=>(Ix e a)) (PR N g e a):=
 fh 2 func99 (ay λi p=>gA [[],[],[(16,cL (awl p)),(19,oL i kt)]] (gT qD 15 i λq=>iC 1 [] [0,5,15,16,17] 4 (λj(b:U (so×Bool))=>⟨52,[(0,A1),(5,.mp 3),(15,I (dC i)),(16,Y i.length),(17,Y j)],uk e a g [.map (B8 b)]⟩) (λj b f r=>gH [[],[f0 (bY f)],[]]) (λj c z b f r t=>ay λu v=>gA [[],[t0 (bZ f)],[(1,oE (uo (bA f)))],[(7,cK Lx v)]] (aC (λk=>gA [[f0 (dG k)]] (gG (λh=>[(26,aG h)]) (λ_=>(uk e a g [.map (B8 b),.cells (vO c).cells])) (dH (11,oq (an4 false b c.ar)) (aC (λl=>gE [(4,bT l)] []) λl=>gE [(4,bF l)] [(35,oq (HB false a c.ar))])) λh=>aC (λm=>gH [[t0 m],[]]) λm=>dW λw=>ay λx y=>gA [[f0 m],[(10,⟨_,_,.sd (o:= .none) (atN w)⟩)],[(10,oQ [A1,cJ c.dq] (uk e a g [.map (B8 ((c.ar,true)::b)),.cells (vO c).cells]) [0,1] (SU _ y))],[]] (aC (λn=>gH [[t0 n],[]]) λn=>gb t ((c.ar,true)::b) [[f0 n],[(2,oq (ck f rfl q))]] f))) λk=>gH [[t0 (eF k)],[]]))))
def Dk(N:Nat)(a:aF)(b:Bool):O Int:=bif b then bif ((a.bI.length:Int)==0)then some (11:Int)else some (0:Int)else bif (a.cE==5)then(bif (decide ((a.bI.length:Int)>0))then some true else some ((a.aJ.length:Int)==0)).bind λc=>bif c then some (11:Int)else some (0:Int)else some (1:Int)
def Ku(N:Nat)(a:aF):O Int:=bif (a.cE==0)then bif (decide ((a.bI.length:Int)>0))then some (11:Int)else some (0:Int)else bif (a.cE==1)then Dk N a (a.cE==1)else bif (a.cE==2)then Dk N a (a.cE==2)else bif (a.cE==3)then Dk N a (a.cE==3)else Dk N a (a.cE==4)
def akh{N a}:KO 100 [dX a] Y (Ku N a):=
 fw func100 (gA [[],[],[]] (aC (λc=>gA [[t0 c],[(7,oL a.bI kt)]] (bV λk=>gR [[f0 k],[]])) λc=>nF 1 [[f0 c],[]] [1,4,11] 1 (λ(i:Bool)=>⟨32,[(1,A1),(4,Y a.cE),(11,aG i)],Rj a⟩) (Dk N a) (λo b=>aC (λd=>gm b (a.cE==1) [[t0 d]]) λd=>gA [[f0 d],[]] (aC (λe=>gm b (a.cE==2) [[t0 e]]) λe=>gA [[f0 e],[]] (aC (λf=>gm b (a.cE==3) [[t0 f]]) λf=>gm b (a.cE==4) [[f0 f],[]]))) (λi=>aC (λg=>gA [[t0 g],[(7,oL a.bI kt)]] (bV λl=>gR [[f0 l],[]])) λg=>gA [[f0 g],[]] (tY λm=>gA [[t0 m]] (gG (λj=>[(31,aG j)]) (λ_=>(Rj a)) (dH (7,oL a.bI kt) (aC (λh=>gE [(4,bT h)] []) λh=>gE [(4,bF h)] [(22,oL a.aJ kt)])) λj=>bV λn=>gR [[f0 n],[]])))))
def JF(N:Nat):U cq->Nat->(U so)->O (U so)
 |[],_,a=>some a
 |b::c,d,a=>bif (Nat.ble ((a.length+1)*16) 140737488355328)then(λe=>JF N c (d+1) e) (a++[b.ar])else none
def Ou(N:Nat)(a:aF):O (U so):=(Dq N ([a.aJ,a.bI])).bind λb=>JF N b 0 []
def ajX{N e}:KO 102 [dX e] (λr=>.d (.sl (bQ r))) (Ou N e):=
 fw func102 (ay λc h=>gA [[],[],[(16,cL (awl h)),(19,oL c kt)]] (li (λ_=>(qK 3 9 1 [] (.inr km) ·)) (gT qD 11 c λi=>iC 1 [] [3,11,12,13] 2 (λf(a:U so)=>⟨24,[(3,.own 1 (bQ a)),(11,I (dC c)),(12,Y c.length),(13,Y f)],[.cells (dX e).cells,.front 9 1 a.length]⟩) (λf a b j=>gR [[],[f0 (bY b)],[]]) (λf g m a b j k=>dW λl=>gb k (a++[g.ar]) [[],[t0 (bZ b)],[(1,oE (uo (bA b)))],[(13,oA tR a ([g.ar]) l)],[(2,oq (ck b rfl i))]] b))))
def NO(N:Nat)(a:au->Int->O Int)(c:Int):U au->Nat->Int->O Int
 |[],_,b=>some b
 |e::f,g,b=>(a e (aY (c-(1:Int)))).bind λd=>(λh=>NO N a c f (g+1) h) (if(aY ((1:Int)+d))>b then(aY ((1:Int)+d))else b)
def tL(N:Nat):Nat->au->Int->O Int
 |0,_,_=>none
 |d+1,b,a=>bif (decide (a<=1))then some a else NO N (tL N d) a b.bk 0 (1:Int)
def VW(N:Nat)(a:au)(b:Int):O Int:=tL N N a b
def aqM(N:Nat):∀d:Nat,(∀{a:au}{c:Int},KO 215 [aL a,Y c] Y (tL N d a c)):=by
 intro d
 induction d with
 |zero=>intro a c r J;rw[tL]at J;cases J
 |succ d ih=>
  have f:= @ih;intro a c;rw[tL];exact fw func215 (gA [[],[]] (bV λi=>gA [[(0,bF i)],[],[(7,oL a.bk iM)]] (gT qi 12 a.bk λj=>iC 1 [] [1,5,12,13,14] 1 (λg(e:Int)=>⟨27,[(1,Y c),(5,Y e),(12,I (eH a.bk)),(13,Y a.bk.length),(14,Y g)],L2 a⟩) (λg e b k=>gR [[],[(0,bF (bY b))],[]]) (λg n o e b k l=>ay λh m=>gb l (if(aY ((1:Int)+h))>e then(aY ((1:Int)+h))else e) [[],[(0,bT (bZ b))],[(1,oE (kg (bA b)))],[(13,cK f m)],[(2,oq (ck b rfl j))]] b))))
def amO{N a b}:KO 215 [aL a,Y b] Y (VW N a b):=(aqM N N)
def U9(N:Nat)(a:au):O Int:=(VW N a (41:Int)).bind λb=>some b
def ar8{N a}:KO 176 [aL a] Y (U9 N a):=
 fw func176 (ay λc b=>gR [[],[(4,cK amO b)]])
def yr(N:Nat)(a:au):O au:=some a
def Pc{N a r}(J:yr N a=some r):gq prog 40 [aL a] (·=(.fn 81 [.bm [dV r] 0 0])):=by
 cases J;exact ann a
def xT(N:Nat):U au->Int->O Int
 |[],a=>some a
 |_::b,a=>bif (decide ((aY (a+(1:Int)))>2000))then some (aY (a+(1:Int)))else(λc=>xT N b c) (aY (a+(1:Int)))
def G4(N:Nat)(a:au):O Int:=(yr N a).bind λb=>xT N (dx b) (0:Int)
def tw(a:au)(b:Int)(l:U ao):U ao:= .cells (aL a).cells:: .cells [Y (aY (b+(1:Int)))]::l
def FU(a:au)(b:Int)(l:U ao):U ao:= .cells (aL a).cells:: .cells [Y b]::l
def V0(a:au)(l:U ao):U ao:= .cells (aL a).cells:: .cells [Y 0]::l
def ajM{N b r}(J:G4 N b=some r):KF 177 [aL b] (Y r):=by
 rw[G4]at J;refine qZ func177 rfl km ?_;refine fR [0] 0 (Zx _) (s':=⟨12,[(0,aL b)],[]⟩) km ?_;refine az (CM [] [(1,A1)] (L2 b) ?_);refine az (CM [] [(3,An)] (V0 b []) ?_);refine az (az ?_);obtain⟨c,h,J⟩:=bJ J;refine CM [(4,cL (Pc h))] [(5,.fn 81 [.bm [dV c] 0 0])] (V0 b []) ?_;refine ft ?_;refine fR [3,5] 2 (Zh rfl) (s':=⟨12,[(3,An),(5,.fn 81 [.bm [dV c] 0 0])],V0 b []⟩) km ?_;refine ya (m:=2) (enc:=aL) (xs:=(dx c)) km (Ni c) (λ(a:Int)=>(FU b a [])) (λ(a:Int) l=>xT N l a=some r) (0:Int) km J (by rintro a;rfl) (by rintro a;kernel_rfl) km rfl ?_ ?_
 ·rintro a i j J k e f
  try dsimp only at J
  rw[xT]at J;refine fR [3] 3 (Zx _) (s':=⟨12,[(3,An)],FU b a [.lp .ready 6 e f (dL 12 [(3,An),(5,.fn 81 [.bm [dV c] 0 0])])]⟩) km ?_;refine dn ?_;refine bx ?_;refine⟨FU b a [],[],rfl,km,?_⟩;refine fR [3] 3 (Zh rfl) (s':=⟨12,[(3,An)],FU b a [.lp .busy 6 e f (dL 12 [(3,An),(5,.fn 81 [.bm [dV c] 0 0])])]⟩) km ?_;refine ft ?_;refine az (CM [] [] (tw b a [.lp .busy 6 e f (dL 12 [(3,An),(5,.fn 81 [.bm [dV c] 0 0])])]) ?_);refine az (CM [] [(10,(aG (decide ((aY (a+(1:Int)))>2000))))] (tw b a [.lp .busy 6 e f (dL 12 [(3,An),(5,.fn 81 [.bm [dV c] 0 0])])]) ?_);rcases eo (decide ((aY (a+(1:Int)))>2000))with d|d
  ·replace J:=(cS d).symm.trans J;refine AY (t:=(decide ((aY (a+(1:Int)))>2000))) d ?_;refine mA (atS rfl ?_);refine aoI (tw b a []) rfl km km ?_;refine(nx rfl ?_);refine bx ?_;refine az (CM [] [(2,Y (aY (a+(1:Int))))] (tw b a [.gone]) ?_);refine cT ?_;have g:=Zl J;subst g;exact fX km
  replace J:=(eu d).symm.trans J;refine AX (t:=(decide ((aY (a+(1:Int)))>2000))) d ?_;refine dn ?_;refine hY ?_;refine zA (tw b a []) rfl km km ?_;exact⟨aY (a+(1:Int)),km,J⟩
 rintro a J
 try dsimp only at J
 rw[xT]at J;refine hY ?_;refine bx ?_;refine az (CM [] [(2,Y a)] (FU b a [.gone]) ?_);refine cT ?_;have g:=Zl J;subst g;exact fX km
def Hq(N:Nat)(a:aK):O Bool:=(bif (a.xK.toInt==0)then some ((a.xL.length:Int)==0)else some false).bind λb=>some b
def aac{N a}:KO 250 [cJ a] aG (Hq N a):=
 fw func250 (gA [[]] (gG (λc=>[(2,aG c)]) (λ_=>(T6 a)) (aC (λb=>gE [(3,bT b)] [(19,oL a.xL fO)]) λb=>gE [(3,bF b)] []) λc=>gR []))
def KE(N:Nat)(a:aT):O Bool:=bif (bL a.bp==bL (bs []))then some ((a.bC.length:Int)==0)else(Hq N a.aU).bind λb=>some b
def att{N a}:KO 252 [fK a] aG (KE N a):=
 fw func252 (gA [[],[]] (aC (λb=>gR [[t0 b],[(7,oL a.bC fJ)]]) λb=>ay λd c=>gR [[f0 b],[(7,cK aac c)]]))
def VI(N:Nat)(a:aT):O Bool:=(KE N a).bind λb=>some (!b)
def ajz{N a}:KO 251 [fK a] aG (VI N a):=
 fw func251 (ay λc b=>gR [[],[(4,cK att b)]])
def Lj(N:Nat):U aT->Nat->O Int
 |[],_=>some (-1:Int)
 |v4::b,a=>(VI N v4).bind λc=>bif c then some (a:Int)else(Lj N b (a+1))
def Sb(N:Nat)(a:U aT):O Int:=Lj N a 0
def aji{N a}:KP 83 [I (cg a),.fn 251 []] [] Y (λ_=>[]) (Sb N a):=
 fh 0 func83 (gA [[],[(4,oL a gv)]] (gT po 0 a λf=>eX 1 [] [0,1,7,8] 0 (λc=>⟨19,[(0,I (cg a)),(1,.fn 251 []),(7,Y a.length),(8,Y c)],[]⟩) (λc b g=>gH [[],[f0 (bY b)],[]]) (λc j k b g h=>ay λl i=>gA [[],[t0 (bZ b)],[],[(10,oE (j5 (bA b))),(16,cK ajz i)]] (aC (λe=>gH [[t0 e],[]]) λe=>gb h () [[f0 e],[(2,oq (ck b rfl f))]] b))))
def NR(N:Nat)(a:U aT):O Bool:=(Sb N a).bind λb=>some (decide (b>=0))
def alA{N a}:KP 42 [I (cg a),.fn 251 []] [] aG (λ_=>[]) (NR N a):=
 fh 0 func42 (ay λc b=>gH [[],[(7,oQ [I (cg a),.fn 251 []] [] [] (aji _ b))]])
def Mq(N:Nat)(a:au):O Bool:=(bif (a.aA==1)then some true else some (a.aA==12)).bind λb=>(bif (decide (a.aA<1))then some true else some (decide (a.aA>18))).bind λc=>bif c then some false else(bif (a.aA==1)then some false else some (!((a.cU.xN.toInt==(0:Int64).toInt)&&((a.cU.xD.toInt==(0:Int64).toInt)&&true)))).bind λd=>bif d then some false else(bif b then some false else some (!((a.aw.bt==0)&&((a.aw.bW==0)&&((a.aw.bR==0)&&((a.aw.b9==0)&&((a.aw.b8==0)&&true))))))).bind λe=>bif e then some false else(bif (a.aA==2)then some false else (Hq N a.aU).bind λf=>some (!f)).bind λg=>bif g then some false else(bif (a.aA==3)then some false else(bif (bL a.ar==bL (bs []))then some (decide ((a.xIdx.length:Int)>0))else some true)).bind λh=>bif h then some false else(NR N a.xIdx).bind λi=>some (!i)
def As(a:au)(l:U ao):U ao:= .cells (aL a).cells::l
def asF{N a}:KO 216 [aL a] aG (Mq N a):=
 fw func216 (gA [[]] (gG (λj=>[(3,(aG (a.aA==1))),(4,aG j)]) (λ_=>(As a [])) (aC (λc=>gE [(6,bT c)] []) λc=>gE [(6,bF c)] []) λj=>gA [[]] (gG (λk=>[(24,aG k)]) (λ_=>(As a [])) (aC (λe=>gE [(3,bT e)] []) λe=>gE [(3,bF e)] []) λk=>bV λp=>gA [[f0 p]] (gG (λl=>[(33,aG l)]) (λ_=>(As a [])) (aC (λf=>gE [(2,bF (dG f))] []) λf=>gE [(2,bT (eF f))] []) λl=>bV λq=>gA [[f0 q]] (gG (λm=>[(42,aG m)]) (λ_=>(As a [])) (aC (λg=>gE [(2,bF (dG g))] []) λg=>gE [(2,bT (eF g))] []) λm=>bV λr=>gA [[f0 r]] (gG (λn=>[(51,aG n)]) (λ_=>(As a [])) (aC (λh=>gE [(2,bF (dG h))] []) λh=>ay λx t=>gE [(2,bT (eF h))] [(16,cK aac t)]) λn=>bV λu=>gA [[f0 u]] (gG (λo=>[(60,aG o)]) (λ_=>(As a [])) (aC (λi=>gE [(2,bF (dG i)),(6,uN)] []) λi=>dS (2,bT (eF i)) (aC (λb=>gE [(6,bF (dG b))] [(28,oL a.xIdx gv),(34,bF (dG b))]) λb=>gE [(6,bT (eF b))] [(34,bT (eF b))])) λo=>bV λv=>ay λy w=>gR [[f0 v],[(7,oQ [I (cg a.xIdx),.fn 251 []] (As a []) [] (alA _ w))]])))))))
def K7(N:Nat)(a:aT):O Bool:=(bif (bL a.bp==bL (bs []))then some false else (zS N a.bp).bind λb=>some (!b)).bind λc=>some c
abbrev T2:=λa=>([.cells (fK a).cells]:List ao)
def ale{N a}:KO 253 [fK a] aG (K7 N a):=
 fw func253 (gA [[]] (gG (λc=>[(2,aG c)]) (λ_=>(T2 a)) (aC (λb=>gE [(3,bF (dG b))] []) λb=>ay λe d=>gE [(3,bT (eF b))] [(19,cK Lx d)]) λc=>gR []))
def Ps(N:Nat):U aT->Nat->O Int
 |[],_=>some (-1:Int)
 |v4::b,a=>(K7 N v4).bind λc=>bif c then some (a:Int)else(Ps N b (a+1))
def Us(N:Nat)(a:U aT):O Int:=Ps N a 0
def aph{N a}:KP 83 [I (cg a),.fn 253 []] [] Y (λ_=>[]) (Us N a):=
 fh 0 func83 (gA [[],[(4,oL a gv)]] (gT po 0 a λf=>eX 1 [] [0,1,7,8] 0 (λc=>⟨19,[(0,I (cg a)),(1,.fn 253 []),(7,Y a.length),(8,Y c)],[]⟩) (λc b g=>gH [[],[f0 (bY b)],[]]) (λc j k b g h=>ay λl i=>gA [[],[t0 (bZ b)],[],[(10,oE (j5 (bA b))),(16,cK ale i)]] (aC (λe=>gH [[t0 e],[]]) λe=>gb h () [[f0 e],[(2,oq (ck b rfl f))]] b))))
def VK(N:Nat)(a:U aT):O Bool:=(Us N a).bind λb=>some (decide (b>=0))
def ai8{N a}:KP 42 [I (cg a),.fn 253 []] [] aG (λ_=>[]) (VK N a):=
 fh 0 func42 (ay λc b=>gH [[],[(7,oQ [I (cg a),.fn 253 []] [] [] (aph _ b))]])
def NQ(N:Nat)(a:au):O Bool:=(bif (a.aA==3)then (zS N a.ar).bind λb=>some (!b)else some false).bind λc=>bif c then some false else(VK N a.xIdx).bind λd=>some (!d)
def alW{N a}:KO 217 [aL a] aG (NQ N a):=
 fw func217 (gA [[]] (gG (λc=>[(11,aG c)]) (λ_=>(L2 a)) (aC (λb=>ay λh e=>gE [(3,bT b)] [(19,cK Lx e)]) λb=>gE [(3,bF b)] []) λc=>bV λf=>ay λi g=>gR [[f0 f],[(7,oQ [I (cg a.xIdx),.fn 253 []] (L2 a) [] (ai8 _ g))]]))
def FT(N:Nat)(a:Int)(b:Bool):O Int:=bif b then some (1:Int)else bif (a==11)then some (3:Int)else some (2:Int)
def Jy(N:Nat)(a:Int)(b:Bool):O Int:=bif b then some (0:Int)else bif (a==8)then FT N a (a==8)else bif (a==12)then FT N a (a==12)else FT N a (a==18)
def Lt(N:Nat)(a:Int):O Int:=bif (a==1)then Jy N a (a==1)else bif (a==2)then Jy N a (a==2)else Jy N a (a==3)
def amx{N a}:KO 254 [Y a] Y (Lt N a):=
 fw func254 (nF 1 [[],[],[]] [3,4] 0 (λ(h:Bool)=>⟨14,[(3,Y a),(4,aG h)],[]⟩) (Jy N a) (λl b=>aC (λc=>gm b (a==1) [[t0 c]]) λc=>gA [[f0 c],[]] (aC (λd=>gm b (a==2) [[t0 d]]) λd=>gm b (a==3) [[f0 d],[]])) (λh=>bV λj=>nF 2 [[f0 j],[]] [3,8] 0 (λ(i:Bool)=>⟨14,[(3,Y a),(8,aG i)],[]⟩) (FT N a) (λm e=>aC (λf=>gm e (a==8) [[t0 f]]) λf=>gA [[f0 f],[]] (aC (λg=>gm e (a==12) [[t0 g]]) λg=>gm e (a==18) [[f0 g],[]])) (λi=>iy λ_=>bV λk=>gR [[f0 k],[]])))
def V6(N:Nat)(a:aT):O Bool:=some (decide ((a.bC.length:Int)>6))
def ala{N a}:KO 255 [fK a] aG (V6 N a):=
 fw func255 (gR [[],[(7,oL a.bC fJ)]])
def LC(N:Nat):U aT->Nat->O Int
 |[],_=>some (-1:Int)
 |v4::b,a=>(V6 N v4).bind λc=>bif c then some (a:Int)else(LC N b (a+1))
def UH(N:Nat)(a:U aT):O Int:=LC N a 0
def ao6{N a}:KP 83 [I (cg a),.fn 255 []] [] Y (λ_=>[]) (UH N a):=
 fh 0 func83 (gA [[],[(4,oL a gv)]] (gT po 0 a λf=>eX 1 [] [0,1,7,8] 0 (λc=>⟨19,[(0,I (cg a)),(1,.fn 255 []),(7,Y a.length),(8,Y c)],[]⟩) (λc b g=>gH [[],[f0 (bY b)],[]]) (λc j k b g h=>ay λl i=>gA [[],[t0 (bZ b)],[],[(10,oE (j5 (bA b))),(16,cK ala i)]] (aC (λe=>gH [[t0 e],[]]) λe=>gb h () [[f0 e],[(2,oq (ck b rfl f))]] b))))
def V7(N:Nat)(a:U aT):O Bool:=(UH N a).bind λb=>some (decide (b>=0))
def asZ{N a}:KP 42 [I (cg a),.fn 255 []] [] aG (λ_=>[]) (V7 N a):=
 fh 0 func42 (ay λc b=>gH [[],[(7,oQ [I (cg a),.fn 255 []] [] [] (ao6 _ b))]])
def JZ(N:Nat)(a:au):O Bool:=(Lt N a.aA).bind λb=>(bif ((a.bk.length:Int) !=b)then some true else some (decide ((a.xIdx.length:Int)>6))).bind λc=>bif c then some false else(V7 N a.xIdx).bind λd=>some (!d)
def ass{N a}:KO 218 [aL a] aG (JZ N a):=
 fw func218 (gA [[]] (ay λh e=>gG (λc=>[(15,aG c)]) (λ_=>(L2 a)) (dH (7,oL a.bk iM) (dH (16,cK amx e) (aC (λb=>gE [(7,bT b)] []) λb=>gE [(7,bF b)] [(31,oL a.xIdx gv)]))) λc=>bV λf=>ay λi g=>gR [[f0 f],[(7,oQ [I (cg a.xIdx),.fn 255 []] (L2 a) [] (asZ _ g))]]))
def Ig(N:Nat)(a:au):O Bool:=(bif (decide ((13:Int)<=a.aA))then some (decide (a.aA<=18))else some false).bind λb=>some b
def ad9{N a}:KO 143 [aL a] aG (Ig N a):=
 fw func143 (gA [[]] (gG (λc=>[(2,aG c)]) (λ_=>(L2 a)) (aC (λb=>gE [(3,bT b)] []) λb=>gE [(3,bF b)] []) λc=>gR []))
def Jx(N:Nat)(a:Int)(b:Int)(c:Bool):O Bool:=bif c then some true else(bif (a==11)then some (b==0)else some false).bind λd=>some d
def O5(N:Nat)(a:Int)(b:Int):O Bool:=bif (a==16)then Jx N a b (a==16)else bif (a==17)then Jx N a b (a==17)else Jx N a b (a==18)
def ar0{N a b}:KO 256 [Y a,Y b] aG (O5 N a b):=
 fw func256 (nF 1 [[],[],[]] [0,1,6] 0 (λ(g:Bool)=>⟨16,[(0,Y a),(1,Y b),(6,aG g)],[]⟩) (Jx N a b) (λj c=>aC (λd=>gm c (a==16) [[t0 d]]) λd=>gA [[f0 d],[]] (aC (λe=>gm c (a==17) [[t0 e]]) λe=>gm c (a==18) [[f0 e],[]])) (λg=>bV λi=>gA [[f0 i]] (gG (λh=>[(4,aG h)]) (λ_=>[]) (aC (λf=>gE [(2,bT f)] []) λf=>gE [(2,bF f)] []) λh=>gR [])))
def NZ(N:Nat)(b:au):U au->Nat->O Bool
 |[],_=>some true
 |d::e,c=>(Ig N d).bind λf=>(O5 N b.aA (c:Int)).bind λa=>bif (f==a)then(NZ N b e (c+1))else some false
def NH(N:Nat)(a:au):O Bool:=(bif (a.aA==1)then (n9 N a.aw).bind λb=>some (b !=0)else(bif (a.aA==12)then (n9 N a.aw).bind λc=>some (c !=0)else some false)).bind λd=>bif d then some false else NZ N a a.bk 0
def apM{N a}:KO 219 [aL a] aG (NH N a):=
 fw func219 (gA [[]] (gG (λg=>[(18,aG g)]) (λ_=>(L2 a)) (aC (λc=>ay λr h=>gE [(3,bT c),(8,bT rfl)] [(34,cK qq h)]) λc=>dS (3,bF c) (aC (λe=>ay λt i=>gE [(8,bT e)] [(34,cK qq i)]) λe=>gE [(8,bF e)] [])) λg=>bV λj=>gA [[f0 j],[(7,oL a.bk iM)]] (gT qi 20 a.bk λk=>eX 1 [] [1,20,21,22] 1 (λf=>⟨35,[(1,A1),(20,I (eH a.bk)),(21,Y a.bk.length),(22,Y f)],L2 a⟩) (λf b l=>gR [[],[f0 (bY b)],[]]) (λf u v b l m=>ay λw n=>ay λo p=>gA [[],[t0 (bZ b)],[(4,oE (kg (bA b)))],[(4,cK ad9 n),(16,cK ar0 p)]] (kC λq=>gb m () [[f0 (dG q)],[(2,oq (ck b rfl k))]] b)))))
def Dh(N:Nat)(a:Int):O Bool:=(bif (decide (a>=2))then some (decide (a<=31))else some false).bind λb=>some b
def WM{N b}:KO 238 [Y b] aG (Dh N b):=
 fw func238 (gA [[]] (gG (λc=>[(2,aG c)]) (λ_=>[]) (aC (λa=>gE [(2,bT a)] []) λa=>gE [(2,bF a)] []) λc=>gR []))
def F9(N:Nat)(a:Int):O Int64:=(Dh N a).bind λb=>bif b then bif (decide ((0:Int)<=(u64.wrap (aY (a-(1:Int))))))then some (-(Int64.ofInt ((1:Int)*2^(min (u64.wrap (aY (a-(1:Int)))).toNat (IntKind.bits .i64)))))else none else some (0:Int64)
def aan{N a}:KO 198 [Y a] bg (F9 N a):=
 fw func198 (ay λf c=>gA [[],[(4,cK WM c)]] (kC λd=>dW λe=>gR [[f0 (dG d)],[(10,⟨_,_,.nn (b:=(u64.wrap (aY (a-(1:Int))))) (Tr e)⟩),(11,oq (kM ((1:Int)*2^(min (u64.wrap (aY (a-(1:Int)))).toNat (IntKind.bits .i64))))),(14,oq (Oo (Int64.ofInt ((1:Int)*2^(min (u64.wrap (aY (a-(1:Int)))).toNat (IntKind.bits .i64))))))]]))
def Fl(N:Nat)(a:Int):O Int64:=(Dh N a).bind λb=>bif b then bif (decide ((0:Int)<=(u64.wrap (aY (a-(1:Int))))))then some ((Int64.ofInt ((1:Int)*2^(min (u64.wrap (aY (a-(1:Int)))).toNat (IntKind.bits .i64))))-(1:Int64))else none else some (0:Int64)
def afy{N a}:KO 199 [Y a] bg (Fl N a):=
 fw func199 (ay λf c=>gA [[],[(4,cK WM c)]] (kC λd=>dW λe=>gR [[f0 (dG d)],[(10,⟨_,_,.nn (b:=(u64.wrap (aY (a-(1:Int))))) (Tr e)⟩),(11,oq (kM ((1:Int)*2^(min (u64.wrap (aY (a-(1:Int)))).toNat (IntKind.bits .i64))))),(14,oq (Av (Int64.ofInt ((1:Int)*2^(min (u64.wrap (aY (a-(1:Int)))).toNat (IntKind.bits .i64)))) (1:Int64)))]]))
def vq(N:Nat)(a:aQ)(b:aH):O Bool:=(yv N a).bind λc=>(bif (c==0)then(bif (b.xD.toInt==1)then (F9 N a.bW).bind λd=>(bif (decide (b.xN.toInt>=d.toInt))then (Fl N a.bW).bind λe=>some (decide (b.xN.toInt<=e.toInt))else some false)else some false)else some false).bind λf=>some f
def TV{N a b}:KO 164 [cN a,bO b] aG (vq N a b):=
 fw func164 (gA [[]] (ay λj g=>gG (λf=>[(4,aG f)]) (λ_=>[.cells (cN a).cells,.cells (bO b).cells]) (dH (4,cK Pq g) (aC (λc=>dS (3,bT c) (aC (λd=>ay λk h=>dS (8,bT d) (dH (40,cK aan h) (aC (λe=>ay λl i=>gE [(16,bT e)] [(64,cK afy i)]) λe=>gE [(16,bF e)] []))) λd=>gE [(8,bF d),(16,bF rfl)] [])) λc=>gE [(3,bF c),(8,bF rfl),(16,bF rfl)] [])) λf=>gR []))
def rK(N:Nat)(a:Int64):O Bool:=(bif (decide (a.toInt>=(-2147483647:Int)))then some (decide (a.toInt<=2147483647))else some false).bind λb=>some b
def Cg{N b}:KO 165 [bg b] aG (rK N b):=
 fw func165 (gA [[]] (gG (λc=>[(2,aG c)]) (λ_=>[]) (aC (λa=>gE [(2,bT a)] []) λa=>gE [(2,bF a)] []) λc=>gR []))
def Xo(N:Nat)(a:Int64):O Bool:=(bif (decide (a.toInt>=(-2147483647:Int)))then some (decide (a.toInt<=2147483647))else some false).bind λb=>some b
def aqK{N b}:KO 200 [bg b] aG (Xo N b):=
 fw func200 (gA [[]] (gG (λc=>[(2,aG c)]) (λ_=>[]) (aC (λa=>gE [(2,bT a)] []) λa=>gE [(2,bF a)] []) λc=>gR []))
def Bw(N:Nat)(a:Int64):O Int:=bif (decide (a.toInt<0))then some (u64.wrap (0-(u64.wrap a.toInt)))else some (u64.wrap a.toInt)
def UX{N a}:KO 202 [bg a] (λr=>.d (.v (.int .u64 r))) (Bw N a):=
 fw func202 (gA [[],[]] (bV λb=>gR [[f0 b],[]]))
def IZ(N:Nat):Nat->Int->Int->O Int
 |0,_,_=>none
 |c+1,b,a=>bif (a !=0)then(λd e=>IZ N c d e) a ((b).tmod a)else some b
def EK(N:Nat)(a:Int)(b:Int):O Int:=IZ N N a b
def ag0{N e f}:KO 201 [Af e,Af f] (λr=>.d (.v (.int .u64 r))) (EK N e f):=
 fw func201 (gf2 1 [[]] [0,1] 0 (λ(c:Int)(a:Int)=>⟨12,[(0,Af c),(1,Af a)],[]⟩) (IZ N) (λi c a j h=>gA [[]] (tY λg=>Na h (a,(c).tmod a) [[t0 g],[(10,⟨_,_,.nz (b:=a) (Ui.1 g)⟩)]])))
def ma(N:Nat)(a:aH):O Bool:=(bif (decide (a.xD.toInt>=1))then(bif (decide (a.xD.toInt<=2147483647))then (Xo N a.xN).bind λb=>(bif b then (Bw N a.xN).bind λc=>(EK N c (u64.wrap a.xD.toInt)).bind λd=>some (d==1)else some false)else some false)else some false).bind λe=>some e
abbrev Sn:=λa=>([.cells (bO a).cells]:List ao)
def oM{N a}:KO 166 [bO a] aG (ma N a):=
 fw func166 (gA [[]] (gG (λe=>[(2,aG e)]) (λ_=>(Sn a)) (aC (λb=>dS (3,bT b) (aC (λc=>ay λi f=>dS (8,bT c) (dH (34,cK aqK f) (aC (λd=>ay λj g=>ay λk h=>gE [(13,bT d)] [(49,cK UX g),(61,cK ag0 h)]) λd=>gE [(13,bF d)] []))) λc=>gE [(8,bF c),(13,bF rfl)] [])) λb=>gE [(3,bF b),(8,bF rfl),(13,bF rfl)] []) λe=>gR []))
def nR(N:Nat)(a:aQ)(b:aH):O Bool:=(n9 N a).bind λc=>bif (c !=0)then some false else bif (a.bt==2)then(vq N a b).bind λd=>some d else bif (a.bt==3)then(bif (b.xD.toInt==1)then (rK N b.xN).bind λe=>some e else some false).bind λf=>some f else(ma N b).bind λg=>some g
def wy{N a b}:KO 124 [cN a,bO b] aG (nR N a b):=
 fw func124 (ay λl g=>gA [[],[(4,cK qq g)]] (bV λh=>gA [[f0 h],[],[]] (aC (λc=>ay λm i=>gR [[t0 c],[(7,cK TV i)]]) λc=>gA [[f0 c],[]] (aC (λd=>gA [[t0 d]] (gG (λf=>[(4,aG f)]) (λ_=>[.cells (cN a).cells,.cells (bO b).cells]) (aC (λe=>ay λn j=>gE [(3,bT e)] [(19,cK Cg j)]) λe=>gE [(3,bF e)] []) λf=>gR [])) λd=>ay λo k=>gR [[f0 d],[(4,cK oM k)]]))))
def TB(N:Nat)(a:au):O au:=some a
def aus{N a r}(J:TB N a=some r):gq prog 220 [aL a] (·=(.fn 257 [.bm [dV r] 0 0])):=by
 cases J;exact akn a
def nt:au:=⟨(0:Int),bs [],dB,gU,iH,[],[]⟩
def DB:U AV:=[Y 0,Y 0,Y 0,Y 0,Y 0]
def Fz(v:au)(r:U AV):U AV:=(Y v.aA)::(cd v.ar)::(bg v.cU.xN)::(bg v.cU.xD)::(Y v.aw.bt)::(Y v.aw.bW)::(Y v.aw.bR)::(Y v.aw.b9)::(Y v.aw.b8)::r
def xe(N:Nat):U aK->O Int
 |[]=>some (0:Int)
 |c::a=>(uU N c).bind λb=>bif (b !=0)then some (1:Int)else(xe N a)
def JG(N:Nat)(a:au):O Int:=(Mq N a).bind λb=>bif b then(NQ N a).bind λc=>bif c then(JZ N a).bind λd=>bif d then(NH N a).bind λe=>bif e then(bif (a.aA==1)then (nR N a.aw a.cU).bind λf=>some (!f)else some false).bind λg=>bif g then some (1:Int)else(TB N a).bind λh=>xe N (nA h)else some (10:Int)else some (11:Int)else some (7:Int)else some (5:Int)
def m6(a:au)(l:U ao):U ao:= .cells (aL a).cells:: .cells [Y 0]::l
def zw(a:au)(l:U ao):U ao:= .cells (aL a).cells::l
def ajO{N a r}(J:JG N a=some r):KF 178 [aL a] (Y r):=by
 rw[JG]at J;refine qZ func178 rfl km ?_;refine fR [0] 0 (Zx _) (s':=⟨38,[(0,aL a)],[]⟩) km ?_;refine az (CM [] [(1,A1),(2,An)] (m6 a []) ?_);refine az (ft ?_);refine az ?_;obtain⟨q,z,J⟩:=bJ J;refine CM [(4,cK asF z)] [(4,aG (!q))] (m6 a []) ?_;rcases eo q with g|g
 ·replace J:=(cS g).symm.trans J;refine AX (t:=(!q)) (dG g) ?_;refine az ?_;obtain⟨u,A,J⟩:=bJ J;refine CM [(4,cK alW A)] [(8,aG (!u))] (m6 a []) ?_;rcases eo u with h|h
  ·replace J:=(cS h).symm.trans J;refine AX (t:=(!u)) (dG h) ?_;refine az ?_;obtain⟨v,B,J⟩:=bJ J;refine CM [(4,cK ass B)] [(12,aG (!v))] (m6 a []) ?_;rcases eo v with i|i
   ·replace J:=(cS i).symm.trans J;refine AX (t:=(!v)) (dG i) ?_;refine az ?_;obtain⟨w,C,J⟩:=bJ J;refine CM [(4,cK apM C)] [(16,aG (!w))] (m6 a []) ?_;rcases eo w with j|j
    ·replace J:=(cS j).symm.trans J;refine AX (t:=(!w)) (dG j) ?_;refine az ?_;obtain⟨x,bB,J⟩:=bJ J;refine yS [(20,aG x)] (m6 a []) ?_ ?_
     ·rcases eo (a.aA==1)with b|b
      ·replace bB:=(cS b).symm.trans bB;obtain⟨K,E,bB⟩:=bJ bB;have y:=Zl bB;subst y;exact⟨[(12,bT b),(15,bT b),(18,bT b),(21,bT b),(24,bT b),(25,cK wy E),(27,bT b),(31,bT b)],by kernel_rfl⟩
      replace bB:=(eu b).symm.trans bB;have y:=Zl bB;subst y;exact⟨[(12,bF b),(15,bF b),(18,bF b),(21,bF b),(24,bF b),(27,bF b),(31,bF b)],by kernel_rfl⟩
     rcases eo x with k|k
     ·replace J:=(cS k).symm.trans J;refine AY (t:=x) k ?_;refine az (CM [] [] (zw a [.cells [Y 1]]) ?_);refine cT (eI (dd ?_));have c:=Zl J;subst c;exact fX km
     replace J:=(eu k).symm.trans J;refine AX (t:=x) k ?_;refine dn ?_;refine hY ?_;refine bx ?_;refine az (az ?_);obtain⟨d,F,J⟩:=bJ J;refine CM [(4,cL (aus F))] [(33,.fn 257 [.bm [dV d] 0 0])] (m6 a []) ?_;refine ft ?_;refine fR [2,33] 2 (Zh rfl) (s':=⟨38,[(2,An),(33,.fn 257 [.bm [dV d] 0 0])],m6 a []⟩) km ?_;refine ya (m:=2) (enc:=cJ) (xs:=(nA d)) km (asK d) (λ(_:Unit)=>(m6 a [])) (λ(_:Unit) l=>xe N l=some r) () km J (by rintro _;rfl) (by rintro _;kernel_rfl) km rfl ?_ ?_
     ·rintro _ f G J L n o
      try dsimp only at J
      rw[xe]at J;refine fR [2,34] 3 (Zx _) (s':=⟨38,[(2,An),(34,cJ f)],m6 a [.lp .ready 34 n o (dL 38 [(2,An),(33,.fn 257 [.bm [dV d] 0 0])])]⟩) km ?_;refine BI [] [(3,Ar)] (m6 a [.lp .ready 34 n o (dL 38 [(2,An),(33,.fn 257 [.bm [dV d] 0 0])]),.cells (cJ f).cells]) ?_;refine bx ?_;refine⟨m6 a [],T6 f,rfl,km,?_⟩;refine fR [2,3] 4 (Zh rfl) (s':=⟨38,[(2,An),(3,Ar)],m6 a [.lp .busy 34 n o (dL 38 [(2,An),(33,.fn 257 [.bm [dV d] 0 0])]),.cells (cJ f).cells]⟩) km ?_;refine ft ?_;refine az ?_;obtain⟨e,H,J⟩:=bJ J;refine CM [(4,cK zM H)] [(37,(aG (e !=0)))] (m6 a [.lp .busy 34 n o (dL 38 [(2,An),(33,.fn 257 [.bm [dV d] 0 0])]),.cells (cJ f).cells]) ?_;rcases eo (e !=0)with p|p
      ·replace J:=(cS p).symm.trans J;refine AY (t:=(e !=0)) p ?_;refine az (CM [] [] (zw a [.cells [Y 1],.lp .busy 34 n o (dL 38 [(2,An),(33,.fn 257 [.bm [dV d] 0 0])]),.cells (cJ f).cells]) ?_);refine cT (eI ?_);refine DC (zw a [.cells [Y 1]]) rfl km km ?_;refine(eI (dd ?_));have c:=Zl J;subst c;exact fX km
      replace J:=(eu p).symm.trans J;refine AX (t:=(e !=0)) p ?_;refine dn ?_;refine hY ?_;refine zA (m6 a []) rfl km km ?_;exact⟨(),km,J⟩
     rintro _ J
     try dsimp only at J
     rw[xe]at J;refine hY ?_;refine bx ?_;refine az (CM [] [] (m6 a [.gone]) ?_);refine cT ?_;have c:=Zl J;subst c;exact fX km
    replace J:=(eu j).symm.trans J;refine AY (t:=(!w)) (eF j) ?_;refine az (CM [] [] (zw a [.cells [Y 10]]) ?_);refine cT (eI (dd ?_));have c:=Zl J;subst c;exact fX km
   replace J:=(eu i).symm.trans J;refine AY (t:=(!v)) (eF i) ?_;refine az (CM [] [] (zw a [.cells [Y 11]]) ?_);refine cT (eI (dd ?_));have c:=Zl J;subst c;exact fX km
  replace J:=(eu h).symm.trans J;refine AY (t:=(!u)) (eF h) ?_;refine az (CM [] [] (zw a [.cells [Y 7]]) ?_);refine cT (eI (dd ?_));have c:=Zl J;subst c;exact fX km
 replace J:=(eu g).symm.trans J;refine AY (t:=(!q)) (eF g) ?_;refine az (CM [] [] (zw a [.cells [Y 5]]) ?_);refine cT (eI (dd ?_));have c:=Zl J;subst c;exact fX km
def yZ(N:Nat):U au->O Int
 |[]=>some (0:Int)
 |b::c=>(JG N b).bind λa=>bif (a !=0)then some a else(yZ N c)
def GG(N:Nat)(a:au):O Int:=(U9 N a).bind λb=>bif (decide (b>40))then some (13:Int)else(G4 N a).bind λc=>bif (decide (c>2000))then some (2:Int)else(yr N a).bind λd=>yZ N (dx d)
def qJ(a:au)(l:U ao):U ao:= .cells (aL a).cells:: .cells [Y 0]::l
def We(a:au)(b:Code)(c:Code)(d:au)(e:au)(l:U ao):U ao:=qJ a (.lp .busy 13 b c (dL 19 [(2,An),(12,.fn 81 [.bm [dV d] 0 0])]):: .cells (aL e).cells::l)
def Hg(a:au)(l:U ao):U ao:= .cells (aL a).cells::l
def alg{N a r}(J:GG N a=some r):KF 142 [aL a] (Y r):=by
 rw[GG]at J;refine qZ func142 rfl km ?_;refine fR [0] 0 (Zx _) (s':=⟨19,[(0,aL a)],[]⟩) km ?_;refine az (CM [] [(1,A1),(2,An)] (qJ a []) ?_);refine az (az ?_);obtain⟨k,o,J⟩:=bJ J;refine CM [(4,cK ar8 o)] [(7,(aG (decide (k>40))))] (qJ a []) ?_;rcases eo (decide (k>40))with h|h
 ·replace J:=(cS h).symm.trans J;refine AY (t:=(decide (k>40))) h ?_;refine az (CM [] [] (Hg a [.cells [Y 13]]) ?_);refine cT (dd ?_);have c:=Zl J;subst c;exact fX km
 replace J:=(eu h).symm.trans J;refine AX (t:=(decide (k>40))) h ?_;refine dn ?_;refine bx ?_;refine az (az ?_);obtain⟨n,p,J⟩:=bJ J;refine CM [(4,cL (ajM p))] [(10,(aG (decide (n>2000))))] (qJ a []) ?_;rcases eo (decide (n>2000))with i|i
 ·replace J:=(cS i).symm.trans J;refine AY (t:=(decide (n>2000))) i ?_;refine az (CM [] [] (Hg a [.cells [Y 2]]) ?_);refine cT (dd ?_);have c:=Zl J;subst c;exact fX km
 replace J:=(eu i).symm.trans J;refine AX (t:=(decide (n>2000))) i ?_;refine dn ?_;refine bx ?_;refine az (az ?_);obtain⟨b,q,J⟩:=bJ J;refine CM [(4,cL (Pc q))] [(12,.fn 81 [.bm [dV b] 0 0])] (qJ a []) ?_;refine ft ?_;refine fR [2,12] 2 (Zh rfl) (s':=⟨19,[(2,An),(12,.fn 81 [.bm [dV b] 0 0])],qJ a []⟩) km ?_;refine ya (m:=2) (enc:=aL) (xs:=(dx b)) km (Ni b) (λ(_:Unit)=>(qJ a [])) (λ(_:Unit) l=>yZ N l=some r) () km J (by rintro _;rfl) (by rintro _;kernel_rfl) km rfl ?_ ?_
 ·rintro _ d v J w f g
  try dsimp only at J
  rw[yZ]at J;refine fR [2,13] 3 (Zx _) (s':=⟨19,[(2,An),(13,aL d)],qJ a [.lp .ready 13 f g (dL 19 [(2,An),(12,.fn 81 [.bm [dV b] 0 0])])]⟩) km ?_;refine BI [] [(3,Ar)] (qJ a [.lp .ready 13 f g (dL 19 [(2,An),(12,.fn 81 [.bm [dV b] 0 0])]),.cells (aL d).cells]) ?_;refine bx ?_;refine⟨qJ a [],Hg d [],rfl,km,?_⟩;refine fR [2,3] 4 (Zh rfl) (s':=⟨19,[(2,An),(3,Ar)],We a f g b d []⟩) km ?_;refine ft ?_;refine az ?_;obtain⟨e,u,J⟩:=bJ J;refine CM [(4,cL (ajO u))] [(4,Y e)] (We a f g b d []) ?_;refine az (CM [] [(17,(aG (e !=0)))] (We a f g b d []) ?_);rcases eo (e !=0)with j|j
  ·replace J:=(cS j).symm.trans J;refine AY (t:=(e !=0)) j ?_;refine az (CM [] [] (Hg a [.cells [Y e],.lp .busy 13 f g (dL 19 [(2,An),(12,.fn 81 [.bm [dV b] 0 0])]),.cells (aL d).cells]) ?_);refine cT (eI ?_);refine DC (Hg a [.cells [Y e]]) rfl km km ?_;refine(eI (dd ?_));have c:=Zl J;subst c;exact fX km
  replace J:=(eu j).symm.trans J;refine AX (t:=(e !=0)) j ?_;refine dn ?_;refine hY ?_;refine zA (qJ a []) rfl km km ?_;exact⟨(),km,J⟩
 rintro _ J
 try dsimp only at J
 rw[yZ]at J;refine hY ?_;refine bx ?_;refine az (CM [] [] (qJ a [.gone]) ?_);refine cT ?_;have c:=Zl J;subst c;exact fX km
def Po(N:Nat)(a:U (so×Int)):U bD->Nat->O Int
 |[],_=>some (0:Int)
 |v6::b,c=>bif ((ic a v6.ar 0)==0)then some (9:Int)else(Po N a b (c+1))
def GS(N:Nat)(a:aK)(c:aI)(b:U (so×Int)):O Int:=Po N b a.xL 0
def UA{N a e c}:KP 180 [A1,cJ a] (Ix e c) Y (λ_=>(Ix e c)) (GS N a e c):=
 fh 2 func180 (gA [[],[(7,oL a.xL fO)]] (gT rm 8 a.xL λh=>eX 1 [] [0,8,9,10] 3 (λf=>⟨23,[(0,A1),(8,I (cY a.xL)),(9,Y a.xL.length),(10,Y f)],[.cells (gF e [.mp 1]),.map (fV c),.cells (cJ a).cells]⟩) (λf b i=>gH [[],[f0 (bY b)],[]]) (λf j l b i k=>gA [[],[t0 (bZ b)],[(1,oE (jL (bA b)))],[(20,oq (HB false c j.ar))]] (aC (λg=>gH [[t0 g],[]]) λg=>gb k () [[f0 g],[(2,oq (ck b rfl h))]] b))))
def EO(N:Nat)(a:U bD):O (U bD):=bif Nat.ble (a.length*24) 140737488355328 then some a else none
def aeu{N a r}(J:EO N a=some r):gq prog 84 [I (cY a)] (·=(I (cY r))):=by
 obtain⟨c,rfl⟩:=eY J;have b:=lG c gy;exact ast CB (by rw[fO];exact b.1) (by rw[fO];exact b.2)
def yK(N:Nat)(a:aK):O aK:=(EO N a.xL).bind λb=>some (⟨a.xK,b⟩:aK)
def L4{N a}:KO 45 [cJ a] cJ (yK N a):=
 fw func45 (ay λc b=>gR [[],[(13,cL (aeu b))]])
def HI(N:Nat):U aK->Nat->(U aK)->O (U aK)
 |[],_,a=>some a
 |v4::b,c,a=>(yK N v4).bind λd=>bif (Nat.ble ((a.length+1)*32) 140737488355328)then(λe=>HI N b (c+1) e) (a++[d])else none
def E9(N:Nat)(a:U aK):O (U aK):=HI N a 0 []
def afh{N a}:KO 46 [I (dF a)] (λr=>.d (.sl (dF r))) (E9 N a):=
 fw func46 (gA [[],[],[(4,oL a fJ)]] (li (λ_=>(qK 3 45 2 [] (.inr km) ·)) (gT ny 0 a λg=>iC 1 [] [3,6,7,8] 1 (λe(b:U aK)=>⟨19,[(3,.own 0 (dF b)),(6,I (dF a)),(7,Y a.length),(8,Y e)],[.front 45 2 b.length]⟩) (λe b c h=>gR [[],[f0 (bY c)],[]]) (λe l m b c h i=>ay λf j=>dW λk=>gb i (b++[f]) [[],[t0 (bZ c)],[(1,oE (mQ (bA c)))],[(7,cK L4 j),(13,oA ny b ([f]) k)],[(2,oq (ck c rfl g))]] c))))
def EE(N:Nat)(a:aF)(b:so):O Bool:=some (bL a.ar==bL b)
abbrev Mv:=λa=>([.cells [cd a]]:List ao)
def ahY{N b a}:KP 50 [dX b,A1] (Mv a) aG (λ_=>(Mv a)) (EE N b a):=
 fh 1 func50 (gH [[],[]])
def K9(N:Nat)(a:so):U aF->Nat->O Int
 |[],_=>some (-1:Int)
 |c::d,b=>(EE N c a).bind λe=>bif e then some (b:Int)else(K9 N a d (b+1))
def W0(N:Nat)(a:U aF)(b:so):O Int:=K9 N b a 0
def atC{N a c}:KP 49 [I (dy a),.fn 50 [A1]] (Mv c) Y (λ_=>(Mv c)) (W0 N a c):=
 fh 1 func49 (gA [[],[(4,oL a kO)]] (gT Ci 0 a λg=>eX 1 [] [0,1,7,8] 1 (λe=>⟨19,[(0,I (dy a)),(1,.fn 50 [A1]),(7,Y a.length),(8,Y e)],Mv c⟩) (λe b h=>gH [[],[f0 (bY b)],[]]) (λe i l b h j=>ay λm k=>gA [[],[t0 (bZ b)],[],[(10,oE (nI (bA b))),(16,oQ [dX i,A1] (Mv c) [0] (ahY _ k))]] (aC (λf=>gH [[t0 f],[]]) λf=>gb j () [[f0 f],[(2,oq (ck b rfl g))]] b))))
def DO(N:Nat)(a:aI)(b:so):O Int:=(W0 N a.ax b).bind λc=>some c
abbrev T3:=λa b=>([.cells (di a).cells,.cells [cd b]]:List ao)
def Rw{N a b}:KO 22 [di a,cd b] Y (DO N a b):=
 fw func22 (ay λe c=>gR [[],[(10,oQ [I (dy a.ax),.fn 50 [An]] (T3 a b) [1] (atC _ c))]])
def F8(N:Nat)(c:aF):U cq->Nat->(U aK)->O (aQ×(U aK)×Bool)
 |[],_,a=>some (c.aw,a,true)
 |v11::b,d,a=>(yK N v11.dq).bind λe=>bif (Nat.ble ((a.length+1)*32) 140737488355328)then(λf=>F8 N c b (d+1) f) (a++[e])else none
def E7(N:Nat)(a:aI)(b:so):U cl->Nat->O (aQ×(U aK)×Bool)
 |[],_=>(DO N a b).bind λc=>bif (decide (c>=0))then bif (decide ((0:Int)<=c))then(a.ax[(c).toNat]?).bind λe=>F8 N e e.aJ 0 []else none else some (gU,[],false)
 |d::f,g=>bif (bL d.ar==bL b)then(E9 N d.aJ).bind λh=>some (d.aw,h,true)else(E7 N a b f (g+1))
def HQ(N:Nat)(a:aI)(b:so):O (aQ×(U aK)×Bool):=E7 N a b a.aS 0
def Qo{N a g}:KO 112 [di a,cd g] (λr=>.bw [cN r.1,I (dF r.2.1),aG r.2.2]) (HQ N a g):=
 fw func112 (gA [[],[(7,oL a.aS pe)]] (gT Fs 14 a.aS λp=>eX 1 [] [1,2,4,14,15,16] 2 (λh=>⟨61,[(1,cd g),(2,A1),(4,An),(14,I (dA a.aS)),(15,Y a.aS.length),(16,Y h)],[.cells (di a).cells,.cells DB]⟩) (λh b q=>ay λj t=>gA [[],[f0 (bY b)],[(7,cK Rw t)],[]] (tY λu=>dW λm=>ay λf n=>gA [[t0 u],[],[(10,⟨_,_,.el (xs:=dy a.ax) (i:=j) (Tr m) (nI n)⟩),(19,oL f.aJ kt)]] (li (λ_=>(qK 10 45 2 [] (.inr km) ·)) (gT qD 40 f.aJ λv=>iC 2 [] [2,4,9,10,40,41,42] 3 (λk(c:U aK)=>⟨61,[(2,A1),(4,An),(9,Y j),(10,.own 2 (dF c)),(40,I (dC f.aJ)),(41,Y f.aJ.length),(42,Y k)],[.cells (di a).cells,.cells DB,.front 45 2 c.length]⟩) (λk c e w=>gR [[],[f0 (bY e)],[(10,⟨_,_,.el (xs:=dy a.ax) (i:=j) (Tr m) (nI n)⟩)]]) (λk x y c e w z=>ay λo A=>dW λB=>gb z (c++[o]) [[],[t0 (bZ e)],[(1,oE (uo (bA e)))],[(10,cK L4 A),(16,oA ny c ([o]) B)],[(2,oq (ck e rfl v))]] e))))) (λh F G b q C=>gA [[],[t0 (bZ b)],[(1,oE (xM (bA b)))],[]] (aC (λl=>ay λH E=>gR [[t0 l],[(13,cK afh E)]]) λl=>gb C () [[f0 l],[(2,oq (ck b rfl p))]] b))))
def NP(N:Nat)(b:aI)(c:U (so×Int)):U aK->Nat->O Int
 |[],_=>some (0:Int)
 |d::e,f=>(GS N d b c).bind λa=>bif (a !=0)then some a else(NP N b c e (f+1))
def Ng(N:Nat)(a:aT)(b:aI)(d:U (so×Int)):O Int:=bif (bL a.bp==bL (bs []))then(GS N a.aU b d).bind λe=>some e else(HQ N b a.bp).bind λc=>bif c.2.2 then bif (c.1.bt !=3)then some (10:Int)else bif ((a.bC.length:Int) !=(c.2.1.length:Int))then some (11:Int)else NP N b d a.bC 0 else some (9:Int)
def Nf(a:aI)(b:U (so×Int))(c:aT)(l:U ao):U ao:= .cells (gF a [.mp 1]):: .map (fV b):: .cells (fK c).cells::l
def aqm{N a b c}:KP 221 [A1,fK a] (Ix b c) Y (λ_=>(Ix b c)) (Ng N a b c):=
 fh 2 func221 (gA [[],[]] (aC (λf=>ay λv n=>gH [[t0 f],[(10,oQ [A1,cJ a.aU] (Nf b c a []) [0,1] (UA _ n))]]) λf=>ay λg o=>gA [[f0 f],[(19,cK Qo o)],[]] (aC (λh=>gA [[f0 (dG h)],[]] (aC (λi=>gH [[t0 i],[]]) λi=>gA [[f0 i],[(7,oL a.bC fJ),(13,oL g.2.1 fJ)]] (aC (λj=>gH [[t0 j],[]]) λj=>gA [[f0 j],[(7,oL a.bC fJ)]] (gT ny 44 a.bC λp=>eX 1 [] [0,44,45,46] 4 (λk=>⟨57,[(0,A1),(44,I (dF a.bC)),(45,Y a.bC.length),(46,Y k)],Nf b c a (T1 g.1)⟩) (λk e q=>gH [[],[f0 (bY e)],[]]) (λk m w e q r=>ay λt u=>gA [[],[t0 (bZ e)],[(1,oE (mQ (bA e)))],[(7,oQ [A1,cJ m] (Nf b c a [.cells (cN g.1).cells,.cells (cJ m).cells]) [0,1] (UA _ u))],[]] (aC (λl=>gH [[t0 l],[]]) λl=>gb r () [[f0 l],[(2,oq (ck e rfl p))]] e)))))) λh=>gH [[t0 (eF h)],[]])))
def Oh(N:Nat)(a:aQ×(U aK)×Bool)(b:aI)(c:U (so×Int)):U aT->Nat->O (aQ×Int)
 |[],_=>some (a.1,(0:Int))
 |e::f,g=>(Ng N e b c).bind λd=>bif (d !=0)then some (gU,d)else(Oh N a b c f (g+1))
def KG(N:Nat)(a:au)(c:aI)(d:U (so×Int)):O (aQ×Int):=(HQ N c a.ar).bind λb=>bif b.2.2 then bif ((a.xIdx.length:Int) !=(b.2.1.length:Int))then some (gU,(11:Int))else Oh N b c d a.xIdx 0 else some (gU,(9:Int))
def aqg{N a c e}:KP 181 [A1,aL a] (Ix c e) (λr=>.bw [cN r.1,Y r.2]) (λ_=>(Ix c e)) (KG N a c e):=
 fh 2 func181 (ay λf l=>gA [[],[(19,cK Qo l)],[]] (aC (λg=>gA [[f0 (dG g)],[(7,oL a.xIdx gv),(13,oL f.2.1 fJ)]] (aC (λh=>gH [[t0 h],[]]) λh=>gA [[f0 h],[(7,oL a.xIdx gv)]] (gT po 34 a.xIdx λm=>eX 1 [] [0,4,6,34,35,36] 5 (λi=>⟨49,[(0,A1),(4,Ar),(6,CV),(34,I (cg a.xIdx)),(35,Y a.xIdx.length),(36,Y i)],[.cells (gF c [.mp 1]),.map (fV e),.cells (aL a).cells,.cells DB,.cells (cN f.1).cells]⟩) (λi b n=>gH [[],[f0 (bY b)],[]]) (λi k q b n o=>ay λt p=>gA [[],[t0 (bZ b)],[(1,oE (j5 (bA b)))],[(7,oQ [A1,fK k] [.cells (gF c [.mp 1]),.map (fV e),.cells (aL a).cells,.cells DB,.cells (cN f.1).cells,.cells (fK k).cells] [0,1] (aqm _ p))],[]] (aC (λj=>gH [[t0 j],[]]) λj=>gb o () [[f0 j],[(2,oq (ck b rfl m))]] b))))) λg=>gH [[t0 (eF g)],[]]))
def Is(N:Nat)(a:aQ)(b:aQ):O Int:=bif ((a.bt==b.bt)&&((a.bW==b.bW)&&((a.bR==b.bR)&&((a.b9==b.b9)&&((a.b8==b.b8)&&true)))))then some (0:Int)else some (10:Int)
def Rv{N a b}:KO 179 [cN a,cN b] Y (Is N a b):=
 fw func179 (gA [[],[]] (qg λc=>gR [[t0 (eF c)],[]]))
def Ik(N:Nat)(b:U aQ)(d:Bool):O (aQ×Int):=bif d then(b[0]?).bind λe=>(b[1]?).bind λf=>(Is N e f).bind λc=>some (gU,c)else(b[0]?).bind λa=>(b[1]?).bind λg=>(Is N a g).bind λh=>some (a,h)
def EW(N:Nat)(a:au)(b:U aQ)(c:Bool):O (aQ×Int):=bif c then some (gU,(0:Int))else bif (a.aA==13)then Ik N b (a.aA==13)else bif (a.aA==14)then Ik N b (a.aA==14)else Ik N b (a.aA==15)
def N4(N:Nat)(a:au)(f:aI)(g:U (so×Int))(b:U aQ)(i:Bool):O (aQ×Int):=bif i then some (a.aw,(0:Int))else bif (a.aA==2)then(GS N a.aU f g).bind λd=>some ((⟨3,0,0,0,0⟩:aQ),d)else bif (a.aA==3)then(KG N a f g).bind λc=>some (c.1,c.2)else bif (a.aA==8)then(b[0]?).bind λe=>some (e,(0:Int))else bif (a.aA==11)then(b[1]?).bind λh=>(b[2]?).bind λj=>(Is N h j).bind λk=>some (h,k)else bif (a.aA==16)then EW N a b (a.aA==16)else bif (a.aA==17)then EW N a b (a.aA==17)else EW N a b (a.aA==18)
def AP(N:Nat)(b:au)(e:aI)(f:U (so×Int))(c:au->aI->(U (so×Int))->O (aQ×Int)):U au->Nat->(U aQ)->O (aQ×Int)
 |[],_,d=>bif (b.aA==1)then N4 N b e f d (b.aA==1)else N4 N b e f d (b.aA==12)
 |v6::g,h,d=>(c v6 e f).bind λa=>bif (a.2 !=0)then some (gU,a.2)else bif (Nat.ble ((d.length+1)*40) 140737488355328)then(λi=>AP N b e f c g (h+1) i) (d++[a.1])else none
def AR(N:Nat):Nat->au->aI->(U (so×Int))->O (aQ×Int)
 |0,_,_,_=>none
 |d+1,a,b,c=>AP N a b c (AR N d) a.bk 0 []
def Tx(N:Nat)(a:au)(b:aI)(c:U (so×Int)):O (aQ×Int):=AR N N a b c
def yT(a:aI)(b:U (so×Int))(c:au)(d:U aQ)(l:U ao):U ao:= .cells (gF a [.mp 1]):: .map (fV b):: .cells (aL c).cells:: .cells DB:: .front 49 5 d.length::l
def amS(N:Nat):∀d:Nat,(∀{a:au}{c:aI}{e:U (so×Int)},KP 144 [A1,aL a] (Ix c e) (λr=>.bw [cN r.1,Y r.2]) (λ_=>(Ix c e)) (AR N d a c e)):=by
 intro d
 induction d with
 |zero=>intro a c e r J;rw[AR]at J;cases J
 |succ d ih=>
  have h:= @ih;intro a c e;rw[AR];exact fh 2 func144 (gA [[],[],[(7,oL a.bk iM)]] (li (λ_=>(qK 6 49 5 [] (.inr km) ·)) (gT qi 13 a.bk λL=>iC 1 [] [0,3,4,6,13,14,15] 5 (λi(b:U aQ)=>⟨102,[(0,A1),(3,D0),(4,Ar),(6,.own 4 (qI b)),(13,I (eH a.bk)),(14,Y a.bk.length),(15,Y i)],yT c e a b []⟩) (λi b f M=>nF 2 [[],[(0,bF (bY f))],[],[],[]] [0,3,4,6,11,35,36] 5 (λ(B:Bool)=>⟨102,[(0,A1),(3,D0),(4,Ar),(6,.own 4 (qI b)),(11,.fn 179 []),(35,Y a.aA),(36,aG B)],yT c e a b []⟩) (N4 N a c e b) (λf2 C=>aC (λj=>gm C (a.aA==1) [[(0,bT j)]]) λj=>gm C (a.aA==12) [[(0,bF j)],[]]) (λB=>aC (λl=>gH [[(0,bT l)],[]]) λl=>gA [[(0,bF l)],[]] (aC (λm=>ay λP Q=>gH [[(0,bT m)],[(13,oQ [A1,cJ a.aU] (yT c e a b []) [0,1] (UA _ Q))]]) λm=>gA [[(0,bF m)],[]] (aC (λn=>ay λR S=>gH [[(0,bT n)],[(7,oQ [A1,aL a] (yT c e a b []) [0,1] (aqg _ S))]]) λn=>gA [[(0,bF n)],[]] (aC (λo=>ay λT W=>gH [[(0,bT o)],[(4,oE (k:=0) (vE W))]]) λo=>gA [[(0,bF o)],[]] (aC (λp=>ay λaD E=>ay λaE cX=>ay λaZ bU=>gH [[(0,bT p)],[(4,oE (k:=1) (vE E)),(16,oE (k:=1) (vE E)),(25,oE (k:=2) (vE cX)),(31,cK Rv bU)]]) λp=>nF 3 [[(0,bF p)],[]] [4,6,11,35,73] 5 (λ(F:Bool)=>⟨102,[(4,Ar),(6,.own 4 (qI b)),(11,.fn 179 []),(35,Y a.aA),(73,aG F)],yT c e a b []⟩) (EW N a b) (λf3 q=>aC (λt=>gm q (a.aA==16) [[(0,bT t)]]) λt=>gA [[(0,bF t)],[]] (aC (λu=>gm q (a.aA==17) [[(0,bT u)]]) λu=>gm q (a.aA==18) [[(0,bF u)],[]])) (λF=>aC (λv=>gH [[(0,bT v)],[]]) λv=>nF 4 [[(0,bF v)],[]] [4,6,11,78] 5 (λ(G:Bool)=>⟨102,[(4,Ar),(6,.own 4 (qI b)),(11,.fn 179 []),(78,aG G)],yT c e a b []⟩) (Ik N b) (λf4 w=>aC (λx=>gm w (a.aA==13) [[(0,bT x)]]) λx=>gA [[(0,bF x)],[]] (aC (λy=>gm w (a.aA==14) [[(0,bT y)]]) λy=>gm w (a.aA==15) [[(0,bF y)],[]])) (λG=>aC (λz=>ay λaP dQ=>ay λbq dJ=>ay λv20 ff=>gH [[(0,bT z)],[(10,oE (k:=0) (vE dQ)),(19,oE (k:=1) (vE dJ)),(25,cK Rv ff)]]) λz=>ay λv21 H=>ay λdM iA=>ay λdw jm=>gH [[(0,bF z)],[(4,oE (k:=0) (vE H)),(16,oE (k:=0) (vE H)),(25,oE (k:=1) (vE iA)),(31,cK Rv jm)]])))))))) (λi K v7 b f M aV=>ay λg mo=>gA [[],[(0,bT (bZ f))],[(1,oE (kg (bA f)))],[(7,oQ [A1,aL K] (yT c e a b (L2 K)) [0,1] (h _ mo))],[]] (aC (λA=>gH [[(0,bT A)],[]]) λA=>dW λoG=>gb aV (b++[g.1]) [[(0,bF A)],[(10,oA aoi b ([g.1]) oG)],[(2,oq (ck f rfl L))]] f)))))
def asg{N c a b}:KP 144 [A1,aL c] (Ix a b) (λr=>.bw [cN r.1,Y r.2]) (λ_=>(Ix a b)) (Tx N c a b):=(amS N N)
def Aq(N:Nat)(d:au)(e:aI):U so->Nat->(U (so×Int))->O (aQ×Int)
 |[],_,a=>(Tx N d e a).bind λb=>bif (b.2 !=0)then some (gU,b.2)else some (b.1,(0:Int))
 |f::g,c,a=>bif (Nat.blt a.length 9223372036854775807)then(λh=>Aq N d e g (c+1) h) ((f,(3:Int))::a)else none
def OE(N:Nat)(b:au)(c:aI)(d:U so):U so->Nat->(U (so×Int))->O (aQ×Int)
 |[],_,a=>Aq N b c d 0 a
 |e::f,g,a=>bif (Nat.blt a.length 9223372036854775807)then(λh=>OE N b c d f (g+1) h) ((e,(1:Int))::a)else none
def LF(N:Nat)(b:aI)(d:U so)(a:au):O (aQ×Int):=(GG N a).bind λc=>bif (c !=0)then some (gU,c)else(Ig N a).bind λe=>bif e then some (gU,(10:Int))else OE N a b d b.bj 0 []
def UO(b:aI)(c:au)(a:U (so×Int))(l:U ao):U ao:= .cells (di b).cells:: .cells (aL c).cells:: .cells DB:: .map (fV a):: .cells (gF b [.mp 3])::l
def ajo{N a c f}:KO 101 [di a,I (bQ c),aL f] (λr=>.bw [cN r.1,Y r.2]) (LF N a c f):=
 fw func101 (ay λE k=>gA [[],[(4,cL (alg k))],[]] (bV λl=>ay λF m=>gA [[f0 l],[(4,cK ad9 m)]] (bV λn=>gA [[f0 n],[],[(7,oL a.bj jt)]] (gT tR 30 a.bj λp=>iC 1 [] [1,5,6,9,30,31,32] 5 (λj(b:U (so×Int))=>⟨65,[(1,I (bQ c)),(5,An),(6,D0),(9,CV),(30,I (bQ a.bj)),(31,Y a.bj.length),(32,Y j)],UO a f b []⟩) (λj b g q=>gA [[],[f0 (bY g)],[(4,oL c jt)]] (gT tR 1 c λt=>iC 2 [] [5,6,9,42,43,44] 5 (λe(i:U (so×Int))=>⟨65,[(5,An),(6,D0),(9,CV),(42,I (bQ c)),(43,Y c.length),(44,Y e)],UO a f i []⟩) (λe i h u=>ay λG v=>gA [[],[f0 (bY h)],[(7,oQ [CV,aL f] (UO a f i []) [4,3] (asg _ v))],[]] (bV λw=>gR [[f0 w],[]])) (λe x H i h u y=>dW λz=>gb y ((x,(3:Int))::i) [[],[t0 (bZ h)],[(1,oE (rM (bA h)))],[(16,⟨_,_,.sd (o:= .none) (SQ z)⟩)],[(2,oq (ck h rfl t))]] h))) (λj A J b g q B=>dW λC=>gb B ((A,(1:Int))::b) [[],[t0 (bZ g)],[(1,oE (rM (bA g)))],[(16,⟨_,_,.sd (o:= .none) (SQ C)⟩)],[(2,oq (ck g rfl p))]] g)))))
def Pp(N:Nat)(e:Int)(d:aI)(i:U (so×Int)):O (Int×(U (so×Int))):=bif (decide ((0:Int)<=e))then(d.ax[(e).toNat]?).bind λb=>(Dr N b.ar (2:Int) d i).bind λc=>bif (c.1 !=0)then some (c.1,c.2)else(AB N b.aw ([(b.aJ.length:Int),(b.bI.length:Int)])).bind λf=>bif (f !=0)then some (f,c.2)else(PR N b d c.2).bind λg=>bif (g !=0)then some (g,c.2)else(Ku N b).bind λh=>bif (h !=0)then some (h,c.2)else bif (decide ((e).toNat<=d.ax.length))then(Ou N b).bind λj=>(LF N (⟨d.bj,d.cO,d.aS,(d.ax.take (e).toNat).drop 0,d.cB⟩:aI) j b.aX).bind λa=>bif (a.2 !=0)then some (a.2,c.2)else bif ((a.1.bt==b.aw.bt)&&((a.1.bW==b.aw.bW)&&((a.1.bR==b.aw.bR)&&((a.1.b9==b.aw.b9)&&((a.1.b8==b.aw.b8)&&true)))))then some ((0:Int),c.2)else some ((10:Int),c.2)else none else none
def anp{N c a d}:KP 58 [A1,Y c] (Ix a d) (λr=>Y r.1) (λr=>(Ix a r.2)) (Pp N c a d):=
 fh 2 func58 (dW λl=>ay λb m=>ay λn o=>gA [[],[(19,⟨_,_,.el (xs:=dy a.ax) (i:=c) (Tr l) (nI m)⟩)],[(10,oR [A1,cd b.ar,Y 2] [.cells (gF a [.mp 1]),.map (fV d),.cells (dX b).cells] [0,1] (S0 _ o))],[]] (aC (λe=>gH [[t0 e],[]]) λe=>ay λy p=>gA [[f0 e],[(13,oL b.aJ kt),(22,oL b.bI kt),(28,cK acx p)],[]] (aC (λf=>gH [[t0 f],[]]) λf=>ay λz q=>gA [[f0 f],[(7,oQ [A1,dX b] [.cells (gF a [.mp 1]),.map (fV n.2),.cells (dX b).cells] [0,1] (atI _ q))],[]] (aC (λg=>gH [[t0 g],[]]) λg=>ay λA t=>gA [[f0 g],[(4,cK akh t)],[]] (aC (λh=>gH [[t0 h],[]]) λh=>dW λu=>ay λB v=>ay λw x=>gA [[f0 h],[],[(19,⟨_,_,.sub (xs:=dy a.ax) (lo:=0) (hi:=c) gy (Wl _) (Tr l) (by rw[kO];exact(Tr u)) RW aqJ⟩)],[(7,cK ajX v),(16,cK ajo x)],[]] (aC (λj=>gH [[t0 j],[]]) λj=>gA [[f0 j],[]] (aC (λk=>gH [[f0 (dG k)],[]]) λk=>gH [[t0 (eF k)],[]])))))))
def FD(N:Nat)(e:U (so×Int))(c:aI):U so->Nat->Int->O (Int×Int)
 |[],_,_=>some ((0:Int),(0:Int))
 |f::g,a,b=>bif ((ic e f 0) !=2)then some (b,(9:Int))else bif (decide (((a:Int)).toNat<=c.cB.length))then(g_slices_Contains_string_string N ((c.cB.take ((a:Int)).toNat).drop 0) f).bind λh=>bif h then some (b,(8:Int))else(λd=>FD N e c g (a+1) d) (aY (b+(1:Int)))else none
def CH(N:Nat)(b:aI):U aF->Nat->Int->(U (so×Int))->O (Int×Int)
 |[],_,c,d=>FD N d b b.cB 0 c
 |_::e,g,c,d=>(Pp N (g:Int) b d).bind λa=>bif (a.1 !=0)then some (c,a.1)else(λh f=>CH N b e (g+1) h f) (aY (c+(1:Int))) a.2
def DP(N:Nat)(b:aI):U cl->Nat->Int->(U (so×Int))->O (Int×Int)
 |[],_,c,d=>CH N b b.ax 0 c d
 |f::g,e,c,d=>(Nv N f b d).bind λa=>bif (a.1 !=0)then some (c,a.1)else(λh i=>DP N b g (e+1) h i) (aY (c+(1:Int))) a.2
def JH(N:Nat)(a:aI)(b:U (so×Int)):U cQ->Nat->O (Int×Int)
 |[],_=>DP N a a.aS 0 (2:Int) b
 |v10::c,e=>(Kg N v10 a b).bind λd=>bif (d !=0)then some ((1:Int),d)else(JH N a b c (e+1))
def Lg(N:Nat)(a:aI):U so->Nat->(U (so×Int))->O (Int×Int)
 |[],_,b=>JH N a b a.cO 0
 |c::d,e,b=>(Dr N c (1:Int) a b).bind λHW=>bif (HW.1 !=0)then some ((0:Int),HW.1)else(λf=>Lg N a d (e+1) f) HW.2
def tn(N:Nat)(a:aI):O (Int×Int):=(Mo N a).bind λb=>bif b then Lg N a a.bj 0 []else some ((0:Int),(2:Int))
def vM(a:aI)(b:U (so×Int))(l:U ao):U ao:= .cells (di a).cells:: .map (fV b):: .cells (gF a [.mp 1])::l
def Gi{N a}:KO 26 [di a] (λr=>.bw [Y r.1,Y r.2]) (tn N a):=
 fw func26 (ay λv2 z=>gA [[],[(4,cK atO z)]] (kC λA=>gA [[f0 (dG A)],[],[(7,oL a.bj jt)]] (gT tR 27 a.bj λB=>iC 1 [] [1,4,27,28,29] 3 (λt(f:U (so×Int))=>⟨115,[(1,A1),(4,D0),(27,I (bQ a.bj)),(28,Y a.bj.length),(29,Y t)],vM a f []⟩) (λt f g C=>gA [[],[f0 (bY g)],[(7,oL a.cO ql)]] (gT E5 41 a.cO λE=>eX 2 [] [1,4,41,42,43] 3 (λu=>⟨115,[(1,A1),(4,D0),(41,I (dP a.cO)),(42,Y a.cO.length),(43,Y u)],vM a f []⟩) (λu h F=>gA [[],[f0 (bY h)],[],[(7,oL a.aS pe)]] (gT Fs 55 a.aS λG=>S7 3 [] [1,4,11,55,56,57] 3 (λe(n:Int)(o:U (so×Int))=>⟨115,[(1,A1),(4,D0),(11,Y n),(55,I (dA a.aS)),(56,Y a.aS.length),(57,Y e)],vM a o []⟩) (λe n o i H=>gA [[],[f0 (bY i)],[(7,oL a.ax kO)]] (gB Ci 0 3 a.ax λJ=>S7 4 [] [1,4,11,73,74] 3 (λp(q:Int)(j:U (so×Int))=>⟨115,[(1,A1),(4,D0),(11,Y q),(73,Y a.ax.length),(74,Y p)],vM a j []⟩) (λp q j l K=>gA [[],[f0 (bY l)],[(7,oL a.cB jt)]] (gT tR 88 a.cB λL=>iC 5 [] [1,4,11,88,89,90] 3 (λb(c:Int)=>⟨115,[(1,A1),(4,D0),(11,Y c),(88,I (bQ a.cB)),(89,Y a.cB.length),(90,Y b)],vM a j []⟩) (λb c k M=>gR [[],[f0 (bY k)],[]]) (λb P sE c k M v=>gA [[],[t0 (bZ k)],[(4,oE (rM (bA k)))],[(17,oq (HB false j P))]] (bV λQ=>dW λR=>ay λZf S=>gA [[f0 Q],[(10,⟨_,_,.sub (xs:=bQ a.cB) (lo:=0) (hi:=(b:Int)) gy (Wl _) (Tr (eD (Int.natCast_nonneg _))) (by rw[jt];exact(Tr R)) E8 ami⟩),(16,cK Ry S)]] (bV λT=>gb v (aY (c+(1:Int))) [[f0 T],[],[(2,oq (ck k rfl L))]] k))))) (λp W v21 q j l K pk=>ay λw jm=>gA [[],[t0 (bZ l)],[],[(7,oR [D0,Y p] (vM a j []) [2,1] (anp _ jm))],[]] (bV λgX=>gb pk (aY (q+(1:Int)),w.2) [[f0 gX],[],[(2,oq (ck l rfl J))]] l)))) (λe y aZ n o i H mE=>ay λx gp=>gA [[],[t0 (bZ i)],[(1,oE (xM (bA i)))],[(7,oR [D0,mj y] (vM a o [.cells (mj y).cells]) [2,1] (asb _ gp))],[]] (bV λmK=>gb mE (aY (n+(1:Int)),x.2) [[f0 mK],[],[(2,oq (ck i rfl G))]] i)))) (λu m v11 h F fk=>ay λVg lE=>gA [[],[t0 (bZ h)],[(1,oE (C3 (bA h)))],[(7,oQ [D0,pH m] (vM a f [.cells (pH m).cells]) [2,1] (ard _ lE))],[]] (bV λgk=>gb fk () [[f0 gk],[(2,oq (ck h rfl E))]] h)))) (λt v5 v6 f g C aV=>ay λHW mo=>gA [[],[t0 (bZ g)],[(1,oE (rM (bA g)))],[(7,oR [D0,cd v5,Y 1] (vM a f []) [2,1] (S0 _ mo))],[]] (bV λtQ=>gb aV HW.2 [[f0 tQ],[(2,oq (ck g rfl B))]] g)))))
def SI(N:Nat)(a:aT)(b:so):O Bool:=some (bL a.bp==bL b)
def atd{N b a}:KP 41 [fK b,A1] (Mv a) aG (λ_=>(Mv a)) (SI N b a):=
 fh 1 func41 (gH [[],[]])
def KB(N:Nat)(a:so):U aT->Nat->O Int
 |[],_=>some (-1:Int)
 |c::d,b=>(SI N c a).bind λe=>bif e then some (b:Int)else(KB N a d (b+1))
def SP(N:Nat)(a:U aT)(b:so):O Int:=KB N b a 0
def aqH{N a c}:KP 83 [I (cg a),.fn 41 [A1]] (Mv c) Y (λ_=>(Mv c)) (SP N a c):=
 fh 1 func83 (gA [[],[(4,oL a gv)]] (gT po 0 a λg=>eX 1 [] [0,1,7,8] 1 (λe=>⟨19,[(0,I (cg a)),(1,.fn 41 [A1]),(7,Y a.length),(8,Y e)],Mv c⟩) (λe b h=>gH [[],[f0 (bY b)],[]]) (λe i l b h j=>ay λm k=>gA [[],[t0 (bZ b)],[],[(10,oE (j5 (bA b))),(16,oQ [fK i,A1] (Mv c) [0] (atd _ k))]] (aC (λf=>gH [[t0 f],[]]) λf=>gb j () [[f0 f],[(2,oq (ck b rfl g))]] b))))
def L7(N:Nat)(a:U aT)(b:so):O Bool:=(SP N a b).bind λc=>some (decide (c>=0))
def MZ{N b a}:KP 42 [I (cg b),.fn 41 [A1]] (Mv a) aG (λ_=>(Mv a)) (L7 N b a):=
 fh 1 func42 (ay λe c=>gH [[],[(7,oQ [I (cg b),.fn 41 [A1]] (Mv a) [0] (aqH _ c))]])
def Um(N:Nat)(a:aT):O Bool:=some (!(bL a.bp==bL (bs [])))
def amq{N a}:KO 43 [fK a] aG (Um N a):=
 fw func43 (gR [[],[]])
def Ox(N:Nat):U aT->Nat->O Int
 |[],_=>some (-1:Int)
 |v4::b,a=>(Um N v4).bind λc=>bif c then some (a:Int)else(Ox N b (a+1))
def Rk(N:Nat)(a:U aT):O Int:=Ox N a 0
def aqt{N a}:KP 83 [I (cg a),.fn 43 []] [] Y (λ_=>[]) (Rk N a):=
 fh 0 func83 (gA [[],[(4,oL a gv)]] (gT po 0 a λf=>eX 1 [] [0,1,7,8] 0 (λc=>⟨19,[(0,I (cg a)),(1,.fn 43 []),(7,Y a.length),(8,Y c)],[]⟩) (λc b g=>gH [[],[f0 (bY b)],[]]) (λc j k b g h=>ay λl i=>gA [[],[t0 (bZ b)],[],[(10,oE (j5 (bA b))),(16,cK amq i)]] (aC (λe=>gH [[t0 e],[]]) λe=>gb h () [[f0 e],[(2,oq (ck b rfl f))]] b))))
def PF(N:Nat)(a:U aT):O Bool:=(Rk N a).bind λb=>some (decide (b>=0))
def arl{N a}:KP 42 [I (cg a),.fn 43 []] [] aG (λ_=>[]) (PF N a):=
 fh 0 func42 (ay λc b=>gH [[],[(7,oQ [I (cg a),.fn 43 []] [] [] (aqt _ b))]])
def Au(N:Nat)(c:O Int)(a:so):U au->O Int
 |[]=>c
 |v11::b=>(L7 N v11.xIdx a).bind λd=>(bif d then some true else(bif (v11.aA==3)then(bif (bL v11.ar==bL a)then (PF N v11.xIdx).bind λe=>some e else some false)else some false)).bind λf=>bif f then some (1:Int)else(Au N c a b)
def yb(N:Nat)(b:so):U aF->Nat->O Int
 |[],_=>some (0:Int)
 |c::d,e=>(yr N c.aX).bind λa=>Au N (yb N b d (e+1)) b (dx a)
def BG(N:Nat)(a:aI)(c:so):O Int:=(tn N a).bind λd=>bif (d.2 !=0)then some d.2 else(DO N a c).bind λb=>bif (decide (b<0))then some (9:Int)else bif (decide ((0:Int)<=b))then(a.ax[(b).toNat]?).bind λe=>bif (e.cE !=0)then some (1:Int)else yb N c a.ax 0 else none
def wW(a:aI)(e:so)(f:aF)(g:Code)(h:Code)(i:Nat)(b:au)(c:au)(l:U ao):U ao:= .cells (di a).cells:: .cells [cd e]:: .cells [Y 0]:: .cells (dX f).cells:: .lp .busy 42 g h (dL 65 [(3,An),(4,D0),(33,I (dy a.ax)),(34,Y a.ax.length),(35,Y i),(41,.fn 81 [.bm [dV b] 0 0])]):: .cells (aL c).cells::l
def rb(a:aI)(b:so)(l:U ao):U ao:= .cells (di a).cells:: .cells [cd b]:: .cells [Y 0]::l
def wF(a:aI)(b:so)(c:aF)(l:U ao):U ao:=rb a b (.cells (dX c).cells::l)
def Hr(a:aI)(b:so)(l:U ao):U ao:= .cells (di a).cells:: .cells [cd b]::l
def aeb(a:aI)(c:so)(e:aF)(f:Code)(g:Code)(h:Nat)(b:au)(l:U ao):U ao:=wF a c e (.lp .ready 42 f g (dL 65 [(3,An),(4,D0),(33,I (dy a.ax)),(34,Y a.ax.length),(35,Y h),(41,.fn 81 [.bm [dV b] 0 0])])::l)
def arG{N a c r}(J:BG N a c=some r):KF 20 [di a,cd c] (Y r):=by
 rw[BG]at J;refine qZ func20 rfl km ?_;refine fR [0,1] 0 (Zx _) (s':=⟨65,[(0,di a),(1,cd c)],[]⟩) km ?_;refine az (CM [] [(2,A1),(3,An),(4,D0)] (rb a c []) ?_);refine az (az ?_);obtain⟨v,K,J⟩:=bJ J;refine CM [(4,cK Gi K)] [(6,Y v.2)] (rb a c []) ?_;refine az (CM [] [(18,(aG (v.2 !=0)))] (rb a c []) ?_);rcases eo (v.2 !=0)with x|x
 ·replace J:=(cS x).symm.trans J;refine AY (t:=(v.2 !=0)) x ?_;refine az (CM [] [] (Hr a c [.cells [Y v.2]]) ?_);refine cT (dd ?_);have p:=Zl J;subst p;exact fX km
 replace J:=(eu x).symm.trans J;refine AX (t:=(v.2 !=0)) x ?_;refine dn ?_;refine bx ?_;refine az ?_;obtain⟨w,L,J⟩:=bJ J;refine CM [(7,cK Rw L)] [(7,Y w)] (rb a c []) ?_;refine az (az ?_);refine CM [] [(24,(aG (decide (w<0))))] (rb a c []) ?_;rcases eo (decide (w<0))with y|y
 ·replace J:=(cS y).symm.trans J;refine AY (t:=(decide (w<0))) y ?_;refine az (CM [] [] (Hr a c [.cells [Y 9]]) ?_);refine cT (dd ?_);have p:=Zl J;subst p;exact fX km
 replace J:=(eu y).symm.trans J;refine AX (t:=(decide (w<0))) y ?_;refine dn ?_;refine bx ?_;refine az (az ?_);have G:=iw J;replace J:=(cS G).symm.trans J;obtain⟨C,M,J⟩:=bJ J;refine CM [(10,⟨_,_,.el (xs:=dy a.ax) (i:=w) (Tr G) (nI M)⟩)] [(31,(aG (C.cE !=0)))] (rb a c []) ?_;rcases eo (C.cE !=0)with z|z
 ·replace J:=(cS z).symm.trans J;refine AY (t:=(C.cE !=0)) z ?_;refine az (CM [] [] (Hr a c [.cells [Y 1]]) ?_);refine cT (dd ?_);have p:=Zl J;subst p;exact fX km
 replace J:=(eu z).symm.trans J;refine AX (t:=(C.cE !=0)) z ?_;refine dn ?_;refine bx ?_;refine az (az ?_);refine CM [(7,oL a.ax kO)] [(33,I (dy a.ax)),(34,Y a.ax.length),(35,Y 0)] (rb a c []) ?_;refine ft ?_;refine rY 33 (dy a.ax) km λP=> ?_;have Q:=tX kO P;refine Pf [3,4,33,34,35] 3 (λ((g,q):Nat×(U aF))=>⟨65,[(3,An),(4,D0),(33,I (dy a.ax)),(34,Y a.ax.length),(35,Y g)],rb a c []⟩) (λ((g,q):Nat×(U aF))=>a.ax.drop g=q/\yb N c q g=some r) (λ((g,q):Nat×(U aF))=>q.length) (0,a.ax) (Zh rfl) km ⟨rfl,J⟩ ?_;rintro⟨g,q⟩ ⟨A,J⟩;cases q with
 |nil=>
  rw[yb]at J;refine az (CM [] [(36,(aG (decide ((g:Int)<(a.ax.length:Int)))))] (rb a c []) ?_);refine az (AX (t:=(decide ((g:Int)<(a.ax.length:Int)))) (bY A) ?_);refine mA (iK (iK (nx rfl ?_)));refine bx ?_;refine az (CM [] [] (rb a c []) ?_);refine cT ?_;have p:=Zl J;subst p;exact fX km
 |cons h H=>
  rw[yb]at J;refine az (CM [] [(36,(aG (decide ((g:Int)<(a.ax.length:Int)))))] (rb a c []) ?_);refine az (AY (t:=(decide ((g:Int)<(a.ax.length:Int)))) (bZ A) ?_);refine dn ?_;refine bx ?_;refine az (ft ?_);refine az (CM [(1,oE (nI (bA A)))] [(9,Ar)] (wF a c h []) ?_);refine az ?_;obtain⟨f,R,J⟩:=bJ J;refine CM [(7,cL (Pc R))] [(41,.fn 81 [.bm [dV f] 0 0])] (wF a c h []) ?_;refine ft ?_;refine fR [3,4,33,34,35,41] 4 (Zh rfl) (s':=⟨65,[(3,An),(4,D0),(33,I (dy a.ax)),(34,Y a.ax.length),(35,Y g),(41,.fn 81 [.bm [dV f] 0 0])],wF a c h []⟩) km ?_;refine ya (m:=4) (enc:=aL) (xs:=(dx f)) km (Ni f) (λ(_:Unit)=>(wF a c h [])) (λ(_:Unit) l=>Au N (yb N c H (g+1)) c l=some r) () km J (by rintro _;rfl) (by rintro _;kernel_rfl) km rfl ?_ ?_
  ·rintro _ b S J bP k n
   try dsimp only at J
   rw[Au]at J;refine fR [3,4,33,34,35,42] 5 (Zx _) (s':=⟨65,[(3,An),(4,D0),(33,I (dy a.ax)),(34,Y a.ax.length),(35,Y g),(42,aL b)],aeb a c h k n g f []⟩) km ?_;refine BI [] [(10,DF)] (aeb a c h k n g f (L2 b)) ?_;refine bx ?_;refine⟨wF a c h [],L2 b,rfl,km,?_⟩;refine fR [3,4,10,33,34,35,42] 6 (Zh rfl) (s':=⟨65,[(3,An),(4,D0),(10,DF),(33,I (dy a.ax)),(34,Y a.ax.length),(35,Y g),(42,aL b)],wW a c h k n g f b []⟩) km ?_;refine ft ?_;refine az (CM [] [(11,.fn 41 [An])] (wW a c h k n g f b []) ?_);refine az ?_;obtain⟨T,E,F,dJ,J⟩:=Z6 J;refine yS [(63,aG F)] (wW a c h k n g f b []) ?_ ?_
   ·rcases eo T with e|e
    ·replace dJ:=(cS e).symm.trans dJ;have u:=Zl dJ;subst u;exact⟨[(10,oQ [I (cg b.xIdx),.fn 41 [An]] (wW a c h k n g f b []) [1] (MZ _ E)),(15,bT e),(18,bT e),(21,bT e),(24,bT e),(27,uN),(30,uN),(33,uN),(36,uN),(39,bT e),(42,bT e),(45,uN),(48,uN),(51,uN),(54,bT e),(58,bT e)],by kernel_rfl⟩
    replace dJ:=(eu e).symm.trans dJ;rcases eo (b.aA==3)with j|j
    ·replace dJ:=(cS j).symm.trans dJ;rcases eo (bL b.ar==bL c)with o|o
     ·replace dJ:=(cS o).symm.trans dJ;obtain⟨aE,W,dJ⟩:=bJ dJ;have u:=Zl dJ;subst u;exact⟨[(10,oQ [I (cg b.xIdx),.fn 41 [An]] (wW a c h k n g f b []) [1] (MZ _ E)),(15,bF e),(18,bF e),(21,bF e),(24,bF e),(27,bT j),(30,bT j),(33,bT j),(36,bT j),(39,bF e),(40,bT j),(42,bF e),(45,bT o),(48,bT o),(51,bT o),(52,oQ [I (cg b.xIdx),.fn 43 []] (wW a c h k n g f b []) [] (arl _ W)),(54,bF e),(55,bT o),(58,bF e)],by kernel_rfl⟩
     replace dJ:=(eu o).symm.trans dJ;have u:=Zl dJ;subst u;exact⟨[(10,oQ [I (cg b.xIdx),.fn 41 [An]] (wW a c h k n g f b []) [1] (MZ _ E)),(15,bF e),(18,bF e),(21,bF e),(24,bF e),(27,bT j),(30,bT j),(33,bT j),(36,bT j),(39,bF e),(40,bT j),(42,bF e),(45,bF o),(48,bF o),(51,bF o),(54,bF e),(55,bF o),(58,bF e)],by kernel_rfl⟩
    replace dJ:=(eu j).symm.trans dJ;have u:=Zl dJ;subst u;exact⟨[(10,oQ [I (cg b.xIdx),.fn 41 [An]] (wW a c h k n g f b []) [1] (MZ _ E)),(15,bF e),(18,bF e),(21,bF e),(24,bF e),(27,bF j),(30,bF j),(33,bF j),(36,bF j),(39,bF e),(40,bF j),(42,bF e),(45,bF rfl),(48,bF rfl),(51,bF rfl),(54,bF e),(55,bF rfl),(58,bF e)],by kernel_rfl⟩
   rcases eo F with B|B
   ·replace J:=(cS B).symm.trans J;refine AY (t:=F) B ?_;refine az (CM [] [] (Hr a c [.cells [Y 1],.cells (dX h).cells,.lp .busy 42 k n (dL 65 [(3,An),(4,D0),(33,I (dy a.ax)),(34,Y a.ax.length),(35,Y g),(41,.fn 81 [.bm [dV f] 0 0])]),.cells (aL b).cells]) ?_);refine cT (eI ?_);refine DC (Hr a c [.cells [Y 1],.cells (dX h).cells]) rfl km km ?_;refine(eI (eI (dd (dd (eI (dd ?_))))));have p:=Zl J;subst p;exact fX km
   replace J:=(eu B).symm.trans J;refine AX (t:=F) B ?_;refine dn ?_;refine hY ?_;refine zA (wF a c h []) rfl km km ?_;exact⟨(),km,J⟩
  rintro _ J
  try dsimp only at J
  rw[Au]at J;refine hY ?_;refine hY ?_;refine bx ?_;refine BI [(2,oq (ck A rfl Q))] [(35,Y ((g+1:Nat):Int)),(64,Y ((g+1:Nat):Int))] (wF a c h [.gone]) ?_;refine bx ?_;exact⟨(g+1,H),by kernel_rfl,⟨kG A,J⟩,ZC _⟩
def OG(N:Nat)(a:U so):O (U so):=bif Nat.ble (a.length*16) 140737488355328 then some a else none
def awk{N a r}(J:OG N a=some r):gq prog 44 [I (bQ a)] (·=(I (bQ r))):=by
 obtain⟨c,rfl⟩:=eY J;have b:=lG c gy;exact akZ E8 (by rw[jt];exact b.1) (by rw[jt];exact b.2)
def Fe(N:Nat):U cq->Nat->(U cq)->O (U cq)
 |[],_,a=>some a
 |v4::b,c,a=>(yK N v4.dq).bind λd=>bif (Nat.ble ((a.length+1)*48) 140737488355328)then(λe=>Fe N b (c+1) e) (a++[(⟨v4.ar,d⟩:cq)])else none
def yX(N:Nat)(a:U cq):O (U cq):=Fe N a 0 []
def acT{N a}:KO 47 [I (dC a)] (λr=>.d (.sl (dC r))) (yX N a):=
 fw func47 (gA [[],[],[(4,oL a kt)]] (li (λ_=>(qK 3 65 3 [] (.inr km) ·)) (gT qD 0 a λh=>iC 1 [] [3,6,7,8] 1 (λe(b:U cq)=>⟨23,[(3,.own 0 (dC b)),(6,I (dC a)),(7,Y a.length),(8,Y e)],[.front 65 3 b.length]⟩) (λe b c i=>gR [[],[f0 (bY c)],[]]) (λe f m b c i j=>ay λg k=>dW λl=>gb j (b++[(⟨f.ar,g⟩:cq)]) [[],[t0 (bZ c)],[(1,oE (uo (bA c)))],[(16,cK L4 k),(25,oA qD b ([(⟨f.ar,g⟩:cq)]) l)],[(2,oq (ck c rfl h))]] c))))
def Ck(N:Nat)(a:aK):O (aK×Int):=(EO N a.xL).bind λb=>some ((⟨a.xK,b⟩:aK),(0:Int))
def S8{N a}:KO 86 [cJ a] (λr=>.bw [cJ r.1,Y r.2]) (Ck N a):=
 fw func86 (ay λc b=>gR [[],[(13,cL (aeu b))]])
def Xl(N:Nat)(a:U aT):O (U aT):=bif Nat.ble (a.length*72) 140737488355328 then some a else none
def au3{N a r}(J:Xl N a=some r):da prog 127 [I (cg a)] [] λc h1=>c=(.vec 0 0 r.length r.length 4)/\h1=[.vec 93 4 (bf (r.map im))]:=by
 obtain⟨e,rfl⟩:=eY J;have b:=lG e gy;have h1:=aun (xs:=cg a) ahm (by rw[gv];exact b.1) (by rw[gv];exact b.2);have f:bf (a.map im)=bf (cg a):=by rw[uR]
 have g:=gv (l:=a);rw[g]at h1;rw[f];exact h1
def WL(N:Nat)(a:U aK):O (U aK):=bif Nat.ble (a.length*32) 140737488355328 then some a else none
def auv{N a r}(J:WL N a=some r):da prog 128 [I (dF a)] [] λc h1=>c=(.vec 0 0 r.length r.length 2)/\h1=[.vec 45 2 (bf (r.map nq))]:=by
 obtain⟨e,rfl⟩:=eY J;have b:=lG e gy;have h1:=aoF (xs:=dF a) agL (by rw[fJ];exact b.1) (by rw[fJ];exact b.2);have f:bf (a.map nq)=bf (dF a):=by rw[vQ]
 have g:=fJ (l:=a);rw[g]at h1;rw[f];exact h1
def Rf(N:Nat)(a:U au):O (U au):=bif Nat.ble (a.length*160) 140737488355328 then some a else none
def alH{N a r}(J:Rf N a=some r):da prog 129 [I (eH a)] [] λc h1=>c=(.vec 0 0 r.length r.length 13)/\h1=[.vec 60 13 (bf (r.map dV))]:=by
 obtain⟨e,rfl⟩:=eY J;have b:=lG e gy;have h1:=anR (xs:=eH a) ag5 (by rw[iM];exact b.1) (by rw[iM];exact b.2);have f:bf (a.map dV)=bf (eH a):=by rw[oY]
 have g:=iM (l:=a);rw[g]at h1;rw[f];exact h1
def wQ(N:Nat)(e:U aT)(h:U aT)(d:U au)(c:au)(i:aK×Int)(j:au->O (au×Int)):U au->Nat->(U au)->O (au×Int)
 |[],_,b=>bif (Nat.beq e.length h.length)then bif (Nat.beq b.length d.length)then some ((⟨c.aA,c.ar,c.cU,c.aw,i.1,e,b⟩:au),(0:Int))else none else none
 |f::k,a,b=>(j f).bind λg=>bif (Nat.beq b.length d.length)then bif (decide ((a:Int)<(d.length:Int)))then(b[a]?).bind λm=>bif (g.2 !=0)then some (nt,g.2)else(λl=>wQ N e h d c i j k (a+1) l) (b.set a g.1)else none else none
def wi(N:Nat)(d:U aK)(h:(U aT)->O (au×Int))(i:U aT)(f:Nat)(e:aK×Int)(c:aT):U aK->Nat->(U aK)->O (au×Int)
 |[],_,a=>bif (Nat.beq a.length d.length)then h ((i.set f (⟨e.1,c.bp,c.bC⟩:aT)).set f (⟨(⟨e.1,c.bp,c.bC⟩:aT).aU,(⟨e.1,c.bp,c.bC⟩:aT).bp,a⟩:aT))else none
 |j::k,b,a=>(Ck N j).bind λg=>bif (Nat.beq a.length d.length)then bif (decide ((b:Int)<(d.length:Int)))then(a[b]?).bind λm=>bif (g.2 !=0)then some (nt,g.2)else(λl=>wi N d h i f e c k (b+1) l) (a.set b g.1)else none else none
def vg(N:Nat)(d:au)(b:U aT)(g:aK×Int)(h:au->O (au×Int)):U aT->Nat->(U aT)->O (au×Int)
 |[],_,a=>(Rf N d.bk).bind λi=>wQ N a b i d g h d.bk 0 i
 |v6::k,c,a=>(Ck N v6.aU).bind λe=>bif (Nat.beq a.length b.length)then bif (decide ((c:Int)<(b.length:Int)))then(a[c]?).bind λf=>bif (e.2 !=0)then some (nt,e.2)else(WL N v6.bC).bind λj=>bif (Nat.beq (a.set c (⟨e.1,f.bp,f.bC⟩:aT)).length b.length)then wi N j (λl=>vg N d b g h k (c+1) l) a c e f v6.bC 0 j else none else none else none
def tq(N:Nat):Nat->au->O (au×Int)
 |0,_=>none
 |d+1,a=>(Ck N a.aU).bind λb=>bif (b.2 !=0)then some (nt,b.2)else(Xl N a.xIdx).bind λc=>vg N a c b (tq N d) a.xIdx 0 c
def U6(N:Nat)(a:au):O (au×Int):=tq N N a
def VO(a:au)(l:U ao):U ao:= .cells (aL a).cells:: .cells zu::l
def M4(a:au)(b:aK×Int)(c:U aT)(l:U ao):U ao:=VO a (.cells (Fz a [bg b.1.xK,I (cY b.1.xL),.vec 3 0 c.length c.length 4,I (eH a.bk)])::l)
def awj(a:au)(b:aK×Int)(c:U aT)(e:U au)(f:U aT)(g:U au)(l:U ao):U ao:=VO a (.cells (Fz a [bg b.1.xK,I (cY b.1.xL),.vec 3 0 c.length c.length 4,.vec 4 0 e.length e.length 13]):: .vec 93 4 (bf (f.map im)):: .vec 60 13 (bf (g.map dV))::l)
def arj(N:Nat):∀d:Nat,(∀{c:au}{r:au×Int},tq N d c=some r->KH 85 [aL c,.fn 86 []] [] (.bw [aL r.1,Y r.2]) []):=by
 intro d
 induction d with
 |zero=>intro c r J;rw[tq]at J;cases J
 |succ d ih=>
  have G:= @ih;intro c r J;rw[tq]at J;refine AN 0 func85 ?_;obtain⟨u,h1,J⟩:=bJ J;refine gr bH [[],[],[],[(10,cK S8 h1)],[]] ?_;apply bc J<;>intro L J;{cases J;exact lz bH [[(0,bT L)],[]]}
  obtain⟨q,h3,J⟩:=bJ J;refine gr bH [[(0,bF L)],[(7,oX eV (lT (xs:=(q.map im)) eV) [I (cg c.xIdx)] (VO c [.cells (Fz c [bg u.1.xK,I (cY u.1.xL),I (cg c.xIdx),I (eH c.bk)])]) [] (au3 h3))],[(7,oL c.xIdx gv)]] ?_;refine zc po 32 c.xIdx λh5=> ?_;refine HT bH 1 [] [1,2,4,6,32,33,34] 4 [] [(1,10),(1,11),(1,12)] (λ((e,w,k):Nat×(U aT)×(U aT))=>⟨119,[(1,.fn 86 []),(2,A1),(4,An),(6,D0),(32,I (cg c.xIdx)),(33,Y c.xIdx.length),(34,Y e)],M4 c u q [.vec 93 4 (bf (k.map im))]⟩) (λ((e,w,k):Nat×(U aT)×(U aT))=>c.xIdx.drop e=w/\vg N c q u (tq N d) w e k=some r) (λ((e,w,k):Nat×(U aT)×(U aT))=>w.length) (0,c.xIdx,q) ⟨rfl,J⟩ ?_ (fI:=[.jk (q.map im)]);rintro⟨e,w,k⟩ ⟨A,J⟩ f1 aV;cases w with
  |nil=>
   rw[vg]at J;obtain⟨x,h7,J⟩:=bJ J;refine gr bH [[],[(0,bF (bY A))],[(7,oX eV (lT (xs:=(x.map dV)) eV) [I (eH c.bk)] (M4 c u q [.vec 93 4 (bf (k.map im))]) [] (alH h7))],[(7,oL c.bk iM)]] ?_;refine zc qi 96 c.bk λh9=> ?_;refine HT bH 2 [] [1,4,6,96,97,98] 5 [] [(1,10),(1,11),(1,12)] (λ((l,o,t):Nat×(U au)×(U au))=>⟨119,[(1,.fn 86 []),(4,An),(6,D0),(96,I (eH c.bk)),(97,Y c.bk.length),(98,Y l)],awj c u q x k t []⟩) (λ((l,o,t):Nat×(U au)×(U au))=>c.bk.drop l=o/\wQ N k q x c u (tq N d) o l t=some r) (λ((l,o,t):Nat×(U au)×(U au))=>o.length) (0,c.bk,x) ⟨rfl,J⟩ ?_ (fI:=[.jk (k.map im),.jk (x.map dV)]);rintro⟨l,o,t⟩ ⟨B,J⟩ f2 fk;cases o with
   |nil=>
    rw[wQ]at J;obtain⟨bB,J⟩:=kA J;obtain⟨bP,J⟩:=kA J;refine gr bH [[],[(0,bF (bY B))]] ?_;refine I7 [4,6] 3 (cg k) q.length 1 93 4 [.jk (k.map im),.jk (t.map dV)] (vK (ZN bB)) (uR _) (th (λ_=>rfl) _) ?_;refine I7 [4,6] 4 (eH t) x.length 1 60 13 [.jk (t.map dV)] (vK (ZN bP)) (oY _) (th (λ_=>rfl) _) ?_;cases J;exact lz bH [[]]
   |cons C aD=>
    rw[wQ]at J;obtain⟨n,cX,J⟩:=bJ J;obtain⟨M,J⟩:=kA J;obtain⟨cz,J⟩:=kA J;obtain⟨aW,b7,J⟩:=bJ J;refine gr bH [[],[(0,bT (bZ B))],[(4,oE (kg (bA B)))],[(16,oQ [aL C,.fn 86 []] (awj c u q x k t (L2 C)) [] (G cX)),(28,⟨_,_,.pr (.ix l) (sB (lJ (f:=dV) (ZN M)) (Int.natCast_nonneg _) (Tr cz) (ZR _))⟩),(31,⟨_,_,.pr (.st ((dV aW).map AV.d) (bf ((t.set l n.1).map dV))) (Gs (f:=dV) (j:=0) (y:=n.1) (zs:=[Y n.1.aA,cd n.1.ar,bg n.1.cU.xN,bg n.1.cU.xD,Y n.1.aw.bt,Y n.1.aw.bW,Y n.1.aw.bR,Y n.1.aw.b9,Y n.1.aw.b8,bg n.1.aU.xK,I (cY n.1.aU.xL),I (cg n.1.xIdx),I (eH n.1.bk)]) (ZN M) b7 rfl)⟩)],[]] ?_;apply bc J<;>intro P J;{cases J;exact lz bH [[(0,bT P)],[]]}
    exact F5 bH fk (l+1,aD,t.set l n.1) [[(0,bF P)],[(2,oq (ck B rfl h9))]] ⟨kG B,J⟩ (fI:=[.jk (k.map im),.jk ((t.set l n.1).map dV)])
  |cons v Q=>
   rw[vg]at J;obtain⟨b,dJ,J⟩:=bJ J;obtain⟨R,J⟩:=kA J;obtain⟨H,J⟩:=kA J;obtain⟨a,K,J⟩:=bJ J;refine gr bH [[],[(0,bT (bZ A))],[(4,oE (j5 (bA A)))],[(19,cK S8 dJ),(31,⟨_,_,.pr (.ix e) (sB (lJ (f:=im) (ZN R)) (Int.natCast_nonneg _) (Tr H) (ZR _))⟩),(34,⟨_,_,.pr .no trivial⟩),(37,⟨_,_,.pr (.st ((im a).map AV.d) (bf ((k.set e (⟨b.1,a.bp,a.bC⟩:aT)).map im))) (Gs (f:=im) (j:=0) (y:=(⟨b.1,a.bp,a.bC⟩:aT)) (zs:=[bg b.1.xK,I (cY b.1.xL)]) (ZN R) K rfl)⟩)],[]] ?_;apply bc J<;>intro S J;{cases J;exact lz bH [[(0,bT S)],[]]}
   obtain⟨h,gX,J⟩:=bJ J;obtain⟨F,J⟩:=kA J;refine gr bH [[(0,bF S)],[(16,oX eV (lT (xs:=(h.map nq)) eV) [I (dF v.bC)] (M4 c u q [.vec 93 4 (bf ((k.set e (⟨b.1,a.bp,a.bC⟩:aT)).map im)),.cells (fK v).cells]) [] (auv gX)),(19,⟨_,_,.pr (.ix e) (sB (lJ (f:=im) (ZN F)) (Int.natCast_nonneg _) (Tr H) (ZR _))⟩),(22,⟨_,_,.pr .no trivial⟩),(25,⟨_,_,.pr (.st ((im (⟨b.1,a.bp,a.bC⟩:aT)).map AV.d) ((bf ((k.set e (⟨b.1,a.bp,a.bC⟩:aT)).map im)).set e [bg (⟨b.1,a.bp,a.bC⟩:aT).aU.xK,I (cY (⟨b.1,a.bp,a.bC⟩:aT).aU.xL),cd (⟨b.1,a.bp,a.bC⟩:aT).bp,.vec 5 0 h.length h.length 2])) (aqS (f:=im) (j:=3) (r:=[bg (⟨b.1,a.bp,a.bC⟩:aT).aU.xK,I (cY (⟨b.1,a.bp,a.bC⟩:aT).aU.xL),cd (⟨b.1,a.bp,a.bC⟩:aT).bp,.vec 5 0 h.length h.length 2]) (zs:=[.vec 5 0 h.length h.length 2]) (ZN F) (agB K) rfl)⟩)],[(7,oL v.bC fJ)]] ?_;refine zc ny 64 v.bC λlE=> ?_;refine HT bH 3 [] [1,2,4,6,8,32,33,34,64,65,66] 6 [] [(1,10),(1,11),(1,12)] (λ((m,p,g):Nat×(U aK)×(U aK))=>⟨119,[(1,.fn 86 []),(2,A1),(4,An),(6,D0),(8,Y e),(32,I (cg c.xIdx)),(33,Y c.xIdx.length),(34,Y e),(64,I (dF v.bC)),(65,Y v.bC.length),(66,Y m)],M4 c u q [.vec 93 4 ((bf ((k.set e (⟨b.1,a.bp,a.bC⟩:aT)).map im)).set e [bg (⟨b.1,a.bp,a.bC⟩:aT).aU.xK,I (cY (⟨b.1,a.bp,a.bC⟩:aT).aU.xL),cd (⟨b.1,a.bp,a.bC⟩:aT).bp,.vec 5 0 h.length h.length 2]),.cells (fK v).cells,.vec 45 2 (bf (g.map nq))]⟩) (λ((m,p,g):Nat×(U aK)×(U aK))=>v.bC.drop m=p/\wi N h (λbS=>vg N c q u (tq N d) Q (e+1) bS) k e b a p m g=some r) (λ((m,p,g):Nat×(U aK)×(U aK))=>p.length) (0,v.bC,h) ⟨rfl,J⟩ ?_ (fI:=[.row ((k.set e (⟨b.1,a.bp,a.bC⟩:aT)).map im) e [bg (⟨b.1,a.bp,a.bC⟩:aT).aU.xK,I (cY (⟨b.1,a.bp,a.bC⟩:aT).aU.xL),cd (⟨b.1,a.bp,a.bC⟩:aT).bp,.vec 5 0 h.length h.length 2],.jk (h.map nq)])
   rintro⟨m,p,g⟩ ⟨E,J⟩ f3 mE;cases p with
   |nil=>
    rw[wi]at J;obtain⟨mo,J⟩:=kA J;refine gr bH [[],[(0,bF (bY E))]] ?_;refine I7 [1,2,4,6,32,33,34] 5 (dF g) h.length 0 45 2 [.row im (k.set e (⟨b.1,a.bp,a.bC⟩:aT)) e [bg (⟨b.1,a.bp,a.bC⟩:aT).aU.xK,I (cY (⟨b.1,a.bp,a.bC⟩:aT).aU.xL),cd (⟨b.1,a.bp,a.bC⟩:aT).bp,.vec 5 0 h.length h.length 2] (⟨(⟨b.1,a.bp,a.bC⟩:aT).aU,(⟨b.1,a.bp,a.bC⟩:aT).bp,g⟩:aT) 1,.jk (g.map nq)] (vK (ZN mo)) (vQ _) (th (λ_=>rfl) _) ?_;exact F5 bH aV (e+1,Q,(k.set e (⟨b.1,a.bp,a.bC⟩:aT)).set e (⟨(⟨b.1,a.bp,a.bC⟩:aT).aU,(⟨b.1,a.bp,a.bC⟩:aT).bp,g⟩:aT)) [[(2,oq (ck A rfl h5))]] ⟨kG A,J⟩ (fI:=[.jk (((k.set e (⟨b.1,a.bp,a.bC⟩:aT)).set e (⟨(⟨b.1,a.bp,a.bC⟩:aT).aU,(⟨b.1,a.bp,a.bC⟩:aT).bp,g⟩:aT)).map im)])
   |cons dM dw=>
    rw[wi]at J;obtain⟨z,tQ,J⟩:=bJ J;obtain⟨T,J⟩:=kA J;obtain⟨vG,J⟩:=kA J;obtain⟨iE,Ej,J⟩:=bJ J;refine gr bH [[],[(0,bT (bZ E))],[(4,oE (mQ (bA E)))],[(10,⟨_,_,.pr (.ix e) (sB (aq1 (i:=e) (r:=[bg (⟨b.1,a.bp,a.bC⟩:aT).aU.xK,I (cY (⟨b.1,a.bp,a.bC⟩:aT).aU.xL),cd (⟨b.1,a.bp,a.bC⟩:aT).bp,.vec 5 0 h.length h.length 2]) (f:=im) (ZN F)) (Int.natCast_nonneg _) (Tr H) (ZR _))⟩),(13,⟨_,_,.pr .no trivial⟩),(16,⟨_,_,.pr (.el [bg (⟨b.1,a.bp,a.bC⟩:aT).aU.xK,I (cY (⟨b.1,a.bp,a.bC⟩:aT).aU.xL),cd (⟨b.1,a.bp,a.bC⟩:aT).bp,.vec 5 0 h.length h.length 2]) (akl (f:=im) [bg (⟨b.1,a.bp,a.bC⟩:aT).aU.xK,I (cY (⟨b.1,a.bp,a.bC⟩:aT).aU.xL),cd (⟨b.1,a.bp,a.bC⟩:aT).bp,.vec 5 0 h.length h.length 2] (ZN F) (agB K))⟩),(28,cK S8 tQ),(40,⟨_,_,.pr (.ix m) (sB (lJ (f:=nq) (ZN T)) (Int.natCast_nonneg _) (Tr vG) (ZR _))⟩),(43,⟨_,_,.pr (.st ((nq iE).map AV.d) (bf ((g.set m z.1).map nq))) (Gs (f:=nq) (j:=0) (y:=z.1) (zs:=[bg z.1.xK,I (cY z.1.xL)]) (ZN T) Ej rfl)⟩)],[]] ?_
    apply bc J<;>intro W J;{cases J;exact lz bH [[(0,bT W)],[]]}
    exact F5 bH mE (m+1,dw,g.set m z.1) [[(0,bF W)],[(2,oq (ck E rfl lE))]] ⟨kG E,J⟩ (fI:=[.row ((k.set e (⟨b.1,a.bp,a.bC⟩:aT)).map im) e [bg (⟨b.1,a.bp,a.bC⟩:aT).aU.xK,I (cY (⟨b.1,a.bp,a.bC⟩:aT).aU.xL),cd (⟨b.1,a.bp,a.bC⟩:aT).bp,.vec 5 0 h.length h.length 2],.jk ((g.set m z.1).map nq)])
def an6{N a r}(J:U6 N a=some r):KH 85 [aL a,.fn 86 []] [] (.bw [aL r.1,Y r.2]) []:=(arj N N) J
def N6(N:Nat)(a:au):O au:=(U6 N a).bind λb=>some b.1
def anQ{N a}:KO 48 [aL a] aL (N6 N a):=
 fw func48 (ay λc b=>gR [[],[(4,oQ [aL a,.fn 86 []] [.cells (aL a).cells,.cells zu] [] (an6 b))],[]])
def Gz:aI:=⟨[],[],[],[],[]⟩
def EL:U AV:=[.d (.v (.slice none 0 0)),.d (.v (.slice none 0 0)),.d (.v (.slice none 0 0)),.d (.v (.slice none 0 0)),.d (.v (.slice none 0 0))]
def Jt:U AV:=[bg 0,.d (.v (.slice none 0 0))]
def cf3(v:au)(r:U AV):U AV:=(Y v.aA)::(cd v.ar)::(bg v.cU.xN)::(bg v.cU.xD)::(Y v.aw.bt)::(Y v.aw.bW)::(Y v.aw.bR)::(Y v.aw.b9)::(Y v.aw.b8)::(bg v.aU.xK)::(I (cY v.aU.xL))::(I (cg v.xIdx))::(I (eH v.bk))::r
def xW(N:Nat)(f:U so)(g:U cQ)(h:U cl)(i:U so):U aF->Nat->Nat->(U aF)->O ((U so)×(U cQ)×(U cl)×Nat×(U so)×(U aF))
 |[],_,b,c=>some (f,g,h,b,i,c)
 |a::j,k,b,c=>(yX N a.aJ).bind λd=>(yX N a.bI).bind λe=>(N6 N a.aX).bind λl=>bif (Nat.beq c.length b)then bif (Nat.ble ((b+1)*272) 140737488355328)then(λm n=>xW N f g h i j (k+1) m n) (b+1) (c++[(⟨a.ar,a.aw,d,e,a.cE,l⟩:aF)])else none else none
def ye(N:Nat)(c:U so)(d:U cQ)(e:U so)(f:aI):U cl->Nat->(U cl)->O ((U so)×(U cQ)×(U cl)×Nat×(U so)×(U aF))
 |[],_,a=>xW N c d a e f.ax 0 0 []
 |v11::b,g,a=>(E9 N v11.aJ).bind λh=>bif (Nat.ble ((a.length+1)*80) 140737488355328)then(λi=>ye N c d e f b (g+1) i) (a++[(⟨v11.ar,v11.aw,h⟩:cl)])else none
def xt(N:Nat)(d:U so)(e:U so)(b:aI):U cQ->Nat->(U cQ)->O ((U so)×(U cQ)×(U cl)×Nat×(U so)×(U aF))
 |[],_,a=>ye N d a e b b.aS 0 []
 |v6::f,g,a=>(yK N v6.aU).bind λc=>bif (Nat.ble ((a.length+1)*40) 140737488355328)then(λh=>xt N d e b f (g+1) h) (a++[(⟨c,v6.l9⟩:cQ)])else none
def xg(N:Nat)(a:aI):O ((U so)×(U cQ)×(U cl)×Nat×(U so)×(U aF)):=(OG N a.bj).bind λb=>(OG N a.cB).bind λc=>xt N b c a a.cO 0 []
def wX(a:aI)(l:U ao):U ao:= .cells (di a).cells:: .cells EL::l
def IV(e:aI)(f:U so)(a:U cQ)(b:U cl)(c:Nat)(g:U so)(h:U aF)(l:U ao):U ao:=wX e (.cells [I (bQ f),.own 3 (dP a),.own 4 (dA b),.vec 5 0 c c 22,I (bQ g)]:: .front 47 3 a.length:: .front 52 7 b.length:: .vec 62 22 (bf (h.map dv))::l)
def C4(c:aI)(e:U so)(a:U cQ)(b:U cl)(f:U so)(l:U ao):U ao:=wX c (.cells [I (bQ e),.own 3 (dP a),.own 4 (dA b),.d (.v (.slice none 0 0)),I (bQ f)]:: .front 47 3 a.length:: .front 52 7 b.length::l)
def abT(i:aI)(j:U so)(e:U cQ)(f:U cl)(g:Nat)(k:U so)(m:U aF)(a:aF)(b:(U cq))(c:(U cq))(h:au)(l:U ao):U ao:=wX i (.cells [I (bQ j),.own 3 (dP e),.own 4 (dA f),.vec 5 0 (g+1) (g+1) 22,I (bQ k)]:: .front 47 3 e.length:: .front 52 7 f.length:: .vec 62 22 (bf ((m++[(⟨a.ar,a.aw,b,c,a.cE,h⟩:aF)]).map dv)):: .cells ((cd a.ar)::(Y a.aw.bt)::(Y a.aw.bW)::(Y a.aw.bR)::(Y a.aw.b9)::(Y a.aw.b8)::(I (dC b))::(I (dC c))::(Y a.cE)::cf3 h [])::l)
def GZ(b:aI)(c:U so)(a:U cQ)(e:U so)(l:U ao):U ao:=wX b (.cells [I (bQ c),.own 3 (dP a),.d (.v (.slice none 0 0)),.d (.v (.slice none 0 0)),I (bQ e)]:: .front 47 3 a.length::l)
def ahG(e:aI)(f:U so)(g:U cQ)(h:U cl)(i:Nat)(j:U so)(k:U aF)(a:aF)(b:(U cq))(c:(U cq))(m:au)(l:U ao):U ao:=IV e f g h i j k (.cells ((cd a.ar)::(Y a.aw.bt)::(Y a.aw.bW)::(Y a.aw.bR)::(Y a.aw.b9)::(Y a.aw.b8)::(I (dC b))::(I (dC c))::(Y a.cE)::cf3 m [])::l)
def aao(f:aI)(g:U so)(c:U cQ)(e:U cl)(a:cl)(b:(U aK))(h:U so)(l:U ao):U ao:=wX f (.cells [I (bQ g),.own 3 (dP c),.own 4 (dA (e++[(⟨a.ar,a.aw,b⟩:cl)])),.d (.v (.slice none 0 0)),I (bQ h)]:: .front 47 3 c.length:: .front 52 7 (e++[(⟨a.ar,a.aw,b⟩:cl)]).length:: .cells [cd a.ar,Y a.aw.bt,Y a.aw.bW,Y a.aw.bR,Y a.aw.b9,Y a.aw.b8,I (dF b)]::l)
def awi(e:aI)(f:U so)(c:U cQ)(a:aK)(b:cQ)(g:U so)(l:U ao):U ao:=wX e (.cells [I (bQ f),.own 3 (dP (c++[(⟨a,b.l9⟩:cQ)])),.d (.v (.slice none 0 0)),.d (.v (.slice none 0 0)),I (bQ g)]:: .front 47 3 (c++[(⟨a,b.l9⟩:cQ)]).length:: .cells (pH b).cells::l)
def aab(a:aI)(b:U so)(c:U so)(l:U ao):U ao:=wX a (.cells [I (bQ b),.d (.v (.slice none 0 0)),.d (.v (.slice none 0 0)),.d (.v (.slice none 0 0)),I (bQ c)]::l)
def Np{N a r}(J:xg N a=some r):KH 21 [di a] [] (.agg [I (bQ r.1),.own 3 (dP r.2.1),.own 4 (dA r.2.2.1),.vec 5 0 r.2.2.2.1 r.2.2.2.1 22,I (bQ r.2.2.2.2.1)]) ([.gone,.cells [I (bQ r.1),.own 3 (dP r.2.1),.own 4 (dA r.2.2.1),.vec 5 0 r.2.2.2.1 r.2.2.2.1 22,I (bQ r.2.2.2.2.1)],.gone,.front 47 3 r.2.1.length,.front 52 7 r.2.2.1.length,.vec 62 22 (bf (r.2.2.2.2.2.map dv))]):=by
 rw[xg]at J;refine rz 6 func21 rfl km (Zh rfl) ?_;refine j0 (s':=⟨81,[(0,di a)],[]⟩) km ?_;refine az (CM [] [(1,A1),(2,An)] (wX a []) ?_);refine az ?_;obtain⟨g,R,i,S,J⟩:=Z6 J;refine rt 3 bH [(7,cL (awk R)),(16,cL (awk S))] [(3,D0)] (aab a g i []) km ?_;refine az (az ?_);refine CM [(7,oL a.cO ql)] [(18,I (dP a.cO)),(19,Y a.cO.length),(20,Y 0)] (aab a g i []) ?_;refine ft ?_;refine E1 2 1 47 3 [] rfl (.inr ⟨rfl,rfl⟩) ?_;refine rY 18 (dP a.cO) km λT=> ?_;have W:=tX ql T;refine xz [1,2,3,18,19,20] 4 [] [(1,0),(1,1),(1,2),(1,3),(1,4),(2,2),(2,3)] (λ((w,C,e):Nat×(U cQ)×(U cQ))=>⟨81,[(1,A1),(2,An),(3,D0),(18,I (dP a.cO)),(19,Y a.cO.length),(20,Y w)],GZ a g e i []⟩) (λ((w,C,e):Nat×(U cQ)×(U cQ))=>a.cO.drop w=C/\xt N g i a C w e=some r) (λ((w,C,e):Nat×(U cQ)×(U cQ))=>C.length) (0,a.cO,[]) (Zh rfl) ⟨cC trivial (cC trivial (cC trivial (cC trivial fM))),by kernel_rfl⟩ ⟨rfl,J⟩ ?_
 rintro⟨w,C,e⟩ ⟨F,J⟩;cases C with
 |nil=>
  rw[xt]at J;refine az (CM [] [(21,(aG (decide ((w:Int)<(a.cO.length:Int)))))] (GZ a g e i []) ?_);refine az (AX (t:=(decide ((w:Int)<(a.cO.length:Int)))) (bY F) ?_);refine mA (iK (iK (nx rfl ?_)));refine bx ?_;refine az (az ?_);refine CM [(7,oL a.aS pe)] [(37,I (dA a.aS)),(38,Y a.aS.length),(39,Y 0)] (GZ a g e i []) ?_;refine ft ?_;refine E1 2 2 52 7 [] rfl (.inr ⟨rfl,rfl⟩) ?_;refine rY 37 (dA a.aS) km λh6=> ?_;have h7:=tX pe h6;refine xz [1,2,3,37,38,39] 5 [] [(1,0),(1,1),(1,2),(1,3),(1,4),(2,3)] (λ((x,v,l):Nat×(U cl)×(U cl))=>⟨81,[(1,A1),(2,An),(3,D0),(37,I (dA a.aS)),(38,Y a.aS.length),(39,Y x)],C4 a g e l i []⟩) (λ((x,v,l):Nat×(U cl)×(U cl))=>a.aS.drop x=v/\ye N g e i a v x l=some r) (λ((x,v,l):Nat×(U cl)×(U cl))=>v.length) (0,a.aS,[]) (Zh rfl) ⟨cC trivial (cC trivial (cC trivial (cC trivial (cC trivial fM)))),by kernel_rfl⟩ ⟨rfl,J⟩ ?_;rintro⟨x,v,l⟩ ⟨G,J⟩
  cases v with
  |nil=>
   rw[ye]at J;refine az (CM [] [(40,(aG (decide ((x:Int)<(a.aS.length:Int)))))] (C4 a g e l i []) ?_);refine az (AX (t:=(decide ((x:Int)<(a.aS.length:Int)))) (bY G) ?_);refine mA (iK (iK (nx rfl ?_)));refine bx ?_;refine az (az ?_);refine CM [(7,oL a.ax kO)] [(55,I (dy a.ax)),(56,Y a.ax.length),(57,Y 0)] (C4 a g e l i []) ?_;refine ft ?_;refine afl 2 3 62 22 rfl rfl ?_;refine rY 55 (dy a.ax) km λh9=> ?_;have bu:=tX kO h9;refine xz [2,3,55,56,57] 6 [] [(1,0),(1,1),(1,2),(1,3),(1,4)] (λ((z,E,m,u):Nat×(U aF)×Nat×(U aF))=>⟨81,[(2,An),(3,D0),(55,I (dy a.ax)),(56,Y a.ax.length),(57,Y z)],IV a g e l m i u []⟩) (λ((z,E,m,u):Nat×(U aF)×Nat×(U aF))=>a.ax.drop z=E/\xW N g e l i E z m u=some r) (λ((z,E,m,u):Nat×(U aF)×Nat×(U aF))=>E.length) (0,a.ax,0,[]) (Zh rfl) ⟨(cC trivial (cC trivial (cC trivial (cC trivial (cC trivial (ZF (xs:=(([]:U aF).map dv)) fM)))))),by kernel_rfl⟩ ⟨rfl,J⟩ ?_
   rintro⟨z,E,m,u⟩ ⟨H,J⟩;cases E with
   |nil=>
    rw[xW]at J;refine az (CM [] [(58,(aG (decide ((z:Int)<(a.ax.length:Int)))))] (IV a g e l m i u []) ?_);refine az (AX (t:=(decide ((z:Int)<(a.ax.length:Int)))) (bY H) ?_);refine mA (iK (iK (nx rfl ?_)));refine bx ?_;refine az (CM [] [] [.cells (di a).cells,.cells [I (bQ g),.own 3 (dP e),.own 4 (dA l),.vec 5 0 m m 22,I (bQ i)],.cells [I (bQ g),.own 3 (dP e),.own 4 (dA l),.vec 5 0 m m 22,I (bQ i)],.front 47 3 e.length,.front 52 7 l.length,.vec 62 22 (bf (u.map dv))] ?_);refine Ww 0 ?_;refine Ww 2 ?_;refine cT ?_;have hr:=Zl J;subst hr;exact mw (cC trivial (cC trivial (cC trivial (cC trivial (cC trivial (ZF (xs:=(u.map dv)) fM)))))) km
   |cons j a7=>
    rw[xW]at J;refine az (CM [] [(58,(aG (decide ((z:Int)<(a.ax.length:Int)))))] (IV a g e l m i u []) ?_);refine az (AY (t:=(decide ((z:Int)<(a.ax.length:Int)))) (bZ H) ?_);refine dn ?_;refine bx ?_;refine az (ft ?_);refine az (CM [(1,oE (nI (bA H)))] [(9,DW)] (IV a g e l m i u (Rj j)) ?_);refine az ?_;obtain⟨n,bP,o,cX,J⟩:=Z6 J;obtain⟨p,bU,J⟩:=bJ J;refine rd bH km [(7,cK acT bP),(16,cK acT cX),(25,cK anQ bU)] [] (ahG a g e l m i u j n o p []) km ?_;have M:=iw J;replace J:=(cS M).symm.trans J;have K:=iw J;replace J:=(cS K).symm.trans J;refine BI [(13,⟨_,_,.pr (.ap (bf ((u++[(⟨j.ar,j.aw,n,o,j.cE,p⟩:aF)]).map dv)) (bf (([(⟨j.ar,j.aw,n,o,j.cE,p⟩:aF)]).map dv)) (m+1) (m+1)) (IC (f:=dv) (h:=(ahG a g e l m i u j n o p [])) (y:=(.full (dy [(⟨j.ar,j.aw,n,o,j.cE,p⟩:aF)]))) (k:=22) (ZN M) rfl (λc hc=>RW c (by rw[oc];exact hc)) rfl rfl (lG K gy).1 (lG K gy).2)⟩)] [(78,.ptr 2 3),(77,.vec 5 0 (m+1) (m+1) 22),(76,.full (dy [(⟨j.ar,j.aw,n,o,j.cE,p⟩:aF)])),(75,.agg [cd j.ar,Y j.aw.bt,Y j.aw.bW,Y j.aw.bR,Y j.aw.b9,Y j.aw.b8,I (dC n),I (dC o),Y j.cE,Y p.aA,cd p.ar,bg p.cU.xN,bg p.cU.xD,Y p.aw.bt,Y p.aw.bW,Y p.aw.bR,Y p.aw.b9,Y p.aw.b8,bg p.aU.xK,I (cY p.aU.xL),I (cg p.xIdx),I (eH p.bk)]),(74,.vec 5 0 m m 22),(73,.ptr 2 3)] (abT a g e l m i u j n o p []) ?_
    refine hY ?_;refine bx ?_;refine BI [(2,oq (ck H rfl bu))] [(57,Y ((z+1:Nat):Int)),(79,Y ((z+1:Nat):Int))] (abT a g e l m i u j n o p []) ?_;refine bx ?_;exact⟨(z+1,a7,m+1,u++[(⟨j.ar,j.aw,n,o,j.cE,p⟩:aF)]),⟨(cC trivial (cC trivial (cC trivial (cC trivial (cC trivial (ZF (xs:=((u++[(⟨j.ar,j.aw,n,o,j.cE,p⟩:aF)]).map dv)) fM)))))),by kernel_rfl⟩,⟨kG H,J⟩,ZC _⟩
  |cons b L=>
   rw[ye]at J;refine az (CM [] [(40,(aG (decide ((x:Int)<(a.aS.length:Int)))))] (C4 a g e l i []) ?_);refine az (AY (t:=(decide ((x:Int)<(a.aS.length:Int)))) (bZ G) ?_);refine dn ?_;refine bx ?_;refine az (ft ?_);refine az (CM [(1,oE (xM (bA G)))] [(7,DF)] (C4 a g e l i [.cells (mj b).cells]) ?_);refine az ?_;obtain⟨B,dQ,J⟩:=bJ J;refine CM [(7,cK afh dQ)] [] (C4 a g e l i [.cells [cd b.ar,Y b.aw.bt,Y b.aw.bW,Y b.aw.bR,Y b.aw.b9,Y b.aw.b8,I (dF B)]]) ?_;have P:=iw J;replace J:=(cS P).symm.trans J;refine BI [(13,oA Fs l ([(⟨b.ar,b.aw,B⟩:cl)]) P)] [(52,.ptr 2 2),(51,.own 4 (dA (l++[(⟨b.ar,b.aw,B⟩:cl)]))),(50,.full (dA [(⟨b.ar,b.aw,B⟩:cl)])),(49,.agg [cd b.ar,Y b.aw.bt,Y b.aw.bW,Y b.aw.bR,Y b.aw.b9,Y b.aw.b8,I (dF B)]),(48,.own 4 (dA l)),(47,.ptr 2 2)] (aao a g e l b B i []) ?_;refine hY ?_;refine bx ?_;refine BI [(2,oq (ck G rfl h7))] [(39,Y ((x+1:Nat):Int)),(53,Y ((x+1:Nat):Int))] (aao a g e l b B i []) ?_
   refine bx ?_;exact⟨(x+1,L,l++[(⟨b.ar,b.aw,B⟩:cl)]),⟨cC trivial (cC trivial (cC trivial (cC trivial (cC trivial fM)))),by kernel_rfl⟩,⟨kG G,J⟩,ZC _⟩
 |cons A v7=>
  rw[xt]at J;refine az (CM [] [(21,(aG (decide ((w:Int)<(a.cO.length:Int)))))] (GZ a g e i []) ?_);refine az (AY (t:=(decide ((w:Int)<(a.cO.length:Int)))) (bZ F) ?_);refine dn ?_;refine bx ?_;refine az (ft ?_);refine az (CM [(1,oE (C3 (bA F)))] [(5,CV)] (GZ a g e i [.cells (pH A).cells]) ?_);obtain⟨q,ff,J⟩:=bJ J;have Q:=iw J;replace J:=(cS Q).symm.trans J;refine SD bH km [(13,cK L4 ff),(28,oA E5 e ([(⟨q,A.l9⟩:cQ)]) Q)] [(34,.ptr 2 1),(33,.own 3 (dP (e++[(⟨q,A.l9⟩:cQ)]))),(32,.full (dP [(⟨q,A.l9⟩:cQ)])),(31,.agg [bg q.xK,I (cY q.xL),aG A.l9]),(30,aG A.l9),(29,.ptr 4 2),(28,cJ q),(27,cJ A.aU),(26,CV),(25,.own 3 (dP e)),(24,.ptr 2 1)] (awi a g e q A i []) km ?_;refine hY ?_;refine bx ?_;refine BI [(2,oq (ck F rfl W))] [(20,Y ((w+1:Nat):Int)),(35,Y ((w+1:Nat):Int))] (awi a g e q A i []) ?_;refine bx ?_;exact⟨(w+1,v7,e++[(⟨q,A.l9⟩:cQ)]),⟨cC trivial (cC trivial (cC trivial (cC trivial fM))),by kernel_rfl⟩,⟨kG F,J⟩,ZC _⟩
def AJ(N:Nat)(b:Nat)(c:U aF)(d:so):Nat->Int->O Int
 |0,_=>none
 |v4+1,a=>bif (decide (a<(b:Int)))then bif (decide ((0:Int)<=a))then(c[(a).toNat]?).bind λe=>(EE N e d).bind λf=>bif f then some a else(λg=>AJ N b c d v4 g) (aY (a+(1:Int)))else none else some (-1:Int)
def Ks(N:Nat)(a:Nat)(b:U aF)(c:so):O Int:=bif (Nat.beq b.length a)then AJ N a b c N (0:Int)else none
def rl(a:U aF)(b:so)(l:U ao):U ao:= .vec 62 22 (bf (a.map dv)):: .cells [cd b]::l
def ajF{N e a b r}(J:Ks N e a b=some r):KH 49 [.vec 0 0 e e 22,.fn 50 [An]] ([.vec 62 22 (bf (a.map dv)),.cells [cd b]]) (Y r) ([.vec 62 22 (bf (a.map dv)),.cells [cd b]]):=by
 rw[Ks]at J;refine rz 2 func49 rfl km (Zh rfl) ?_;refine j0 (s':=⟨19,[(0,.vec 0 0 e e 22),(1,.fn 50 [An])],rl a b []⟩) km ?_;refine az (CM [] [] (rl a b []) ?_);refine az (az ?_);have j:=iw J;replace J:=(cS j).symm.trans J;refine CM [(4,⟨_,_,.pr .no (lJ (f:=dv) (ZN j))⟩)] [(7,Y e),(8,Y 0)] (rl a b []) ?_;refine ft ?_;refine xz [0,1,7,8] 2 [] [] (λ((g,c):Nat×Int)=>⟨19,[(0,.vec 0 0 e e 22),(1,.fn 50 [An]),(7,Y e),(8,Y c)],rl a b []⟩) (λ((g,c):Nat×Int)=>AJ N e a b g c=some r) (λ((g,c):Nat×Int)=>g) (N,(0:Int)) (Zh rfl) ⟨(ZF (xs:=(a.map dv)) (cC trivial fM)),by kernel_rfl⟩ J ?_;rintro⟨g,c⟩ J
 try dsimp only at J
 cases g with
 |zero=>
  rw[AJ]at J;cases J
 |succ g=>
  rw[AJ]at J;refine az (CM [] [(9,(aG (decide (c<(e:Int)))))] (rl a b []) ?_);refine az ?_;rcases eo (decide (c<(e:Int)))with h|h
  ·replace J:=(cS h).symm.trans J;refine AY (t:=(decide (c<(e:Int)))) h ?_;refine dn ?_;refine bx ?_;refine az (ft ?_);refine az (CM [] [(5,Y c)] (rl a b []) ?_);refine az ?_;have m:=iw J;replace J:=(cS m).symm.trans J;obtain⟨n,o,k,p,J⟩:=Z6 J;refine CM [(10,⟨_,_,.pr (.ix ((c).toNat)) (sB (lJ (f:=dv) (ZN j)) (Tr m) (Tr h) rfl)⟩),(13,⟨_,_,.pr (.el ((dv n).map AV.d)) (Nt (f:=dv) (ZN j) o)⟩),(16,oQ [dX n,An] (rl a b []) [1] (ahY _ p))] [(16,aG k)] (rl a b []) ?_;rcases eo k with i|i
   ·replace J:=(cS i).symm.trans J;refine AY (t:=k) i ?_;refine az (CM [] [(4,Y c)] (rl a b []) ?_);refine cT (eI (dd (dd (eI (dd ?_)))));have l:=Zl J;subst l;exact mw (ZF (xs:=(a.map dv)) (cC trivial fM)) km
   replace J:=(eu i).symm.trans J;refine AX (t:=k) i ?_;refine dn ?_;refine hY ?_;refine bx ?_;refine BI [] [(8,Y (aY (c+(1:Int)))),(18,Y (aY (c+(1:Int))))] (rl a b []) ?_;refine bx ?_;exact⟨(g,aY (c+(1:Int))),⟨(ZF (xs:=(a.map dv)) (cC trivial fM)),by kernel_rfl⟩,J,ZC _⟩
  replace J:=(eu h).symm.trans J;refine AX (t:=(decide (c<(e:Int)))) h ?_;refine mA (iK (iK (nx rfl ?_)));refine bx ?_;refine az (CM [] [(4,Y (-1:Int))] (rl a b []) ?_);refine cT ?_;have l:=Zl J;subst l;exact mw (ZF (xs:=(a.map dv)) (cC trivial fM)) km
def H8(N:Nat)(e:U so)(f:U cQ)(g:U cl)(a:Nat)(h:U so)(b:so)(c:U aF):O Int:=(Ks N a c b).bind λd=>some d
def Q5(b:U aF)(c:U so)(e:U cQ)(f:U cl)(a:Nat)(g:U so)(h:so)(l:U ao):U ao:= .vec 62 22 (bf (b.map dv)):: .cells [I (bQ c),I (dP e),I (dA f),.vec 0 0 a a 22,I (bQ g)]:: .cells [cd h]::l
def ari{N c e f a g h b r}(J:H8 N c e f a g h b=some r):KH 22 [.agg [I (bQ c),I (dP e),I (dA f),.vec 0 0 a a 22,I (bQ g)],cd h] ([.vec 62 22 (bf (b.map dv))]) (Y r) ([.vec 62 22 (bf (b.map dv))]):=by
 rw[H8]at J;refine rz 1 func22 rfl km (Zh rfl) ?_;refine j0 (s':=⟨9,[(0,.agg [I (bQ c),I (dP e),I (dA f),.vec 0 0 a a 22,I (bQ g)]),(1,cd h)],[.vec 62 22 (bf (b.map dv))]⟩) km ?_;refine az (CM [] [(2,An),(3,D0)] (Q5 b c e f a g h []) ?_);refine az ?_;obtain⟨i,j,J⟩:=bJ J;refine CM [(10,oX (lT (xs:=(b.map dv)) (cZ eV)) (lT (xs:=(b.map dv)) (cZ eV)) [.vec 0 0 a a 22,.fn 50 [D0]] (Q5 b c e f a g h []) [0,2] (ajF j))] [(4,Y i)] (Q5 b c e f a g h []) ?_;refine cT ?_;have k:=Zl J;subst k;exact mw (ZF (xs:=(b.map dv)) fM) km
def Qg(N:Nat)(a:U cq)(b:U aT):O ((U cq)×(U aT)):=some (a,b)
def W6(a:U cq)(b:U aT)(l:U ao):U ao:= .cells [I (dC a)]:: .cells [I (cg b)]::l
def are{N a b r}(J:Qg N a b=some r):KH 51 [I (dC a),I (cg b)] [] (.fn 87 [.bm [[.sl (dC r.1)]] 0 0,.bm [[.sl (cg r.2)]] 0 0]) []:=by
 rw[Qg]at J;refine sJ 0 func51 rfl km (Zh rfl) ?_;refine j0 (s':=⟨6,[(0,I (dC a)),(1,I (cg b))],[]⟩) km ?_;refine az (CM [] [(2,A1),(3,An)] (W6 a b []) ?_);refine az (CM [] [(4,.fn 87 [A1,An])] (W6 a b []) ?_);refine fR [4] 2 (Zh rfl) (s':=⟨6,[(4,.fn 87 [A1,An])],W6 a b []⟩) km ?_;refine UG 0 (s':=⟨6,[(4,.fn 87 [.bm [[.sl (dC a)]] 0 0,An])],[.gone,.cells [I (cg b)]]⟩) km ?_;refine UG 1 (s':=⟨6,[(4,.fn 87 [.bm [[.sl (dC a)]] 0 0,.bm [[.sl (cg b)]] 0 0])],[.gone,.gone]⟩) km ?_;refine cT ?_;have c:=Zl J;subst c;exact jQ km
def awh(N:Nat)(a:Int64):O aK:=some (⟨a,[]⟩:aK)
def apS{N a}:KO 88 [bg a] cJ (awh N a):=
 fw func88 (gR [[],[]])
def T9(N:Nat)(a:so):O aK:=(Iq N a).bind λb=>bif b then some (⟨0,[(⟨a,(1:Int64)⟩:bD)]⟩:aK)else some iH
def aku{N a}:KO 89 [cd a] cJ (T9 N a):=
 fw func89 (ay λd b=>gA [[],[(4,cK aaC b)]] (qg λc=>gR [[t0 (eF c)],[]]))
def Wb(N:Nat)(a:cq)(b:bD):O Bool:=some (bL a.ar==bL b.ar)
abbrev ND:=λa=>([.cells (lB a).cells]:List ao)
def amJ{N b a}:KP 91 [vO b,A1] (ND a) aG (λ_=>(ND a)) (Wb N b a):=
 fh 1 func91 (gH [[],[]])
def GY(N:Nat)(a:bD):U cq->Nat->O Int
 |[],_=>some (-1:Int)
 |c::d,b=>(Wb N c a).bind λe=>bif e then some (b:Int)else(GY N a d (b+1))
def VF(N:Nat)(a:U cq)(b:bD):O Int:=GY N b a 0
def akK{N a c}:KP 90 [I (dC a),.fn 91 [A1]] (ND c) Y (λ_=>(ND c)) (VF N a c):=
 fh 1 func90 (gA [[],[(4,oL a kt)]] (gT qD 0 a λg=>eX 1 [] [0,1,7,8] 1 (λe=>⟨19,[(0,I (dC a)),(1,.fn 91 [A1]),(7,Y a.length),(8,Y e)],ND c⟩) (λe b h=>gH [[],[f0 (bY b)],[]]) (λe i l b h j=>ay λm k=>gA [[],[t0 (bZ b)],[],[(10,oE (uo (bA b))),(16,oQ [vO i,A1] (ND c) [0] (amJ _ k))]] (aC (λf=>gH [[t0 f],[]]) λf=>gb j () [[f0 f],[(2,oq (ck b rfl g))]] b))))
def xV(N:Nat)(a:Int64):O Int:=bif (decide (a.toInt<0))then some (u64.wrap (0-(u64.wrap a.toInt)))else some (u64.wrap a.toInt)
def Ho{N a}:KO 150 [bg a] (λr=>.d (.v (.int .u64 r))) (xV N a):=
 fw func150 (gA [[],[]] (bV λb=>gR [[f0 b],[]]))
def H0(N:Nat)(a:Int)(b:Int):O (Int×Int):=some (u64.wrap ((u64.wrap ((u64.wrap (((a).fdiv (2^(min ((32:Int)).toNat (IntKind.bits .u64))))*((b).fdiv (2^(min ((32:Int)).toNat (IntKind.bits .u64))))))+((u64.wrap ((u64.wrap (((a).fdiv (2^(min ((32:Int)).toNat (IntKind.bits .u64))))*(u64.wrap ((BitVec.ofInt (IntKind.bits .u64) b&&&BitVec.ofInt (IntKind.bits .u64) (4294967295:Int)).toNat:Int))))+((u64.wrap ((u64.wrap ((BitVec.ofInt (IntKind.bits .u64) a&&&BitVec.ofInt (IntKind.bits .u64) (4294967295:Int)).toNat:Int))*(u64.wrap ((BitVec.ofInt (IntKind.bits .u64) b&&&BitVec.ofInt (IntKind.bits .u64) (4294967295:Int)).toNat:Int)))).fdiv (2^(min ((32:Int)).toNat (IntKind.bits .u64)))))).fdiv (2^(min ((32:Int)).toNat (IntKind.bits .u64))))))+((u64.wrap ((u64.wrap ((u64.wrap ((BitVec.ofInt (IntKind.bits .u64) a&&&BitVec.ofInt (IntKind.bits .u64) (4294967295:Int)).toNat:Int))*((b).fdiv (2^(min ((32:Int)).toNat (IntKind.bits .u64))))))+(u64.wrap ((BitVec.ofInt (IntKind.bits .u64) (u64.wrap ((u64.wrap (((a).fdiv (2^(min ((32:Int)).toNat (IntKind.bits .u64))))*(u64.wrap ((BitVec.ofInt (IntKind.bits .u64) b&&&BitVec.ofInt (IntKind.bits .u64) (4294967295:Int)).toNat:Int))))+((u64.wrap ((u64.wrap ((BitVec.ofInt (IntKind.bits .u64) a&&&BitVec.ofInt (IntKind.bits .u64) (4294967295:Int)).toNat:Int))*(u64.wrap ((BitVec.ofInt (IntKind.bits .u64) b&&&BitVec.ofInt (IntKind.bits .u64) (4294967295:Int)).toNat:Int)))).fdiv (2^(min ((32:Int)).toNat (IntKind.bits .u64))))))&&&BitVec.ofInt (IntKind.bits .u64) (4294967295:Int)).toNat:Int)))).fdiv (2^(min ((32:Int)).toNat (IntKind.bits .u64))))),u64.wrap (a*b))
def abW{N a c}:KO 152 [Af a,Af c] (λr=>.bw [Af r.1,Af r.2]) (H0 N a c):=
 fw func152 (gR [[],[],[(4,⟨_,_,.nn (b:=32) gy⟩),(19,⟨_,_,.nn (b:=32) gy⟩)],[(10,⟨_,_,.nn (b:=32) gy⟩)],[(4,⟨_,_,.nn (b:=32) gy⟩),(10,⟨_,_,.nn (b:=32) gy⟩),(19,⟨_,_,.nn (b:=32) gy⟩),(28,⟨_,_,.nn (b:=32) gy⟩)]])
def Ib(N:Nat)(b:Int64)(c:Int64):O (Int64×Bool):=(xV N b).bind λd=>(xV N c).bind λe=>(H0 N d e).bind λa=>(bif (a.1 !=0)then some true else(bif (decide (a.2>9223372036854775808))then some true else(bif (a.2==9223372036854775808)then some (!(!((decide (b.toInt<0))==(decide (c.toInt<0)))))else some false))).bind λf=>bif f then some ((0:Int64),false)else bif ((decide (b.toInt<0))==(decide (c.toInt<0)))then some (Int64.ofInt a.2,true)else some (Int64.ofInt (u64.wrap (0-a.2)),true)
def afd{N e f}:KO 132 [bg e,bg f] (λr=>.bw [bg r.1,aG r.2]) (Ib N e f):=
 fw func132 (ay λl i=>ay λm j=>ay λg k=>gA [[],[(4,cK Ho i),(10,cK Ho j),(13,cK abW k)],[]] (gG (λh=>[(22,aG h)]) (λ_=>[]) (aC (λb=>gE [(2,bT b),(6,bT rfl),(9,uN)] []) λb=>dS (2,bF b) (aC (λc=>gE [(6,bT c),(9,uN)] []) λc=>dS (6,bF c) (aC (λa=>gE [(9,bT a)] [(37,bT a)]) λa=>gE [(9,bF a)] [(37,bF a)]))) λh=>iy λ_=>aC (λd=>gR [[f0 (dG d)],[(5,oq (kM g.2))]]) λd=>gR [[t0 (eF d)],[(8,oq (kM (u64.wrap (0-g.2))))]]))
def I0(N:Nat)(e:Int64×Bool)(f:Int64):U bD->Nat->Bool->(U bD)->O (aK×Int)
 |[],_,c,a=>bif c then some ((⟨e.1,a⟩:aK),(0:Int))else some (iH,(3:Int))
 |g::h,i,c,a=>(Ib N g.dh f).bind λb=>(bif c then some b.2 else some false).bind λd=>bif (Nat.ble ((a.length+1)*24) 140737488355328)then(λj k=>I0 N e f h (i+1) j k) d (a++[(⟨g.ar,b.1⟩:bD)])else none
def Ma(N:Nat)(a:aK)(b:Int64):O (aK×Int):=(uU N a).bind λd=>bif (d !=0)then some (iH,(1:Int))else bif (b.toInt==0)then some (iH,(0:Int))else(Ib N a.xK b).bind λc=>I0 N c b a.xL 0 c.2 []
def alG{N b g}:KO 92 [cJ b,bg g] (λr=>.bw [cJ r.1,Y r.2]) (Ma N b g):=
 fw func92 (ay λx m=>gA [[],[(4,cK zM m)]] (iy λ_=>bV λn=>ay λl o=>gA [[f0 n],[(10,cK afd o)],[],[(7,oL b.xL fO)]] (li (λ_=>(MY 2 1 95 2 [] (.inr km) ·)) (gT rm 30 b.xL λp=>gx2 1 [] [1,4,7,8,30,31,32] 4 [] [(1,1)] (λh(i:Bool)(a:(U bD))=>⟨61,[(1,bg g),(4,An),(7,aG i),(8,D0),(30,I (cY b.xL)),(31,Y b.xL.length),(32,Y h)],[.cells (cJ b).cells,.cells Jt,.cells [bg l.1,.own 3 (cY a)],.front 95 2 a.length]⟩) (λh i a e q=>gA [[],[f0 (bY e)],[]] (qg λt=>gR [[t0 (eF t)],[]])) (λh j y i a e q u=>ay λf v=>gA [[],[t0 (bZ e)],[(1,oE (jL (bA e)))],[(10,cK afd v)]] (gG (λc=>[(7,aG c)]) (λ_=>[.cells (cJ b).cells,.cells Jt,.cells [bg l.1,.own 3 (cY a)],.front 95 2 a.length,.cells (lB j).cells]) (aC (λk=>gE [(1,bT k)] []) λk=>gE [(1,bF k)] []) λc=>dW λw=>yp u (c,a++[(⟨j.ar,f.1⟩:bD)]) [[(22,oA rm a ([(⟨j.ar,f.1⟩:bD)]) w)],[(2,oq (ck e rfl p))]] e))))))
def Fg(N:Nat)(a:Int64)(b:Int64):O (Int64×Bool):=some (a+b,((decide ((a+b).toInt>a.toInt))==(decide (b.toInt>0))))
def ae9{N a b}:KO 133 [bg a,bg b] (λr=>.bw [bg r.1,aG r.2]) (Fg N a b):=
 fw func133 (gR [[],[(8,oq (IF a b))],[]])
def Bk(N:Nat)(d:so)(e:Int64)(f:Int64)(g:Bool)(h:Int64)(a:U bD):O (Bool×(U bD)):=(Fg N e f).bind λb=>(bif g then some b.2 else some false).bind λc=>bif (b.1.toInt !=0)then bif (Nat.ble ((a.length+1)*24) 140737488355328)then some (c,a++[(⟨d,b.1⟩:bD)])else none else some (c,a)
abbrev QD:=λa b c d=>([.cells [aG a],.cells [bg b,.own 2 (cY c)],.front 95 2 d]:List ao)
def SX{N c f g h b a}:KP 135 [cd c,bg f,bg g,A1,An] (QD h b a a.length) (λ_=>.bw []) (λr=>(QD r.1 b r.2 r.2.length)) (Bk N c f g h b a):=
 fh 3 func135 (ay λj k=>gA [[(7,cK ae9 k)]] (gG (λ_=>[]) (λi=>(QD i b a a.length)) (aC (λd=>gE [(1,bT d)] []) λd=>gE [(1,bF d)] []) λi=>gA [[]] (aC (λe=>dW λl=>gH [[t0 e],[(19,oA rm a ([(⟨c,j.1⟩:bD)]) l)]]) λe=>gH [[f0 e]])))
def oU(N:Nat)(c:Int64):Nat->(U bD)->(U bD)->Bool->(U bD)->O (Bool×(U bD))
 |0,_,_,_,_=>none
 |l+1,a,b,j,k=>(bif (decide ((a.length:Int)>0))then some true else some (decide ((b.length:Int)>0))).bind λm=>bif m then(bif ((b.length:Int)==0)then some true else(bif (decide ((a.length:Int)>0))then (a[0]?).bind λn=>(b[0]?).bind λo=>some (Op.bytesLess (bL n.ar) (bL o.ar))else some false)).bind λu=>bif u then(a[0]?).bind λp=>(Bk N p.ar p.dh (0:Int64) j c k).bind λq=>bif (decide (1<=a.length))then(λd e f g=>oU N c l d e f g) (a.drop 1) b q.1 q.2 else none else(bif ((a.length:Int)==0)then some true else (b[0]?).bind λv=>(a[0]?).bind λw=>some (Op.bytesLess (bL v.ar) (bL w.ar))).bind λx=>bif x then(b[0]?).bind λr=>(Bk N r.ar (0:Int64) r.dh j c k).bind λh=>bif (decide (1<=b.length))then(λd e f g=>oU N c l d e f g) a (b.drop 1) h.1 h.2 else none else(a[0]?).bind λi=>(b[0]?).bind λy=>(Bk N i.ar i.dh y.dh j c k).bind λt=>bif (decide (1<=a.length))then bif (decide (1<=b.length))then(λd e f g=>oU N c l d e f g) (a.drop 1) (b.drop 1) t.1 t.2 else none else none else some (j,k)
def N8(N:Nat)(a:U bD)(b:U bD)(c:Bool)(d:Int64):O (Bool×(U bD)):=oU N d N a b c []
def yV(b:Bool)(c:Int64)(a:U bD)(l:U ao):U ao:= .cells [aG b]:: .cells [bg c,.own 2 (cY a)]:: .front 95 2 a.length::l
def Qv(a:Bool×(U bD))(b:Int64)(l:U ao):U ao:= .cells [aG a.1]:: .cells [bg b,.own 2 (cY a.2)]:: .front 95 2 a.2.length::l
def ats{N o p q b r}(J:N8 N o p q b=some r):KH 134 [I (cY o),I (cY p),.fn 135 [A1,An]] ([.cells [aG q],.cells [bg b,.d (.v (.slice none 0 0))]]) (.bw []) (QD r.1 b r.2 r.2.length):=by
 rw[N8]at J;refine AN 3 func134 ?_;refine MY 1 1 95 2 [] (.inr km) ?_;refine J5 bH 1 [] [0,1,2] 3 (λ((g,a,c,e,f):Nat×(U bD)×(U bD)×Bool×(U bD))=>⟨91,[(0,I (cY a)),(1,I (cY c)),(2,.fn 135 [A1,An])],yV e b f []⟩) (λ((g,a,c,e,f):Nat×(U bD)×(U bD)×Bool×(U bD))=>oU N b g a c e f=some r) (λ((g,a,c,e,f):Nat×(U bD)×(U bD)×Bool×(U bD))=>g) (N,o,p,q,[]) J ?_;rintro⟨g,a,c,e,f⟩ J f1 t
 try dsimp only at J
 cases g with
 |zero=>
  rw[oU]at J;cases J
 |succ g=>
  rw[oU]at J;obtain⟨u,m,J⟩:=bJ J;refine yc bH [(13,aG u)] (yV e b f []) ?_ ?_
  ·apply bc m<;>intro z m
   ·cases m;exact Ys [(3,bT z)] [(4,oL a fO)]
   cases m;exact Ys [(3,bF z)] [(4,oL a fO),(16,oL c fO)]
  apply bc J<;>intro A J
  ·refine gr bH [[(0,bT A)]] ?_;obtain⟨M,h,J⟩:=bJ J;refine yc bH [(32,aG M)] (yV e b f []) ?_ ?_
   ·apply bc h<;>intro w h
    ·cases h;exact Ys [(3,bT w),(7,uN)] [(4,oL c fO)]
    apply bc h<;>intro n h;{obtain⟨P,Q,R,S,h⟩:=Z6 h;cases h;exact Ys [(3,bF w),(7,bT n)] [(4,oL c fO),(16,oL a fO),(28,oE (k:=0) (jL Q)),(40,oE (k:=0) (jL S)),(52,bT n)]}
    cases h;exact Ys [(3,bF w),(7,bF n)] [(4,oL c fO),(16,oL a fO),(52,bF n)]
   apply bc J<;>intro B J;{refine gr bH [[(0,bT B)]] ?_;obtain⟨C,E,x,T,J⟩:=Z6 J;refine vc bH [(7,oE (k:=0) (jL E)),(19,oE (k:=0) (jL E)),(28,oR [cd C.ar,bg C.dh,bg 0,A1,An] (yV e b f []) [0,1,2] (SX _ T))] [] (Qv x b []) ?_;obtain⟨W,J⟩:=kA J;exact DY bH t (g,a.drop 1,c,x.1,x.2) [[(4,⟨_,_,.CC (xs:=cY a) (lo:=1) gy (by rw[fO];exact(Tr W)) CB Mx⟩)]] J}
   refine gr bH [[(0,bF B)]] ?_;obtain⟨aP,j,J⟩:=bJ J;refine yc bH [(64,aG aP)] (yV e b f []) ?_ ?_
   ·apply bc j<;>intro F j
    ·cases j;exact Ys [(3,bT F)] [(4,oL a fO)]
    obtain⟨aW,bU,a7,cz,j⟩:=Z6 j;cases j;exact Ys [(3,bF F)] [(4,oL a fO),(16,oE (k:=0) (jL bU)),(28,oE (k:=0) (jL cz))]
   apply bc J<;>intro G J;{refine gr bH [[(0,bT G)]] ?_;obtain⟨H,K,i,ff,J⟩:=Z6 J;refine vc bH [(7,oE (k:=0) (jL K)),(19,oE (k:=0) (jL K)),(28,oR [cd H.ar,bg 0,bg H.dh,A1,An] (yV e b f []) [0,1,2] (SX _ ff))] [] (Qv i b []) ?_;obtain⟨fB,J⟩:=kA J;exact DY bH t (g,a,c.drop 1,i.1,i.2) [[(4,⟨_,_,.CC (xs:=cY c) (lo:=1) gy (by rw[fO];exact(Tr fB)) CB Mx⟩)]] J}
   refine gr bH [[(0,bF G)]] ?_;obtain⟨l,L,dM,jm,J⟩:=Z6 J;obtain⟨y,gX,J⟩:=bJ J;refine vc bH [(7,oE (k:=0) (jL L)),(19,oE (k:=0) (jL L)),(31,oE (k:=0) (jL jm)),(40,oR [cd l.ar,bg l.dh,bg dM.dh,A1,An] (yV e b f []) [0,1,2] (SX _ gX))] [] (Qv y b []) ?_;obtain⟨gp,J⟩:=kA J;obtain⟨mK,J⟩:=kA J;exact DY bH t (g,a.drop 1,c.drop 1,y.1,y.2) [[(4,⟨_,_,.CC (xs:=cY a) (lo:=1) gy (by rw[fO];exact(Tr gp)) CB Mx⟩),(10,⟨_,_,.CC (xs:=cY c) (lo:=1) gy (by rw[fO];exact(Tr mK)) CB Mx⟩)]] J
  cases J;exact lz bH [[(0,bF A)]]
def Ja(N:Nat)(a:aK)(b:aK):O (aK×Int):=(uU N a).bind λe=>(bif (e !=0)then some true else (uU N b).bind λf=>some (f !=0)).bind λg=>bif g then some (iH,(1:Int))else(Fg N a.xK b.xK).bind λc=>(N8 N a.xL b.xL c.2 c.1).bind λd=>bif d.1 then some ((⟨c.1,d.2⟩:aK),(0:Int))else some (iH,(3:Int))
def aj2{N a b}:KO 93 [cJ a,cJ b] (λr=>.bw [cJ r.1,Y r.2]) (Ja N a b):=
 fw func93 (gA [[]] (ay λm g=>gG (λe=>[(15,aG e)]) (λ_=>[.cells (cJ a).cells,.cells (cJ b).cells,.cells Jt]) (dH (4,cK zM g) (aC (λc=>gE [(3,bT c)] []) λc=>ay λn h=>gE [(3,bF c)] [(16,cK zM h)])) λe=>bV λi=>ay λf j=>ay λo k=>gA [[f0 i],[],[],[(13,cK ae9 j)],[(16,oR [I (cY a.xL),I (cY b.xL),.fn 135 [CV,Ar]] [.cells (cJ a).cells,.cells (cJ b).cells,.cells Jt,.cells [bg f.1,.d (.v (.slice none 0 0))],.cells [aG f.2]] [4,3] (ats k))],[]] (qg λl=>gR [[t0 (eF l)],[]])))
def DG(N:Nat)(d:bD)(e:Int64)(b:U bD)(f:Int64->(U bD)->O (aK×Int))(g:Int64)(h:U bD):O (aK×Int):=(Ma N (⟨g,h⟩:aK) d.dh).bind λc=>bif (c.2 !=0)then some (iH,c.2)else(Ja N (⟨e,b⟩:aK) c.1).bind λa=>bif (a.2 !=0)then some (iH,a.2)else f a.1.xK a.1.xL
def zi(N:Nat)(f:U cq)(g:U aT):U bD->Nat->Int64->(U bD)->O (aK×Int)
 |[],_,d,a=>some ((⟨d,a⟩:aK),(0:Int))
 |e::j,k,d,a=>(T9 N e.ar).bind λc=>(VF N f e).bind λb=>bif (decide (b>=0))then bif (decide ((0:Int)<=b))then(g[(b).toNat]?).bind λl=>DG N e d a (λh i=>zi N f g j (k+1) h i) l.aU.xK l.aU.xL else none else DG N e d a (λh i=>zi N f g j (k+1) h i) c.xK c.xL
def He(N:Nat)(a:aK)(c:U cq)(d:U aT):O (aK×Int):=(awh N a.xK).bind λb=>zi N c d a.xL 0 b.xK b.xL
def Ri(b:aK)(c:Int64)(a:U bD)(l:U ao):U ao:= .cells (cJ b).cells:: .cells Jt:: .cells [bg c,I (cY a)]::l
def UQ{N b e f}:KP 87 [cJ b,.bm [[.sl (dC e)]] 0 0,.bm [[.sl (cg f)]] 0 0] [] (λr=>.bw [cJ r.1,Y r.2]) (λ_=>[]) (He N b e f):=
 fh 0 func87 (ay λL w=>gA [[],[(7,cK apS w)],[(7,oL b.xL fO)]] (gT rm 17 b.xL λx=>gx2 1 [] [1,2,4,6,17,18,19] 3 [] [(1,1)] (λj(g:Int64)(a:(U bD))=>⟨59,[(1,.bm [[.sl (dC e)]] 0 0),(2,.bm [[.sl (cg f)]] 0 0),(4,An),(6,D0),(17,I (cY b.xL)),(18,Y b.xL.length),(19,Y j)],Ri b g a []⟩) (λj g a h y=>gH [[],[f0 (bY h)],[]]) (λj k z g a h y A=>ay λc B=>ay λl C=>avi 2 [[],[t0 (bZ h)],[(1,oE (jL (bA h)))],[(7,cK aku B)],[(7,oQ [I (dC e),.fn 91 [Ar]] (Ri b g a [.cells (lB k).cells,.cells (cJ c).cells]) [3] (akK _ C))],[]] [1,2,4,6,8,9,17,18,19] 5 [] [(1,1)] (λ(p:Int64)(q:(U bD))=>⟨59,[(1,.bm [[.sl (dC e)]] 0 0),(2,.bm [[.sl (cg f)]] 0 0),(4,An),(6,D0),(8,Ar),(9,CV),(17,I (cY b.xL)),(18,Y b.xL.length),(19,Y j)],Ri b g a [.cells (lB k).cells,.cells [bg p,I (cY q)]]⟩) (DG N k g a (λE F=>zi N e f z (j+1) E F)) (λM t=>aC (λm=>dW λG=>ay λu H=>gmX t (u.aU.xK,u.aU.xL) [[t0 m],[(7,⟨_,_,.el (xs:=cg f) (i:=l) (Tr G) (j5 H)⟩)]]) λm=>gmX t (c.xK,c.xL) [[f0 m]]) (λp q=>ay λP J=>gA [[(10,cK alG J)],[]] (aC (λn=>gH [[t0 n],[]]) λn=>ay λv K=>gA [[f0 n],[(7,cK aj2 K)],[]] (aC (λo=>gH [[t0 o],[]]) λo=>yp A (v.1.xK,v.1.xL) [[f0 o],[(2,oq (ck h rfl x))]] h))))))
def EJ(N:Nat)(c:U aT)(g:(U aT)->O ((U aT)×Int))(h:aK×Int)(i:aT)(j:U cq)(k:U aT):U aK->Nat->Int64->(U bD)->(U aK)->O ((U aT)×Int)
 |[],_,_,_,b=>bif (Nat.ble ((c.length+1)*72) 140737488355328)then g (c++[(⟨h.1,i.bp,b⟩:aT)])else none
 |d::l,e,_,_,b=>(He N d j k).bind λa=>bif (a.2 !=0)then some ([],a.2)else bif (Nat.ble ((b.length+1)*32) 140737488355328)then(λm n f=>EJ N c g h i j k l (e+1) m n f) a.1.xK a.1.xL (b++[a.1])else none
def EZ(N:Nat)(b:U cq)(c:U aT):U aT->Nat->(U aT)->O ((U aT)×Int)
 |[],_,d=>some (d,(0:Int))
 |v6::e,f,d=>(He N v6.aU b c).bind λa=>bif (a.2 !=0)then some ([],a.2)else EJ N d (λg=>EZ N b c e (f+1) g) a v6 b c v6.bC 0 a.1.xK a.1.xL []
def P8(N:Nat)(a:U cq)(b:U aT)(c:U aT):O ((U aT)×Int):=EZ N a b c 0 []
def acO(e:U aT)(a:aT)(f:Int64)(g:U bD)(b:aK×Int)(c:U aK)(l:U ao):U ao:= .front 93 4 e.length:: .cells (fK a).cells:: .cells [bg f,I (cY g)]:: .cells [bg b.1.xK,I (cY b.1.xL),cd a.bp,.own 4 (dF c)]:: .front 45 2 c.length::l
def ajt{N g h c}:KP 94 [.fn 87 [.bm [[.sl (dC g)]] 0 0,.bm [[.sl (cg h)]] 0 0],I (cg c)] [] (λr=>.bw [I (cg r.1),Y r.2]) (λ_=>[]) (P8 N g h c):=
 fh 0 func94 (gA [[],[],[(4,oL c gv)]] (li (λ_=>(qK 6 93 4 [] (.inr km) ·)) (gT po 1 c λu=>iC 1 [] [0,6,14,15,16] 1 (λl(a:U aT)=>⟨63,[(0,.fn 87 [.bm [[.sl (dC g)]] 0 0,.bm [[.sl (cg h)]] 0 0]),(6,.own 0 (cg a)),(14,I (cg c)),(15,Y c.length),(16,Y l)],[.front 93 4 a.length]⟩) (λl a i v=>gH [[],[f0 (bY i)],[]]) (λl b F a i v w=>ay λm x=>gA [[],[t0 (bZ i)],[(1,oE (j5 (bA i)))],[(10,oQ [cJ b.aU,.bm [[.sl (dC g)]] 0 0,.bm [[.sl (cg h)]] 0 0] [.front 93 4 a.length,.cells (fK b).cells] [] (UQ _ x))],[]] (aC (λq=>gH [[t0 q],[]]) λq=>gA [[f0 q],[],[(7,oL b.bC fJ)]] (li (λ_=>(MY 3 3 45 2 [] (.inr km) ·)) (gT ny 35 b.bC λy=>gl3 2 [] [0,6,9,11,14,15,16,35,36,37] 5 (λf(n:Int64)(o:U bD)(e:U aK)=>⟨63,[(0,.fn 87 [.bm [[.sl (dC g)]] 0 0,.bm [[.sl (cg h)]] 0 0]),(6,.own 0 (cg a)),(9,D0),(11,Ar),(14,I (cg c)),(15,Y c.length),(16,Y l),(35,I (dF b.bC)),(36,Y b.bC.length),(37,Y f)],acO a b n o m e []⟩) (λf n o e j z=>dW λA=>gb w (a++[(⟨m.1,b.bp,e⟩:aT)]) [[],[f0 (bY j)],[(10,oA po a ([(⟨m.1,b.bp,e⟩:aT)]) A)],[(2,oq (ck i rfl u))]] i) (λf k G n o e j z B=>ay λp C=>gA [[],[t0 (bZ j)],[(1,oE (mQ (bA j)))],[(7,oQ [cJ k,.bm [[.sl (dC g)]] 0 0,.bm [[.sl (cg h)]] 0 0] (acO a b n o m e (T6 k)) [] (UQ _ C))],[]] (aC (λt=>gH [[t0 t],[]]) λt=>dW λE=>gb B (p.1.xK,p.1.xL,e++[p.1]) [[f0 t],[(13,oA ny e ([p.1]) E)],[(2,oq (ck j rfl y))]] j)))))))))
def Hj(N:Nat)(c:au)(d:aK×Int)(e:(U aT)×Int)(f:(U cq)->(U aT)->au->O (au×Int))(g:U cq)(h:U aT):U au->Nat->(U au)->O (au×Int)
 |[],_,a=>some ((⟨c.aA,c.ar,c.cU,c.aw,d.1,e.1,a⟩:au),(0:Int))
 |i::j,k,a=>(f g h i).bind λb=>bif (b.2 !=0)then some (nt,b.2)else bif (Nat.ble ((a.length+1)*160) 140737488355328)then(λl=>Hj N c d e f g h j (k+1) l) (a++[b.1])else none
def Ap(N:Nat):Nat->(U cq)->(U aT)->au->O (au×Int)
 |0,_,_,_=>none
 |d+1,b,c,a=>(He N a.aU b c).bind λe=>bif (e.2 !=0)then some (nt,e.2)else(P8 N b c a.xIdx).bind λf=>bif (f.2 !=0)then some (nt,f.2)else Hj N a e f (Ap N d) b c a.bk 0 []
def Lv(N:Nat)(a:U cq)(b:U aT)(c:au):O (au×Int):=Ap N N a b c
def aff(b:au)(c:aK×Int)(e:(U aT)×Int)(a:U au)(l:U ao):U ao:= .cells (Fz b [bg c.1.xK,I (cY c.1.xL),I (cg e.1),I (eH b.bk)]):: .cells zu:: .front 60 13 a.length::l
def aj1(N:Nat):∀d:Nat,(∀{c:U cq}{e:U aT}{a:au},KP 52 [.fn 87 [.bm [[.sl (dC c)]] 0 0,.bm [[.sl (cg e)]] 0 0],aL a] [] (λr=>.bw [aL r.1,Y r.2]) (λ_=>[]) (Ap N d c e a)):=by
 intro d
 induction d with
 |zero=>intro c e a r J;rw[Ap]at J;cases J
 |succ d ih=>
  have i:= @ih;intro c e a;rw[Ap];exact fh 0 func52 (ay λh p=>gA [[],[],[(10,oQ [cJ a.aU,.bm [[.sl (dC c)]] 0 0,.bm [[.sl (cg e)]] 0 0] [.cells (aL a).cells,.cells zu] [] (UQ _ p))],[]] (aC (λj=>gH [[(0,bT j)],[]]) λj=>ay λn q=>gA [[(0,bF j)],[(10,oQ [.fn 87 [.bm [[.sl (dC c)]] 0 0,.bm [[.sl (cg e)]] 0 0],I (cg a.xIdx)] [.cells (Fz a [bg h.1.xK,I (cY h.1.xL),I (cg a.xIdx),I (eH a.bk)]),.cells zu] [] (ajt _ q))],[]] (aC (λk=>gH [[(0,bT k)],[]]) λk=>gA [[(0,bF k)],[],[(7,oL a.bk iM)]] (li (λ_=>(qK 7 60 13 [] (.inr km) ·)) (gT qi 37 a.bk λt=>FI 1 [] [0,3,4,7,37,38,39] 3 [] [(1,10),(1,11),(1,12)] (λl(b:(U au))=>⟨61,[(0,.fn 87 [.bm [[.sl (dC c)]] 0 0,.bm [[.sl (cg e)]] 0 0]),(3,A1),(4,An),(7,.own 2 (eH b)),(37,I (eH a.bk)),(38,Y a.bk.length),(39,Y l)],aff a h n b []⟩) (λl b g u=>gH [[],[(0,bF (bY g))],[],[]]) (λl o y b g u v=>ay λf w=>gA [[],[(0,bT (bZ g))],[(1,oE (kg (bA g)))],[(7,oQ [.fn 87 [.bm [[.sl (dC c)]] 0 0,.bm [[.sl (cg e)]] 0 0],aL o] (aff a h n b (L2 o)) [] (i _ w))],[]] (aC (λm=>gH [[(0,bT m)],[]]) λm=>dW λx=>yp v (b++[f.1]) [[(0,bF m)],[(8,oq (congrArg AV.full (oY [f.1]).symm)),(10,oA qi b ([f.1]) x)],[(2,oq (ck g rfl t))]] g)))))))
def aiU{N a b c}:KP 52 [.fn 87 [.bm [[.sl (dC a)]] 0 0,.bm [[.sl (cg b)]] 0 0],aL c] [] (λr=>.bw [aL r.1,Y r.2]) (λ_=>[]) (Lv N a b c):=(aj1 N N)
def BA(N:Nat)(b:au)(d:au->aF->O (au×Int))(e:aF):U au->Nat->(U au)->O (au×Int)
 |[],_,a=>some ((⟨b.aA,b.ar,b.cU,b.aw,b.aU,b.xIdx,a⟩:au),(0:Int))
 |f::g,h,a=>(d f e).bind λc=>bif (c.2 !=0)then some (nt,c.2)else bif (Nat.ble ((a.length+1)*160) 140737488355328)then(λi=>BA N b d e g (h+1) i) (a++[c.1])else none
def uz(N:Nat):Nat->au->aF->O (au×Int)
 |0,_,_=>none
 |d+1,a,b=>(bif (a.aA==3)then some (bL a.ar==bL b.ar)else some false).bind λf=>bif f then(Qg N b.aJ a.xIdx).bind λc=>(Lv N c.1 c.2 b.aX).bind λe=>some (e.1,e.2)else BA N a (uz N d) b a.bk 0 []
def OP(N:Nat)(a:au)(b:aF):O (au×Int):=uz N N a b
def PC(a:au)(b:aF)(l:U ao):U ao:= .cells (aL a).cells:: .cells (dX b).cells:: .cells zu::l
def ai2(N:Nat):∀d:Nat,(∀{a:au}{c:aF},KO 23 [aL a,dX c] (λr=>.bw [aL r.1,Y r.2]) (uz N d a c)):=by
 intro d
 induction d with
 |zero=>intro a c r J;rw[uz]at J;cases J
 |succ d ih=>
  have g:= @ih;intro a c;rw[uz];exact fw func23 (gA [[]] (gG (λk=>[(20,aG k)]) (λ_=>(PC a c [])) (aC (λh=>gE [(3,bT h)] []) λh=>gE [(3,bF h)] []) λk=>aC (λi=>ay λl m=>ay λw n=>gR [[(0,bT i)],[(13,oQ [I (dC c.aJ),I (cg a.xIdx)] (PC a c []) [] (are m)),(22,oQ [.fn 87 [.bm [[.sl (dC l.1)]] 0 0,.bm [[.sl (cg l.2)]] 0 0],aL c.aX] (PC a c []) [] (aiU _ n))]]) λi=>gA [[(0,bF i)],[],[(7,oL a.bk iM)]] (li (λ_=>(qK 6 60 13 [] (.inr km) ·)) (gT qi 32 a.bk λo=>FI 1 [] [2,3,4,6,32,33,34] 4 [] [(2,10),(2,11),(2,12)] (λj(b:(U au))=>⟨56,[(2,A1),(3,An),(4,D0),(6,.own 3 (eH b)),(32,I (eH a.bk)),(33,Y a.bk.length),(34,Y j)],PC a c [.front 60 13 b.length]⟩) (λj b f p=>gR [[],[(0,bF (bY f))],[],[]]) (λj x y b f p q=>ay λe t=>gA [[],[(0,bT (bZ f))],[(1,oE (kg (bA f)))],[(7,cK g t)],[]] (bV λu=>dW λv=>yp q (b++[e.1]) [[(0,bF u)],[(8,oq (congrArg AV.full (oY [e.1]).symm)),(10,oA qi b ([e.1]) v)],[(2,oq (ck f rfl o))]] f))))))
def aiC{N a b}:KO 23 [aL a,dX b] (λr=>.bw [aL r.1,Y r.2]) (OP N a b):=(ai2 N N)
def Kh(N:Nat)(b:U aF)(a:Int)(c:Nat):O (U aF):=bif Nat.beq b.length c&&(decide ((0:Int)<=a)&&(Nat.blt a.toNat c&&Nat.blt c 9223372036854775807))then some (b.take a.toNat++b.drop (a.toNat+1))else none
def anz{N a v2 v3 r}(J:Kh N a v2 v3=some r):da prog 25 [.vec 0 0 v3 v3 22,Y v2,Y (aY (v2+(1:Int)))] [.vec 62 22 (bf (a.map dv))] λf h1=>f=(.vec 0 0 (v3-1) v3 22)/\h1=[.vec 62 22 (bf (r.map dv)++[List.replicate 22 .dead])]:=by
 obtain⟨d,rfl⟩:=eY J;simp only[Zo]at d;obtain⟨h1,b,c,e⟩:=d;have h1:=ZN h1;have b:=Tr b;have c:v2.toNat<v3:=Zh c;have e:v3<9223372036854775807:=Zh e;have g:aY (v2+(1:Int))=((v2.toNat+1:Nat):Int):=by unfold aY;rw[cR];omega
 have i:((v2.toNat:Nat):Int)=v2:=Int.toNat_of_nonneg b;have h:=anN (xs:=a.map dv) c (by rw[Zw];exact h1) (th (λ_=>rfl) _);rw[auK,i]at h;rw[g];exact h
def q7(N:Nat)(a:(U so)×(U cQ)×(U cl)×Nat×(U so)×(U aF))(j:aF)(k:so)(l:Int):Nat->Int->(U aF)->O (aI×Int)
 |0,_,_=>none
 |o+1,g,c=>bif (decide (g<(a.2.2.2.1:Int)))then bif (Nat.beq c.length a.2.2.2.1)then bif (decide ((0:Int)<=g))then(c[(g).toNat]?).bind λb=>(OP N b.aX j).bind λd=>bif (d.2 !=0)then some (Gz,d.2)else(λp q=>q7 N a j k l o p q) (aY (g+(1:Int))) (c.set ((g).toNat) (⟨b.ar,b.aw,b.aJ,b.bI,b.cE,d.1⟩:aF))else none else none else(g_slices_Contains_string_string N a.2.2.2.2.1 k).bind λi=>bif i then bif (Nat.beq c.length a.2.2.2.1)then(tn N (⟨a.1,a.2.1,a.2.2.1,c,a.2.2.2.2.1⟩:aI)).bind λm=>bif (m.2 !=0)then some (Gz,m.2)else(xg N (⟨a.1,a.2.1,a.2.2.1,c,a.2.2.2.2.1⟩:aI)).bind λe=>bif (Nat.beq e.2.2.2.2.2.length e.2.2.2.1)then some ((⟨e.1,e.2.1,e.2.2.1,e.2.2.2.2.2,e.2.2.2.2.1⟩:aI),(0:Int))else none else none else(Kh N c l a.2.2.2.1).bind λh=>bif (Nat.beq (h.length+1) a.2.2.2.1)then bif (Nat.beq h.length (a.2.2.2.1-1))then(tn N (⟨a.1,a.2.1,a.2.2.1,h,a.2.2.2.2.1⟩:aI)).bind λn=>bif (n.2 !=0)then some (Gz,n.2)else(xg N (⟨a.1,a.2.1,a.2.2.1,h,a.2.2.2.2.1⟩:aI)).bind λf=>bif (Nat.beq f.2.2.2.2.2.length f.2.2.2.1)then some ((⟨f.1,f.2.1,f.2.2.1,f.2.2.2.2.2,f.2.2.2.2.1⟩:aI),(0:Int))else none else none else none
def qk(N:Nat)(d:aI)(c:so):O (aI×Int):=(BG N d c).bind λe=>bif (e !=0)then some (Gz,e)else(xg N d).bind λa=>(H8 N a.1 a.2.1 a.2.2.1 a.2.2.2.1 a.2.2.2.2.1 c a.2.2.2.2.2).bind λb=>bif (Nat.beq a.2.2.2.2.2.length a.2.2.2.1)then bif (decide ((0:Int)<=b))then bif (decide (b<(a.2.2.2.1:Int)))then(a.2.2.2.2.2[(b).toNat]?).bind λf=>q7 N a f c b N (0:Int) a.2.2.2.2.2 else none else none else none
def Ko(b:aI)(a:(U so)×(U cQ)×(U cl)×Nat×(U so)×(U aF))(l:U ao):U ao:= .cells (di b).cells:: .cells EL:: .gone:: .cells [I (bQ a.1),.own 5 (dP a.2.1),.own 6 (dA a.2.2.1),.vec 7 0 a.2.2.2.1 a.2.2.2.1 22,I (bQ a.2.2.2.2.1)]:: .gone:: .front 47 3 a.2.1.length:: .front 52 7 a.2.2.1.length::l
def ym(a:aI)(l:U ao):U ao:= .cells (di a).cells:: .cells EL::l
def Jc(c:aI)(a:(U so)×(U cQ)×(U cl)×Nat×(U so)×(U aF))(b:U aF)(e:aF)(l:U ao):U ao:=ym c (.gone:: .cells [I (bQ a.1),.own 5 (dP a.2.1),.own 6 (dA a.2.2.1),I (dy b),I (bQ a.2.2.2.2.1)]:: .gone:: .front 47 3 a.2.1.length:: .front 52 7 a.2.2.1.length:: .gone:: .cells [I (bQ a.1),.own 5 (dP a.2.1),.own 6 (dA a.2.2.1),I (dy b),I (bQ a.2.2.2.2.1)]:: .cells (dX e).cells::l)
def xo(b:aI)(a:(U so)×(U cQ)×(U cl)×Nat×(U so)×(U aF))(c:U aF)(e:aF)(l:U ao):U ao:=Ko b a (.vec 62 22 (bf (c.map dv)):: .cells [I (bQ a.1),.own 5 (dP a.2.1),.own 6 (dA a.2.2.1),.vec 7 0 a.2.2.2.1 a.2.2.2.1 22,I (bQ a.2.2.2.2.1)]:: .cells (dX e).cells::l)
def Dg(b:aI)(a:(U so)×(U cQ)×(U cl)×Nat×(U so)×(U aF))(c:U aF)(e:aF)(l:U ao):U ao:=ym b (.gone:: .gone:: .gone:: .front 47 3 a.2.1.length:: .front 52 7 a.2.2.1.length:: .gone:: .cells [I (bQ a.1),.own 5 (dP a.2.1),.own 6 (dA a.2.2.1),I (dy c),I (bQ a.2.2.2.2.1)]:: .cells (dX e).cells::l)
def Hw(b:aI)(a:(U so)×(U cQ)×(U cl)×Nat×(U so)×(U aF))(l:U ao):U ao:=Ko b a (.vec 62 22 (bf (a.2.2.2.2.2.map dv)):: .cells [I (bQ a.1),.own 5 (dP a.2.1),.own 6 (dA a.2.2.1),.vec 7 0 a.2.2.2.1 a.2.2.2.1 22,I (bQ a.2.2.2.2.1)]::l)
def aa6(e:aI)(a:(U so)×(U cQ)×(U cl)×Nat×(U so)×(U aF))(b:(U so)×(U cQ)×(U cl)×Nat×(U so)×(U aF))(c:U aF)(f:aF)(l:U ao):U ao:= .cells (di e).cells:: .cells [I (bQ a.1),.own 13 (dP a.2.1),.own 14 (dA a.2.2.1),I (dy a.2.2.2.2.2),I (bQ a.2.2.2.2.1)]:: .gone:: .cells [I (bQ b.1),.own 5 (dP b.2.1),.own 6 (dA b.2.2.1),I (dy c),I (bQ b.2.2.2.2.1)]:: .gone:: .front 47 3 b.2.1.length:: .front 52 7 b.2.2.1.length:: .gone:: .cells [I (bQ b.1),.own 5 (dP b.2.1),.own 6 (dA b.2.2.1),I (dy c),I (bQ b.2.2.2.2.1)]:: .cells (dX f).cells:: .gone:: .cells [I (bQ a.1),.own 13 (dP a.2.1),.own 14 (dA a.2.2.1),I (dy a.2.2.2.2.2),I (bQ a.2.2.2.2.1)]:: .gone:: .front 47 3 a.2.1.length:: .front 52 7 a.2.2.1.length::l
def ade(c:aI)(a:(U so)×(U cQ)×(U cl)×Nat×(U so)×(U aF))(b:(U so)×(U cQ)×(U cl)×Nat×(U so)×(U aF))(e:U aF)(f:aF)(l:U ao):U ao:= .cells (di c).cells:: .cells [I (bQ a.1),.own 13 (dP a.2.1),.own 14 (dA a.2.2.1),I (dy a.2.2.2.2.2),I (bQ a.2.2.2.2.1)]:: .gone:: .gone:: .gone:: .front 47 3 b.2.1.length:: .front 52 7 b.2.2.1.length:: .gone:: .cells [I (bQ b.1),.own 5 (dP b.2.1),.own 6 (dA b.2.2.1),I (dy e),I (bQ b.2.2.2.2.1)]:: .cells (dX f).cells:: .gone:: .cells [I (bQ a.1),.own 13 (dP a.2.1),.own 14 (dA a.2.2.1),I (dy a.2.2.2.2.2),I (bQ a.2.2.2.2.1)]:: .gone:: .front 47 3 a.2.1.length:: .front 52 7 a.2.2.1.length::l
def awg(e:aI)(b:(U so)×(U cQ)×(U cl)×Nat×(U so)×(U aF))(f:U aF)(g:Int)(a:aF)(c:au×Int)(h:aF)(l:U ao):U ao:=Ko e b (.vec 62 22 (bf ((f.set ((g).toNat) (⟨a.ar,a.aw,a.aJ,a.bI,a.cE,c.1⟩:aF)).map dv)):: .cells [I (bQ b.1),.own 5 (dP b.2.1),.own 6 (dA b.2.2.1),.vec 7 0 b.2.2.2.1 b.2.2.2.1 22,I (bQ b.2.2.2.2.1)]:: .cells (dX h).cells:: .cells (aL c.1).cells::l)
def awf(b:aI)(a:(U so)×(U cQ)×(U cl)×Nat×(U so)×(U aF))(l:U ao):U ao:= .cells (di b).cells:: .cells [I (bQ a.1),.own 13 (dP a.2.1),.own 14 (dA a.2.2.1),.vec 15 0 a.2.2.2.1 a.2.2.2.1 22,I (bQ a.2.2.2.2.1)]:: .gone::l
def Xb{N e w r}(J:qk N e w=some r):KF 7 [di e,cd w] (.bw [di r.1,Y r.2]):=by
 rw[qk]at J;refine qZ func7 rfl km ?_;refine fR [0,1] 0 (Zx _) (s':=⟨83,[(0,di e),(1,cd w)],[]⟩) km ?_;refine az (CM [] [(2,A1),(4,An)] (ym e []) ?_);refine az (az ?_);obtain⟨x,h1,J⟩:=bJ J;refine CM [(7,cL (arG h1))] [(6,Y x)] (ym e []) ?_;refine az (CM [] [(19,(aG (x !=0)))] (ym e []) ?_);rcases eo (x !=0)with C|C
 ·replace J:=(cS C).symm.trans J;refine AY (t:=(x !=0)) C ?_;refine az (CM [] [(5,Y x)] (ym e []) ?_);refine cT (dd ?_);have p:=Zl J;subst p;exact fX km
 replace J:=(eu C).symm.trans J;refine AX (t:=(x !=0)) C ?_;refine dn ?_;refine bx ?_;refine az ?_;obtain⟨a,h3,J⟩:=bJ J;refine CM [(4,oX eV (vV (cZ (vV (vC (vC (lT (xs:=(a.2.2.2.2.2.map dv)) eV)))))) [di e] (ym e []) [] (Np h3))] [(7,EA)] (Hw e a []) ?_;refine az ?_;obtain⟨z,h4,J⟩:=bJ J;refine CM [(7,oX (lT (xs:=(a.2.2.2.2.2.map dv)) eV) (lT (xs:=(a.2.2.2.2.2.map dv)) eV) [.agg [I (bQ a.1),I (dP a.2.1),I (dA a.2.2.1),.vec 7 0 a.2.2.2.1 a.2.2.2.1 22,I (bQ a.2.2.2.2.1)],cd w] (Hw e a []) [7] (ari h4))] [(8,Y z)] (Hw e a []) ?_;refine az ?_;have M:=iw J;replace J:=(cS M).symm.trans J;have Q:=iw J;replace J:=(cS Q).symm.trans J;have R:=iw J;replace J:=(cS R).symm.trans J;obtain⟨g,h8,J⟩:=bJ J;refine CM [(10,⟨_,_,.pr (.ix ((z).toNat)) (sB (lJ (f:=dv) (ZN M)) (Tr Q) (Tr R) rfl)⟩),(13,⟨_,_,.pr (.el ((dv g).map AV.d)) (Nt (f:=dv) (ZN M) h8)⟩)] [(9,FW)] (Hw e a (Rj g)) ?_;refine az (az ?_);refine CM [(7,⟨_,_,.pr .no (lJ (f:=dv) (ZN M))⟩)] [(34,Y (a.2.2.2.1:Int)),(35,Y 0)] (Hw e a (Rj g)) ?_
 refine ft ?_;refine xz [1,4,7,8,9,34,35] 10 [] [(1,0),(1,1),(1,2),(1,3),(1,4)] (λ((u,k,i):Nat×Int×(U aF))=>⟨83,[(1,cd w),(4,An),(7,EA),(8,Y z),(9,FW),(34,Y (a.2.2.2.1:Int)),(35,Y k)],xo e a i g []⟩) (λ((u,k,i):Nat×Int×(U aF))=>q7 N a g w z u k i=some r) (λ((u,k,i):Nat×Int×(U aF))=>u) (N,(0:Int),a.2.2.2.2.2) (Zh rfl) ⟨(cC trivial (cC trivial (cC trivial (cC trivial (cC trivial (cC trivial (cC trivial (ZF (xs:=(a.2.2.2.2.2.map dv)) (cC trivial (cC trivial fM)))))))))),by kernel_rfl⟩ J ?_;rintro⟨u,k,i⟩ J
 try dsimp only at J
 cases u with
 |zero=>
  rw[q7]at J;cases J
 |succ u=>
  rw[q7]at J;refine az (CM [] [(36,(aG (decide (k<(a.2.2.2.1:Int)))))] (xo e a i g []) ?_);refine az ?_;rcases eo (decide (k<(a.2.2.2.1:Int)))with v|v
  ·replace J:=(cS v).symm.trans J;refine AY (t:=(decide (k<(a.2.2.2.1:Int)))) v ?_;refine dn ?_;refine bx ?_;refine az (ft ?_);refine az (CM [] [(10,Y k)] (xo e a i g []) ?_);refine az ?_;have E:=iw J;replace J:=(cS E).symm.trans J;have P:=iw J;replace J:=(cS P).symm.trans J;obtain⟨c,S,b,cX,J⟩:=Z6 J;refine rd bH km [(10,⟨_,_,.pr (.ix ((k).toNat)) (sB (lJ (f:=dv) (ZN E)) (Tr P) (Tr v) rfl)⟩),(13,⟨_,_,.pr .no trivial⟩),(16,⟨_,_,.pr (.el ((dv c).map AV.d)) (Nt (f:=dv) (ZN E) S)⟩),(22,cK aiC cX)] [(11,Ge),(12,Y b.2)] (xo e a i g (L2 b.1)) km ?_;refine az (az ?_);refine CM [] [(50,(aG (b.2 !=0)))] (xo e a i g (L2 b.1)) ?_;rcases eo (b.2 !=0)with F|F
   ·replace J:=(cS F).symm.trans J;refine AY (t:=(b.2 !=0)) F ?_;refine az (CM [] [(5,Y b.2)] (xo e a i g (L2 b.1)) ?_);refine cT (dd (eI (dd (dd (eI (dd ?_))))));have p:=Zl J;subst p;exact fX km
   replace J:=(eu F).symm.trans J;refine AX (t:=(b.2 !=0)) F ?_;refine dn ?_;refine bx ?_;refine BI [(13,⟨_,_,.pr (.ix ((k).toNat)) (sB (lJ (f:=dv) (ZN E)) (Tr P) (Tr v) rfl)⟩),(16,⟨_,_,.pr .no trivial⟩),(19,⟨_,_,.pr (.st ((dv c).map AV.d) (bf ((i.set ((k).toNat) (⟨c.ar,c.aw,c.aJ,c.bI,c.cE,b.1⟩:aF)).map dv))) (Gs (f:=dv) (j:=9) (y:=(⟨c.ar,c.aw,c.aJ,c.bI,c.cE,b.1⟩:aF)) (zs:=[Y b.1.aA,cd b.1.ar,bg b.1.cU.xN,bg b.1.cU.xD,Y b.1.aw.bt,Y b.1.aw.bW,Y b.1.aw.bR,Y b.1.aw.b9,Y b.1.aw.b8,bg b.1.aU.xK,I (cY b.1.aU.xL),I (cg b.1.xIdx),I (eH b.1.bk)]) (ZN E) S rfl)⟩)] [(58,.dU 7 ((k).toNat) 9 a.2.2.2.1 22),(57,.dU 7 ((k).toNat) 0 a.2.2.2.1 22),(56,aL b.1),(55,Y k),(54,.vec 7 0 a.2.2.2.1 a.2.2.2.1 22),(53,.ptr 8 3)] (awg e a i k c b g []) ?_;refine hY ?_;refine bx ?_;refine BI [] [(35,Y (aY (k+(1:Int)))),(59,Y (aY (k+(1:Int))))] (awg e a i k c b g []) ?_;refine bx ?_;exact⟨(u,aY (k+(1:Int)),i.set ((k).toNat) (⟨c.ar,c.aw,c.aJ,c.bI,c.cE,b.1⟩:aF)),⟨(cC trivial (cC trivial (cC trivial (cC trivial (cC trivial (cC trivial (cC trivial (ZF (xs:=((i.set ((k).toNat) (⟨c.ar,c.aw,c.aJ,c.bI,c.cE,b.1⟩:aF)).map dv)) (cC trivial (cC trivial fM)))))))))),by kernel_rfl⟩,J,ZC _⟩
  replace J:=(eu v).symm.trans J;refine AX (t:=(decide (k<(a.2.2.2.1:Int)))) v ?_;refine mA (iK (iK (nx rfl ?_)));refine bx ?_;refine az (az ?_);obtain⟨q,cz,J⟩:=bJ J;refine CM [(10,cK Ry cz)] [(64,aG (!q))] (xo e a i g []) ?_;rcases eo q with G|G
  ·replace J:=(cS G).symm.trans J;refine AX (t:=(!q)) (dG G) ?_;refine dn ?_;refine bx ?_;refine az (az ?_);have T:=iw J;replace J:=(cS T).symm.trans J;refine W9 [4,7] 7 (i.map dv) (dy i) (L:=a.2.2.2.1) (ym e [.gone,.cells [I (bQ a.1),.own 5 (dP a.2.1),.own 6 (dA a.2.2.1),I (dy i),I (bQ a.2.2.2.2.1)],.gone,.front 47 3 a.2.1.length,.front 52 7 a.2.2.1.length,.vec 62 22 (bf (i.map dv)),.cells [I (bQ a.1),.own 5 (dP a.2.1),.own 6 (dA a.2.2.1),I (dy i),I (bQ a.2.2.2.2.1)],.cells (dX g).cells]) 0 rfl (th (λ_=>rfl) _) (vK (ZN T)) (oc _) km (.cells 0 rfl km (.cells 0 rfl km (.gone (.cells 1 km km (.gone (.front (.front (.jk (.cells 1 km km (.cells 0 rfl km .nil)))))))))) ?_;refine j0 (s':=⟨83,[(4,An),(7,EA)],Jc e a i g []⟩) km ?_;obtain⟨A,dJ,J⟩:=bJ J;refine CM [(4,cK Gi dJ)] [(14,Y A.2)] (Jc e a i g []) ?_;refine az (CM [] [(78,(aG (A.2 !=0)))] (Jc e a i g []) ?_);rcases eo (A.2 !=0)with H|H
   ·replace J:=(cS H).symm.trans J;refine AY (t:=(A.2 !=0)) H ?_;refine az (CM [] [(5,Y A.2)] (Jc e a i g []) ?_);refine cT (dd ?_);have p:=Zl J;subst p;exact fX km
   replace J:=(eu H).symm.trans J;refine AX (t:=(A.2 !=0)) H ?_;refine dn ?_;refine bx ?_;refine az ?_;obtain⟨m,fB,J⟩:=bJ J;refine CM [(4,oX eV (vV (cZ (vV (vC (vC (lT (xs:=(m.2.2.2.2.2.map dv)) eV)))))) [di (⟨a.1,a.2.1,a.2.2.1,i,a.2.2.2.2.1⟩:aI)] (Jc e a i g []) [] (Np fB))] [(5,Y 0)] (awf e m [.cells [I (bQ a.1),.own 5 (dP a.2.1),.own 6 (dA a.2.2.1),I (dy i),I (bQ a.2.2.2.2.1)],.gone,.front 47 3 a.2.1.length,.front 52 7 a.2.2.1.length,.gone,.cells [I (bQ a.1),.own 5 (dP a.2.1),.own 6 (dA a.2.2.1),I (dy i),I (bQ a.2.2.2.2.1)],.cells (dX g).cells,.gone,.cells [I (bQ m.1),.own 13 (dP m.2.1),.own 14 (dA m.2.2.1),.vec 15 0 m.2.2.2.1 m.2.2.2.1 22,I (bQ m.2.2.2.2.1)],.gone,.front 47 3 m.2.1.length,.front 52 7 m.2.2.1.length,.vec 62 22 (bf (m.2.2.2.2.2.map dv))]) ?_;have W:=iw J;replace J:=(cS W).symm.trans J;refine W9 [4,5] 15 (m.2.2.2.2.2.map dv) (dy m.2.2.2.2.2) (L:=m.2.2.2.1) (aa6 e m a i g [.vec 62 22 (bf (m.2.2.2.2.2.map dv))]) 0 rfl (th (λ_=>rfl) _) (vK (ZN W)) (oc _) km (.cells 0 rfl km (.cells 1 km km (.gone (.cells 0 rfl km (.gone (.front (.front (.gone (.cells 0 rfl km (.cells 0 rfl km (.gone (.cells 1 km km (.gone (.front (.front (.jk .nil)))))))))))))))) ?_
   refine j0 (s':=⟨83,[(4,An),(5,Y 0)],aa6 e m a i g [.gone]⟩) km ?_;refine cT ?_;have p:=Zl J;subst p;exact fX km
  replace J:=(eu G).symm.trans J;refine AY (t:=(!q)) (eF G) ?_;obtain⟨o,jm,J⟩:=bJ J;refine CM [(16,⟨_,_,.Om (lT (xs:=(i.map dv)) eV) (vdP (xs:=(o.map dv)) eV) (nw:=[.vec 7 0 a.2.2.2.1 a.2.2.2.1 22,Y z,Y (aY (z+(1:Int)))]) (h:=(xo e a i g [])) (l:=[7]) km km km km (anz jm)⟩)] [] (Ko e a [.vec 62 22 (bf (o.map dv)++[List.replicate 22 .dead]),.cells [I (bQ a.1),.own 5 (dP a.2.1),.own 6 (dA a.2.2.1),.vec 7 0 (a.2.2.2.1-1) a.2.2.2.1 22,I (bQ a.2.2.2.2.1)],.cells (dX g).cells]) ?_;refine az (az ?_);have gX:=iw J;replace J:=(cS gX).symm.trans J;have gp:=iw J;replace J:=(cS gp).symm.trans J;refine aqa [4,7] 7 (o.map dv) (dy o) (ln:=(a.2.2.2.1-1)) (L:=a.2.2.2.1) (Dg e a o g []) 0 rfl (akg (ZN gX)) aj7 (th (λ_=>rfl) _) (vK (ZN gp)) (oc _) rfl km (.cells 0 rfl km (.cells 0 rfl km (.gone (.drop (.gone (.front (.front (.drop (.cells 1 km km (.cells 0 rfl km .nil)))))))))) ?_;refine j0 (s':=⟨83,[(4,An),(7,EA)],Dg e a o g []⟩) km ?_
  obtain⟨B,mK,J⟩:=bJ J;refine CM [(4,cK Gi mK)] [(14,Y B.2)] (Dg e a o g []) ?_;refine az (CM [] [(78,(aG (B.2 !=0)))] (Dg e a o g []) ?_);rcases eo (B.2 !=0)with K|K
  ·replace J:=(cS K).symm.trans J;refine AY (t:=(B.2 !=0)) K ?_;refine az (CM [] [(5,Y B.2)] (Dg e a o g []) ?_);refine cT (dd ?_);have p:=Zl J;subst p;exact fX km
  replace J:=(eu K).symm.trans J;refine AX (t:=(B.2 !=0)) K ?_;refine dn ?_;refine bx ?_;refine az ?_;obtain⟨n,gk,J⟩:=bJ J;refine CM [(4,oX eV (vV (cZ (vV (vC (vC (lT (xs:=(n.2.2.2.2.2.map dv)) eV)))))) [di (⟨a.1,a.2.1,a.2.2.1,o,a.2.2.2.2.1⟩:aI)] (Dg e a o g []) [] (Np gk))] [(5,Y 0)] (awf e n [.gone,.gone,.front 47 3 a.2.1.length,.front 52 7 a.2.2.1.length,.gone,.cells [I (bQ a.1),.own 5 (dP a.2.1),.own 6 (dA a.2.2.1),I (dy o),I (bQ a.2.2.2.2.1)],.cells (dX g).cells,.gone,.cells [I (bQ n.1),.own 13 (dP n.2.1),.own 14 (dA n.2.2.1),.vec 15 0 n.2.2.2.1 n.2.2.2.1 22,I (bQ n.2.2.2.2.1)],.gone,.front 47 3 n.2.1.length,.front 52 7 n.2.2.1.length,.vec 62 22 (bf (n.2.2.2.2.2.map dv))]) ?_;have mo:=iw J;replace J:=(cS mo).symm.trans J;refine W9 [4,5] 15 (n.2.2.2.2.2.map dv) (dy n.2.2.2.2.2) (L:=n.2.2.2.1) (ade e n a o g [.vec 62 22 (bf (n.2.2.2.2.2.map dv))]) 0 rfl (th (λ_=>rfl) _) (vK (ZN mo)) (oc _) km (.cells 0 rfl km (.cells 1 km km (.gone (.gone (.gone (.front (.front (.gone (.cells 0 rfl km (.cells 0 rfl km (.gone (.cells 1 km km (.gone (.front (.front (.jk .nil)))))))))))))))) ?_
  refine j0 (s':=⟨83,[(4,An),(5,Y 0)],ade e n a o g [.gone]⟩) km ?_;refine cT ?_;have p:=Zl J;subst p;exact fX km
def Jh(N:Nat):U aT->Nat->Int->O Int
 |[],_,a=>some (aY ((1:Int)+a))
 |e::c,d,a=>bif (bL e.bp==bL (bs []))then(λb=>Jh N c (d+1) b) a else(λb=>Jh N c (d+1) b) (aY (a+(1:Int)))
def Pv(N:Nat)(c:au->O Int):U au->Nat->Int->O Int
 |[],_,a=>some (aY ((1:Int)+a))
 |v10::b,d,a=>(c v10).bind λe=>(λf=>Pv N c b (d+1) f) (aY (a+e))
def JQ(N:Nat)(a:au)(b:au->O Int)(c:Bool):O Int:=bif c then some (0:Int)else bif (a.aA==3)then Jh N a.xIdx 0 (0:Int)else Pv N b a.bk 0 (0:Int)
def tf(N:Nat):Nat->au->O Int
 |0,_=>none
 |d+1,a=>bif (a.aA==1)then JQ N a (tf N d) (a.aA==1)else JQ N a (tf N d) (a.aA==2)
def RT(N:Nat)(a:au):O Int:=tf N N a
def akG(N:Nat):∀d:Nat,(∀{a:au},KO 28 [aL a] Y (tf N d a)):=by
 intro d
 induction d with
 |zero=>intro a r J;rw[tf]at J;cases J
 |succ d ih=>
  have g:= @ih;intro a;rw[tf];exact fw func28 (nF 1 [[],[],[],[]] [1,3,9,10] 1 (λ(m:Bool)=>⟨44,[(1,A1),(3,Y 0),(9,Y a.aA),(10,aG m)],L2 a⟩) (JQ N a (tf N d)) (λA n=>aC (λh=>gm n (a.aA==1) [[(0,bT h)]]) λh=>gm n (a.aA==2) [[(0,bF h)],[]]) (λm=>iy λ_=>aC (λi=>gA [[(0,bT i)],[(7,oL a.xIdx gv)]] (gT po 16 a.xIdx λo=>iC 2 [] [3,16,17,18] 1 (λj(f:Int)=>⟨44,[(3,Y f),(16,I (cg a.xIdx)),(17,Y a.xIdx.length),(18,Y j)],L2 a⟩) (λj f c q=>gR [[],[(0,bF (bY c))],[]]) (λj B C f c q p=>gA [[],[(0,bT (bZ c))],[(1,oE (j5 (bA c)))],[]] (aC (λk=>gb p f [[(0,bF (dG k))],[(2,oq (ck c rfl o))]] c) λk=>gb p (aY (f+(1:Int))) [[(0,bT (eF k))],[],[(2,oq (ck c rfl o))]] c)))) λi=>gA [[(0,bF i)],[(7,oL a.bk iM)]] (gT qi 31 a.bk λt=>iC 3 [] [3,31,32,33] 1 (λl(b:Int)=>⟨44,[(3,Y b),(31,I (eH a.bk)),(32,Y a.bk.length),(33,Y l)],L2 a⟩) (λl b e u=>gR [[],[(0,bF (bY e))],[]]) (λl v w b e u x=>ay λy z=>gb x (aY (b+y)) [[],[(0,bT (bZ e))],[(1,oE (kg (bA e)))],[(7,cK g z)],[(2,oq (ck e rfl t))]] e))))
def ajY{N a}:KO 28 [aL a] Y (RT N a):=(akG N N)
def Kr(N:Nat)(a:U so):U so->Nat->O Bool
 |[],_=>some true
 |c::d,b=>(a[((b:Int)).toNat]?).bind λe=>bif (bL c==bL e)then(Kr N a d (b+1))else some false
def EY(N:Nat)(a:U so)(b:U so):O Bool:=bif ((a.length:Int) !=(b.length:Int))then some false else Kr N b a 0
def awe{N a c}:KO 61 [I (bQ a),I (bQ c)] aG (EY N a c):=
 fw func61 (gA [[],[(4,oL a jt),(10,oL c jt)]] (bV λf=>gA [[f0 f],[(4,oL a jt)]] (gT tR 0 a λg=>eX 1 [] [0,1,12,13] 0 (λe=>⟨26,[(0,I (bQ a)),(1,I (bQ c)),(12,Y a.length),(13,Y e)],[]⟩) (λe b h=>gR [[],[f0 (bY b)],[]]) (λe l m b h i=>ay λn j=>gA [[],[t0 (bZ b)],[],[(7,oE (rM (bA b))),(19,oE (rM j))]] (kC λk=>gb i () [[f0 (dG k)],[(2,oq (ck b rfl g))]] b)))))
def J7(N:Nat)(a:U bD):U bD->Nat->O Bool
 |[],_=>some true
 |b::e,c=>(a[((c:Int)).toNat]?).bind λd=>bif ((bL b.ar==bL d.ar)&&((b.dh.toInt==d.dh.toInt)&&true))then(J7 N a e (c+1))else some false
def LK(N:Nat)(a:U bD)(b:U bD):O Bool:=bif ((a.length:Int) !=(b.length:Int))then some false else J7 N b a 0
def aqY{N a c}:KO 145 [I (cY a),I (cY c)] aG (LK N a c):=
 fw func145 (gA [[],[(4,oL a fO),(10,oL c fO)]] (bV λf=>gA [[f0 f],[(4,oL a fO)]] (gT rm 0 a λg=>eX 1 [] [0,1,12,13] 0 (λe=>⟨26,[(0,I (cY a)),(1,I (cY c)),(12,Y a.length),(13,Y e)],[]⟩) (λe b h=>gR [[],[f0 (bY b)],[]]) (λe l m b h i=>ay λn j=>gA [[],[t0 (bZ b)],[],[(7,oE (jL (bA b))),(19,oE (jL j))]] (kC λk=>gb i () [[f0 (dG k)],[(2,oq (ck b rfl g))]] b)))))
def Eb(N:Nat)(a:aK)(b:aK):O Bool:=(bif (a.xK.toInt==b.xK.toInt)then (LK N a.xL b.xL).bind λc=>some c else some false).bind λd=>some d
abbrev Rs:=λa b=>([.cells (cJ a).cells,.cells (cJ b).cells]:List ao)
def Wd{N a b}:KO 103 [cJ a,cJ b] aG (Eb N a b):=
 fw func103 (gA [[]] (gG (λd=>[(4,aG d)]) (λ_=>(Rs a b)) (aC (λc=>ay λf e=>gE [(5,bT c)] [(31,cK aqY e)]) λc=>gE [(5,bF c)] []) λd=>gR []))
def Kn(N:Nat)(a:cQ)(b:cQ):O Bool:=(bif (a.l9==b.l9)then (Eb N a.aU b.aU).bind λc=>some c else some false).bind λd=>some d
def ajV{N a b}:KO 63 [pH a,pH b] aG (Kn N a b):=
 fw func63 (gA [[]] (gG (λd=>[(4,aG d)]) (λ_=>[.cells (pH a).cells,.cells (pH b).cells]) (aC (λc=>ay λf e=>gE [(5,bT c)] [(31,cK Wd e)]) λc=>gE [(5,bF c)] []) λd=>gR []))
def gx6{α R o p t u v w:Type}{A:R}{r:O Nat}{N0:Nat}{Q:R->Exit->St->Prop}{w0:WO}(k:Nat)(a:U (U (Nat×Ob prog)))(live:U Nat)(m:Nat)(B:U Nat)(kn:U (Nat×Nat)){L:U α}(y:Nat->o->p->t->u->v->w->St){G:U α->Nat->o->p->t->u->v->w->O R}{C:o}{E:p}{F:t}{H:u}{J:v}{K:w}
 (M:∀n b c d g h j,L.drop n=[]->∀f:St->Prop,IE (G [] n b c d g h j) λq=>q=A->GW prog r N0 (Q q) (ik k f (y n b c d g h j) (wk prog w0 a)))
 (z:∀n x l b c d g h j,L.drop n=x::l->∀f:St->Prop,BX k live m B kn L (λn(i:o×p×t×u×v×w)=>y n i.1 i.2.1 i.2.2.1 i.2.2.2.1 i.2.2.2.2.1 i.2.2.2.2.2) (λl n i=>G l n i.1 i.2.1 i.2.2.1 i.2.2.2.1 i.2.2.2.2.1 i.2.2.2.2.2) A n x l (b,c,d,g,h,j) f->IE (G (x::l) n b c d g h j) λq=>q=A->GW prog r N0 (Q q) (ik k f (y n b c d g h j) (wk prog w0 a)))
 (N:N0<=m:=by exact Zh rfl) (fI:U (VE m):=[]) (e0:uf m (wk prog w0 a)=fI.map VE.x:=by kernel_rfl) (e:D8 live m B kn (wk prog w0 a)=some (y 0 C E F H J K,eE a):=by kernel_rfl):IE (G L 0 C E F H J K) λq=>q=A->GW prog r N0 (Q q) w0:=
 FI k a live m B kn (λn(i:o×p×t×u×v×w)=>y n i.1 i.2.1 i.2.2.1 i.2.2.2.1 i.2.2.2.2.1 i.2.2.2.2.2) (G:=(λl n i=>G l n i.1 i.2.1 i.2.2.1 i.2.2.2.1 i.2.2.2.2.1 i.2.2.2.2.2)) (a0:=(C,E,F,H,J,K)) (λn i=>M n i.1 i.2.1 i.2.2.1 i.2.2.2.1 i.2.2.2.2.1 i.2.2.2.2.2) (λn x l i=>z n x l i.1 i.2.1 i.2.2.1 i.2.2.2.1 i.2.2.2.2.1 i.2.2.2.2.2) N fI e0 e
end Go.Proofs.YtjploedinjiflaaGreatDoor
