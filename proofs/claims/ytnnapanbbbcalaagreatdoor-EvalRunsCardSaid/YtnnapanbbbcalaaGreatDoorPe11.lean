/-
  Part 11 of the proof: PE1, PE2, PE3.
-/
import Derived.Test.YtnnapanbbbcalaaGreatDoorPe10
set_option linter.defProp false
namespace Go.Proofs.YtnnapanbbbcalaaGreatDoor
open IntKind (u64 i64)
open Tryz
open Go.RowKit
set_option maxRecDepth 100000
set_option maxHeartbeats 0
set_option linter.unusedVariables false
def jy{α β γ:Type}{a:Option α}{b:α->Option β}{f:α->β->Option γ}{r:γ}(h:Option.bind a (λx=>Option.bind (b x) (f x))=some r):∃x,a=some x/\∃y,b x=some y/\f x y=some r:=have⟨x,p,h⟩:=bz h;have⟨y,q,h⟩:=bz h;⟨x,p,y,q,h⟩
def gP(v:bo)(r:I AV):I AV:=(O (cD v.bJ))::(O (ox v.dR))::(O (lB v.bn))::(O (iC v.aP))::(O (cD v.dC))::r
def Mn(N:Nat)(a:I aL):I aL->Nat->U Bool
 |[],_=>some (decide ((a.length:Int)<=30))
 |v4::b,c=>(bif (decide ((v4.ay.size:Int)>100))then some true else(bif (decide ((v4.xTensor.aR.length:Int)>20))then some true else some (decide ((v4.xTensor.eD.length:Int)>4200)))).bind λd=>bif d then some false else(Mn N a b (c+1))
def Ur(N:Nat)(a:I aL):U Bool:=Mn N a a 0
def atp{N b}:KO 8 [O (bm b)] aA (Ur N b):=
 fw func8 (V [[],[]] (gT sy 0 b λi=>dN 1 [] [0,3] 0 (λc=>⟨40,[(0,O (bm b)),(3,Y c)],[]⟩) (λc a j=>gR [[(7,oL b oG)],[f0 (bG a)],[(4,oL b oG)]]) (λc g m a j k=>V [[(7,oL b oG)],[t0 (bD a)]] (gG (λh=>[(36,aA h)]) (λ_=>[]) (cG (7,oE (pV (aX a))) (ax (λe=>gE [(7,bT e),(17,bT rfl)] []) λe=>cm (7,bF e) (cG (31,oE (pV (aX a))) (cG (43,oL g.xTensor.aR fG) (ax (λf=>gE [(17,bT f)] []) λf=>gE [(17,bF f)] [(61,oE (pV (aX a))),(73,oL g.xTensor.eD jC)]))))) λh=>aY λl=>gb k () [[f0 l],[(5,oq (bU a rfl i))]] a))))
def Ln(N:Nat)(a:I aJ)(b:Int):I aJ->Nat->U Bool
 |[],_=>some (decide ((a.length:Int)<=b))
 |c::d,e=>bif (decide ((c.ay.size:Int)>100))then some false else(Ln N a b d (e+1))
def Qx(N:Nat)(a:I aJ)(b:Int):U Bool:=Ln N a b a 0
def ak1{N a c}:KO 14 [O (aS a),Y c] aA (Qx N a c):=
 fw func14 (V [[],[]] (gT uY 0 a λf=>dN 1 [] [0,1,5] 0 (λe=>⟨23,[(0,O (aS a)),(1,Y c),(5,Y e)],[]⟩) (λe b g=>gR [[(7,oL a m6)],[f0 (bG b)],[(4,oL a m6)]]) (λe j k b g h=>V [[(7,oL a m6)],[t0 (bD b)],[(7,oE (n8 (aX b)))]] (aY λi=>gb h () [[f0 i],[(5,oq (bU b rfl f))]] b))))
def zU(N:Nat)(b:Int)(d:az->Int->U Int):I az->Nat->Int->U Int
 |[],_,a=>some a
 |v10::c,e,a=>bif (decide (a<=b))then(d v10 (aF (b-a))).bind λf=>(λb2_0=>zU N b d c (e+1) b2_0) (aF (a+f))else some a
def MZ(N:Nat)(b:Int->U Int)(c:Int):I bE->Nat->Int->U Int
 |[],_,a=>b a
 |d::e,f,a=>bif (decide (a<=c))then(λg=>MZ N b c e (f+1) g) (aF (a+(d.xL.length:Int)))else b a
def DZ(N:Nat)(b:Int)(e:az->Int->U Int):I az->Nat->Int->U Int
 |[],_,a=>some a
 |c::f,g,a=>bif (decide (a<=b))then(e c (aF (b-a))).bind λd=>(λh=>DZ N b e f (g+1) h) (aF (a+d))else some a
def Dc(N:Nat)(a:Int)(c:az->Int->U Int)(d:az):I c8->Nat->Int->U Int
 |[],_,b=>zU N a c d.bS 0 b
 |e::f,g,b=>bif (decide (b<=a))then MZ N (λh=>Dc N a c d f (g+1) h) a e.cQ 0 (aF ((aF (b+(e.bN.xL.length:Int)))+(e.cQ.length:Int)))else DZ N a c d.bS 0 b
def xg(N:Nat):Nat->az->Int->U Int
 |0,_,_=>none
 |d+1,a,b=>Dc N b (xg N d) a a.xIdx 0 (aF ((aF ((1:Int)+(a.bN.xL.length:Int)))+(a.xIdx.length:Int)))
def Vu(N:Nat)(a:az)(b:Int):U Int:=xg N N a b
abbrev G4:=λa=>([.cells (aK a).cells]:List ar)
def aon(N:Nat):∀d:Nat,(∀{a:az}{h:Int},KO 37 [aK a,Y h] Y (xg N d a h)):=by
 intro d
 induction d with
 |zero=>intro a h r J;rw[xg]at J;cases J
 |succ d ih=>
  have w:= @ih;intro a h;rw[xg];exact fw func37 (V [[],[(10,oL a.bN.xL jx),(22,oL a.xIdx gq)],[]] (gB sc 0 11 a.xIdx λx=>fa 1 [] [1,2,5,6] 1 (λl(n:Int)=>⟨101,[(1,Y h),(2,A0),(5,Y n),(6,Y l)],G4 a⟩) (λl n b A=>V [[(10,oL a.xIdx gq),(18,bF (bG b)),(21,bF (bG b)),(24,bF (bG b)),(28,bF (bG b))],[(0,bF rfl)],[]] (gB oT 0 12 a.bS λB=>fa 2 [] [1,2,5,8] 1 (λo(g:Int)=>⟨101,[(1,Y h),(2,A0),(5,Y g),(8,Y o)],G4 a⟩) (λo g c C=>gR [[(10,oL a.bS jm),(18,bF (bG c)),(21,bF (bG c)),(24,bF (bG c)),(28,bF (bG c))],[(0,bF rfl)],[]]) (λo E F g c C G=>V [[(10,oL a.bS jm),(18,bT (bD c)),(21,bT (bD c)),(24,bT (bD c)),(28,bT (bD c))]] (jz λH=>au λK L=>gb G (aF (g+K)) [[(0,bT H)],[(13,oE (gy (aX c))),(28,cK w L)],[(5,oq (bU c rfl B))]] c)))) (λl k v6 n b A y=>V [[(10,oL a.xIdx gq),(18,bT (bD b)),(21,bT (bD b)),(24,bT (bD b)),(28,bT (bD b))]] (ax (λp=>V [[(0,bT p)],[(13,oE (jk (aX b))),(25,oL k.bN.xL jx),(40,oE (jk (aX b))),(49,oL k.cQ fW)],[]] (F7 (λ_=>(HR 0 11 (fc a.xIdx) (by kernel_rfl) ·)) λM=>have P:=tv fW (HZ (j:=3) (d:= .sl (fz k.cQ)) M (jk (aX b)) rfl);fa 3 [] [1,2,5,6,7] 1 (λq(i:Int)=>⟨101,[(1,Y h),(2,A0),(5,Y i),(6,Y l),(7,Y q)],G4 a⟩) (λq i e Q=>gb y i [[(13,oE (jk (aX b))),(22,oL k.cQ fW),(30,bF (bG e)),(33,bF (bG e)),(36,bF (bG e)),(40,bF (bG e))],[(0,bF rfl)],[(5,oq (bU b rfl x))]] b) (λq z bX i e Q R=>V [[(13,oE (jk (aX b))),(22,oL k.cQ fW),(30,bT (bD e)),(33,bT (bD e)),(36,bT (bD e)),(40,bT (bD e))]] (ax (λt=>gb R (aF (i+(z.xL.length:Int))) [[(0,bT t)],[(13,oE (jk (aX b))),(25,oE (o8 (aX e))),(34,oL z.xL jx)],[(5,oq (bU e rfl P))]] e) λt=>gb y i [[(0,bF t)],[(5,oq (bU b rfl x))]] b)))) λp=>V [[(0,bF p)],[]] (gB oT 0 12 a.bS λS=>fa 4 [] [1,2,5,8] 1 (λu(m:Int)=>⟨101,[(1,Y h),(2,A0),(5,Y m),(8,Y u)],G4 a⟩) (λu m f T=>gR [[(10,oL a.bS jm),(18,bF (bG f)),(21,bF (bG f)),(24,bF (bG f)),(28,bF (bG f))],[(0,bF rfl)],[]]) (λu W fD m f T lK=>V [[(10,oL a.bS jm),(18,bT (bD f)),(21,bT (bD f)),(24,bT (bD f)),(28,bT (bD f))]] (jz λdc=>au λv dT=>gb lK (aF (m+v)) [[(0,bT dc)],[(13,oE (gy (aX f))),(28,cK w dT)],[(5,oq (bU f rfl S))]] f)))))))
def aiu{N a b}:KO 37 [aK a,Y b] Y (Vu N a b):=(aon N N)
def af5(N:Nat)(c:az->U Bool):I az->Nat->U Bool
 |[],_=>some true
 |d::a,e=>(c d).bind λb=>bif b then(af5 N c a (e+1))else some false
def atj(N:Nat)(a:az->U Bool)(b:az):I c8->Nat->U Bool
 |[],_=>af5 N a b.bS 0
 |c::d,e=>bif (decide ((c.de.size:Int)>100))then some false else(atj N a b d (e+1))
def Lg(N:Nat)(a:bo):U Bool:=(bif (decide ((if(a.dC.length:Int)>(if(a.aP.length:Int)>(if(a.bn.length:Int)>(a.bJ.length:Int)then(a.bn.length:Int)else(a.bJ.length:Int))then(a.aP.length:Int)else(if(a.bn.length:Int)>(a.bJ.length:Int)then(a.bn.length:Int)else(a.bJ.length:Int)))then(a.dC.length:Int)else(if(a.aP.length:Int)>(if(a.bn.length:Int)>(a.bJ.length:Int)then(a.bn.length:Int)else(a.bJ.length:Int))then(a.aP.length:Int)else(if(a.bn.length:Int)>(a.bJ.length:Int)then(a.bn.length:Int)else(a.bJ.length:Int))))<=64))then some (decide ((a.dR.length:Int)<=256))else some false).bind λb=>some b
abbrev Mr:=λa=>([.cells (c6 a).cells]:List ar)
def akn{N a}:KO 105 [c6 a] aA (Lg N a):=
 fw func105 (V [[]] (gG (λc=>[(2,aA c)]) (λ_=>(Mr a)) (cG (7,oL a.bJ ft) (cG (16,oL a.bn k9) (cG (25,oL a.aP jM) (cG (34,oL a.dC ft) (ax (λb=>gE [(14,bT b)] [(52,oL a.dR pZ)]) λb=>gE [(14,bF b)] []))))) λc=>gR []))
def GB(N:Nat)(a:Int):U Bool:=(bif (decide (a>=97))then some (decide (a<=122))else some false).bind λb=>some b
def agq{N b}:KO 249 [.d (.v (.int .i32 b))] aA (GB N b):=
 fw func249 (V [[]] (gG (λc=>[(2,aA c)]) (λ_=>[]) (ax (λa=>gE [(2,bT a)] []) λa=>gE [(2,bF a)] []) λc=>gR []))
def ML(N:Nat)(a:Int):U Bool:=(bif (decide (a>=48))then some (decide (a<=57))else some false).bind λb=>some b
def aj8{N b}:KO 284 [.d (.v (.int .i32 b))] aA (ML N b):=
 fw func284 (V [[]] (gG (λc=>[(2,aA c)]) (λ_=>[]) (ax (λa=>gE [(2,bT a)] []) λa=>gE [(2,bF a)] []) λc=>gR []))
def Pl(N:Nat)(a:Int):U Bool:=(GB N a).bind λb=>(bif b then some true else (ML N a).bind λc=>(bif c then some true else some (a==95))).bind λd=>some d
def aqk{N c}:KO 251 [.d (.v (.int .i32 c))] aA (Pl N c):=
 fw func251 (V [[]] (au λh f=>gG (λe=>[(2,aA e)]) (λ_=>[]) (cG (4,cK agq f) (ax (λa=>gE [(2,bT a),(6,bT rfl)] []) λa=>au λi g=>cm (2,bF a) (cG (13,cK aj8 g) (ax (λb=>gE [(6,bT b)] []) λb=>gE [(6,bF b)] [])))) λe=>gR []))
def Fy(N:Nat)(b:so):Nat->Int->U Int
 |0,_=>none
 |c+1,a=>(bif (decide (a<(b.size:Int)))then bif (decide ((0:Int)<=a))then(b[(a).toNat]?).bind λd=>(Pl N (IntKind.i32.wrap (d.toNat:Int))).bind λe=>some e else none else some false).bind λf=>bif f then(λg=>Fy N b c g) (aF (a+(1:Int)))else some a
def OF(N:Nat)(a:so):U Int:=Fy N a N (0:Int)
def akl{N a}:KP 250 [dk a,.fn 251 []] [] Y (λ_=>[]) (OF N a):=
 fh 0 func250 (Mj 1 [[],[]] [0,1,5] 0 (λ(b:Int)=>⟨21,[(0,dk a),(1,.fn 251 []),(5,Y b)],[]⟩) (Fy N a) (λk b l f=>gG (λe=>[(17,aA e)]) (λ_=>[]) (ax (λc=>cF λg=>au λm h=>au λn j=>gE [(4,bT c)] [(25,⟨_,_,.ch (i:=b) (U0 g) h⟩),(31,cK aqk j)]) λc=>gE [(4,bF c)] []) λe=>ax (λd=>uK f (aF (b+(1:Int))) [[t0 d],[]]) λd=>gH [[f0 d],[]]))
def TM(N:Nat):U (I so):=some pC
def aq8{N r}(J:TM N=some r):AFn prog 285 [] (·=(O (cD r))):=by
 cases J;exact arJ
def MU(N:Nat)(a:so):I so->Nat->U Int
 |[],_=>some (-1:Int)
 |c::d,b=>bif (bL a==bL c)then some (b:Int)else(MU N a d (b+1))
def Ki(N:Nat)(a:I so)(b:so):U Int:=MU N b a 0
def aox{N a c}:KO 194 [O (cD a),dk c] Y (Ki N a c):=
 fw func194 (V [[],[(4,oL a ft)]] (gT iy 0 a λf=>dN 1 [] [0,1,7,8] 0 (λe=>⟨19,[(0,O (cD a)),(1,dk c),(7,Y a.length),(8,Y e)],[]⟩) (λe b g=>gR [[],[f0 (bG b)],[]]) (λe j k b g h=>V [[],[t0 (bD b)],[],[(10,oE (kp (aX b)))]] (aY λi=>gb h () [[f0 i],[(2,oq (bU b rfl f))]] b))))
def Bu(N:Nat)(a:I so)(b:so):U Bool:=(Ki N a b).bind λc=>some (decide (c>=0))
def aun{N a b}:KO 110 [O (cD a),dk b] aA (Bu N a b):=
 fw func110 (au λe c=>gR [[],[(7,cK aox c)]])
def Ke(N:Nat)(a:so):U Bool:=(TM N).bind λb=>(Bu N b a).bind λc=>some c
def ajq{N a}:KO 252 [dk a] aA (Ke N a):=
 fw func252 (au λd b=>au λe c=>gR [[],[(1,cL (aq8 b)),(7,cK aun c)]])
def AI(N:Nat)(a:so):U Bool:=(bif (bL a==bL (bs []))then some false else(bif (decide ((a.size:Int)<=16))then (a[0]?).bind λb=>(GB N (IntKind.i32.wrap (b.toNat:Int))).bind λc=>(bif c then (OF N a).bind λd=>(bif (d==(a.size:Int))then (Ke N a).bind λe=>some (!e)else some false)else some false)else some false)).bind λf=>some f
def Mv{N a}:KO 186 [dk a] aA (AI N a):=
 fw func186 (V [[]] (gG (λf=>[(2,aA f)]) (λ_=>[]) (ax (λb=>gE [(2,bF (cx b)),(7,bF rfl),(13,bF rfl),(20,bF rfl)] []) λb=>cm (2,bT (dq b)) (ax (λc=>au λl g=>au λm h=>cm (7,bT c) (cG (28,⟨_,_,.ch (i:=0) (by decide) g⟩) (cG (34,cK agq h) (ax (λd=>au λn j=>cm (13,bT d) (cG (46,oQ [dk a,.fn 251 []] [] [] (akl _ j)) (ax (λe=>au λo k=>gE [(20,bT e)] [(67,cK ajq k)]) λe=>gE [(20,bF e)] []))) λd=>gE [(13,bF d),(20,bF rfl)] [])))) λc=>gE [(7,bF c),(13,bF rfl),(20,bF rfl)] [])) λf=>gR []))
def C0(N:Nat)(b:so)(c:Int)(e:bo)(a:I (so×Int)):U (Int×(I (so×Int))):=(AI N b).bind λd=>bif d then bif ((ib a b 0) !=0)then some ((8:Int),a)else bif (Nat.blt a.length 9223372036854775807)then some ((0:Int),((b,c)::a))else none else some ((7:Int),a)
abbrev FX:=λa b=>([.cells (gP a [.mp 1]),.map (fX b)]:List ar)
def T1{N a f b c}:KP 106 [A0,dk a,Y f] (FX b c) (λr=>Y r.1) (λr=>(FX b r.2)) (C0 N a f b c):=
 fh 2 func106 (au λi g=>V [[],[(4,cK Mv g)]] (ax (λd=>V [[f0 (cx d)],[(17,oq (Ft false c a))]] (ax (λe=>gH [[t0 e],[]]) λe=>cF λh=>gH [[f0 e],[(19,⟨_,_,.sd (o:= .none) (Si h)⟩)],[]])) λd=>gH [[t0 (dq d)],[]]))
def jH(N:Nat)(a:Bool):U Bool:=bif a then some true else some false
def KY(N:Nat)(a:so):U Bool:=bif (bL a==bL (bs [115,105,122,101]))then jH N (bL a==bL (bs [115,105,122,101]))else bif (bL a==bL (bs [119,104,101,114,101]))then jH N (bL a==bL (bs [119,104,101,114,101]))else bif (bL a==bL (bs [105,110]))then jH N (bL a==bL (bs [105,110]))else bif (bL a==bL (bs [100,101,102]))then jH N (bL a==bL (bs [100,101,102]))else bif (bL a==bL (bs [111,117,116]))then jH N (bL a==bL (bs [111,117,116]))else bif (bL a==bL (bs [115,117,109]))then jH N (bL a==bL (bs [115,117,109]))else bif (bL a==bL (bs [112,114,111,100]))then jH N (bL a==bL (bs [112,114,111,100]))else bif (bL a==bL (bs [109,105,110]))then jH N (bL a==bL (bs [109,105,110]))else bif (bL a==bL (bs [109,97,120]))then jH N (bL a==bL (bs [109,97,120]))else bif (bL a==bL (bs [115,99,97,110]))then jH N (bL a==bL (bs [115,99,97,110]))else bif (bL a==bL (bs [111,118,101,114]))then jH N (bL a==bL (bs [111,118,101,114]))else bif (bL a==bL (bs [105,102]))then jH N (bL a==bL (bs [105,102]))else bif (bL a==bL (bs [99,97,115,116]))then jH N (bL a==bL (bs [99,97,115,116]))else bif (bL a==bL (bs [102,114,97,99]))then jH N (bL a==bL (bs [102,114,97,99]))else bif (bL a==bL (bs [105,110,116]))then jH N (bL a==bL (bs [105,110,116]))else bif (bL a==bL (bs [102,105,120]))then jH N (bL a==bL (bs [102,105,120]))else bif (bL a==bL (bs [99,101,105,108]))then jH N (bL a==bL (bs [99,101,105,108]))else bif (bL a==bL (bs [102,108,111,111,114]))then jH N (bL a==bL (bs [102,108,111,111,114]))else bif (bL a==bL (bs [122,101,114,111]))then jH N (bL a==bL (bs [122,101,114,111]))else bif (bL a==bL (bs [101,118,101,110]))then jH N (bL a==bL (bs [101,118,101,110]))else bif (bL a==bL (bs [115,97,116]))then jH N (bL a==bL (bs [115,97,116]))else jH N (bL a==bL (bs [119,114,97,112]))
def ajT{N a}:KO 275 [dk a] aA (KY N a):=
 fw func275 (kW 1 [[],[],[]] [4] 0 (λ(y:Bool)=>⟨27,[(4,aA y)],[]⟩) (jH N) (λA b=>ax (λc=>gm b (bL a==bL (bs [115,105,122,101])) [[t0 c]]) λc=>V [[f0 c],[]] (ax (λd=>gm b (bL a==bL (bs [119,104,101,114,101])) [[t0 d]]) λd=>V [[f0 d],[]] (ax (λe=>gm b (bL a==bL (bs [105,110])) [[t0 e]]) λe=>V [[f0 e],[]] (ax (λf=>gm b (bL a==bL (bs [100,101,102])) [[t0 f]]) λf=>V [[f0 f],[]] (ax (λg=>gm b (bL a==bL (bs [111,117,116])) [[t0 g]]) λg=>V [[f0 g],[]] (ax (λh=>gm b (bL a==bL (bs [115,117,109])) [[t0 h]]) λh=>V [[f0 h],[]] (ax (λi=>gm b (bL a==bL (bs [112,114,111,100])) [[t0 i]]) λi=>V [[f0 i],[]] (ax (λj=>gm b (bL a==bL (bs [109,105,110])) [[t0 j]]) λj=>V [[f0 j],[]] (ax (λk=>gm b (bL a==bL (bs [109,97,120])) [[t0 k]]) λk=>V [[f0 k],[]] (ax (λl=>gm b (bL a==bL (bs [115,99,97,110])) [[t0 l]]) λl=>V [[f0 l],[]] (ax (λm=>gm b (bL a==bL (bs [111,118,101,114])) [[t0 m]]) λm=>V [[f0 m],[]] (ax (λn=>gm b (bL a==bL (bs [105,102])) [[t0 n]]) λn=>V [[f0 n],[]] (ax (λo=>gm b (bL a==bL (bs [99,97,115,116])) [[t0 o]]) λo=>V [[f0 o],[]] (ax (λp=>gm b (bL a==bL (bs [102,114,97,99])) [[t0 p]]) λp=>V [[f0 p],[]] (ax (λq=>gm b (bL a==bL (bs [105,110,116])) [[t0 q]]) λq=>V [[f0 q],[]] (ax (λr=>gm b (bL a==bL (bs [102,105,120])) [[t0 r]]) λr=>V [[f0 r],[]] (ax (λt=>gm b (bL a==bL (bs [99,101,105,108])) [[t0 t]]) λt=>V [[f0 t],[]] (ax (λu=>gm b (bL a==bL (bs [102,108,111,111,114])) [[t0 u]]) λu=>V [[f0 u],[]] (ax (λv=>gm b (bL a==bL (bs [122,101,114,111])) [[t0 v]]) λv=>V [[f0 v],[]] (ax (λw=>gm b (bL a==bL (bs [101,118,101,110])) [[t0 w]]) λw=>V [[f0 w],[]] (ax (λx=>gm b (bL a==bL (bs [115,97,116])) [[t0 x]]) λx=>gm b (bL a==bL (bs [119,114,97,112])) [[f0 x],[]]))))))))))))))))))))) (λy=>aY λz=>gR [[f0 z],[]]))
def DU(N:Nat)(c:so):Nat->Int->U Bool
 |0,_=>none
 |d+1,b=>bif (decide (b<(c.size:Int)))then bif (decide ((0:Int)<=b))then(c[(b).toNat]?).bind λa=>(bif (decide ((a.toNat:Int)<97))then(bif (decide ((a.toNat:Int)<48))then some ((a.toNat:Int) !=95)else(bif (decide ((a.toNat:Int)>57))then some ((a.toNat:Int) !=95)else some false))else(bif (decide ((a.toNat:Int)>122))then(bif (decide ((a.toNat:Int)<48))then some ((a.toNat:Int) !=95)else(bif (decide ((a.toNat:Int)>57))then some ((a.toNat:Int) !=95)else some false))else some false)).bind λe=>bif e then some false else(λf=>DU N c d f) (aF (b+(1:Int)))else none else some true
def KW(N:Nat)(a:so):U Bool:=(bif (decide ((a.size:Int)<1))then some true else(bif (decide ((a.size:Int)>16))then some true else (KY N a).bind λc=>(bif c then some true else (a[0]?).bind λb=>(bif (decide ((b.toNat:Int)<97))then some true else some (decide ((b.toNat:Int)>122)))))).bind λd=>bif d then some false else DU N a N (0:Int)
def atl{N a}:KO 223 [dk a] aA (KW N a):=
 fw func223 (V [[]] (gG (λn=>[(26,aA n)]) (λ_=>[]) (ax (λe=>gE [(3,bT e),(8,bT rfl),(12,bT rfl),(17,bT rfl)] []) λe=>cm (3,bF e) (ax (λf=>gE [(8,bT f),(12,bT rfl),(17,bT rfl)] []) λf=>au λy q=>cm (8,bF f) (cG (31,cK ajT q) (ax (λg=>gE [(12,bT g),(17,bT rfl)] []) λg=>au λz o=>cm (12,bF g) (cG (43,⟨_,_,.ch (i:=0) (by decide) o⟩) (ax (λh=>gE [(17,bT h)] []) λh=>gE [(17,bF h)] [(58,⟨_,_,.ch (i:=0) (by decide) o⟩)])))))) λn=>aY λr=>Mj 1 [[f0 r],[]] [0,28,29] 0 (λ(d:Int)=>⟨54,[(0,dk a),(28,Y (a.size:Int)),(29,Y d)],[]⟩) (DU N a) (λA d B t=>V [[]] (jz λu=>cF λv=>au λC w=>V [[t0 u],[],[(7,⟨_,_,.ch (i:=d) (U0 v) w⟩)]] (gG (λp=>[(52,aA p)]) (λ_=>[]) (ax (λj=>cm (2,bT j) (cm (6,bT rfl) (ax (λb=>gE [(9,bT b),(14,bT rfl)] [(37,bT b)]) λb=>cm (9,bF b) (cG (37,bF b) (ax (λk=>gE [(14,bT k)] []) λk=>gE [(14,bF k)] []))))) λj=>cm (2,bF j) (ax (λl=>cm (6,bT l) (ax (λc=>gE [(9,bT c),(14,bT rfl)] [(37,bT c)]) λc=>cm (9,bF c) (cG (37,bF c) (ax (λm=>gE [(14,bT m)] []) λm=>gE [(14,bF m)] [])))) λl=>gE [(6,bF l),(9,uN),(14,bF rfl)] [])) λp=>aY λx=>uK t (aF (d+(1:Int))) [[f0 x],[]])))))
def PH(N:Nat)(b:bE):I dX->Nat->U Int
 |[],_=>some (0:Int)
 |v4::c,a=>(KW N v4.ay).bind λd=>(bif d then(bif (v4.eW.toInt==0)then some true else(bif (decide ((a:Int)>0))then bif (decide ((0:Int)<=(aF ((a:Int)-(1:Int)))))then(b.xL[(aF ((a:Int)-(1:Int))).toNat]?).bind λe=>some (!(Op.bytesLess (bL e.ay) (bL v4.ay)))else none else some false))else some true).bind λf=>bif f then some (1:Int)else(PH N b c (a+1))
def Du(N:Nat)(a:bE):U Int:=PH N a a.xL 0
abbrev Pb:=λa=>([.cells (dY a).cells]:List ar)
def P0{N a}:KO 135 [dY a] Y (Du N a):=
 fw func135 (V [[],[(7,oL a.xL jx)]] (gT vQ 6 a.xL λj=>dN 1 [] [1,6,7,8] 1 (λe=>⟨39,[(1,A0),(6,O (dMonos a.xL)),(7,Y a.xL.length),(8,Y e)],Pb a⟩) (λe b k=>gR [[],[f0 (bG b)],[]]) (λe l r b k m=>V [[],[t0 (bD b)],[(4,oE (lM (aX b)))]] (au λt n=>gG (λh=>[(37,aA h)]) (λ_=>[.cells (dY a).cells,.cells (tP l).cells]) (cG (7,cK atl n) (ax (λf=>cm (4,bF (cx f)) (ax (λg=>gE [(9,bT g),(12,uN)] []) λg=>cm (9,bF g) (ax (λc=>cF λo=>au λu p=>gE [(12,bT c)] [(52,⟨_,_,.el (xs:=dMonos a.xL) (i:=(aF ((e:Int)-(1:Int)))) (U0 o) (lM p)⟩),(70,bT c)]) λc=>gE [(12,bF c)] [(70,bF c)]))) λf=>gE [(4,bT (dq f)),(9,bT rfl),(12,uN)] [])) λh=>aY λq=>gb m () [[f0 q],[(2,oq (bU b rfl j))]] b))))
def UD(N:Nat)(a:ik):U Int:=(Du N a.bN).bind λb=>some b
def aiL{N a}:KO 187 [uc a] Y (UD N a):=
 fw func187 (au λc b=>gR [[],[(7,cK P0 b)]])
def KL(N:Nat)(a:I (so×Int)):I dX->Nat->U Int
 |[],_=>some (0:Int)
 |b::c,d=>bif ((ib a b.ay 0) !=1)then some (9:Int)else(KL N a c (d+1))
def DK(N:Nat)(a:bE)(d:bo)(b:I (so×Int)):U Int:=(Du N a).bind λc=>bif (c !=0)then some (1:Int)else KL N b a.xL 0
def Ui{N a e c}:KP 188 [A0,dY a] (FX e c) Y (λ_=>(FX e c)) (DK N a e c):=
 fh 2 func188 (au λn i=>V [[],[(4,cK P0 i)]] (ax (λf=>gH [[t0 f],[]]) λf=>V [[f0 f],[(7,oL a.xL jx)]] (gT vQ 11 a.xL λj=>dN 1 [] [0,11,12,13] 3 (λg=>⟨26,[(0,A0),(11,O (dMonos a.xL)),(12,Y a.xL.length),(13,Y g)],[.cells (gP e [.mp 1]),.map (fX c),.cells (dY a).cells]⟩) (λg b k=>gH [[],[f0 (bG b)],[]]) (λg l o b k m=>V [[],[t0 (bD b)],[(1,oE (lM (aX b)))],[(20,oq (Ft false c l.ay))]] (ax (λh=>gH [[t0 h],[]]) λh=>gb m () [[f0 h],[(2,oq (bU b rfl j))]] b)))))
def MJ(N:Nat)(a:ik)(b:bo)(c:I (so×Int)):U Int:=(UD N a).bind λd=>bif (d !=0)then some (1:Int)else(DK N a.bN b c).bind λe=>some e
def aky{N a b c}:KP 107 [A0,uc a] (FX b c) Y (λ_=>(FX b c)) (MJ N a b c):=
 fh 2 func107 (au λg e=>V [[],[(4,cK aiL e)]] (ax (λd=>gH [[t0 d],[]]) λd=>au λh f=>gH [[f0 d],[(10,oQ [A0,dY a.bN] [.cells (gP b [.mp 1]),.map (fX c),.cells (uc a).cells] [0,1] (Ui _ f))]]))
def QE(N:Nat)(a:aM):U Bool:=some ((a.bB==a.bB)&&((a.bW==0)&&((a.ck==0)&&((a.ct==0)&&((a.cC==0)&&true)))))
def asX{N a}:KO 199 [bY a] aA (QE N a):=
 fw func199 (gR [[],[]])
def xH(N:Nat)(a:aM):U Int:=(bif (decide (a.ct>=1))then(bif (decide (a.ct<=4))then(bif (a.cC==1)then some true else some (a.cC==2))else some false)else some false).bind λb=>(bif (a.bB !=2)then some true else(bif (decide (a.bW<2))then some true else(bif (decide (a.bW>31))then some true else(bif (decide (a.ck<0))then some true else(bif (decide (a.ck>30))then some true else some (!b)))))).bind λc=>bif c then some (10:Int)else some (0:Int)
abbrev Qi:=λa=>([.cells (bY a).cells]:List ar)
def K5{N b}:KO 200 [bY b] Y (xH N b):=
 fw func200 (V [[]] (gG (λj=>[(3,aA j)]) (λ_=>(Qi b)) (ax (λc=>cm (3,bT c) (ax (λd=>cm (8,bT d) (ax (λa=>gE [(12,bT a)] [(49,bT a)]) λa=>gE [(12,bF a)] [(49,bF a)])) λd=>gE [(8,bF d),(12,uN)] [])) λc=>gE [(3,bF c),(8,bF rfl),(12,uN)] []) λj=>gG (λk=>[(48,aA k)]) (λ_=>(Qi b)) (ax (λe=>gE [(3,bT e),(8,bT rfl),(13,bT rfl),(18,bT rfl),(23,bT rfl)] []) λe=>cm (3,bF e) (ax (λf=>gE [(8,bT f),(13,bT rfl),(18,bT rfl),(23,bT rfl)] []) λf=>cm (8,bF f) (ax (λg=>gE [(13,bT g),(18,bT rfl),(23,bT rfl)] []) λg=>cm (13,bF g) (ax (λh=>gE [(18,bT h),(23,bT rfl)] []) λh=>cm (18,bF h) (ax (λi=>gE [(23,bT i)] []) λi=>gE [(23,bF i)] []))))) λk=>aY λl=>gR [[f0 l],[]]))
def KT(N:Nat)(a:aM)(b:Bool):U Int:=bif b then(QE N a).bind λc=>bif c then some (0:Int)else some (10:Int)else bif (a.bB==2)then(xH N a).bind λd=>bif (d==0)then some (0:Int)else some (10:Int)else some (10:Int)
def nF(N:Nat)(a:aM):U Int:=bif (a.bB==1)then KT N a (a.bB==1)else KT N a (a.bB==3)
def qz{N a}:KO 117 [bY a] Y (nF N a):=
 fw func117 (kW 1 [[],[],[]] [1,4,5] 1 (λ(d:Bool)=>⟨15,[(1,A0),(4,Y a.bB),(5,aA d)],Qi a⟩) (KT N a) (λk e=>ax (λb=>gm e (a.bB==1) [[t0 b]]) λb=>gm e (a.bB==3) [[f0 b],[]]) (λd=>ax (λc=>au λl f=>V [[t0 c],[(4,cK asX f)]] (aY λg=>gR [[f0 g],[]])) λc=>V [[f0 c],[]] (jz λh=>au λm i=>V [[t0 h],[(4,cK K5 i)]] (aY λj=>gR [[f0 j],[]]))))
def FA(N:Nat):I Int->Nat->Int->U Int
 |[],_,a=>some a
 |b::c,d,a=>(λb2_0=>FA N c (d+1) b2_0) (if b>a then b else a)
def RX(N:Nat)(a:I Int):U Int:=(a[0]?).bind λb=>FA N (a.drop 1) 1 b
def FC(N:Nat)(a:I Int):U Int:=bif (decide ((a.length:Int)<1))then none else RX N a
def ap6{N a r}(J:FC N a=some r):KF 253 [O (bH a)] (Y r):=by
 rw[FC]at J;refine IB func253 ?_;refine wj0 bC r 1 [[],[(4,oL a fG)]] [0] 0 ⟨25,[(0,O (bH a))],[]⟩ (RX N a) ?_ ?_
 ·intro p h;apply bc J<;>intro i J
  ·cases J
  exact mu bC h () [[(0,bF i)]] J
 intro J;rw[RX]at J;obtain⟨j,l,J⟩:=bz J;refine gp bC [[(4,oE (k:=0) (gY l))],[]] ?_;refine Ds lY 0 a λm=> ?_;refine H9 bC 2 [] [0,3,4] 0 (λ((b,c,e):Nat×(I Int)×Int)=>⟨25,[(0,O (bH a)),(3,Y e),(4,Y b)],[]⟩) (λ((b,c,e):Nat×(I Int)×Int)=>a.drop b=c/\FA N c b e=some r) (λ((b,c,e):Nat×(I Int)×Int)=>c.length) (1,a.drop 1,j) ⟨rfl,J⟩ ?_;rintro⟨b,c,e⟩ ⟨f,J⟩ q n;cases c with
 |nil=>
  rw[FA]at J;cases J;exact wr bC [[(7,oL a fG)],[(0,bF (bG f))],[]]
 |cons g o=>
  rw[FA]at J;exact CM bC n (b+1,o,(if g>e then g else e)) [[(7,oL a fG)],[(0,bT (bD f))],[(10,oE (gY (aX f)))],[(5,oq (bU f rfl m))]] ⟨kM f,J⟩
def yH(N:Nat)(a:aM)(b:I Int):U Int:=(nF N a).bind λc=>bif (c !=0)then some (10:Int)else(FC N b).bind λd=>bif (decide (d>6))then some (11:Int)else some (0:Int)
def agj{N a b}:KO 189 [bY a,O (bH b)] Y (yH N a b):=
 fw func189 (au λh c=>V [[],[(4,cK qz c)]] (aY λe=>au λi f=>V [[f0 e],[(4,cL (ap6 f))]] (aY λg=>gR [[f0 g],[]])))
def JZ(N:Nat)(b:Int×(I (so×Int)))(c:bo):I bE->Nat->U (Int×(I (so×Int)))
 |[],_=>some ((0:Int),b.2)
 |d::e,f=>(DK N d c b.2).bind λa=>bif (a !=0)then some (a,b.2)else(JZ N b c e (f+1))
def L7(N:Nat)(b:eX)(c:bo)(e:I (so×Int)):U (Int×(I (so×Int))):=(C0 N b.ay (2:Int) c e).bind λa=>bif (a.1 !=0)then some (a.1,a.2)else(yH N b.aH ([(b.aR.length:Int)])).bind λd=>bif (d !=0)then some (d,a.2)else JZ N a c b.aR 0
def Rk(a:bo)(l:I ar):I ar:= .cells (gP a [.mp 1])::l
def amw{N a b e}:KP 108 [A0,pE a] (FX b e) (λr=>Y r.1) (λr=>(FX b r.2)) (L7 N a b e):=
 fh 2 func108 (au λj l=>V [[],[(10,oR [A0,dk a.ay,Y 2] (Rk b [.map (fX e),.cells (pE a).cells]) [0,1] (T1 _ l))],[]] (ax (λf=>gH [[t0 f],[]]) λf=>au λu m=>V [[f0 f],[(13,oL a.aR fW),(19,cK agj m)],[]] (ax (λg=>gH [[t0 g],[]]) λg=>V [[f0 g],[(7,oL a.aR fW)]] (gT mZ 28 a.aR λn=>dN 1 [] [0,28,29,30] 3 (λh=>⟨41,[(0,A0),(28,O (fz a.aR)),(29,Y a.aR.length),(30,Y h)],Rk b [.map (fX j.2),.cells (pE a).cells]⟩) (λh c o=>gH [[],[f0 (bG c)],[]]) (λh k v c o p=>au λq t=>V [[],[t0 (bD c)],[(1,oE (o8 (aX c)))],[(7,oQ [A0,dY k] (Rk b [.map (fX j.2),.cells (pE a).cells,.cells (dY k).cells]) [0,1] (Ui _ t))],[]] (ax (λi=>gH [[t0 i],[]]) λi=>gb p () [[f0 i],[(2,oq (bU c rfl n))]] c))))))
def R2(N:Nat)(a:Int):U Unit:=bif decide ((0:Int)<=a)&&Nat.ble (a.toNat*48) 140737488355328 then some ()else none
def aiq{N v1 r}(J:R2 N v1=some r):dt prog 286 [.d (.v (.slice none 0 0)),Y v1] [] λb h1=>b= .own 0 []/\h1=[.front 80 3 0]:=by
 obtain⟨a,_⟩:=ff J;rw[Zr]at a;have e:Int.ofNat v1.toNat=v1:=Int.toNat_of_nonneg (U0 a.1);have h:=alS a.2;rw[e]at h;exact h
def Aa(N:Nat):I (I dH)->Nat->(I dH)->U (I dH)
 |[],_,a=>some a
 |v10::b,c,a=>bif (Nat.ble ((a.length+v10.length)*48) 140737488355328)then(λb2_0=>Aa N b (c+1) b2_0) (a++v10)else none
def xl(N:Nat)(b:I (I dH)):I (I dH)->Nat->Int->U (I dH)
 |[],_,a=>(R2 N a).bind λf=>Aa N b 0 []
 |v4::c,d,a=>bif (decide ((aF (a+(v4.length:Int)))<0))then none else(λe=>xl N b c (d+1) e) (aF (a+(v4.length:Int)))
def BC(N:Nat)(a:I (I dH)):U (I dH):=xl N a a 0 (0:Int)
def aum{N a r}(J:BC N a=some r):KF 254 [O (qi a)] (O (gZ r)):=by
 rw[BC]at J;refine IB func254 ?_;refine gp bC [[],[],[(4,oL a To)]] ?_;refine Ds auq 0 a λk=> ?_;refine R9 bC 1 [] [0,3,9,10,11] 0 a (λh(g:Int)=>⟨36,[(0,O (qi a)),(3,Y g),(9,O (qi a)),(10,Y a.length),(11,Y h)],[]⟩) (xl N a) (0:Int) J ?_ ?_
 ·intro h g c J l;rw[xl]at J;obtain⟨w,m,J⟩:=bz J;refine gp bC [[],[(0,bF (bG c))],[(4,⟨_,_,.kH (aiq m)⟩)],[(4,oL a To)]] ?_;refine Ds auq 0 a λn=> ?_;refine R9 bC 2 [] [6,25,26,27] 1 a (λi(b:I dH)=>⟨36,[(6,.own 0 (gZ b)),(25,O (qi a)),(26,Y a.length),(27,Y i)],[.front 80 3 b.length]⟩) (Aa N) [] J ?_ ?_
  ·intro i b e J o;rw[Aa]at J;cases J;exact wr bC [[],[(0,bF (bG e))],[]]
  intro i f p b e J o q;rw[Aa]at J;obtain⟨t,J⟩:=xO J;exact wb bC q (b++f) [[],[(0,bT (bD e))],[(1,oE (acZ (aX e)))],[(7,oA nJ b f t)],[(2,oq (bU e rfl n))]] e J
 intro h j x g c J l u;rw[xl]at J;refine gp bC [[],[(0,bT (bD c))],[(1,oE (acZ (aX c)))],[(7,oL j gv)],[]] ?_;apply bc J<;>intro v J;{cases J}
 exact wb bC u (aF (g+(j.length:Int))) [[(0,bF v)],[(2,oq (bU c rfl k))]] c J
def JU(N:Nat)(c:I (so×Int))(g:bo):I dH->Nat->(I (so×Bool))->U Int
 |[],_,_=>some (0:Int)
 |a::h,i,d=>(AI N a.ay).bind λe=>bif e then(bif (ib d a.ay false)then some true else some ((ib c a.ay 0)==1)).bind λf=>bif f then some (8:Int)else bif (Nat.blt d.length 9223372036854775807)then(DK N a.eu g c).bind λb=>bif (b !=0)then some b else(λj=>JU N c g h (i+1) j) ((a.ay,true)::d)else none else some (7:Int)
def Ks(N:Nat)(a:bZ)(b:bo)(c:I (so×Int)):U Int:=(BC N ([a.aR,a.cl])).bind λd=>JU N c b d 0 []
def tS(a:bo)(b:I (so×Int))(c:bZ)(l:I ar):I ar:= .cells (gP a [.mp 1]):: .map (fX b):: .cells (fg c).cells::l
def aoE{N g e a}:KP 190 [A0,fg g] (FX e a) Y (λ_=>(FX e a)) (Ks N g e a):=
 fh 2 func190 (au λi p=>V [[],[],[(16,cL (aum p)),(19,oL i gv)]] (gT nJ 15 i λq=>fa 1 [] [0,5,15,16,17] 4 (λj(b:I (so×Bool))=>⟨52,[(0,A0),(5,.mp 3),(15,O (gZ i)),(16,Y i.length),(17,Y j)],tS e a g [.map (BE b)]⟩) (λj b f r=>gH [[],[f0 (bG f)],[]]) (λj c z b f r t=>au λu v=>V [[],[t0 (bD f)],[(1,oE (mW (aX f)))],[(7,cK Mv v)]] (ax (λk=>V [[f0 (cx k)]] (gG (λh=>[(26,aA h)]) (λ_=>(tS e a g [.map (BE b),.cells (TU c).cells])) (cG (11,oq (amH false b c.ay)) (ax (λl=>gE [(4,bT l)] []) λl=>gE [(4,bF l)] [(35,oq (Ft false a c.ay))])) λh=>ax (λm=>gH [[t0 m],[]]) λm=>cF λw=>au λx y=>V [[f0 m],[(10,⟨_,_,.sd (o:= .none) (asM w)⟩)],[(10,oQ [A0,dY c.eu] (tS e a g [.map (BE ((c.ay,true)::b)),.cells (TU c).cells]) [0,1] (Ui _ y))],[]] (ax (λn=>gH [[t0 n],[]]) λn=>gb t ((c.ay,true)::b) [[f0 n],[(2,oq (bU f rfl q))]] f))) λk=>gH [[t0 (dq k)],[]]))))
def CG(N:Nat)(a:bZ)(b:Bool):U Int:=bif b then bif ((a.cl.length:Int)==0)then some (11:Int)else some (0:Int)else bif (a.dF==5)then(bif (decide ((a.cl.length:Int)>0))then some true else some ((a.aR.length:Int)==0)).bind λc=>bif c then some (11:Int)else some (0:Int)else some (1:Int)
def MH(N:Nat)(a:bZ):U Int:=bif (a.dF==0)then bif (decide ((a.cl.length:Int)>0))then some (11:Int)else some (0:Int)else bif (a.dF==1)then CG N a (a.dF==1)else bif (a.dF==2)then CG N a (a.dF==2)else bif (a.dF==3)then CG N a (a.dF==3)else CG N a (a.dF==4)
abbrev Qk:=λa=>([.cells (fg a).cells]:List ar)
def aqr{N a}:KO 191 [fg a] Y (MH N a):=
 fw func191 (V [[],[],[]] (ax (λc=>V [[t0 c],[(7,oL a.cl gv)]] (aY λk=>gR [[f0 k],[]])) λc=>kW 1 [[f0 c],[]] [1,4,11] 1 (λ(i:Bool)=>⟨32,[(1,A0),(4,Y a.dF),(11,aA i)],Qk a⟩) (CG N a) (λo b=>ax (λd=>gm b (a.dF==1) [[t0 d]]) λd=>V [[f0 d],[]] (ax (λe=>gm b (a.dF==2) [[t0 e]]) λe=>V [[f0 e],[]] (ax (λf=>gm b (a.dF==3) [[t0 f]]) λf=>gm b (a.dF==4) [[f0 f],[]]))) (λi=>ax (λg=>V [[t0 g],[(7,oL a.cl gv)]] (aY λl=>gR [[f0 l],[]])) λg=>V [[f0 g],[]] (jz λm=>V [[t0 m]] (gG (λj=>[(31,aA j)]) (λ_=>(Qk a)) (cG (7,oL a.cl gv) (ax (λh=>gE [(4,bT h)] []) λh=>gE [(4,bF h)] [(22,oL a.aR gv)])) λj=>aY λn=>gR [[f0 n],[]])))))
def Fq(N:Nat):I dH->Nat->(I so)->U (I so)
 |[],_,a=>some a
 |b::c,d,a=>bif (Nat.ble ((a.length+1)*16) 140737488355328)then(λe=>Fq N c (d+1) e) (a++[b.ay])else none
def Pg(N:Nat)(a:bZ):U (I so):=(BC N ([a.aR,a.cl])).bind λb=>Fq N b 0 []
abbrev Sh:=λa b=>([.cells (fg a).cells,.front 9 1 b]:List ar)
def amn{N e}:KO 193 [fg e] (λr=>.d (.sl (cD r))) (Pg N e):=
 fw func193 (au λc h=>V [[],[],[(16,cL (aum h)),(19,oL c gv)]] (li (λ_=>(lQ 3 9 1 [] (.inr (by kernel_rfl)) ·)) (gT nJ 11 c λi=>fa 1 [] [3,11,12,13] 2 (λf(a:I so)=>⟨24,[(3,.own 1 (cD a)),(11,O (gZ c)),(12,Y c.length),(13,Y f)],Sh e a.length⟩) (λf a b j=>gR [[],[f0 (bG b)],[]]) (λf g m a b j k=>cF λl=>gb k (a++[g.ay]) [[],[t0 (bD b)],[(1,oE (mW (aX b)))],[(13,oA iy a ([g.ay]) l)],[(2,oq (bU b rfl i))]] b))))
def Oq(N:Nat)(a:az->Int->U Int)(c:Int):I az->Nat->Int->U Int
 |[],_,b=>some b
 |e::f,g,b=>(a e (aF (c-(1:Int)))).bind λd=>(λh=>Oq N a c f (g+1) h) (if(aF ((1:Int)+d))>b then(aF ((1:Int)+d))else b)
def sU(N:Nat):Nat->az->Int->U Int
 |0,_,_=>none
 |d+1,b,a=>bif (decide (a<=1))then some a else Oq N (sU N d) a b.bS 0 (1:Int)
def Tl(N:Nat)(a:az)(b:Int):U Int:=sU N N a b
def ah7(N:Nat):∀d:Nat,(∀{a:az}{c:Int},KO 148 [aK a,Y c] Y (sU N d a c)):=by
 intro d
 induction d with
 |zero=>intro a c r J;rw[sU]at J;cases J
 |succ d ih=>
  have f:= @ih;intro a c;rw[sU];exact fw func148 (V [[],[]] (aY λi=>V [[(0,bF i)],[],[(7,oL a.bS jm)]] (gT oT 12 a.bS λj=>fa 1 [] [1,5,12,13,14] 1 (λg(e:Int)=>⟨27,[(1,Y c),(5,Y e),(12,O (hO a.bS)),(13,Y a.bS.length),(14,Y g)],G4 a⟩) (λg e b k=>gR [[],[(0,bF (bG b))],[]]) (λg n o e b k l=>au λh m=>gb l (if(aF ((1:Int)+h))>e then(aF ((1:Int)+h))else e) [[],[(0,bT (bD b))],[(1,oE (gy (aX b)))],[(13,cK f m)],[(2,oq (bU b rfl j))]] b))))
def arC{N a b}:KO 148 [aK a,Y b] Y (Tl N a b):=(ah7 N N)
def S5(N:Nat)(a:az):U Int:=(Tl N a (41:Int)).bind λb=>some b
def am3{N a}:KO 87 [aK a] Y (S5 N a):=
 fw func87 (au λc b=>gR [[],[(4,cK arC b)]])
def Be(N:Nat)(a:az):U az:=some a
def VF{N a r}(J:Be N a=some r):AFn prog 89 [aK a] (·=(.fn 149 [.bM [fv r] 0 0])):=by
 cases J;exact aso a
def wi(N:Nat):I az->Int->U Int
 |[],a=>some a
 |_::b,a=>bif (decide ((aF (a+(1:Int)))>2000))then some (aF (a+(1:Int)))else(λc=>wi N b c) (aF (a+(1:Int)))
def E7(N:Nat)(a:az):U Int:=(Be N a).bind λb=>wi N (dQ b) (0:Int)
def qH(a:az)(b:Int)(l:I ar):I ar:= .cells (aK a).cells:: .cells [Y (aF (b+(1:Int)))]::l
def sG(a:az)(b:Int)(l:I ar):I ar:= .cells (aK a).cells:: .cells [Y b]::l
def Uh(a:az)(l:I ar):I ar:= .cells (aK a).cells:: .cells [Y 0]::l
def alY{N b r}(J:E7 N b=some r):KF 88 [aK b] (Y r):=by
 rw[E7]at J;refine mU func88 rfl (by kernel_rfl) ?_;refine gr [0] 0 (Zv _) (s':=⟨12,[(0,aK b)],[]⟩) (by kernel_rfl) ?_;refine aw (Cy [] [(1,A0)] (G4 b) ?_);refine aw (Cy [] [(3,Ac)] (Uh b []) ?_);refine aw (aw ?_);obtain⟨c,h,J⟩:=bz J;refine Cy [(4,cL (VF h))] [(5,.fn 149 [.bM [fv c] 0 0])] (Uh b []) ?_;refine dL ?_;refine gr [3,5] 2 (Zi rfl) (s':=⟨12,[(3,Ac),(5,.fn 149 [.bM [fv c] 0 0])],Uh b []⟩) (by kernel_rfl) ?_;refine Ak (m:=2) (enc:=aK) (xs:=(dQ c)) (by kernel_rfl) (Wy c) (λ(a:Int)=>(sG b a [])) (λ(a:Int) l=>wi N l a=some r) (0:Int) (by kernel_rfl) J (by rintro a;rfl) (by rintro a;kernel_rfl) (by kernel_rfl) rfl ?_ ?_
 ·rintro a i j J k e f
  try dsimp only at J
  rw[wi]at J;refine gr [3] 3 (Zv _) (s':=⟨12,[(3,Ac)],sG b a [.lp .ready 6 e f (dV 12 [(3,Ac),(5,.fn 149 [.bM [fv c] 0 0])])]⟩) (by kernel_rfl) ?_;refine cN ?_;refine aW ?_;refine⟨sG b a [],[],rfl,(by kernel_rfl),?_⟩;refine gr [3] 3 (Zi rfl) (s':=⟨12,[(3,Ac)],sG b a [.lp .busy 6 e f (dV 12 [(3,Ac),(5,.fn 149 [.bM [fv c] 0 0])])]⟩) (by kernel_rfl) ?_;refine dL ?_;refine aw (Cy [] [] (qH b a [.lp .busy 6 e f (dV 12 [(3,Ac),(5,.fn 149 [.bM [fv c] 0 0])])]) ?_);refine aw (Cy [] [(10,(aA (decide ((aF (a+(1:Int)))>2000))))] (qH b a [.lp .busy 6 e f (dV 12 [(3,Ac),(5,.fn 149 [.bM [fv c] 0 0])])]) ?_);rcases eo (decide ((aF (a+(1:Int)))>2000))with d|d
  ·replace J:=(dh d).symm.trans J;refine Bo (t:=(decide ((aF (a+(1:Int)))>2000))) d ?_;refine ma (anV rfl ?_);refine aoN (qH b a []) rfl (by kernel_rfl) (by kernel_rfl) ?_;refine(m7 rfl ?_);refine aW ?_;refine aw (Cy [] [(2,Y (aF (a+(1:Int))))] (qH b a [.gone]) ?_);refine dm ?_;have g:=Zw J;subst g;exact fI (by kernel_rfl)
  replace J:=(ep d).symm.trans J;refine AO (t:=(decide ((aF (a+(1:Int)))>2000))) d ?_;refine cN ?_;refine eV ?_;refine BO (qH b a []) rfl (by kernel_rfl) (by kernel_rfl) ?_;exact⟨aF (a+(1:Int)),(by kernel_rfl),J⟩
 rintro a J
 try dsimp only at J
 rw[wi]at J;refine eV ?_;refine aW ?_;refine aw (Cy [] [(2,Y a)] (sG b a [.gone]) ?_);refine dm ?_;have g:=Zw J;subst g;exact fI (by kernel_rfl)
def Jx(N:Nat)(a:bE):U Bool:=(bif (a.xK.toInt==0)then some ((a.xL.length:Int)==0)else some false).bind λb=>some b
def aaN{N a}:KO 227 [dY a] aA (Jx N a):=
 fw func227 (V [[]] (gG (λc=>[(2,aA c)]) (λ_=>(Pb a)) (ax (λb=>gE [(3,bT b)] [(19,oL a.xL jx)]) λb=>gE [(3,bF b)] []) λc=>gR []))
def Ko(N:Nat)(a:c8):U Bool:=bif (bL a.de==bL (bs []))then some ((a.cQ.length:Int)==0)else(Jx N a.bN).bind λb=>some b
def apw{N a}:KO 230 [ij a] aA (Ko N a):=
 fw func230 (V [[],[]] (ax (λb=>gR [[t0 b],[(7,oL a.cQ fW)]]) λb=>au λd c=>gR [[f0 b],[(7,cK aaN c)]]))
def S3(N:Nat)(a:c8):U Bool:=(Ko N a).bind λb=>some (!b)
def alj{N a}:KO 229 [ij a] aA (S3 N a):=
 fw func229 (au λc b=>gR [[],[(4,cK apw b)]])
def OJ(N:Nat):I c8->Nat->U Int
 |[],_=>some (-1:Int)
 |v4::b,a=>(S3 N v4).bind λc=>bif c then some (a:Int)else(OJ N b (a+1))
def S7(N:Nat)(a:I c8):U Int:=OJ N a 0
def ajS{N a}:KP 276 [O (fc a),.fn 229 []] [] Y (λ_=>[]) (S7 N a):=
 fh 0 func276 (V [[],[(4,oL a gq)]] (gT sc 0 a λf=>dN 1 [] [0,1,7,8] 0 (λc=>⟨19,[(0,O (fc a)),(1,.fn 229 []),(7,Y a.length),(8,Y c)],[]⟩) (λc b g=>gH [[],[f0 (bG b)],[]]) (λc j k b g h=>au λl i=>V [[],[t0 (bD b)],[],[(10,oE (jk (aX b))),(16,cK alj i)]] (ax (λe=>gH [[t0 e],[]]) λe=>gb h () [[f0 e],[(2,oq (bU b rfl f))]] b))))
def LY(N:Nat)(a:I c8):U Bool:=(S7 N a).bind λb=>some (decide (b>=0))
def ali{N a}:KP 228 [O (fc a),.fn 229 []] [] aA (λ_=>[]) (LY N a):=
 fh 0 func228 (au λc b=>gH [[],[(7,oQ [O (fc a),.fn 229 []] [] [] (ajS _ b))]])
def JS(N:Nat)(a:az):U Bool:=(bif (a.aD==1)then some true else some (a.aD==12)).bind λb=>(bif (decide (a.aD<1))then some true else some (decide (a.aD>18))).bind λc=>bif c then some false else(bif (a.aD==1)then some false else some (!((a.dP.xN.toInt==(0:Int64).toInt)&&((a.dP.xD.toInt==(0:Int64).toInt)&&true)))).bind λd=>bif d then some false else(bif b then some false else some (!((a.aH.bB==0)&&((a.aH.bW==0)&&((a.aH.ck==0)&&((a.aH.ct==0)&&((a.aH.cC==0)&&true))))))).bind λe=>bif e then some false else(bif (a.aD==2)then some false else (Jx N a.bN).bind λf=>some (!f)).bind λg=>bif g then some false else(bif (a.aD==3)then some false else(bif (bL a.ay==bL (bs []))then some (decide ((a.xIdx.length:Int)>0))else some true)).bind λh=>bif h then some false else(LY N a.xIdx).bind λi=>some (!i)
def zd(a:az)(l:I ar):I ar:= .cells (aK a).cells::l
def aiA{N a}:KO 151 [aK a] aA (JS N a):=
 fw func151 (V [[]] (gG (λj=>[(3,(aA (a.aD==1))),(4,aA j)]) (λ_=>(zd a [])) (ax (λc=>gE [(6,bT c)] []) λc=>gE [(6,bF c)] []) λj=>V [[]] (gG (λk=>[(24,aA k)]) (λ_=>(zd a [])) (ax (λe=>gE [(3,bT e)] []) λe=>gE [(3,bF e)] []) λk=>aY λp=>V [[f0 p]] (gG (λl=>[(33,aA l)]) (λ_=>(zd a [])) (ax (λf=>gE [(2,bF (cx f))] []) λf=>gE [(2,bT (dq f))] []) λl=>aY λq=>V [[f0 q]] (gG (λm=>[(42,aA m)]) (λ_=>(zd a [])) (ax (λg=>gE [(2,bF (cx g))] []) λg=>gE [(2,bT (dq g))] []) λm=>aY λr=>V [[f0 r]] (gG (λn=>[(51,aA n)]) (λ_=>(zd a [])) (ax (λh=>gE [(2,bF (cx h))] []) λh=>au λx t=>gE [(2,bT (dq h))] [(16,cK aaN t)]) λn=>aY λu=>V [[f0 u]] (gG (λo=>[(60,aA o)]) (λ_=>(zd a [])) (ax (λi=>gE [(2,bF (cx i)),(6,uN)] []) λi=>cm (2,bT (dq i)) (ax (λb=>gE [(6,bF (cx b))] [(28,oL a.xIdx gq),(34,bF (cx b))]) λb=>gE [(6,bT (dq b))] [(34,bT (dq b))])) λo=>aY λv=>au λy w=>gR [[f0 v],[(7,oQ [O (fc a.xIdx),.fn 229 []] (zd a []) [] (ali _ w))]])))))))
def PN(N:Nat)(a:c8):U Bool:=(bif (bL a.de==bL (bs []))then some false else (AI N a.de).bind λb=>some (!b)).bind λc=>some c
abbrev RB:=λa=>([.cells (ij a).cells]:List ar)
def ao8{N a}:KO 231 [ij a] aA (PN N a):=
 fw func231 (V [[]] (gG (λc=>[(2,aA c)]) (λ_=>(RB a)) (ax (λb=>gE [(3,bF (cx b))] []) λb=>au λe d=>gE [(3,bT (dq b))] [(19,cK Mv d)]) λc=>gR []))
def PO(N:Nat):I c8->Nat->U Int
 |[],_=>some (-1:Int)
 |v4::b,a=>(PN N v4).bind λc=>bif c then some (a:Int)else(PO N b (a+1))
def RT(N:Nat)(a:I c8):U Int:=PO N a 0
def ash{N a}:KP 276 [O (fc a),.fn 231 []] [] Y (λ_=>[]) (RT N a):=
 fh 0 func276 (V [[],[(4,oL a gq)]] (gT sc 0 a λf=>dN 1 [] [0,1,7,8] 0 (λc=>⟨19,[(0,O (fc a)),(1,.fn 231 []),(7,Y a.length),(8,Y c)],[]⟩) (λc b g=>gH [[],[f0 (bG b)],[]]) (λc j k b g h=>au λl i=>V [[],[t0 (bD b)],[],[(10,oE (jk (aX b))),(16,cK ao8 i)]] (ax (λe=>gH [[t0 e],[]]) λe=>gb h () [[f0 e],[(2,oq (bU b rfl f))]] b))))
def Q5(N:Nat)(a:I c8):U Bool:=(RT N a).bind λb=>some (decide (b>=0))
def ao7{N a}:KP 228 [O (fc a),.fn 231 []] [] aA (λ_=>[]) (Q5 N a):=
 fh 0 func228 (au λc b=>gH [[],[(7,oQ [O (fc a),.fn 231 []] [] [] (ash _ b))]])
def PK(N:Nat)(a:az):U Bool:=(bif (a.aD==3)then (AI N a.ay).bind λb=>some (!b)else some false).bind λc=>bif c then some false else(Q5 N a.xIdx).bind λd=>some (!d)
def aod{N a}:KO 152 [aK a] aA (PK N a):=
 fw func152 (V [[]] (gG (λc=>[(11,aA c)]) (λ_=>(G4 a)) (ax (λb=>au λh e=>gE [(3,bT b)] [(19,cK Mv e)]) λb=>gE [(3,bF b)] []) λc=>aY λf=>au λi g=>gR [[f0 f],[(7,oQ [O (fc a.xIdx),.fn 231 []] (G4 a) [] (ao7 _ g))]]))
def Jr(N:Nat)(a:Int)(b:Bool):U Int:=bif b then some (1:Int)else bif (a==11)then some (3:Int)else some (2:Int)
def Iw(N:Nat)(a:Int)(b:Bool):U Int:=bif b then some (0:Int)else bif (a==8)then Jr N a (a==8)else bif (a==12)then Jr N a (a==12)else Jr N a (a==18)
def Ly(N:Nat)(a:Int):U Int:=bif (a==1)then Iw N a (a==1)else bif (a==2)then Iw N a (a==2)else Iw N a (a==3)
def akR{N a}:KO 232 [Y a] Y (Ly N a):=
 fw func232 (kW 1 [[],[],[]] [3,4] 0 (λ(h:Bool)=>⟨14,[(3,Y a),(4,aA h)],[]⟩) (Iw N a) (λl b=>ax (λc=>gm b (a==1) [[t0 c]]) λc=>V [[f0 c],[]] (ax (λd=>gm b (a==2) [[t0 d]]) λd=>gm b (a==3) [[f0 d],[]])) (λh=>aY λj=>kW 2 [[f0 j],[]] [3,8] 0 (λ(i:Bool)=>⟨14,[(3,Y a),(8,aA i)],[]⟩) (Jr N a) (λm e=>ax (λf=>gm e (a==8) [[t0 f]]) λf=>V [[f0 f],[]] (ax (λg=>gm e (a==12) [[t0 g]]) λg=>gm e (a==18) [[f0 g],[]])) (λi=>eY λ_=>aY λk=>gR [[f0 k],[]])))
def S9(N:Nat)(a:c8):U Bool:=some (decide ((a.cQ.length:Int)>6))
def amu{N a}:KO 233 [ij a] aA (S9 N a):=
 fw func233 (gR [[],[(7,oL a.cQ fW)]])
def N7(N:Nat):I c8->Nat->U Int
 |[],_=>some (-1:Int)
 |v4::b,a=>(S9 N v4).bind λc=>bif c then some (a:Int)else(N7 N b (a+1))
def Q4(N:Nat)(a:I c8):U Int:=N7 N a 0
def akk{N a}:KP 276 [O (fc a),.fn 233 []] [] Y (λ_=>[]) (Q4 N a):=
 fh 0 func276 (V [[],[(4,oL a gq)]] (gT sc 0 a λf=>dN 1 [] [0,1,7,8] 0 (λc=>⟨19,[(0,O (fc a)),(1,.fn 233 []),(7,Y a.length),(8,Y c)],[]⟩) (λc b g=>gH [[],[f0 (bG b)],[]]) (λc j k b g h=>au λl i=>V [[],[t0 (bD b)],[],[(10,oE (jk (aX b))),(16,cK amu i)]] (ax (λe=>gH [[t0 e],[]]) λe=>gb h () [[f0 e],[(2,oq (bU b rfl f))]] b))))
def VU(N:Nat)(a:I c8):U Bool:=(Q4 N a).bind λb=>some (decide (b>=0))
def ajx{N a}:KP 228 [O (fc a),.fn 233 []] [] aA (λ_=>[]) (VU N a):=
 fh 0 func228 (au λc b=>gH [[],[(7,oQ [O (fc a),.fn 233 []] [] [] (akk _ b))]])
def MI(N:Nat)(a:az):U Bool:=(Ly N a.aD).bind λb=>(bif ((a.bS.length:Int) !=b)then some true else some (decide ((a.xIdx.length:Int)>6))).bind λc=>bif c then some false else(VU N a.xIdx).bind λd=>some (!d)
def apS{N a}:KO 153 [aK a] aA (MI N a):=
 fw func153 (V [[]] (au λh e=>gG (λc=>[(15,aA c)]) (λ_=>(G4 a)) (cG (7,oL a.bS jm) (cG (16,cK akR e) (ax (λb=>gE [(7,bT b)] []) λb=>gE [(7,bF b)] [(31,oL a.xIdx gq)]))) λc=>aY λf=>au λi g=>gR [[f0 f],[(7,oQ [O (fc a.xIdx),.fn 233 []] (G4 a) [] (ajx _ g))]]))
def DI(N:Nat)(a:az):U Bool:=(bif (decide ((13:Int)<=a.aD))then some (decide (a.aD<=18))else some false).bind λb=>some b
def Q7{N a}:KO 52 [aK a] aA (DI N a):=
 fw func52 (V [[]] (gG (λc=>[(2,aA c)]) (λ_=>(G4 a)) (ax (λb=>gE [(3,bT b)] []) λb=>gE [(3,bF b)] []) λc=>gR []))
def EI(N:Nat)(a:Int)(b:Int)(c:Bool):U Bool:=bif c then some true else(bif (a==11)then some (b==0)else some false).bind λd=>some d
def M5(N:Nat)(a:Int)(b:Int):U Bool:=bif (a==16)then EI N a b (a==16)else bif (a==17)then EI N a b (a==17)else EI N a b (a==18)
def anQ{N a b}:KO 234 [Y a,Y b] aA (M5 N a b):=
 fw func234 (kW 1 [[],[],[]] [0,1,6] 0 (λ(g:Bool)=>⟨16,[(0,Y a),(1,Y b),(6,aA g)],[]⟩) (EI N a b) (λj c=>ax (λd=>gm c (a==16) [[t0 d]]) λd=>V [[f0 d],[]] (ax (λe=>gm c (a==17) [[t0 e]]) λe=>gm c (a==18) [[f0 e],[]])) (λg=>aY λi=>V [[f0 i]] (gG (λh=>[(4,aA h)]) (λ_=>[]) (ax (λf=>gE [(2,bT f)] []) λf=>gE [(2,bF f)] []) λh=>gR [])))
def Ni(N:Nat)(b:az):I az->Nat->U Bool
 |[],_=>some true
 |d::e,c=>(DI N d).bind λf=>(M5 N b.aD (c:Int)).bind λa=>bif (f==a)then(Ni N b e (c+1))else some false
def Mc(N:Nat)(a:az):U Bool:=(bif (a.aD==1)then (nF N a.aH).bind λb=>some (b !=0)else(bif (a.aD==12)then (nF N a.aH).bind λc=>some (c !=0)else some false)).bind λd=>bif d then some false else Ni N a a.bS 0
def ame{N a}:KO 154 [aK a] aA (Mc N a):=
 fw func154 (V [[]] (gG (λg=>[(18,aA g)]) (λ_=>(G4 a)) (ax (λc=>au λr h=>gE [(3,bT c),(8,bT rfl)] [(34,cK qz h)]) λc=>cm (3,bF c) (ax (λe=>au λt i=>gE [(8,bT e)] [(34,cK qz i)]) λe=>gE [(8,bF e)] [])) λg=>aY λj=>V [[f0 j],[(7,oL a.bS jm)]] (gT oT 20 a.bS λk=>dN 1 [] [1,20,21,22] 1 (λf=>⟨35,[(1,A0),(20,O (hO a.bS)),(21,Y a.bS.length),(22,Y f)],G4 a⟩) (λf b l=>gR [[],[f0 (bG b)],[]]) (λf u v b l m=>au λw n=>au λo p=>V [[],[t0 (bD b)],[(4,oE (gy (aX b)))],[(4,cK Q7 n),(16,cK anQ p)]] (fi λq=>gb m () [[f0 (cx q)],[(2,oq (bU b rfl k))]] b)))))
def Cb(N:Nat)(a:Int):U Bool:=(bif (decide (a>=2))then some (decide (a<=31))else some false).bind λb=>some b
def RE{N b}:KO 292 [Y b] aA (Cb N b):=
 fw func292 (V [[]] (gG (λc=>[(2,aA c)]) (λ_=>[]) (ax (λa=>gE [(2,bT a)] []) λa=>gE [(2,bF a)] []) λc=>gR []))
def FU(N:Nat)(a:Int):U Int64:=(Cb N a).bind λb=>bif b then bif (decide ((0:Int)<=(u64.wrap (aF (a-(1:Int))))))then some (-(Int64.ofInt ((1:Int)*2^(min (u64.wrap (aF (a-(1:Int)))).toNat (IntKind.bits .i64)))))else none else some (0:Int64)
def aak{N a}:KO 259 [Y a] bx (FU N a):=
 fw func259 (au λf c=>V [[],[(4,cK RE c)]] (fi λd=>cF λe=>gR [[f0 (cx d)],[(10,⟨_,_,.nn (b:=(u64.wrap (aF (a-(1:Int))))) (U0 e)⟩),(11,oq (iF ((1:Int)*2^(min (u64.wrap (aF (a-(1:Int)))).toNat (IntKind.bits .i64))))),(14,oq (lT (Int64.ofInt ((1:Int)*2^(min (u64.wrap (aF (a-(1:Int)))).toNat (IntKind.bits .i64))))))]]))
def GV(N:Nat)(a:Int):U Int64:=(Cb N a).bind λb=>bif b then bif (decide ((0:Int)<=(u64.wrap (aF (a-(1:Int))))))then some ((Int64.ofInt ((1:Int)*2^(min (u64.wrap (aF (a-(1:Int)))).toNat (IntKind.bits .i64))))-(1:Int64))else none else some (0:Int64)
def aa6{N a}:KO 260 [Y a] bx (GV N a):=
 fw func260 (au λf c=>V [[],[(4,cK RE c)]] (fi λd=>cF λe=>gR [[f0 (cx d)],[(10,⟨_,_,.nn (b:=(u64.wrap (aF (a-(1:Int))))) (U0 e)⟩),(11,oq (iF ((1:Int)*2^(min (u64.wrap (aF (a-(1:Int)))).toNat (IntKind.bits .i64))))),(14,oq (mm (Int64.ofInt ((1:Int)*2^(min (u64.wrap (aF (a-(1:Int)))).toNat (IntKind.bits .i64)))) (1:Int64)))]]))
def tO(N:Nat)(a:aM)(b:aB):U Bool:=(xH N a).bind λc=>(bif (c==0)then(bif (b.xD.toInt==1)then (FU N a.bW).bind λd=>(bif (decide (b.xN.toInt>=d.toInt))then (GV N a.bW).bind λe=>some (decide (b.xN.toInt<=e.toInt))else some false)else some false)else some false).bind λf=>some f
abbrev PD:=λa b=>([.cells (bY a).cells,.cells (bp b).cells]:List ar)
def Tx{N a b}:KO 201 [bY a,bp b] aA (tO N a b):=
 fw func201 (V [[]] (au λj g=>gG (λf=>[(4,aA f)]) (λ_=>(PD a b)) (cG (4,cK K5 g) (ax (λc=>cm (3,bT c) (ax (λd=>au λk h=>cm (8,bT d) (cG (40,cK aak h) (ax (λe=>au λl i=>gE [(16,bT e)] [(64,cK aa6 i)]) λe=>gE [(16,bF e)] []))) λd=>gE [(8,bF d),(16,bF rfl)] [])) λc=>gE [(3,bF c),(8,bF rfl),(16,bF rfl)] [])) λf=>gR []))
def qY(N:Nat)(a:Int64):U Bool:=(bif (decide (a.toInt>=(-2147483647:Int)))then some (decide (a.toInt<=2147483647))else some false).bind λb=>some b
def BV{N b}:KO 202 [bx b] aA (qY N b):=
 fw func202 (V [[]] (gG (λc=>[(2,aA c)]) (λ_=>[]) (ax (λa=>gE [(2,bT a)] []) λa=>gE [(2,bF a)] []) λc=>gR []))
def Rt(N:Nat)(a:Int64):U Bool:=(bif (decide (a.toInt>=(-2147483647:Int)))then some (decide (a.toInt<=2147483647))else some false).bind λb=>some b
def ao6{N b}:KO 261 [bx b] aA (Rt N b):=
 fw func261 (V [[]] (gG (λc=>[(2,aA c)]) (λ_=>[]) (ax (λa=>gE [(2,bT a)] []) λa=>gE [(2,bF a)] []) λc=>gR []))
def DJ(N:Nat)(a:Int64):U Int:=bif (decide (a.toInt<0))then some (u64.wrap (0-(u64.wrap a.toInt)))else some (u64.wrap a.toInt)
def SY{N a}:KO 263 [bx a] (λr=>.d (.v (.int .u64 r))) (DJ N a):=
 fw func263 (V [[],[]] (aY λb=>gR [[f0 b],[]]))
def Jw(N:Nat):Nat->Int->Int->U Int
 |0,_,_=>none
 |c+1,b,a=>bif (a !=0)then(λd e=>Jw N c d e) a ((b).tmod a)else some b
def DA(N:Nat)(a:Int)(b:Int):U Int:=Jw N N a b
def aeH{N e f}:KO 262 [X e,X f] (λr=>.d (.v (.int .u64 r))) (DA N e f):=
 fw func262 (Nf 1 [[]] [0,1] 0 (λ(c:Int)(a:Int)=>⟨12,[(0,X c),(1,X a)],[]⟩) (Jw N) (λi c a j h=>V [[]] (jz λg=>uK h (a,(c).tmod a) [[t0 g],[(10,⟨_,_,.nz (b:=a) (Ue.1 g)⟩)]])))
def lI(N:Nat)(a:aB):U Bool:=(bif (decide (a.xD.toInt>=1))then(bif (decide (a.xD.toInt<=2147483647))then (Rt N a.xN).bind λb=>(bif b then (DJ N a.xN).bind λc=>(DA N c (u64.wrap a.xD.toInt)).bind λd=>some (d==1)else some false)else some false)else some false).bind λe=>some e
abbrev RF:=λa=>([.cells (bp a).cells]:List ar)
def ou{N a}:KO 203 [bp a] aA (lI N a):=
 fw func203 (V [[]] (gG (λe=>[(2,aA e)]) (λ_=>(RF a)) (ax (λb=>cm (3,bT b) (ax (λc=>au λi f=>cm (8,bT c) (cG (34,cK ao6 f) (ax (λd=>au λj g=>au λk h=>gE [(13,bT d)] [(49,cK SY g),(61,cK aeH h)]) λd=>gE [(13,bF d)] []))) λc=>gE [(8,bF c),(13,bF rfl)] [])) λb=>gE [(3,bF b),(8,bF rfl),(13,bF rfl)] []) λe=>gR []))
def nM(N:Nat)(a:aM)(b:aB):U Bool:=(nF N a).bind λc=>bif (c !=0)then some false else bif (a.bB==2)then(tO N a b).bind λd=>some d else bif (a.bB==3)then(bif (b.xD.toInt==1)then (qY N b.xN).bind λe=>some e else some false).bind λf=>some f else(lI N b).bind λg=>some g
def wO{N a b}:KO 118 [bY a,bp b] aA (nM N a b):=
 fw func118 (au λl g=>V [[],[(4,cK qz g)]] (aY λh=>V [[f0 h],[],[]] (ax (λc=>au λm i=>gR [[t0 c],[(7,cK Tx i)]]) λc=>V [[f0 c],[]] (ax (λd=>V [[t0 d]] (gG (λf=>[(4,aA f)]) (λ_=>(PD a b)) (ax (λe=>au λn j=>gE [(3,bT e)] [(19,cK BV j)]) λe=>gE [(3,bF e)] []) λf=>gR [])) λd=>au λo k=>gR [[f0 d],[(4,cK ou k)]]))))
def Vl(N:Nat)(a:az):U az:=some a
def ajm{N a r}(J:Vl N a=some r):AFn prog 155 [aK a] (·=(.fn 235 [.bM [fv r] 0 0])):=by
 cases J;exact alg a
def xM(N:Nat):I bE->U Int
 |[]=>some (0:Int)
 |c::a=>(Du N c).bind λb=>bif (b !=0)then some (1:Int)else(xM N a)
def Ez(N:Nat)(a:az):U Int:=(JS N a).bind λb=>bif b then(PK N a).bind λc=>bif c then(MI N a).bind λd=>bif d then(Mc N a).bind λe=>bif e then(bif (a.aD==1)then (nM N a.aH a.dP).bind λf=>some (!f)else some false).bind λg=>bif g then some (1:Int)else(Vl N a).bind λh=>xM N (qp h)else some (10:Int)else some (11:Int)else some (7:Int)else some (5:Int)
def mX(a:az)(l:I ar):I ar:= .cells (aK a).cells:: .cells [Y 0]::l
def zK(a:az)(l:I ar):I ar:= .cells (aK a).cells::l
def aiS{N a r}(J:Ez N a=some r):KF 90 [aK a] (Y r):=by
 rw[Ez]at J;refine mU func90 rfl (by kernel_rfl) ?_;refine gr [0] 0 (Zv _) (s':=⟨38,[(0,aK a)],[]⟩) (by kernel_rfl) ?_;refine aw (Cy [] [(1,A0),(2,Ac)] (mX a []) ?_);refine aw (dL ?_);refine aw ?_;obtain⟨q,z,J⟩:=bz J;refine Cy [(4,cK aiA z)] [(4,aA (!q))] (mX a []) ?_;rcases eo q with g|g
 ·replace J:=(dh g).symm.trans J;refine AO (t:=(!q)) (cx g) ?_;refine aw ?_;obtain⟨u,A,J⟩:=bz J;refine Cy [(4,cK aod A)] [(8,aA (!u))] (mX a []) ?_;rcases eo u with h|h
  ·replace J:=(dh h).symm.trans J;refine AO (t:=(!u)) (cx h) ?_;refine aw ?_;obtain⟨v,B,J⟩:=bz J;refine Cy [(4,cK apS B)] [(12,aA (!v))] (mX a []) ?_;rcases eo v with i|i
   ·replace J:=(dh i).symm.trans J;refine AO (t:=(!v)) (cx i) ?_;refine aw ?_;obtain⟨w,C,J⟩:=bz J;refine Cy [(4,cK ame C)] [(16,aA (!w))] (mX a []) ?_;rcases eo w with j|j
    ·replace J:=(dh j).symm.trans J;refine AO (t:=(!w)) (cx j) ?_;refine aw ?_;obtain⟨x,bj,J⟩:=bz J;refine CN [(20,aA x)] (mX a []) ?_ ?_
     ·rcases eo (a.aD==1)with b|b
      ·replace bj:=(dh b).symm.trans bj;obtain⟨K,E,bj⟩:=bz bj;have y:=Zw bj;subst y;exact⟨[(12,bT b),(15,bT b),(18,bT b),(21,bT b),(24,bT b),(25,cK wO E),(27,bT b),(31,bT b)],by kernel_rfl⟩
      replace bj:=(ep b).symm.trans bj;have y:=Zw bj;subst y;exact⟨[(12,bF b),(15,bF b),(18,bF b),(21,bF b),(24,bF b),(27,bF b),(31,bF b)],by kernel_rfl⟩
     rcases eo x with k|k
     ·replace J:=(dh k).symm.trans J;refine Bo (t:=x) k ?_;refine aw (Cy [] [] (zK a [.cells [Y 1]]) ?_);refine dm (eQ (dn ?_));have c:=Zw J;subst c;exact fI (by kernel_rfl)
     replace J:=(ep k).symm.trans J;refine AO (t:=x) k ?_;refine cN ?_;refine eV ?_;refine aW ?_;refine aw (aw ?_);obtain⟨d,F,J⟩:=bz J;refine Cy [(4,cL (ajm F))] [(33,.fn 235 [.bM [fv d] 0 0])] (mX a []) ?_;refine dL ?_;refine gr [2,33] 2 (Zi rfl) (s':=⟨38,[(2,Ac),(33,.fn 235 [.bM [fv d] 0 0])],mX a []⟩) (by kernel_rfl) ?_;refine Ak (m:=2) (enc:=dY) (xs:=(qp d)) (by kernel_rfl) (as7 d) (λ(_:Unit)=>(mX a [])) (λ(_:Unit) l=>xM N l=some r) () (by kernel_rfl) J (by rintro _;rfl) (by rintro _;kernel_rfl) (by kernel_rfl) rfl ?_ ?_
     ·rintro _ f G J L n o
      try dsimp only at J
      rw[xM]at J;refine gr [2,34] 3 (Zv _) (s':=⟨38,[(2,Ac),(34,dY f)],mX a [.lp .ready 34 n o (dV 38 [(2,Ac),(33,.fn 235 [.bM [fv d] 0 0])])]⟩) (by kernel_rfl) ?_;refine Cm [] [(3,Aj)] (mX a [.lp .ready 34 n o (dV 38 [(2,Ac),(33,.fn 235 [.bM [fv d] 0 0])]),.cells (dY f).cells]) ?_;refine aW ?_;refine⟨mX a [],Pb f,rfl,(by kernel_rfl),?_⟩;refine gr [2,3] 4 (Zi rfl) (s':=⟨38,[(2,Ac),(3,Aj)],mX a [.lp .busy 34 n o (dV 38 [(2,Ac),(33,.fn 235 [.bM [fv d] 0 0])]),.cells (dY f).cells]⟩) (by kernel_rfl) ?_;refine dL ?_;refine aw ?_;obtain⟨e,H,J⟩:=bz J;refine Cy [(4,cK P0 H)] [(37,(aA (e !=0)))] (mX a [.lp .busy 34 n o (dV 38 [(2,Ac),(33,.fn 235 [.bM [fv d] 0 0])]),.cells (dY f).cells]) ?_;rcases eo (e !=0)with p|p
      ·replace J:=(dh p).symm.trans J;refine Bo (t:=(e !=0)) p ?_;refine aw (Cy [] [] (zK a [.cells [Y 1],.lp .busy 34 n o (dV 38 [(2,Ac),(33,.fn 235 [.bM [fv d] 0 0])]),.cells (dY f).cells]) ?_);refine dm (eQ ?_);refine HC (zK a [.cells [Y 1]]) rfl (by kernel_rfl) (by kernel_rfl) ?_;refine(eQ (dn ?_));have c:=Zw J;subst c;exact fI (by kernel_rfl)
      replace J:=(ep p).symm.trans J;refine AO (t:=(e !=0)) p ?_;refine cN ?_;refine eV ?_;refine BO (mX a []) rfl (by kernel_rfl) (by kernel_rfl) ?_;exact⟨(),(by kernel_rfl),J⟩
     rintro _ J
     try dsimp only at J
     rw[xM]at J;refine eV ?_;refine aW ?_;refine aw (Cy [] [] (mX a [.gone]) ?_);refine dm ?_;have c:=Zw J;subst c;exact fI (by kernel_rfl)
    replace J:=(ep j).symm.trans J;refine Bo (t:=(!w)) (dq j) ?_;refine aw (Cy [] [] (zK a [.cells [Y 10]]) ?_);refine dm (eQ (dn ?_));have c:=Zw J;subst c;exact fI (by kernel_rfl)
   replace J:=(ep i).symm.trans J;refine Bo (t:=(!v)) (dq i) ?_;refine aw (Cy [] [] (zK a [.cells [Y 11]]) ?_);refine dm (eQ (dn ?_));have c:=Zw J;subst c;exact fI (by kernel_rfl)
  replace J:=(ep h).symm.trans J;refine Bo (t:=(!u)) (dq h) ?_;refine aw (Cy [] [] (zK a [.cells [Y 7]]) ?_);refine dm (eQ (dn ?_));have c:=Zw J;subst c;exact fI (by kernel_rfl)
 replace J:=(ep g).symm.trans J;refine Bo (t:=(!q)) (dq g) ?_;refine aw (Cy [] [] (zK a [.cells [Y 5]]) ?_);refine dm (eQ (dn ?_));have c:=Zw J;subst c;exact fI (by kernel_rfl)
def dZ:aM:=⟨(0:Int),(0:Int),(0:Int),(0:Int),(0:Int)⟩
def aul:kL:=⟨(0:Int),(0:Int),(0:Int)⟩
def jd:bk:=⟨dZ,[],[]⟩
def pO:I AV:=[Y 0,Y 0,Y 0,Y 0,Y 0]
def NY:I AV:=[Y 0,Y 0,Y 0,Y 0,Y 0,.d (.v (.slice none 0 0)),.d (.v (.slice none 0 0))]
def zS(N:Nat):I az->U Int
 |[]=>some (0:Int)
 |b::c=>(Ez N b).bind λa=>bif (a !=0)then some a else(zS N c)
def BW(N:Nat)(a:az):U Int:=(S5 N a).bind λb=>bif (decide (b>40))then some (13:Int)else(E7 N a).bind λc=>bif (decide (c>2000))then some (2:Int)else(Be N a).bind λd=>zS N (dQ d)
def qk(a:az)(l:I ar):I ar:= .cells (aK a).cells:: .cells [Y 0]::l
def SG(a:az)(b:Code)(c:Code)(d:az)(e:az)(l:I ar):I ar:=qk a (.lp .busy 13 b c (dV 19 [(2,Ac),(12,.fn 149 [.bM [fv d] 0 0])]):: .cells (aK e).cells::l)
def Fm(a:az)(l:I ar):I ar:= .cells (aK a).cells::l
def auk{N a r}(J:BW N a=some r):KF 51 [aK a] (Y r):=by
 rw[BW]at J;refine mU func51 rfl (by kernel_rfl) ?_;refine gr [0] 0 (Zv _) (s':=⟨19,[(0,aK a)],[]⟩) (by kernel_rfl) ?_;refine aw (Cy [] [(1,A0),(2,Ac)] (qk a []) ?_);refine aw (aw ?_);obtain⟨k,o,J⟩:=bz J;refine Cy [(4,cK am3 o)] [(7,(aA (decide (k>40))))] (qk a []) ?_;rcases eo (decide (k>40))with h|h
 ·replace J:=(dh h).symm.trans J;refine Bo (t:=(decide (k>40))) h ?_;refine aw (Cy [] [] (Fm a [.cells [Y 13]]) ?_);refine dm (dn ?_);have c:=Zw J;subst c;exact fI (by kernel_rfl)
 replace J:=(ep h).symm.trans J;refine AO (t:=(decide (k>40))) h ?_;refine cN ?_;refine aW ?_;refine aw (aw ?_);obtain⟨n,p,J⟩:=bz J;refine Cy [(4,cL (alY p))] [(10,(aA (decide (n>2000))))] (qk a []) ?_;rcases eo (decide (n>2000))with i|i
 ·replace J:=(dh i).symm.trans J;refine Bo (t:=(decide (n>2000))) i ?_;refine aw (Cy [] [] (Fm a [.cells [Y 2]]) ?_);refine dm (dn ?_);have c:=Zw J;subst c;exact fI (by kernel_rfl)
 replace J:=(ep i).symm.trans J;refine AO (t:=(decide (n>2000))) i ?_;refine cN ?_;refine aW ?_;refine aw (aw ?_);obtain⟨b,q,J⟩:=bz J;refine Cy [(4,cL (VF q))] [(12,.fn 149 [.bM [fv b] 0 0])] (qk a []) ?_;refine dL ?_;refine gr [2,12] 2 (Zi rfl) (s':=⟨19,[(2,Ac),(12,.fn 149 [.bM [fv b] 0 0])],qk a []⟩) (by kernel_rfl) ?_;refine Ak (m:=2) (enc:=aK) (xs:=(dQ b)) (by kernel_rfl) (Wy b) (λ(_:Unit)=>(qk a [])) (λ(_:Unit) l=>zS N l=some r) () (by kernel_rfl) J (by rintro _;rfl) (by rintro _;kernel_rfl) (by kernel_rfl) rfl ?_ ?_
 ·rintro _ d v J w f g
  try dsimp only at J
  rw[zS]at J;refine gr [2,13] 3 (Zv _) (s':=⟨19,[(2,Ac),(13,aK d)],qk a [.lp .ready 13 f g (dV 19 [(2,Ac),(12,.fn 149 [.bM [fv b] 0 0])])]⟩) (by kernel_rfl) ?_;refine Cm [] [(3,Aj)] (qk a [.lp .ready 13 f g (dV 19 [(2,Ac),(12,.fn 149 [.bM [fv b] 0 0])]),.cells (aK d).cells]) ?_;refine aW ?_;refine⟨qk a [],Fm d [],rfl,(by kernel_rfl),?_⟩;refine gr [2,3] 4 (Zi rfl) (s':=⟨19,[(2,Ac),(3,Aj)],SG a f g b d []⟩) (by kernel_rfl) ?_;refine dL ?_;refine aw ?_;obtain⟨e,u,J⟩:=bz J;refine Cy [(4,cL (aiS u))] [(4,Y e)] (SG a f g b d []) ?_;refine aw (Cy [] [(17,(aA (e !=0)))] (SG a f g b d []) ?_);rcases eo (e !=0)with j|j
  ·replace J:=(dh j).symm.trans J;refine Bo (t:=(e !=0)) j ?_;refine aw (Cy [] [] (Fm a [.cells [Y e],.lp .busy 13 f g (dV 19 [(2,Ac),(12,.fn 149 [.bM [fv b] 0 0])]),.cells (aK d).cells]) ?_);refine dm (eQ ?_);refine HC (Fm a [.cells [Y e]]) rfl (by kernel_rfl) (by kernel_rfl) ?_;refine(eQ (dn ?_));have c:=Zw J;subst c;exact fI (by kernel_rfl)
  replace J:=(ep j).symm.trans J;refine AO (t:=(e !=0)) j ?_;refine cN ?_;refine eV ?_;refine BO (qk a []) rfl (by kernel_rfl) (by kernel_rfl) ?_;exact⟨(),(by kernel_rfl),J⟩
 rintro _ J
 try dsimp only at J
 rw[zS]at J;refine eV ?_;refine aW ?_;refine aw (Cy [] [] (qk a [.gone]) ?_);refine dm ?_;have c:=Zw J;subst c;exact fI (by kernel_rfl)
def Mg(N:Nat)(a:I (so×Int)):I dX->Nat->U Int
 |[],_=>some (0:Int)
 |v6::b,c=>bif ((ib a v6.ay 0)==0)then some (9:Int)else(Mg N a b (c+1))
def E5(N:Nat)(a:bE)(c:bo)(b:I (so×Int)):U Int:=Mg N b a.xL 0
def Rf{N a e c}:KP 288 [A0,dY a] (FX e c) Y (λ_=>(FX e c)) (E5 N a e c):=
 fh 2 func288 (V [[],[(7,oL a.xL jx)]] (gT vQ 8 a.xL λh=>dN 1 [] [0,8,9,10] 3 (λf=>⟨23,[(0,A0),(8,O (dMonos a.xL)),(9,Y a.xL.length),(10,Y f)],[.cells (gP e [.mp 1]),.map (fX c),.cells (dY a).cells]⟩) (λf b i=>gH [[],[f0 (bG b)],[]]) (λf j l b i k=>V [[],[t0 (bD b)],[(1,oE (lM (aX b)))],[(20,oq (Ft false c j.ay))]] (ax (λg=>gH [[t0 g],[]]) λg=>gb k () [[f0 g],[(2,oq (bU b rfl h))]] b))))
def Uo(N:Nat)(a:I dX):U (I dX):=bif Nat.ble (a.length*24) 140737488355328 then some a else none
def aqf{N a r}(J:Uo N a=some r):AFn prog 222 [O (dMonos a)] (·=(O (dMonos r))):=by
 obtain⟨c,rfl⟩:=ff J;have b:=mB c (by decide);exact aow aeE (by rw[jx];exact b.1) (by rw[jx];exact b.2)
def G7(N:Nat)(a:bE):U bE:=(Uo N a.xL).bind λb=>some (⟨a.xK,b⟩:bE)
def agv{N a}:KO 134 [dY a] dY (G7 N a):=
 fw func134 (au λc b=>gR [[],[(13,cL (aqf b))]])
def HO(N:Nat):I bE->Nat->(I bE)->U (I bE)
 |[],_,a=>some a
 |v4::b,c,a=>(G7 N v4).bind λd=>bif (Nat.ble ((a.length+1)*32) 140737488355328)then(λe=>HO N b (c+1) e) (a++[d])else none
def K7(N:Nat)(a:I bE):U (I bE):=HO N a 0 []
def ao4{N a}:KO 132 [O (fz a)] (λr=>.d (.sl (fz r))) (K7 N a):=
 fw func132 (V [[],[],[(4,oL a fW)]] (li (λ_=>(lQ 3 48 2 [] (.inr (by kernel_rfl)) ·)) (gT mZ 0 a λg=>fa 1 [] [3,6,7,8] 1 (λe(b:I bE)=>⟨19,[(3,.own 0 (fz b)),(6,O (fz a)),(7,Y a.length),(8,Y e)],[.front 48 2 b.length]⟩) (λe b c h=>gR [[],[f0 (bG c)],[]]) (λe l m b c h i=>au λf j=>cF λk=>gb i (b++[f]) [[],[t0 (bD c)],[(1,oE (o8 (aX c)))],[(7,cK agv j),(13,oA mZ b ([f]) k)],[(2,oq (bU c rfl g))]] c))))
def U2(N:Nat)(a:bZ)(b:so):U Bool:=some (bL a.ay==bL b)
abbrev OY:=λa=>([.cells [dk a]]:List ar)
def ast{N b a}:KP 221 [fg b,A0] (OY a) aA (λ_=>(OY a)) (U2 N b a):=
 fh 1 func221 (gH [[],[]])
def NH(N:Nat)(a:so):I bZ->Nat->U Int
 |[],_=>some (-1:Int)
 |c::d,b=>(U2 N c a).bind λe=>bif e then some (b:Int)else(NH N a d (b+1))
def T4(N:Nat)(a:I bZ)(b:so):U Int:=NH N b a 0
def as4{N a c}:KP 220 [O (iC a),.fn 221 [A0]] (OY c) Y (λ_=>(OY c)) (T4 N a c):=
 fh 1 func220 (V [[],[(4,oL a jM)]] (gT uj 0 a λg=>dN 1 [] [0,1,7,8] 1 (λe=>⟨19,[(0,O (iC a)),(1,.fn 221 [A0]),(7,Y a.length),(8,Y e)],OY c⟩) (λe b h=>gH [[],[f0 (bG b)],[]]) (λe i l b h j=>au λm k=>V [[],[t0 (bD b)],[],[(10,oE (jn (aX b))),(16,oQ [fg i,A0] (OY c) [0] (ast _ k))]] (ax (λf=>gH [[t0 f],[]]) λf=>gb j () [[f0 f],[(2,oq (bU b rfl g))]] b))))
def Pv(N:Nat)(a:bo)(b:so):U Int:=(T4 N a.aP b).bind λc=>some c
abbrev RJ:=λa b=>([.cells (c6 a).cells,.cells [dk b]]:List ar)
def ahU{N a b}:KO 133 [c6 a,dk b] Y (Pv N a b):=
 fw func133 (au λe c=>gR [[],[(10,oQ [O (iC a.aP),.fn 221 [Ac]] (RJ a b) [1] (as4 _ c))]])
def FE(N:Nat)(c:bZ):I dH->Nat->(I bE)->U (aM×(I bE)×Bool)
 |[],_,a=>some (c.aH,a,true)
 |v11::b,d,a=>(G7 N v11.eu).bind λe=>bif (Nat.ble ((a.length+1)*32) 140737488355328)then(λb2_0=>FE N c b (d+1) b2_0) (a++[e])else none
def E6(N:Nat)(a:bo)(b:so):I eX->Nat->U (aM×(I bE)×Bool)
 |[],_=>(Pv N a b).bind λc=>bif (decide (c>=0))then bif (decide ((0:Int)<=c))then(a.aP[(c).toNat]?).bind λe=>FE N e e.aR 0 []else none else some (dZ,[],false)
 |d::f,g=>bif (bL d.ay==bL b)then(K7 N d.aR).bind λh=>some (d.aH,h,true)else(E6 N a b f (g+1))
def Gl(N:Nat)(a:bo)(b:so):U (aM×(I bE)×Bool):=E6 N a b a.bn 0
def T9{N a g}:KO 78 [c6 a,dk g] (λr=>.bq [bY r.1,O (fz r.2.1),aA r.2.2]) (Gl N a g):=
 fw func78 (V [[],[(7,oL a.bn k9)]] (gT yN 14 a.bn λp=>dN 1 [] [1,2,4,14,15,16] 2 (λh=>⟨61,[(1,dk g),(2,A0),(4,Ac),(14,O (lB a.bn)),(15,Y a.bn.length),(16,Y h)],[.cells (c6 a).cells,.cells pO]⟩) (λh b q=>au λj t=>V [[],[f0 (bG b)],[(7,cK ahU t)],[]] (jz λu=>cF λm=>au λf n=>V [[t0 u],[],[(10,⟨_,_,.el (xs:=iC a.aP) (i:=j) (U0 m) (jn n)⟩),(19,oL f.aR gv)]] (li (λ_=>(lQ 10 48 2 [] (.inr (by kernel_rfl)) ·)) (gT nJ 40 f.aR λv=>fa 2 [] [2,4,9,10,40,41,42] 3 (λk(c:I bE)=>⟨61,[(2,A0),(4,Ac),(9,Y j),(10,.own 2 (fz c)),(40,O (gZ f.aR)),(41,Y f.aR.length),(42,Y k)],[.cells (c6 a).cells,.cells pO,.front 48 2 c.length]⟩) (λk c e w=>gR [[],[f0 (bG e)],[(10,⟨_,_,.el (xs:=iC a.aP) (i:=j) (U0 m) (jn n)⟩)]]) (λk x y c e w z=>au λo A=>cF λB=>gb z (c++[o]) [[],[t0 (bD e)],[(1,oE (mW (aX e)))],[(10,cK agv A),(16,oA mZ c ([o]) B)],[(2,oq (bU e rfl v))]] e))))) (λh F G b q C=>V [[],[t0 (bD b)],[(1,oE (oD (aX b)))],[]] (ax (λl=>au λH E=>gR [[t0 l],[(13,cK ao4 E)]]) λl=>gb C () [[f0 l],[(2,oq (bU b rfl p))]] b))))
def Nn(N:Nat)(b:bo)(c:I (so×Int)):I bE->Nat->U Int
 |[],_=>some (0:Int)
 |d::e,f=>(E5 N d b c).bind λa=>bif (a !=0)then some a else(Nn N b c e (f+1))
def Oh(N:Nat)(a:c8)(b:bo)(d:I (so×Int)):U Int:=bif (bL a.de==bL (bs []))then(E5 N a.bN b d).bind λe=>some e else(Gl N b a.de).bind λc=>bif c.2.2 then bif (c.1.bB !=3)then some (10:Int)else bif ((a.cQ.length:Int) !=(c.2.1.length:Int))then some (11:Int)else Nn N b d a.cQ 0 else some (9:Int)
def Ro(a:bo)(b:I (so×Int))(c:c8)(l:I ar):I ar:= .cells (gP a [.mp 1]):: .map (fX b):: .cells (ij c).cells::l
def aqQ{N a b c}:KP 308 [A0,ij a] (FX b c) Y (λ_=>(FX b c)) (Oh N a b c):=
 fh 2 func308 (V [[],[]] (ax (λf=>au λv n=>gH [[t0 f],[(10,oQ [A0,dY a.bN] (Ro b c a []) [0,1] (Rf _ n))]]) λf=>au λg o=>V [[f0 f],[(19,cK T9 o)],[]] (ax (λh=>V [[f0 (cx h)],[]] (ax (λi=>gH [[t0 i],[]]) λi=>V [[f0 i],[(7,oL a.cQ fW),(13,oL g.2.1 fW)]] (ax (λj=>gH [[t0 j],[]]) λj=>V [[f0 j],[(7,oL a.cQ fW)]] (gT mZ 44 a.cQ λp=>dN 1 [] [0,44,45,46] 4 (λk=>⟨57,[(0,A0),(44,O (fz a.cQ)),(45,Y a.cQ.length),(46,Y k)],Ro b c a (Qi g.1)⟩) (λk e q=>gH [[],[f0 (bG e)],[]]) (λk m w e q r=>au λt u=>V [[],[t0 (bD e)],[(1,oE (o8 (aX e)))],[(7,oQ [A0,dY m] (Ro b c a [.cells (bY g.1).cells,.cells (dY m).cells]) [0,1] (Rf _ u))],[]] (ax (λl=>gH [[t0 l],[]]) λl=>gb r () [[f0 l],[(2,oq (bU e rfl p))]] e)))))) λh=>gH [[t0 (dq h)],[]])))
def Pm(N:Nat)(a:aM×(I bE)×Bool)(b:bo)(c:I (so×Int)):I c8->Nat->U (aM×Int)
 |[],_=>some (a.1,(0:Int))
 |e::f,g=>(Oh N e b c).bind λd=>bif (d !=0)then some (dZ,d)else(Pm N a b c f (g+1))
def Pz(N:Nat)(a:az)(c:bo)(d:I (so×Int)):U (aM×Int):=(Gl N c a.ay).bind λb=>bif b.2.2 then bif ((a.xIdx.length:Int) !=(b.2.1.length:Int))then some (dZ,(11:Int))else Pm N b c d a.xIdx 0 else some (dZ,(9:Int))
def ar2{N a c e}:KP 289 [A0,aK a] (FX c e) (λr=>.bq [bY r.1,Y r.2]) (λ_=>(FX c e)) (Pz N a c e):=
 fh 2 func289 (au λf l=>V [[],[(19,cK T9 l)],[]] (ax (λg=>V [[f0 (cx g)],[(7,oL a.xIdx gq),(13,oL f.2.1 fW)]] (ax (λh=>gH [[t0 h],[]]) λh=>V [[f0 h],[(7,oL a.xIdx gq)]] (gT sc 34 a.xIdx λm=>dN 1 [] [0,4,6,34,35,36] 5 (λi=>⟨49,[(0,A0),(4,Aj),(6,AD),(34,O (fc a.xIdx)),(35,Y a.xIdx.length),(36,Y i)],[.cells (gP c [.mp 1]),.map (fX e),.cells (aK a).cells,.cells pO,.cells (bY f.1).cells]⟩) (λi b n=>gH [[],[f0 (bG b)],[]]) (λi k q b n o=>au λt p=>V [[],[t0 (bD b)],[(1,oE (jk (aX b)))],[(7,oQ [A0,ij k] [.cells (gP c [.mp 1]),.map (fX e),.cells (aK a).cells,.cells pO,.cells (bY f.1).cells,.cells (ij k).cells] [0,1] (aqQ _ p))],[]] (ax (λj=>gH [[t0 j],[]]) λj=>gb o () [[f0 j],[(2,oq (bU b rfl m))]] b))))) λg=>gH [[t0 (dq g)],[]]))
def Fw(N:Nat)(a:aM)(b:aM):U Int:=bif ((a.bB==b.bB)&&((a.bW==b.bW)&&((a.ck==b.ck)&&((a.ct==b.ct)&&((a.cC==b.cC)&&true)))))then some (0:Int)else some (10:Int)
def QR{N a b}:KO 287 [bY a,bY b] Y (Fw N a b):=
 fw func287 (V [[],[]] (nb λc=>gR [[t0 (dq c)],[]]))
def Ee(N:Nat)(b:I aM)(d:Bool):U (aM×Int):=bif d then(b[0]?).bind λe=>(b[1]?).bind λf=>(Fw N e f).bind λc=>some (dZ,c)else(b[0]?).bind λa=>(b[1]?).bind λg=>(Fw N a g).bind λh=>some (a,h)
def Fe(N:Nat)(a:az)(b:I aM)(c:Bool):U (aM×Int):=bif c then some (dZ,(0:Int))else bif (a.aD==13)then Ee N b (a.aD==13)else bif (a.aD==14)then Ee N b (a.aD==14)else Ee N b (a.aD==15)
def Pu(N:Nat)(a:az)(f:bo)(g:I (so×Int))(b:I aM)(i:Bool):U (aM×Int):=bif i then some (a.aH,(0:Int))else bif (a.aD==2)then(E5 N a.bN f g).bind λd=>some ((⟨3,0,0,0,0⟩:aM),d)else bif (a.aD==3)then(Pz N a f g).bind λc=>some (c.1,c.2)else bif (a.aD==8)then(b[0]?).bind λe=>some (e,(0:Int))else bif (a.aD==11)then(b[1]?).bind λh=>(b[2]?).bind λj=>(Fw N h j).bind λk=>some (h,k)else bif (a.aD==16)then Fe N a b (a.aD==16)else bif (a.aD==17)then Fe N a b (a.aD==17)else Fe N a b (a.aD==18)
def zw(N:Nat)(b:az)(e:bo)(f:I (so×Int))(c:az->bo->(I (so×Int))->U (aM×Int)):I az->Nat->(I aM)->U (aM×Int)
 |[],_,d=>bif (b.aD==1)then Pu N b e f d (b.aD==1)else Pu N b e f d (b.aD==12)
 |v6::g,h,d=>(c v6 e f).bind λa=>bif (a.2 !=0)then some (dZ,a.2)else bif (Nat.ble ((d.length+1)*40) 140737488355328)then(λi=>zw N b e f c g (h+1) i) (d++[a.1])else none
def Ao(N:Nat):Nat->az->bo->(I (so×Int))->U (aM×Int)
 |0,_,_,_=>none
 |d+1,a,b,c=>zw N a b c (Ao N d) a.bS 0 []
def Re(N:Nat)(a:az)(b:bo)(c:I (so×Int)):U (aM×Int):=Ao N N a b c
def vI(a:bo)(b:I (so×Int))(c:az)(d:I aM)(l:I ar):I ar:= .cells (gP a [.mp 1]):: .map (fX b):: .cells (aK c).cells:: .cells pO:: .front 34 5 d.length::l
def aqi(N:Nat):∀d:Nat,(∀{a:az}{c:bo}{e:I (so×Int)},KP 255 [A0,aK a] (FX c e) (λr=>.bq [bY r.1,Y r.2]) (λ_=>(FX c e)) (Ao N d a c e)):=by
 intro d
 induction d with
 |zero=>intro a c e r J;rw[Ao]at J;cases J
 |succ d ih=>
  have h:= @ih;intro a c e;rw[Ao];exact fh 2 func255 (V [[],[],[(7,oL a.bS jm)]] (li (λ_=>(lQ 6 34 5 [] (.inr (by kernel_rfl)) ·)) (gT oT 13 a.bS λL=>fa 1 [] [0,3,4,6,13,14,15] 5 (λi(b:I aM)=>⟨102,[(0,A0),(3,CL),(4,Aj),(6,.own 4 (pz b)),(13,O (hO a.bS)),(14,Y a.bS.length),(15,Y i)],vI c e a b []⟩) (λi b f M=>kW 2 [[],[(0,bF (bG f))],[],[],[]] [0,3,4,6,11,35,36] 5 (λ(B:Bool)=>⟨102,[(0,A0),(3,CL),(4,Aj),(6,.own 4 (pz b)),(11,.fn 287 []),(35,Y a.aD),(36,aA B)],vI c e a b []⟩) (Pu N a c e b) (λf2 C=>ax (λj=>gm C (a.aD==1) [[(0,bT j)]]) λj=>gm C (a.aD==12) [[(0,bF j)],[]]) (λB=>ax (λl=>gH [[(0,bT l)],[]]) λl=>V [[(0,bF l)],[]] (ax (λm=>au λP Q=>gH [[(0,bT m)],[(13,oQ [A0,dY a.bN] (vI c e a b []) [0,1] (Rf _ Q))]]) λm=>V [[(0,bF m)],[]] (ax (λn=>au λR S=>gH [[(0,bT n)],[(7,oQ [A0,aK a] (vI c e a b []) [0,1] (ar2 _ S))]]) λn=>V [[(0,bF n)],[]] (ax (λo=>au λT W=>gH [[(0,bT o)],[(4,oE (k:=0) (mO W))]]) λo=>V [[(0,bF o)],[]] (ax (λp=>au λaG E=>au λaE bI=>au λaO bV=>gH [[(0,bT p)],[(4,oE (k:=1) (mO E)),(16,oE (k:=1) (mO E)),(25,oE (k:=2) (mO bI)),(31,cK QR bV)]]) λp=>kW 3 [[(0,bF p)],[]] [4,6,11,35,73] 5 (λ(F:Bool)=>⟨102,[(4,Aj),(6,.own 4 (pz b)),(11,.fn 287 []),(35,Y a.aD),(73,aA F)],vI c e a b []⟩) (Fe N a b) (λf3 q=>ax (λt=>gm q (a.aD==16) [[(0,bT t)]]) λt=>V [[(0,bF t)],[]] (ax (λu=>gm q (a.aD==17) [[(0,bT u)]]) λu=>gm q (a.aD==18) [[(0,bF u)],[]])) (λF=>ax (λv=>gH [[(0,bT v)],[]]) λv=>kW 4 [[(0,bF v)],[]] [4,6,11,78] 5 (λ(G:Bool)=>⟨102,[(4,Aj),(6,.own 4 (pz b)),(11,.fn 287 []),(78,aA G)],vI c e a b []⟩) (Ee N b) (λf4 w=>ax (λx=>gm w (a.aD==13) [[(0,bT x)]]) λx=>V [[(0,bF x)],[]] (ax (λy=>gm w (a.aD==14) [[(0,bT y)]]) λy=>gm w (a.aD==15) [[(0,bF y)],[]])) (λG=>ax (λz=>au λbK dc=>au λcn dT=>au λv20 eK=>gH [[(0,bT z)],[(10,oE (k:=0) (mO dc)),(19,oE (k:=1) (mO dT)),(25,cK QR eK)]]) λz=>au λv21 H=>au λfD fK=>au λdK gz=>gH [[(0,bF z)],[(4,oE (k:=0) (mO H)),(16,oE (k:=0) (mO H)),(25,oE (k:=1) (mO fK)),(31,cK QR gz)]])))))))) (λi K v7 b f M aI=>au λg j4=>V [[],[(0,bT (bD f))],[(1,oE (gy (aX f)))],[(7,oQ [A0,aK K] (vI c e a b (G4 K)) [0,1] (h _ j4))],[]] (ax (λA=>gH [[(0,bT A)],[]]) λA=>cF λmj=>gb aI (b++[g.1]) [[(0,bF A)],[(10,oA aur b ([g.1]) mj)],[(2,oq (bU f rfl L))]] f)))))
def atd{N c a b}:KP 255 [A0,aK c] (FX a b) (λr=>.bq [bY r.1,Y r.2]) (λ_=>(FX a b)) (Re N c a b):=(aqi N N)
def yB(N:Nat)(d:az)(e:bo):I so->Nat->(I (so×Int))->U (aM×Int)
 |[],_,a=>(Re N d e a).bind λb=>bif (b.2 !=0)then some (dZ,b.2)else some (b.1,(0:Int))
 |f::g,c,a=>bif (Nat.blt a.length 9223372036854775807)then(λb2_0=>yB N d e g (c+1) b2_0) ((f,(3:Int))::a)else none
def MB(N:Nat)(b:az)(c:bo)(d:I so):I so->Nat->(I (so×Int))->U (aM×Int)
 |[],_,a=>yB N b c d 0 a
 |e::f,g,a=>bif (Nat.blt a.length 9223372036854775807)then(λh=>MB N b c d f (g+1) h) ((e,(1:Int))::a)else none
def N1(N:Nat)(b:bo)(d:I so)(a:az):U (aM×Int):=(BW N a).bind λc=>bif (c !=0)then some (dZ,c)else(DI N a).bind λe=>bif e then some (dZ,(10:Int))else MB N a b d b.bJ 0 []
def Rg(b:bo)(c:az)(a:I (so×Int))(l:I ar):I ar:= .cells (c6 b).cells:: .cells (aK c).cells:: .cells pO:: .map (fX a):: .cells (gP b [.mp 3])::l
def aqT{N a c f}:KO 192 [c6 a,O (cD c),aK f] (λr=>.bq [bY r.1,Y r.2]) (N1 N a c f):=
 fw func192 (au λE k=>V [[],[(4,cL (auk k))],[]] (aY λl=>au λF m=>V [[f0 l],[(4,cK Q7 m)]] (aY λn=>V [[f0 n],[],[(7,oL a.bJ ft)]] (gT iy 30 a.bJ λp=>fa 1 [] [1,5,6,9,30,31,32] 5 (λj(b:I (so×Int))=>⟨65,[(1,O (cD c)),(5,Ac),(6,CL),(9,AD),(30,O (cD a.bJ)),(31,Y a.bJ.length),(32,Y j)],Rg a f b []⟩) (λj b g q=>V [[],[f0 (bG g)],[(4,oL c ft)]] (gT iy 1 c λt=>fa 2 [] [5,6,9,42,43,44] 5 (λe(i:I (so×Int))=>⟨65,[(5,Ac),(6,CL),(9,AD),(42,O (cD c)),(43,Y c.length),(44,Y e)],Rg a f i []⟩) (λe i h u=>au λG v=>V [[],[f0 (bG h)],[(7,oQ [AD,aK f] (Rg a f i []) [4,3] (atd _ v))],[]] (aY λw=>gR [[f0 w],[]])) (λe x H i h u y=>cF λz=>gb y ((x,(3:Int))::i) [[],[t0 (bD h)],[(1,oE (kp (aX h)))],[(16,⟨_,_,.sd (o:= .none) (Si z)⟩)],[(2,oq (bU h rfl t))]] h))) (λj A J b g q B=>cF λC=>gb B ((A,(1:Int))::b) [[],[t0 (bD g)],[(1,oE (kp (aX g)))],[(16,⟨_,_,.sd (o:= .none) (Si C)⟩)],[(2,oq (bU g rfl p))]] g)))))
def Kw(N:Nat)(e:Int)(d:bo)(i:I (so×Int)):U (Int×(I (so×Int))):=bif (decide ((0:Int)<=e))then(d.aP[(e).toNat]?).bind λb=>(C0 N b.ay (2:Int) d i).bind λc=>bif (c.1 !=0)then some (c.1,c.2)else(yH N b.aH ([(b.aR.length:Int),(b.cl.length:Int)])).bind λf=>bif (f !=0)then some (f,c.2)else(Ks N b d c.2).bind λg=>bif (g !=0)then some (g,c.2)else(MH N b).bind λh=>bif (h !=0)then some (h,c.2)else bif (decide ((e).toNat<=d.aP.length))then(Pg N b).bind λj=>(N1 N (⟨d.bJ,d.dR,d.bn,(d.aP.take (e).toNat).drop 0,d.dC⟩:bo) j b.cw).bind λa=>bif (a.2 !=0)then some (a.2,c.2)else bif ((a.1.bB==b.aH.bB)&&((a.1.bW==b.aH.bW)&&((a.1.ck==b.aH.ck)&&((a.1.ct==b.aH.ct)&&((a.1.cC==b.aH.cC)&&true)))))then some ((0:Int),c.2)else some ((10:Int),c.2)else none else none
def apT{N c a d}:KP 109 [A0,Y c] (FX a d) (λr=>Y r.1) (λr=>(FX a r.2)) (Kw N c a d):=
 fh 2 func109 (cF λl=>au λb m=>au λn o=>V [[],[(19,⟨_,_,.el (xs:=iC a.aP) (i:=c) (U0 l) (jn m)⟩)],[(10,oR [A0,dk b.ay,Y 2] [.cells (gP a [.mp 1]),.map (fX d),.cells (fg b).cells] [0,1] (T1 _ o))],[]] (ax (λe=>gH [[t0 e],[]]) λe=>au λy p=>V [[f0 e],[(13,oL b.aR gv),(22,oL b.cl gv),(28,cK agj p)],[]] (ax (λf=>gH [[t0 f],[]]) λf=>au λz q=>V [[f0 f],[(7,oQ [A0,fg b] [.cells (gP a [.mp 1]),.map (fX n.2),.cells (fg b).cells] [0,1] (aoE _ q))],[]] (ax (λg=>gH [[t0 g],[]]) λg=>au λA t=>V [[f0 g],[(4,cK aqr t)],[]] (ax (λh=>gH [[t0 h],[]]) λh=>cF λu=>au λB v=>au λw x=>V [[f0 h],[],[(19,⟨_,_,.sub (xs:=iC a.aP) (lo:=0) (hi:=c) (by decide) (Wv _) (U0 l) (by rw[jM];exact(U0 u)) Sy abG⟩)],[(7,cK amn v),(16,cK aqT x)],[]] (ax (λj=>gH [[t0 j],[]]) λj=>V [[f0 j],[]] (ax (λk=>gH [[f0 (cx k)],[]]) λk=>gH [[t0 (dq k)],[]])))))))
def GJ(N:Nat)(e:I (so×Int))(c:bo):I so->Nat->Int->U (Int×Int)
 |[],_,_=>some ((0:Int),(0:Int))
 |f::g,a,b=>bif ((ib e f 0) !=2)then some (b,(9:Int))else bif (decide (((a:Int)).toNat<=c.dC.length))then(Bu N ((c.dC.take ((a:Int)).toNat).drop 0) f).bind λh=>bif h then some (b,(8:Int))else(λd=>GJ N e c g (a+1) d) (aF (b+(1:Int)))else none
def BT(N:Nat)(b:bo):I bZ->Nat->Int->(I (so×Int))->U (Int×Int)
 |[],_,c,d=>GJ N d b b.dC 0 c
 |_::e,g,c,d=>(Kw N (g:Int) b d).bind λa=>bif (a.1 !=0)then some (c,a.1)else(λh f=>BT N b e (g+1) h f) (aF (c+(1:Int))) a.2
def D4(N:Nat)(b:bo):I eX->Nat->Int->(I (so×Int))->U (Int×Int)
 |[],_,c,d=>BT N b b.aP 0 c d
 |f::g,e,c,d=>(L7 N f b d).bind λa=>bif (a.1 !=0)then some (c,a.1)else(λh i=>D4 N b g (e+1) h i) (aF (c+(1:Int))) a.2
def FG(N:Nat)(a:bo)(b:I (so×Int)):I ik->Nat->U (Int×Int)
 |[],_=>D4 N a a.bn 0 (2:Int) b
 |v10::c,e=>(MJ N v10 a b).bind λd=>bif (d !=0)then some ((1:Int),d)else(FG N a b c (e+1))
def PI(N:Nat)(a:bo):I so->Nat->(I (so×Int))->U (Int×Int)
 |[],_,b=>FG N a b a.dR 0
 |d::e,f,b=>(C0 N d (1:Int) a b).bind λc=>bif (c.1 !=0)then some ((0:Int),c.1)else(λg=>PI N a e (f+1) g) c.2
def J0(N:Nat)(a:bo):U (Int×Int):=(Lg N a).bind λb=>bif b then PI N a a.bJ 0 []else some ((0:Int),(2:Int))
def uv(a:bo)(b:I (so×Int))(l:I ar):I ar:= .cells (c6 a).cells:: .map (fX b):: .cells (gP a [.mp 1])::l
def ati{N a}:KO 60 [c6 a] (λr=>.bq [Y r.1,Y r.2]) (J0 N a):=
 fw func60 (au λv2 z=>V [[],[(4,cK akn z)]] (fi λA=>V [[f0 (cx A)],[],[(7,oL a.bJ ft)]] (gT iy 27 a.bJ λB=>fa 1 [] [1,4,27,28,29] 3 (λt(f:I (so×Int))=>⟨115,[(1,A0),(4,CL),(27,O (cD a.bJ)),(28,Y a.bJ.length),(29,Y t)],uv a f []⟩) (λt f g C=>V [[],[f0 (bG g)],[(7,oL a.dR pZ)]] (gT FB 41 a.dR λE=>dN 2 [] [1,4,41,42,43] 3 (λu=>⟨115,[(1,A0),(4,CL),(41,O (ox a.dR)),(42,Y a.dR.length),(43,Y u)],uv a f []⟩) (λu h F=>V [[],[f0 (bG h)],[],[(7,oL a.bn k9)]] (gT yN 55 a.bn λG=>CQ 3 [] [1,4,11,55,56,57] 3 (λe(n:Int)(o:I (so×Int))=>⟨115,[(1,A0),(4,CL),(11,Y n),(55,O (lB a.bn)),(56,Y a.bn.length),(57,Y e)],uv a o []⟩) (λe n o i H=>V [[],[f0 (bG i)],[(7,oL a.aP jM)]] (gB uj 0 3 a.aP λJ=>CQ 4 [] [1,4,11,73,74] 3 (λp(q:Int)(j:I (so×Int))=>⟨115,[(1,A0),(4,CL),(11,Y q),(73,Y a.aP.length),(74,Y p)],uv a j []⟩) (λp q j l K=>V [[],[f0 (bG l)],[(7,oL a.dC ft)]] (gT iy 88 a.dC λL=>fa 5 [] [1,4,11,88,89,90] 3 (λb(c:Int)=>⟨115,[(1,A0),(4,CL),(11,Y c),(88,O (cD a.dC)),(89,Y a.dC.length),(90,Y b)],uv a j []⟩) (λb c k M=>gR [[],[f0 (bG k)],[]]) (λb P iL c k M v=>V [[],[t0 (bD k)],[(4,oE (kp (aX k)))],[(17,oq (Ft false j P))]] (aY λQ=>cF λR=>au λlZ S=>V [[f0 Q],[(10,⟨_,_,.sub (xs:=cD a.dC) (lo:=0) (hi:=(b:Int)) (by decide) (Wv _) (U0 (dO (Int.natCast_nonneg _))) (by rw[ft];exact(U0 R)) sS Ed⟩),(16,cK aun S)]] (aY λT=>gb v (aF (c+(1:Int))) [[f0 T],[],[(2,oq (bU k rfl L))]] k))))) (λp W v21 q j l K lK=>au λw gz=>V [[],[t0 (bD l)],[],[(7,oR [CL,Y p] (uv a j []) [2,1] (apT _ gz))],[]] (aY λfj=>gb lK (aF (q+(1:Int)),w.2) [[f0 fj],[],[(2,oq (bU l rfl J))]] l)))) (λe y aO n o i H ju=>au λx fB=>V [[],[t0 (bD i)],[(1,oE (oD (aX i)))],[(7,oR [CL,pE y] (uv a o [.cells (pE y).cells]) [2,1] (amw _ fB))],[]] (aY λkF=>gb ju (aF (n+(1:Int)),x.2) [[f0 kF],[],[(2,oq (bU i rfl G))]] i)))) (λu m v11 h F dE=>au λCW kA=>V [[],[t0 (bD h)],[(1,oE (Jc (aX h)))],[(7,oQ [CL,uc m] (uv a f [.cells (uc m).cells]) [2,1] (aky _ kA))],[]] (aY λfZ=>gb dE () [[f0 fZ],[(2,oq (bU h rfl E))]] h)))) (λt v5 v6 f g C aI=>au λkf j4=>V [[],[t0 (bD g)],[(1,oE (kp (aX g)))],[(7,oR [CL,dk v5,Y 1] (uv a f []) [2,1] (T1 _ j4))],[]] (aY λl6=>gb aI kf.2 [[f0 l6],[(2,oq (bU g rfl B))]] g)))))
def Qp(N:Nat)(a:aJ)(b:so):U Bool:=some (bL a.ay==bL b)
def ahY{N b a}:KP 41 [Nd b,A0] (OY a) aA (λ_=>(OY a)) (Qp N b a):=
 fh 1 func41 (gH [[],[]])
def GL(N:Nat)(a:so):I aJ->Nat->U Int
 |[],_=>some (-1:Int)
 |c::d,b=>(Qp N c a).bind λe=>bif e then some (b:Int)else(GL N a d (b+1))
def QF(N:Nat)(a:I aJ)(b:so):U Int:=GL N b a 0
def ajC{N a c}:KP 40 [O (aS a),.fn 41 [A0]] (OY c) Y (λ_=>(OY c)) (QF N a c):=
 fh 1 func40 (V [[],[(4,oL a m6)]] (gT uY 0 a λg=>dN 1 [] [0,1,7,8] 1 (λe=>⟨19,[(0,O (aS a)),(1,.fn 41 [A0]),(7,Y a.length),(8,Y e)],OY c⟩) (λe b h=>gH [[],[f0 (bG b)],[]]) (λe i l b h j=>au λm k=>V [[],[t0 (bD b)],[],[(10,oE (n8 (aX b))),(16,oQ [Nd i,A0] (OY c) [0] (ahY _ k))]] (ax (λf=>gH [[t0 f],[]]) λf=>gb j () [[f0 f],[(2,oq (bU b rfl g))]] b))))
def AW(N:Nat)(a:Int64):U Int:=bif (decide (a.toInt<0))then some (u64.wrap (0-(u64.wrap a.toInt)))else some (u64.wrap a.toInt)
def UE{N a}:KO 137 [bx a] (λr=>.d (.v (.int .u64 r))) (AW N a):=
 fw func137 (V [[],[]] (aY λb=>gR [[f0 b],[]]))
def Gf(N:Nat)(a:kL)(c:Int)(d:Int)(e:Int)(f:Int)(b:Int):U (Int×Int×Int):=some (u64.wrap (a.pw+(u64.wrap (c+b))),u64.wrap ((u64.wrap (a.my+d))+e),u64.wrap (a.lz+f))
def Ap(N:Nat)(a:kL)(b:Int)(c:Int)(d:Int)(e:Int)(f:Int):U (Int×Int×Int):=bif (decide ((u64.wrap ((u64.wrap (a.my+b))+c))<(u64.wrap (a.my+b))))then Gf N a d b c e (u64.wrap (f+(1:Int)))else Gf N a d b c e f
def zP(N:Nat)(b:kL)(a:Int)(c:Int)(d:Int)(e:Int):U (Int×Int×Int):=bif (decide ((u64.wrap (b.my+a))<a))then Ap N b a e c d (1:Int)else Ap N b a e c d (0:Int)
def uz(N:Nat)(b:kL)(c:Int)(a:Int)(d:Int):U (Int×Int×Int):=bif (decide ((u64.wrap (b.lz+a))<a))then zP N b c d a (1:Int)else zP N b c d a (0:Int)
def Cx(N:Nat)(a:Int)(b:Int)(d:Bool)(c:kL):U (Int×Int×Int):=bif d then bif ((u64.wrap ((u64.wrap ((BitVec.ofInt (IntKind.bits .u64) (IntKind.max .u64)^^^BitVec.ofInt (IntKind.bits .u64) b).toNat:Int))+(1:Int)))==0)then bif ((u64.wrap ((u64.wrap ((BitVec.ofInt (IntKind.bits .u64) (IntKind.max .u64)^^^BitVec.ofInt (IntKind.bits .u64) a).toNat:Int))+(1:Int)))==0)then uz N c (u64.wrap ((u64.wrap ((BitVec.ofInt (IntKind.bits .u64) (IntKind.max .u64)^^^BitVec.ofInt (IntKind.bits .u64) a).toNat:Int))+(1:Int))) (u64.wrap ((u64.wrap ((BitVec.ofInt (IntKind.bits .u64) (IntKind.max .u64)^^^BitVec.ofInt (IntKind.bits .u64) b).toNat:Int))+(1:Int))) (u64.wrap ((u64.wrap ((BitVec.ofInt (IntKind.bits .u64) (IntKind.max .u64)^^^BitVec.ofInt (IntKind.bits .u64) (0:Int)).toNat:Int))+(1:Int)))else uz N c (u64.wrap ((u64.wrap ((BitVec.ofInt (IntKind.bits .u64) (IntKind.max .u64)^^^BitVec.ofInt (IntKind.bits .u64) a).toNat:Int))+(1:Int))) (u64.wrap ((u64.wrap ((BitVec.ofInt (IntKind.bits .u64) (IntKind.max .u64)^^^BitVec.ofInt (IntKind.bits .u64) b).toNat:Int))+(1:Int))) (u64.wrap ((BitVec.ofInt (IntKind.bits .u64) (IntKind.max .u64)^^^BitVec.ofInt (IntKind.bits .u64) (0:Int)).toNat:Int))else uz N c (u64.wrap ((BitVec.ofInt (IntKind.bits .u64) (IntKind.max .u64)^^^BitVec.ofInt (IntKind.bits .u64) a).toNat:Int)) (u64.wrap ((u64.wrap ((BitVec.ofInt (IntKind.bits .u64) (IntKind.max .u64)^^^BitVec.ofInt (IntKind.bits .u64) b).toNat:Int))+(1:Int))) (u64.wrap ((BitVec.ofInt (IntKind.bits .u64) (IntKind.max .u64)^^^BitVec.ofInt (IntKind.bits .u64) (0:Int)).toNat:Int))else uz N c a b (0:Int)
def aas(a:kL)(b:Int)(l:I ar):I ar:= .cells [X a.pw,X a.my,X (u64.wrap (a.lz+b))]::l
abbrev RS:=λa=>([.cells (Ib a).cells]:List ar)
def auj{N f g l a r}(J:Cx N f g l a=some r):KH 136 [A0,X f,X g,aA l] (RS a) (.bq []) ([.cells [X r.1,X r.2.1,X r.2.2]]):=by
 rw[Cx]at J;refine Iq 1 func136 ?_;refine Fp bC 1 [[],[]] [0,1,2,8] 1 (λ((b,c,e):Int×Int×Int)=>⟨76,[(0,A0),(1,X b),(2,X c),(8,X e)],RS a⟩) (λ((b,c,e):Int×Int×Int)=>uz N a b c e=some r) ?_ ?_
 ·intro y j;apply bc J<;>intro m J
  ·refine gp bC [[(0,bT m)],[],[],[]] ?_;apply bc J<;>intro n J
   ·refine gp bC [[(0,bT n)],[],[]] ?_;apply bc J<;>intro o J
    ·exact mu bC j (u64.wrap ((u64.wrap ((BitVec.ofInt (IntKind.bits .u64) (IntKind.max .u64)^^^BitVec.ofInt (IntKind.bits .u64) f).toNat:Int))+(1:Int)),u64.wrap ((u64.wrap ((BitVec.ofInt (IntKind.bits .u64) (IntKind.max .u64)^^^BitVec.ofInt (IntKind.bits .u64) g).toNat:Int))+(1:Int)),u64.wrap ((u64.wrap ((BitVec.ofInt (IntKind.bits .u64) (IntKind.max .u64)^^^BitVec.ofInt (IntKind.bits .u64) (0:Int)).toNat:Int))+(1:Int))) [[(0,bT o)],[]] J
    exact mu bC j (u64.wrap ((u64.wrap ((BitVec.ofInt (IntKind.bits .u64) (IntKind.max .u64)^^^BitVec.ofInt (IntKind.bits .u64) f).toNat:Int))+(1:Int)),u64.wrap ((u64.wrap ((BitVec.ofInt (IntKind.bits .u64) (IntKind.max .u64)^^^BitVec.ofInt (IntKind.bits .u64) g).toNat:Int))+(1:Int)),u64.wrap ((BitVec.ofInt (IntKind.bits .u64) (IntKind.max .u64)^^^BitVec.ofInt (IntKind.bits .u64) (0:Int)).toNat:Int)) [[(0,bF o)]] J
   exact mu bC j (u64.wrap ((BitVec.ofInt (IntKind.bits .u64) (IntKind.max .u64)^^^BitVec.ofInt (IntKind.bits .u64) f).toNat:Int),u64.wrap ((u64.wrap ((BitVec.ofInt (IntKind.bits .u64) (IntKind.max .u64)^^^BitVec.ofInt (IntKind.bits .u64) g).toNat:Int))+(1:Int)),u64.wrap ((BitVec.ofInt (IntKind.bits .u64) (IntKind.max .u64)^^^BitVec.ofInt (IntKind.bits .u64) (0:Int)).toNat:Int)) [[(0,bF n)]] J
  exact mu bC j (f,g,(0:Int)) [[(0,bF m)]] J
 rintro⟨b,c,e⟩ J
 try dsimp only at J
 rw[uz]at J;refine Ix bC r 2 [[],[],[]] [0,1,8,9] 1 (λ(h:Int)=>⟨76,[(0,A0),(1,X b),(8,X e),(9,X h)],aas a c []⟩) (zP N a b e c) ?_ ?_
 ·intro z p;apply bc J<;>intro q J
  ·exact mu bC p (1:Int) [[(0,bT q)],[]] J
  exact mu bC p (0:Int) [[(0,bF q)]] J
 intro h J;rw[zP]at J;refine Ix bC r 3 [[],[],[]] [0,8,9,10,11] 1 (λ(k:Int)=>⟨76,[(0,A0),(8,X e),(9,X h),(10,X (u64.wrap (a.my+b))),(11,X k)],aas a c []⟩) (Ap N a b h e c) ?_ ?_
 ·intro A t;apply bc J<;>intro u J
  ·exact mu bC t (1:Int) [[(0,bT u)],[]] J
  exact mu bC t (0:Int) [[(0,bF u)]] J
 intro k J;rw[Ap]at J;refine Ix bC r 4 [[],[]] [0,8,11] 1 (λ(i:Int)=>⟨76,[(0,A0),(8,X e),(11,X i)],[.cells [X a.pw,X (u64.wrap ((u64.wrap (a.my+b))+h)),X (u64.wrap (a.lz+c))]]⟩) (Gf N a e b h c) ?_ ?_
 ·intro B w;apply bc J<;>intro x J
  ·exact mu bC w (u64.wrap (k+(1:Int))) [[(0,bT x)],[]] J
  exact mu bC w k [[(0,bF x)]] J
 intro i J;rw[Gf]at J;cases J;exact n7 bC [[]]
def Vp(N:Nat)(a:aJ)(b:dX):U Bool:=some (bL a.ay==bL b.ay)
abbrev Qq:=λa=>([.cells (tP a).cells]:List ar)
def asK{N b a}:KP 138 [Nd b,A0] (Qq a) aA (λ_=>(Qq a)) (Vp N b a):=
 fh 1 func138 (gH [[],[]])
def BS(N:Nat)(a:dX):I aJ->Nat->U Int
 |[],_=>some (-1:Int)
 |c::d,b=>(Vp N c a).bind λe=>bif e then some (b:Int)else(BS N a d (b+1))
def Ss(N:Nat)(a:I aJ)(b:dX):U Int:=BS N b a 0
def apG{N a c}:KP 40 [O (aS a),.fn 138 [A0]] (Qq c) Y (λ_=>(Qq c)) (Ss N a c):=
 fh 1 func40 (V [[],[(4,oL a m6)]] (gT uY 0 a λg=>dN 1 [] [0,1,7,8] 1 (λe=>⟨19,[(0,O (aS a)),(1,.fn 138 [A0]),(7,Y a.length),(8,Y e)],Qq c⟩) (λe b h=>gH [[],[f0 (bG b)],[]]) (λe i l b h j=>au λm k=>V [[],[t0 (bD b)],[],[(10,oE (n8 (aX b))),(16,oQ [Nd i,A0] (Qq c) [0] (asK _ k))]] (ax (λf=>gH [[t0 f],[]]) λf=>gb j () [[f0 f],[(2,oq (bU b rfl g))]] b))))
def JQ(N:Nat)(a:Int)(b:Int):U (Int×Int):=some (u64.wrap ((u64.wrap ((u64.wrap (((a).fdiv (2^(min ((32:Int)).toNat (IntKind.bits .u64))))*((b).fdiv (2^(min ((32:Int)).toNat (IntKind.bits .u64))))))+((u64.wrap ((u64.wrap (((a).fdiv (2^(min ((32:Int)).toNat (IntKind.bits .u64))))*(u64.wrap ((BitVec.ofInt (IntKind.bits .u64) b&&&BitVec.ofInt (IntKind.bits .u64) (4294967295:Int)).toNat:Int))))+((u64.wrap ((u64.wrap ((BitVec.ofInt (IntKind.bits .u64) a&&&BitVec.ofInt (IntKind.bits .u64) (4294967295:Int)).toNat:Int))*(u64.wrap ((BitVec.ofInt (IntKind.bits .u64) b&&&BitVec.ofInt (IntKind.bits .u64) (4294967295:Int)).toNat:Int)))).fdiv (2^(min ((32:Int)).toNat (IntKind.bits .u64)))))).fdiv (2^(min ((32:Int)).toNat (IntKind.bits .u64))))))+((u64.wrap ((u64.wrap ((u64.wrap ((BitVec.ofInt (IntKind.bits .u64) a&&&BitVec.ofInt (IntKind.bits .u64) (4294967295:Int)).toNat:Int))*((b).fdiv (2^(min ((32:Int)).toNat (IntKind.bits .u64))))))+(u64.wrap ((BitVec.ofInt (IntKind.bits .u64) (u64.wrap ((u64.wrap (((a).fdiv (2^(min ((32:Int)).toNat (IntKind.bits .u64))))*(u64.wrap ((BitVec.ofInt (IntKind.bits .u64) b&&&BitVec.ofInt (IntKind.bits .u64) (4294967295:Int)).toNat:Int))))+((u64.wrap ((u64.wrap ((BitVec.ofInt (IntKind.bits .u64) a&&&BitVec.ofInt (IntKind.bits .u64) (4294967295:Int)).toNat:Int))*(u64.wrap ((BitVec.ofInt (IntKind.bits .u64) b&&&BitVec.ofInt (IntKind.bits .u64) (4294967295:Int)).toNat:Int)))).fdiv (2^(min ((32:Int)).toNat (IntKind.bits .u64))))))&&&BitVec.ofInt (IntKind.bits .u64) (4294967295:Int)).toNat:Int)))).fdiv (2^(min ((32:Int)).toNat (IntKind.bits .u64))))),u64.wrap (a*b))
def apq{N a c}:KO 139 [X a,X c] (λr=>.bq [X r.1,X r.2]) (JQ N a c):=
 fw func139 (gR [[],[],[(4,⟨_,_,.nn (b:=32) (by decide)⟩),(19,⟨_,_,.nn (b:=32) (by decide)⟩)],[(10,⟨_,_,.nn (b:=32) (by decide)⟩)],[(4,⟨_,_,.nn (b:=32) (by decide)⟩),(10,⟨_,_,.nn (b:=32) (by decide)⟩),(19,⟨_,_,.nn (b:=32) (by decide)⟩),(28,⟨_,_,.nn (b:=32) (by decide)⟩)]])
def OA(N:Nat)(a:kL):U (Int64×Bool):=(bif (a.my==(u64.wrap (Int64.ofInt (((Int64.ofInt a.lz).toInt).fdiv (2^(min ((63:Int)).toNat (IntKind.bits .i64))))).toInt))then some (a.pw==(u64.wrap (Int64.ofInt (((Int64.ofInt a.lz).toInt).fdiv (2^(min ((63:Int)).toNat (IntKind.bits .i64))))).toInt))else some false).bind λb=>some (Int64.ofInt a.lz,b)
def aqH{N a}:KP 140 [A0] (RS a) (λr=>.bq [bx r.1,aA r.2]) (λ_=>(RS a)) (OA N a):=
 fh 1 func140 (V [[],[(14,oq (iF a.lz))],[(4,⟨_,_,.nn (b:=63) (by decide)⟩),(5,oq (auz (Int64.ofInt a.lz) (min ((63:Int)).toNat (IntKind.bits .i64))))]] (gG (λd=>[(2,bx (Int64.ofInt a.lz)),(3,aA d)]) (λ_=>(RS a)) (ax (λc=>gE [(7,bT c)] []) λc=>gE [(7,bF c)] []) λd=>gH []))
def Ic(N:Nat)(d:I aJ):I dX->Nat->Int->Int->Int->U (Int64×Int)
 |[],_,a,b,c=>(OA N (⟨a,b,c⟩:kL)).bind λh=>bif h.2 then some (h.1,(0:Int))else some ((0:Int64),(3:Int))
 |e::k,l,a,b,c=>(Ss N d e).bind λf=>bif (decide (f<0))then some ((0:Int64),(9:Int))else bif (decide ((0:Int)<=f))then(d[(f).toNat]?).bind λi=>(AW N e.eW).bind λm=>(AW N i.dP).bind λn=>(JQ N m n).bind λj=>(Cx N j.1 j.2 (!((decide (e.eW.toInt<0))==(decide (i.dP.toInt<0)))) (⟨a,b,c⟩:kL)).bind λg=>(λo p q=>Ic N d k (l+1) o p q) g.1 g.2.1 g.2.2 else none
def we(N:Nat)(a:bE)(c:I aJ):U (Int64×Int):=(Du N a).bind λd=>bif (d !=0)then some ((0:Int64),(1:Int))else(AW N a.xK).bind λe=>(Cx N (0:Int) e (decide (a.xK.toInt<0)) aul).bind λb=>Ic N c a.xL 0 b.1 b.2.1 b.2.2
def Ol(e:bE)(a:Int)(b:Int)(c:Int)(l:I ar):I ar:= .cells (dY e).cells:: .cells [X a,X b,X c]::l
def Ip{N a g}:KO 80 [dY a,O (aS g)] (λr=>.bq [bx r.1,Y r.2]) (we N a g):=
 fw func80 (au λL n=>V [[],[(4,cK P0 n)]] (eY λ_=>au λo p=>au λh q=>li (λ_=>(B5 bC [(7,cK UE p),(19,oR [Ac,X (0:Int),X o,(aA (decide (a.xK.toInt<0)))] [.cells (dY a).cells,.cells [X (0:Int),X (0:Int),X (0:Int)]] [1] (auj q))] [] [.cells (dY a).cells,.cells [X h.1,X h.2.1,X h.2.2]] ·)) (V [[(7,oL a.xL jx)]] (gT vQ 26 a.xL λt=>gl3 1 [] [1,6,26,27,28] 2 (λj(b:Int)(c:Int)(e:Int)=>⟨68,[(1,O (aS g)),(6,Ac),(26,O (dMonos a.xL)),(27,Y a.xL.length),(28,Y j)],Ol a b c e []⟩) (λj b c e f u=>au λM w=>V [[],[f0 (bG f)],[(1,oQ [Ac] (Ol a b c e []) [1] (aqH _ w))],[]] (nb λx=>gR [[t0 (dq x)],[]])) (λj k P b c e f u y=>au λz A=>V [[],[t0 (bD f)],[(1,oE (lM (aX f)))],[(7,oQ [O (aS g),.fn 138 [CL]] (Ol a b c e (Qq k)) [2] (apG _ A))],[]] (aY λB=>cF λC=>au λE F=>au λQ G=>au λR H=>au λm J=>au λl K=>gb y (l.1,l.2.1,l.2.2) [[f0 B],[(7,⟨_,_,.el (xs:=aS g) (i:=z) (U0 C) (n8 F)⟩)],[(7,cK UE G),(13,cK UE H),(16,cK apq J)],[(25,oR [Ac,X m.1,X m.2,(aA (!((decide (k.eW.toInt<0))==(decide (E.dP.toInt<0)))))] (Ol a b c e (Qq k)) [1] (auj K))],[(2,oq (bU f rfl t))]] f))))))
def Nz(N:Nat)(b:ik)(c:I aJ):U (Bool×Int):=(we N b.bN c).bind λa=>bif (a.2 !=0)then some (false,a.2)else(bif (a.1.toInt==0)then some true else(bif (decide (a.1.toInt>0))then some (!b.Hk)else some false)).bind λd=>some (d,(0:Int))
def arx{N b e}:KO 42 [uc b,O (aS e)] (λr=>.bq [aA r.1,Y r.2]) (Nz N b e):=
 fw func42 (au λi g=>V [[],[(10,cK Ip g)],[]] (aY λh=>V [[f0 h]] (gG (λf=>[(4,aA f),(5,Y 0)]) (λ_=>[.cells (uc b).cells]) (ax (λc=>gE [(2,bT c),(5,uN)] []) λc=>cm (2,bF c) (ax (λa=>gE [(5,bT a)] [(28,bT a)]) λa=>gE [(5,bF a)] [(28,bF a)])) λf=>gR [])))
def Ku(N:Nat)(c:I aJ):I ik->Nat->U Int
 |[],_=>some (0:Int)
 |d::b,e=>(Nz N d c).bind λa=>bif (a.2 !=0)then some a.2 else bif a.1 then(Ku N c b (e+1))else some (16:Int)
def PW(N:Nat)(b:I aJ)(c:bo):I so->Nat->U Int
 |[],_=>Ku N b c.dR 0
 |e::f,g=>(QF N b e).bind λa=>(bif (decide (a<0))then some true else bif (decide ((0:Int)<=a))then(b[(a).toNat]?).bind λd=>(bif (decide (d.dP.toInt<1))then some true else some (decide (d.dP.toInt>4096)))else none).bind λh=>bif h then some (15:Int)else(PW N b c f (g+1))
def JW(N:Nat)(a:bo)(b:I aJ):U Int:=bif ((b.length:Int) !=(a.bJ.length:Int))then some (15:Int)else PW N b a a.bJ 0
def asS{N a b}:KO 17 [c6 a,O (aS b)] Y (JW N a b):=
 fw func17 (V [[],[(4,oL b m6),(13,oL a.bJ ft)]] (aY λp=>V [[f0 p],[(7,oL a.bJ ft)]] (gT iy 19 a.bJ λq=>dN 1 [] [1,2,19,20,21] 1 (λg=>⟨66,[(1,O (aS b)),(2,A0),(19,O (cD a.bJ)),(20,Y a.bJ.length),(21,Y g)],Mr a⟩) (λg c r=>V [[],[f0 (bG c)],[(7,oL a.dR pZ)]] (gT FB 48 a.dR λt=>dN 2 [] [1,48,49,50] 1 (λh=>⟨66,[(1,O (aS b)),(48,O (ox a.dR)),(49,Y a.dR.length),(50,Y h)],Mr a⟩) (λh e u=>gR [[],[f0 (bG e)],[]]) (λh E v e u w=>au λx y=>V [[],[t0 (bD e)],[(1,oE (Jc (aX e)))],[(7,cK arx y)],[]] (eY λ_=>fi λz=>gb w () [[f0 (cx z)],[(2,oq (bU e rfl t))]] e)))) (λg l F c r A=>au λf B=>V [[],[t0 (bD c)],[(1,oE (kp (aX c)))],[(7,oQ [O (aS b),.fn 41 [Ac]] (RJ a l) [1] (ajC _ B))]] (gG (λm=>[(45,aA m)]) (λ_=>(RJ a l)) (ax (λj=>gE [(2,bT j),(10,bT rfl)] []) λj=>cF λn=>au λG o=>cm (2,bF j) (cG (16,⟨_,_,.el (xs:=aS b) (i:=f) (U0 n) (n8 o)⟩) (ax (λk=>gE [(10,bT k)] []) λk=>gE [(10,bF k)] [(40,⟨_,_,.el (xs:=aS b) (i:=f) (U0 n) (n8 o)⟩)]))) λm=>aY λC=>gb A () [[f0 C],[(2,oq (bU c rfl q))]] c)))))
def Kh(N:Nat)(a:bo)(c:I aJ):U Int:=(J0 N a).bind λb=>bif (b.2 !=0)then some b.2 else(JW N a c).bind λd=>some d
def arQ{N a b}:KO 32 [c6 a,O (aS b)] Y (Kh N a b):=
 fw func32 (au λg c=>V [[],[(4,cK ati c)],[]] (aY λe=>au λh f=>gR [[f0 e],[(7,cK asS f)]]))
def MF(N:Nat)(c:I aJ):I bE->Nat->(I Int)->U ((I Int)×Int)
 |[],_,b=>some (b,(0:Int))
 |d::e,f,b=>(we N d c).bind λa=>bif (a.2 !=0)then some ([],a.2)else(bif (decide (a.1.toInt<1))then some true else some (decide (a.1.toInt>4096))).bind λg=>bif g then some ([],(15:Int))else bif (Nat.ble ((b.length+1)*8) 140737488355328)then(λh=>MF N c e (f+1) h) (b++[a.1.toInt])else none
def I1(N:Nat)(a:I bE)(b:I aJ):U ((I Int)×Int):=MF N b a 0 []
def acH{N b e}:KO 61 [O (fz b),O (aS e)] (λr=>.bq [O (bH r.1),Y r.2]) (I1 N b e):=
 fw func61 (V [[],[],[(4,oL b fW)]] (li (λ_=>(lQ 6 3 1 [] (.inr (by kernel_rfl)) ·)) (gT mZ 0 b λj=>fa 1 [] [1,6,11,12,13] 1 (λf(a:I Int)=>⟨38,[(1,O (aS e)),(6,.own 0 (bH a)),(11,O (fz b)),(12,Y b.length),(13,Y f)],[.front 3 1 a.length]⟩) (λf a c k=>gR [[],[f0 (bG c)],[]]) (λf l t a c k m=>au λh n=>V [[],[t0 (bD c)],[(1,oE (o8 (aX c)))],[(7,cK Ip n)],[]] (aY λo=>V [[f0 o]] (gG (λi=>[(31,aA i)]) (λ_=>[.front 3 1 a.length,.cells (dY l).cells]) (ax (λg=>gE [(2,bT g)] []) λg=>gE [(2,bF g)] []) λi=>aY λp=>cF λq=>gb m (a++[h.1.toInt]) [[f0 p],[(10,oA lY a ([h.1.toInt]) q)],[(2,oq (bU c rfl j))]] c))))))
def I3(N:Nat)(b:Int):I Int->Nat->Int->U Int
 |[],_,a=>some a
 |c::d,e,a=>bif (decide ((aF (a*c))>b))then some (aF (b+(1:Int)))else(λf=>I3 N b d (e+1) f) (aF (a*c))
def Rq(N:Nat)(a:I Int)(b:Int):U Int:=I3 N b a 0 (1:Int)
def aib{N a e}:KO 63 [O (bH a),Y e] Y (Rq N a e):=
 fw func63 (V [[],[],[(4,oL a fG)]] (gT lY 0 a λg=>fa 1 [] [1,5,8,9,10] 0 (λf(c:Int)=>⟨24,[(1,Y e),(5,Y c),(8,O (bH a)),(9,Y a.length),(10,Y f)],[]⟩) (λf c b h=>gR [[],[f0 (bG b)],[]]) (λf i l c b h j=>V [[],[t0 (bD b)],[(1,oE (gY (aX b)))],[],[]] (aY λk=>gb j (aF (c*i)) [[f0 k],[(2,oq (bU b rfl g))]] b))))
def B4(N:Nat)(c:bo)(d:I aJ)(e:so):U ((I Int)×aM×Int):=(Gl N c e).bind λa=>bif a.2.2 then(I1 N a.2.1 d).bind λb=>bif (b.2 !=0)then some ([],a.1,b.2)else(Rq N b.1 (4096:Int)).bind λf=>bif (decide (f>4096))then some ([],a.1,(15:Int))else some (b.1,a.1,(0:Int))else some ([],a.1,(9:Int))
def Wc{N a b c}:KO 38 [c6 a,O (aS b),dk c] (λr=>.bq [O (bH r.1),bY r.2.1,Y r.2.2]) (B4 N a b c):=
 fw func38 (au λk e=>V [[],[(7,cK T9 e)],[]] (fi λf=>au λl g=>V [[f0 (cx f)],[(7,cK acH g)],[]] (aY λh=>au λm i=>V [[f0 h],[(4,cK aib i)]] (aY λj=>gR [[f0 j],[]]))))
def S8(N:Nat)(a:aL)(b:so):U Bool:=some (bL a.ay==bL b)
def ans{N b a}:KP 85 [abD b,A0] (OY a) aA (λ_=>(OY a)) (S8 N b a):=
 fh 1 func85 (gH [[],[]])
def Cg(N:Nat)(a:so):I aL->Nat->U Int
 |[],_=>some (-1:Int)
 |c::d,b=>(S8 N c a).bind λe=>bif e then some (b:Int)else(Cg N a d (b+1))
def We(N:Nat)(a:I aL)(b:so):U Int:=Cg N b a 0
def asu{N a c}:KP 84 [O (bm a),.fn 85 [A0]] (OY c) Y (λ_=>(OY c)) (We N a c):=
 fh 1 func84 (V [[],[(4,oL a oG)]] (gT sy 0 a λg=>dN 1 [] [0,1,7,8] 1 (λe=>⟨19,[(0,O (bm a)),(1,.fn 85 [A0]),(7,Y a.length),(8,Y e)],OY c⟩) (λe b h=>gH [[],[f0 (bG b)],[]]) (λe i l b h j=>au λm k=>V [[],[t0 (bD b)],[],[(10,oE (pV (aX b))),(16,oQ [abD i,A0] (OY c) [0] (ans _ k))]] (ax (λf=>gH [[t0 f],[]]) λf=>gb j () [[f0 f],[(2,oq (bU b rfl g))]] b))))
def wI(N:Nat)(b:I aL)(c:so):U (bk×Bool):=(We N b c).bind λa=>bif (decide (a<0))then some (jd,false)else bif (decide ((0:Int)<=a))then(b[(a).toNat]?).bind λd=>some (d.xTensor,true)else none
def LO{N a b}:KO 47 [O (bm a),dk b] (λr=>.bq [gF r.1,aA r.2]) (wI N a b):=
 fw func47 (au λc e=>V [[],[(7,oQ [O (bm a),.fn 85 [A0]] [.cells [dk b],.cells NY] [0] (asu _ e))],[]] (aY λf=>cF λg=>au λj h=>gR [[f0 f],[(7,⟨_,_,.el (xs:=bm a) (i:=c) (U0 g) (pV h)⟩)]]))
def wF(N:Nat):I Int->Nat->Int->U Int
 |[],_,_=>some (0:Int)
 |b::c,d,a=>bif (a !=0)then bif (decide (b>(i64.wrap (((4096:Int)).tdiv a))))then some (2:Int)else(λb2_0=>wF N c (d+1) b2_0) (aF (a*b))else none
def yg(N:Nat)(a:I Int):I Int->Nat->U Int
 |[],_=>wF N a 0 (1:Int)
 |v4::b,c=>bif (decide (v4<1))then some (1:Int)else(yg N a b (c+1))
def zZ(N:Nat)(a:I Int):U Int:=bif (decide ((a.length:Int)>6))then some (2:Int)else yg N a a 0
def abo{N a}:KO 161 [O (bH a)] Y (zZ N a):=
 fw func161 (V [[],[(4,oL a fG)]] (aY λi=>V [[f0 i],[(4,oL a fG)]] (gT lY 0 a λj=>dN 1 [] [0,11,12,13] 0 (λg=>⟨34,[(0,O (bH a)),(11,O (bH a)),(12,Y a.length),(13,Y g)],[]⟩) (λg e k=>V [[],[f0 (bG e)],[],[(4,oL a fG)]] (gT lY 0 a λl=>fa 2 [] [5,20,21,22] 0 (λh(c:Int)=>⟨34,[(5,Y c),(20,O (bH a)),(21,Y a.length),(22,Y h)],[]⟩) (λh c f m=>gR [[],[f0 (bG f)],[]]) (λh n u c f m o=>cF λp=>V [[],[t0 (bD f)],[(1,oE (gY (aX f)))],[(7,⟨_,_,.nz (b:=c) (Ue.1 p)⟩)]] (aY λq=>gb o (aF (c*n)) [[f0 q],[],[(2,oq (bU f rfl l))]] f)))) (λg v w e k r=>V [[],[t0 (bD e)],[(1,oE (gY (aX e)))],[]] (aY λt=>gb r () [[f0 t],[(2,oq (bU e rfl j))]] e)))))
def BU(N:Nat):I Int->Nat->Int->U Int
 |[],_,a=>some a
 |b::c,d,a=>(λe=>BU N c (d+1) e) (aF (a*b))
def NU(N:Nat)(a:I Int):U Int:=(zZ N a).bind λb=>bif (b !=0)then some (0:Int)else BU N a 0 (1:Int)
def aqx{N a}:KO 162 [O (bH a)] Y (NU N a):=
 fw func162 (au λl f=>V [[],[(4,cK abo f)]] (aY λg=>V [[f0 g],[],[(4,oL a fG)]] (gT lY 0 a λh=>fa 1 [] [3,9,10,11] 0 (λe(c:Int)=>⟨20,[(3,Y c),(9,O (bH a)),(10,Y a.length),(11,Y e)],[]⟩) (λe c b i=>gR [[],[f0 (bG b)],[]]) (λe j m c b i k=>gb k (aF (c*j)) [[],[t0 (bD b)],[(1,oE (gY (aX b)))],[],[(2,oq (bU b rfl h))]] b))))
def JN(N:Nat)(a:bk):I aB->Nat->U Int
 |[],_=>some (0:Int)
 |b::c,d=>(nM N a.aH b).bind λe=>bif e then(JN N a c (d+1))else some (1:Int)
def Ia(N:Nat)(a:bk):U Int:=(nF N a.aH).bind λb=>bif (b !=0)then some b else(zZ N a.aR).bind λc=>bif (c !=0)then some c else(NU N a.aR).bind λd=>bif ((a.eD.length:Int) !=d)then some (1:Int)else JN N a a.eD 0
abbrev QP:=λa=>([.cells (gF a).cells]:List ar)
def afT{N a}:KO 97 [gF a] Y (Ia N a):=
 fw func97 (au λp e=>V [[],[(7,cK qz e)],[]] (aY λf=>au λq g=>V [[f0 f],[(7,cK abo g)],[]] (aY λh=>au λr i=>V [[f0 h],[(7,oL a.eD jC),(16,cK aqx i)]] (aY λj=>V [[f0 j],[(7,oL a.eD jC)]] (gT tq 27 a.eD λk=>dN 1 [] [1,27,28,29] 1 (λc=>⟨39,[(1,A0),(27,O (eC a.eD)),(28,Y a.eD.length),(29,Y c)],QP a⟩) (λc b l=>gR [[],[f0 (bG b)],[]]) (λc t u b l m=>au λv n=>V [[],[t0 (bD b)],[(1,oE (mh (aX b)))],[(10,cK wO n)]] (fi λo=>gb m () [[f0 (cx o)],[(2,oq (bU b rfl k))]] b)))))))
def PQ(N:Nat)(a:I Int):I Int->Nat->U Bool
 |[],_=>some true
 |c::d,b=>(a[((b:Int)).toNat]?).bind λe=>bif (c !=e)then some false else(PQ N a d (b+1))
def Ot(N:Nat)(a:I Int)(b:I Int):U Bool:=bif ((a.length:Int) !=(b.length:Int))then some false else PQ N b a 0
def akJ{N a c}:KO 196 [O (bH a),O (bH c)] aA (Ot N a c):=
 fw func196 (V [[],[(4,oL a fG),(10,oL c fG)]] (aY λf=>V [[f0 f],[(4,oL a fG)]] (gT lY 0 a λg=>dN 1 [] [0,1,12,13] 0 (λe=>⟨26,[(0,O (bH a)),(1,O (bH c)),(12,Y a.length),(13,Y e)],[]⟩) (λe b h=>gR [[],[f0 (bG b)],[]]) (λe l m b h i=>au λn j=>V [[],[t0 (bD b)],[],[(7,oE (gY (aX b))),(19,oE (gY j))]] (aY λk=>gb i () [[f0 k],[(2,oq (bU b rfl g))]] b)))))
def HF(N:Nat)(c:I aL)(d:so)(b:aM)(e:I Int):U Int:=(wI N c d).bind λa=>bif a.2 then(Ia N a.1).bind λf=>bif (f !=0)then some (1:Int)else bif ((a.1.aH.bB==b.bB)&&((a.1.aH.bW==b.bW)&&((a.1.aH.ck==b.ck)&&((a.1.aH.ct==b.ct)&&((a.1.aH.cC==b.cC)&&true)))))then(Ot N a.1.aR e).bind λg=>bif g then some (0:Int)else some (15:Int)else some (10:Int)else some (9:Int)
def acF{N a b c e}:KO 112 [O (bm a),dk b,bY c,O (bH e)] Y (HF N a b c e):=
 fw func112 (au λl f=>V [[],[(7,cK LO f)],[]] (fi λg=>au λm h=>V [[f0 (cx g)],[(4,cK afT h)]] (eY λ_=>fi λi=>au λn j=>V [[f0 (cx i)],[(10,cK akJ j)]] (nb λk=>gR [[t0 (dq k)],[]]))))
def Q0(N:Nat)(a:I Int):U (I Int):=bif Nat.ble (a.length*8) 140737488355328 then some a else none
def amB{N a r}(J:Q0 N a=some r):AFn prog 64 [O (bH a)] (·=(O (bH r))):=by
 obtain⟨c,rfl⟩:=ff J;have b:=mB c (by decide);exact ahQ GY (by rw[fG];exact b.1) (by rw[fG];exact b.2)
def Wj(N:Nat)(a:I aB):U (I aB):=bif Nat.ble (a.length*16) 140737488355328 then some a else none
def ail{N a r}(J:Wj N a=some r):AFn prog 86 [O (eC a)] (·=(O (eC r))):=by
 obtain⟨c,rfl⟩:=ff J;have b:=mB c (by decide);exact as6 TR (by rw[jC];exact b.1) (by rw[jC];exact b.2)
def Jg(N:Nat)(a:bk):U bk:=(Q0 N a.aR).bind λb=>(Wj N a.eD).bind λc=>some (⟨a.aH,b,c⟩:bk)
def aui{N a}:KO 48 [gF a] gF (Jg N a):=
 fw func48 (V [[]] (au λb c=>au λe f=>li (λ_=>(Lr 1 bC [] [.cells (gF a).cells,.cells [Y a.aH.bB,Y a.aH.bW,Y a.aH.ck,Y a.aH.ct,Y a.aH.cC,O (bH b),O (eC e)]] ⟨[(13,cL (amB c)),(22,cL (ail f))],by kernel_rfl⟩ ·)) (gR [])))
def Ca(N:Nat)(f:I aL)(d:eX)(e:I aL)(g:(I aL)->U ((I aL)×Int))(a:Int):U ((I aL)×Int):=bif (a !=0)then some ([],a)else(wI N f d.ay).bind λb=>(Jg N b.1).bind λc=>bif (Nat.ble ((e.length+1)*104) 140737488355328)then g (e++[(⟨d.ay,c⟩:aL)])else none
def tF(N:Nat)(d:bo)(e:I aJ)(a:I aL):I eX->Nat->(I aL)->U ((I aL)×Int)
 |[],_,b=>some (b,(0:Int))
 |v6::g,h,b=>(B4 N d e v6.ay).bind λc=>bif (c.2.2==0)then(HF N a v6.ay c.2.1 c.1).bind λi=>Ca N a v6 b (λf=>tF N d e a g (h+1) f) i else Ca N a v6 b (λf=>tF N d e a g (h+1) f) c.2.2
def Lb(N:Nat)(a:bo)(b:I aJ)(c:I aL):U ((I aL)×Int):=tF N a b c a.bn 0 []
def xb(a:bo)(b:I aL)(c:eX)(d:(I Int)×aM×Int)(l:I ar):I ar:= .cells (c6 a).cells:: .front 56 8 b.length:: .cells (pE c).cells:: .cells (bY d.2.1).cells::l
def CF(a:bo)(b:I aL)(l:I ar):I ar:= .cells (c6 a).cells:: .front 56 8 b.length::l
def GU(a:bo)(l:I ar):I ar:= .cells (c6 a).cells::l
def ahC{N a m k r}(J:Lb N a m k=some r):KH 82 [c6 a,O (aS m),O (bm k)] [] (.bq [.own 0 (bm r.1),Y r.2]) ([.front 56 8 r.1.length]):=by
 rw[Lb]at J;refine Jp 1 func82 rfl (by kernel_rfl) (Zi rfl) ?_;refine nh (s':=⟨60,[(0,c6 a),(1,O (aS m)),(2,O (bm k))],[]⟩) (by kernel_rfl) ?_;refine aw (Cy [] [(3,A0)] (GU a []) ?_);refine aw (Cy [] [(8,.d (.v (.slice none 0 0)))] (GU a []) ?_);refine aw (aw ?_);refine Cy [(7,oL a.bn k9)] [(17,O (lB a.bn)),(18,Y a.bn.length),(19,Y 0)] (GU a []) ?_;refine dL ?_;refine Nr 8 56 8 [] (.inr ⟨rfl,rfl⟩) ?_;refine Aq 17 (lB a.bn) (by kernel_rfl) λz=> ?_;have A:=tv k9 z;refine SI [1,2,3,8,17,18,19] 2 (λ((h,n,b):Nat×(I eX)×(I aL))=>⟨60,[(1,O (aS m)),(2,O (bm k)),(3,A0),(8,.own 1 (bm b)),(17,O (lB a.bn)),(18,Y a.bn.length),(19,Y h)],CF a b []⟩) (λ((h,n,b):Nat×(I eX)×(I aL))=>a.bn.drop h=n/\tF N a m k n h b=some r) (λ((h,n,b):Nat×(I eX)×(I aL))=>n.length) (0,a.bn,[]) (Zi rfl) (by kernel_rfl) ⟨rfl,J⟩ ?_;rintro⟨h,n,b⟩ ⟨o,J⟩;cases n with
 |nil=>
  rw[tF]at J;refine aw (Cy [] [(20,(aA (decide ((h:Int)<(a.bn.length:Int)))))] (CF a b []) ?_);refine aw (AO (t:=(decide ((h:Int)<(a.bn.length:Int)))) (bG o) ?_);refine ma (iE (iE (m7 rfl ?_)));refine aW ?_;refine aw (Cy [] [(6,.own 1 (bm b)),(7,Y 0)] (CF a b []) ?_);refine gr [6,7] 2 (Zi rfl) (s':=⟨60,[(6,.own 1 (bm b)),(7,Y 0)],CF a b []⟩) (by kernel_rfl) ?_;refine acM (aav (i:=1) (j:=0) (Zi rfl) (Zi rfl) (Zi rfl) (Zi rfl)) ?_;refine nh (s':=⟨60,[(6,.own 0 (bm b)),(7,Y 0)],[.front 56 8 b.length,.cells (c6 a).cells]⟩) (by kernel_rfl) ?_;refine gr [6,7] 1 (Zi rfl) (s':=⟨60,[(6,.own 0 (bm b)),(7,Y 0)],[.front 56 8 b.length]⟩) (by kernel_rfl) ?_;refine dm ?_;have u:=Zw J;subst u;exact xp (fE trivial jP) (by kernel_rfl)
 |cons f x=>
  rw[tF]at J;refine aw (Cy [] [(20,(aA (decide ((h:Int)<(a.bn.length:Int)))))] (CF a b []) ?_);refine aw (Bo (t:=(decide ((h:Int)<(a.bn.length:Int)))) (bD o) ?_);refine cN ?_;refine aW ?_;refine aw (dL ?_);refine aw (Cy [(1,oE (oD (aX o)))] [(10,CL)] (CF a b [.cells (pE f).cells]) ?_);refine aw ?_;obtain⟨g,B,J⟩:=bz J;refine Cy [(13,cK Wc B)] [(12,Aj),(11,O (bH g.1)),(13,Y g.2.2)] (xb a b f g []) ?_;refine aw (aw ?_);refine Cy [] [(33,(aA (g.2.2==0)))] (xb a b f g []) ?_;refine qW [1,2,3,8,10,13,17,18,19] 4 (λ(e:Int)=>⟨60,[(1,O (aS m)),(2,O (bm k)),(3,A0),(8,.own 1 (bm b)),(10,CL),(13,Y e),(17,O (lB a.bn)),(18,Y a.bn.length),(19,Y h)],xb a b f g []⟩) (λ(e:Int)=>Ca N k f b (λC=>tF N a m k x (h+1) C) e=some r) (Zi rfl) ?_ ?_
  ·rcases eo (g.2.2==0)with p|p
   ·replace J:=(dh p).symm.trans J;refine Bo (t:=(g.2.2==0)) p ?_;obtain⟨w,E,J⟩:=bz J;refine Cm [(16,cK acF E)] [(13,Y w),(39,Y w),(38,O (bH g.1)),(37,bY g.2.1),(36,dk f.ay),(35,CL),(34,O (bm k))] (xb a b f g []) ?_;refine aW ?_;exact⟨w,by kernel_rfl,J⟩
   replace J:=(ep p).symm.trans J;refine AO (t:=(g.2.2==0)) p ?_;refine cN ?_;refine aW ?_;exact⟨g.2.2,by kernel_rfl,J⟩
  rintro e J
  try dsimp only at J
  rw[Ca]at J;refine aw (aw ?_);refine Cy [] [(41,(aA (e !=0)))] (xb a b f g []) ?_;rcases eo (e !=0)with q|q
  ·replace J:=(dh q).symm.trans J;refine Bo (t:=(e !=0)) q ?_;refine aw (Cy [] [(6,.d (.v (.slice none 0 0))),(7,Y e)] (xb a b f g []) ?_);refine Nr 6 56 8 [] (.inr ⟨rfl,rfl⟩) ?_;refine gr [6,7] 5 (Zi rfl) (s':=⟨60,[(6,.own 4 (bm [])),(7,Y e)],xb a b f g [.front 56 8 0]⟩) (by kernel_rfl) ?_;refine acM (aav (i:=4) (j:=0) (Zi rfl) (Zi rfl) (Zi rfl) (Zi rfl)) ?_;refine nh (s':=⟨60,[(6,.own 0 (bm [])),(7,Y e)],[.front 56 8 0,.front 56 8 b.length,.cells (pE f).cells,.cells (bY g.2.1).cells,.cells (c6 a).cells]⟩) (by kernel_rfl) ?_;refine gr [6,7] 1 (Zi rfl) (s':=⟨60,[(6,.own 0 (bm [])),(7,Y e)],[.front 56 8 0]⟩) (by kernel_rfl) ?_;refine dm (dn (eQ (dn (dn (eQ (dn ?_))))));have u:=Zw J;subst u;exact xp (fE trivial jP) (by kernel_rfl)
  replace J:=(ep q).symm.trans J;refine AO (t:=(e !=0)) q ?_;refine cN ?_;refine aW ?_;refine aw ?_;obtain⟨l,F,J⟩:=bz J;refine Cy [(10,cK LO F)] [(14,AD)] (xb a b f g (QP l.1)) ?_;obtain⟨c,G,J⟩:=bz J;have y:=j0 J;replace J:=(dh y).symm.trans J;refine ZL bC (by kernel_rfl) [(13,cK aui G),(22,oA sy b ([(⟨f.ay,c⟩:aL)]) y)] [(8,.own 1 (bm (b++[(⟨f.ay,c⟩:aL)]))),(57,.own 1 (bm (b++[(⟨f.ay,c⟩:aL)]))),(56,.full (bm [(⟨f.ay,c⟩:aL)])),(55,.agg [dk f.ay,Y c.aH.bB,Y c.aH.bW,Y c.aH.ck,Y c.aH.ct,Y c.aH.cC,O (bH c.aR),O (eC c.eD)]),(54,gF c),(53,gF l.1),(52,dk f.ay),(51,CL),(50,.own 1 (bm b))] (GU a [.front 56 8 (b++[(⟨f.ay,c⟩:aL)]).length,.cells (pE f).cells,.cells (bY g.2.1).cells,.cells (gF l.1).cells]) (by kernel_rfl) ?_;refine eV ?_;refine aW ?_;refine Cm [(2,oq (bU o rfl A))] [(19,Y ((h+1:Nat):Int)),(58,Y ((h+1:Nat):Int))] (GU a [.front 56 8 (b++[(⟨f.ay,c⟩:aL)]).length,.cells (pE f).cells,.cells (bY g.2.1).cells,.cells (gF l.1).cells]) ?_
  refine aW ?_;exact⟨(h+1,x,b++[(⟨f.ay,c⟩:aL)]),by kernel_rfl,⟨kM o,J⟩,Z0 _⟩
def IJ(N:Nat):I dH->Nat->(I bE)->U (I bE)
 |[],_,a=>some a
 |v4::b,c,a=>bif (Nat.ble ((a.length+1)*32) 140737488355328)then(λd=>IJ N b (c+1) d) (a++[v4.eu])else none
def UT(N:Nat)(a:I dH):U (I bE):=IJ N a 0 []
def ait{N a}:KO 62 [O (gZ a)] (λr=>.d (.sl (fz r))) (UT N a):=
 fw func62 (V [[],[],[(4,oL a gv)]] (li (λ_=>(lQ 3 48 2 [] (.inr (by kernel_rfl)) ·)) (gT nJ 0 a λg=>fa 1 [] [3,6,7,8] 1 (λe(b:I bE)=>⟨19,[(3,.own 0 (fz b)),(6,O (gZ a)),(7,Y a.length),(8,Y e)],[.front 48 2 b.length]⟩) (λe b c h=>gR [[],[f0 (bG c)],[]]) (λe f k b c h i=>cF λj=>gb i (b++[f.eu]) [[],[t0 (bD c)],[(1,oE (mW (aX c)))],[(13,oA mZ b ([f.eu]) j)],[(2,oq (bU c rfl g))]] c))))
def QM(N:Nat)(a:I Int):U (I Int):=bif Nat.ble (a.length*8) 140737488355328 then some a else none
def auh{N a r}(J:QM N a=some r):dt prog 64 [O (bH a)] [] λc h1=>c=(.vec 0 0 r.length r.length 1)/\h1=[.vec 3 1 (cg (r.map fk))]:=by
 obtain⟨e,rfl⟩:=ff J;have b:=mB e (by decide);have h1:=apV (xs:=bH a) GY (by rw[fG];exact b.1) (by rw[fG];exact b.2);have f:cg (a.map fk)=cg (bH a):=by rw[pk]
 have g:=fG (l:=a);rw[g]at h1;rw[f];exact h1
def wE(N:Nat)(d:Nat)(e:I Int)(b:Int):Nat->Int->Int->U Int
 |0,_,_=>none
 |v4+1,c,a=>bif (decide (a<(d:Int)))then bif (decide ((0:Int)<=a))then(e[(a).toNat]?).bind λf=>bif (decide ((aF (c*f))>b))then some (aF (b+(1:Int)))else(λg h=>wE N d e b v4 g h) (aF (c*f)) (aF (a+(1:Int)))else none else some c
def FM(N:Nat)(a:Nat)(c:Int)(b:I Int):U Int:=bif (Nat.beq b.length a)then wE N a b c N (1:Int) (0:Int)else none
def qB(a:I Int)(l:I ar):I ar:= .vec 3 1 (cg (a.map fk))::l
def acr{N b g a r}(J:FM N b g a=some r):KH 63 [.vec 0 0 b b 1,Y g] ([.vec 3 1 (cg (a.map fk))]) (Y r) ([.vec 3 1 (cg (a.map fk))]):=by
 rw[FM]at J;refine Jp 1 func63 rfl (by kernel_rfl) (Zi rfl) ?_;refine nh (s':=⟨24,[(0,.vec 0 0 b b 1),(1,Y g)],qB a []⟩) (by kernel_rfl) ?_;refine aw (Cy [] [] (qB a []) ?_);refine aw (Cy [] [(5,Y 1)] (qB a []) ?_);refine aw (aw ?_);have l:=j0 J;replace J:=(dh l).symm.trans J;refine Cy [(4,⟨_,_,.pr .no (yk (f:=fk) (Yw l))⟩)] [(8,.vec 0 0 b b 1),(9,Y b),(10,Y 0)] (qB a []) ?_;refine dL ?_;refine Kr [1,5,8,9,10] 1 [] [] (λ((h,e,c):Nat×Int×Int)=>⟨24,[(1,Y g),(5,Y e),(8,.vec 0 0 b b 1),(9,Y b),(10,Y c)],qB a []⟩) (λ((h,e,c):Nat×Int×Int)=>wE N b a g h e c=some r) (λ((h,e,c):Nat×Int×Int)=>h) (N,(1:Int),(0:Int)) (Zi rfl) ⟨(lW (xs:=(a.map fk)) jP),by kernel_rfl⟩ J ?_;rintro⟨h,e,c⟩ J
 try dsimp only at J
 cases h with
 |zero=>
  rw[wE]at J;cases J
 |succ h=>
  rw[wE]at J;refine aw (Cy [] [(11,(aA (decide (c<(b:Int)))))] (qB a []) ?_);refine aw ?_;rcases eo (decide (c<(b:Int)))with j|j
  ·replace J:=(dh j).symm.trans J;refine Bo (t:=(decide (c<(b:Int)))) j ?_;refine cN ?_;refine aW ?_;refine aw (dL ?_);refine aw ?_;have n:=j0 J;replace J:=(dh n).symm.trans J;obtain⟨i,o,J⟩:=bz J;refine Cy [(1,⟨_,_,.pr (.ix ((c).toNat)) (TT (yk (f:=fk) (Yw l)) (U0 n) (U0 j) rfl)⟩),(4,⟨_,_,.pr (.el ((fk i).map AV.d)) (ark (f:=fk) (Yw l) o)⟩)] [(7,Y i)] (qB a []) ?_;refine aw (Cy [] [(5,Y (aF (e*i)))] (qB a []) ?_);refine aw (Cy [] [(19,(aA (decide ((aF (e*i))>g))))] (qB a []) ?_);rcases eo (decide ((aF (e*i))>g))with k|k
   ·replace J:=(dh k).symm.trans J;refine Bo (t:=(decide ((aF (e*i))>g))) k ?_;refine aw (Cy [] [(4,Y (aF (g+(1:Int))))] (qB a []) ?_);refine dm (eQ (dn (dn (eQ (dn ?_)))));have m:=Zw J;subst m;exact xp (lW (xs:=(a.map fk)) jP) (by kernel_rfl)
   replace J:=(ep k).symm.trans J;refine AO (t:=(decide ((aF (e*i))>g))) k ?_;refine cN ?_;refine eV ?_;refine aW ?_;refine Cm [] [(10,Y (aF (c+(1:Int)))),(22,Y (aF (c+(1:Int))))] (qB a []) ?_;refine aW ?_;exact⟨(h,aF (e*i),aF (c+(1:Int))),⟨(lW (xs:=(a.map fk)) jP),by kernel_rfl⟩,J,Z0 _⟩
  replace J:=(ep j).symm.trans J;refine AO (t:=(decide (c<(b:Int)))) j ?_;refine ma (iE (iE (m7 rfl ?_)));refine aW ?_;refine aw (Cy [] [(4,Y e)] (qB a []) ?_);refine dm ?_;have m:=Zw J;subst m;exact xp (lW (xs:=(a.map fk)) jP) (by kernel_rfl)
def cf:aB:=⟨(0:Int64),(0:Int64)⟩
def DB:fP:=⟨cf,dZ⟩
def eB:I AV:=[bx 0,bx 0,Y 0,Y 0,Y 0,Y 0,Y 0]
def gg:I AV:=[bx 0,bx 0]
def Tn(N:Nat)(a:I so)(b:Nat):U (I so):=bif Nat.beq a.length b&&Nat.blt b 4611686018427387904 then some (jF a)else none
def apg{N c a r}(J:Tn N c a=some r):dt prog 195 [.vec 0 0 a a 1] [.vec 9 1 (cg (c.map jf))] λe h1=>e=(O (cD r))/\h1=[.gone]:=by
 obtain⟨b,rfl⟩:=ff J;rw[Zr]at b;exact aqR (Yw b.1) (Zi b.2)
def vu(N:Nat)(e:Nat->(I so)->U (I so)):I c8->Nat->Nat->(I so)->U (I so)
 |[],_,a,b=>e a b
 |c::h,d,a,b=>bif (bL c.de==bL (bs []))then(λf g=>vu N e h (d+1) f g) a b else bif (Nat.beq b.length a)then bif (Nat.ble ((a+1)*16) 140737488355328)then(λf g=>vu N e h (d+1) f g) (a+1) (b++[c.de])else none else none
def C3(N:Nat)(a:Nat->(I so)->U (I so))(b:az)(c:Nat)(d:I so):U (I so):=vu N a b.xIdx 0 c d
def oW(N:Nat):I az->Nat->(I so)->U (I so)
 |[],a,b=>(Tn N b a).bind λg=>some g
 |c::f,a,b=>bif (c.aD==3)then bif (Nat.beq b.length a)then bif (Nat.ble ((a+1)*16) 140737488355328)then C3 N (λd e=>oW N f d e) c (a+1) (b++[c.ay])else none else none else C3 N (λd e=>oW N f d e) c a b
def HU(N:Nat)(a:az):U (I so):=(Be N a).bind λb=>oW N (dQ b) 0 []
def qh(b:az)(a:Nat)(c:I so)(d:Code)(e:Code)(f:az)(g:az)(l:I ar):I ar:= .cells (aK b).cells:: .cells [.vec 2 0 a a 1]:: .vec 9 1 (cg (c.map jf)):: .lp .busy 9 d e (dV 36 [(3,Ac),(8,.fn 149 [.bM [fv f] 0 0])]):: .cells (aK g).cells::l
def DE(b:az)(a:Nat)(c:I so)(l:I ar):I ar:= .cells (aK b).cells:: .cells [.vec 2 0 a a 1]:: .vec 9 1 (cg (c.map jf))::l
def aef(c:az)(b:Nat)(d:I so)(a:c8)(e:Code)(f:Code)(g:az)(h:az)(l:I ar):I ar:= .cells (aK c).cells:: .cells [.vec 2 0 (b+1) (b+1) 1]:: .vec 9 1 (cg ((d++[a.de]).map jf)):: .lp .busy 9 e f (dV 36 [(3,Ac),(8,.fn 149 [.bM [fv g] 0 0])]):: .cells (aK h).cells:: .cells (ij a).cells::l
def AB(a:az)(l:I ar):I ar:= .cells (aK a).cells::l
def akg{N g r}(J:HU N g=some r):KF 111 [aK g] (O (cD r)):=by
 rw[HU]at J;refine mU func111 rfl (by kernel_rfl) ?_;refine gr [0] 0 (Zv _) (s':=⟨36,[(0,aK g)],[]⟩) (by kernel_rfl) ?_;refine aw (Cy [] [(1,A0)] (AB g []) ?_);refine aw (Cy [] [(3,Ac)] (AB g [.cells [.d (.v (.slice none 0 0))]]) ?_);refine aw (aw ?_);obtain⟨o,S,J⟩:=bz J;refine Cy [(4,cL (VF S))] [(8,.fn 149 [.bM [fv o] 0 0])] (AB g [.cells [.d (.v (.slice none 0 0))]]) ?_;refine dL ?_;refine anf 1 0 9 1 rfl rfl ?_;refine Kf [3,8] 3 [] [] (Zi rfl) (s':=⟨36,[(3,Ac),(8,.fn 149 [.bM [fv o] 0 0])],AB g [.cells [.vec 2 0 0 0 1],.vec 9 1 (cg (([]:I so).map jf))]⟩) ⟨(fE trivial (fE trivial (lW (xs:=(([]:I so).map jf)) jP))),by kernel_rfl⟩ ?_;refine Ak (m:=3) (enc:=aK) (xs:=(dQ o)) (by kernel_rfl) (Wy o) (λ((i,j):Nat×(I so))=>(DE g i j [])) (λ((i,j):Nat×(I so)) l=>oW N l i j=some r) (0,[]) (by kernel_rfl) J (by rintro⟨i,j⟩;rfl) (by rintro⟨i,j⟩;exact(BF (by kernel_rfl) (BF (by kernel_rfl) (BF aa0 Ex)))) (by kernel_rfl) rfl ?_ ?_
 ·rintro⟨i,j⟩ a L J h2 q u
  try dsimp only at J
  rw[oW]at J;refine Kf [3,9] 4 [] [] (Zv _) (s':=⟨36,[(3,Ac),(9,aK a)],DE g i j [.lp .ready 9 q u (dV 36 [(3,Ac),(8,.fn 149 [.bM [fv o] 0 0])])]⟩) ⟨(fE trivial (fE trivial (lW (xs:=(j.map jf)) (fE trivial jP)))),by kernel_rfl⟩ ?_;refine Cm [] [(4,AD)] (DE g i j [.lp .ready 9 q u (dV 36 [(3,Ac),(8,.fn 149 [.bM [fv o] 0 0])]),.cells (aK a).cells]) ?_;refine aW ?_;refine⟨DE g i j [],AB a [],rfl,(by kernel_rfl),?_⟩;refine Kf [3,4] 5 [] [] (Zi rfl) (s':=⟨36,[(3,Ac),(4,AD)],qh g i j q u o a []⟩) ⟨(fE trivial (fE trivial (lW (xs:=(j.map jf)) (fE trivial (fE trivial jP))))),by kernel_rfl⟩ ?_;refine dL ?_;refine aw (aw ?_);refine Cy [] [(12,(aA (a.aD==3)))] (qh g i j q u o a []) ?_;refine WZ [3,4] 5 [] [] (λ((A,x):Nat×(I so))=>⟨36,[(3,Ac),(4,AD)],qh g A x q u o a []⟩) (λ((A,x):Nat×(I so))=>C3 N (λE F=>oW N L E F) a A x=some r) (Zi rfl) ?_ ?_
  ·rcases eo (a.aD==3)with B|B
   ·replace J:=(dh B).symm.trans J;refine Bo (t:=(a.aD==3)) B ?_;have M:=j0 J;replace J:=(dh M).symm.trans J;have G:=j0 J;replace J:=(dh G).symm.trans J;refine Cm [(13,⟨_,_,.pr (.ap (cg ((j++[a.ay]).map jf)) (cg (([a.ay]).map jf)) (i+1) (i+1)) (GA (f:=jf) (h:=(qh g i j q u o a [])) (y:=(.full (cD [a.ay]))) (k:=1) (Yw M) rfl (λc H=>sS c (by rw[mY];exact H)) rfl rfl (mB G (by decide)).1 (mB G (by decide)).2)⟩)] [(17,.vec 2 0 (i+1) (i+1) 1),(16,.full (cD [a.ay])),(15,dk a.ay),(14,.ptr 4 1),(13,.vec 2 0 i i 1)] (AB g [.cells [.vec 2 0 (i+1) (i+1) 1],.vec 9 1 (cg ((j++[a.ay]).map jf)),.lp .busy 9 q u (dV 36 [(3,Ac),(8,.fn 149 [.bM [fv o] 0 0])]),.cells (aK a).cells]) ?_;refine aW ?_;exact⟨(i+1,j++[a.ay]),⟨(fE trivial (fE trivial (lW (xs:=((j++[a.ay]).map jf)) (fE trivial (fE trivial jP))))),by kernel_rfl⟩,J⟩
   replace J:=(ep B).symm.trans J;refine AO (t:=(a.aD==3)) B ?_;refine cN ?_;refine aW ?_;exact⟨(i,j),⟨(fE trivial (fE trivial (lW (xs:=(j.map jf)) (fE trivial (fE trivial jP))))),by kernel_rfl⟩,J⟩
  rintro⟨A,x⟩ J
  try dsimp only at J
  rw[C3]at J;refine aw (Cy [(7,oL a.xIdx gq)] [(19,O (fc a.xIdx)),(20,Y a.xIdx.length),(21,Y 0)] (qh g A x q u o a []) ?_);refine dL ?_;refine Aq 19 (fc a.xIdx) (by kernel_rfl) λT=> ?_;have P:=tv gq T;refine Kr [3,19,20,21] 5 [] [] (λ((e,w,n,p):Nat×(I c8)×Nat×(I so))=>⟨36,[(3,Ac),(19,O (fc a.xIdx)),(20,Y a.xIdx.length),(21,Y e)],qh g n p q u o a []⟩) (λ((e,w,n,p):Nat×(I c8)×Nat×(I so))=>a.xIdx.drop e=w/\vu N (λE F=>oW N L E F) w e n p=some r) (λ((e,w,n,p):Nat×(I c8)×Nat×(I so))=>w.length) (0,a.xIdx,A,x) (Zi rfl) ⟨(fE trivial (fE trivial (lW (xs:=(x.map jf)) (fE trivial (fE trivial jP))))),by kernel_rfl⟩ ⟨rfl,J⟩ ?_;rintro⟨e,w,n,p⟩ ⟨z,J⟩;cases w with
  |nil=>
   rw[vu]at J;refine aw (Cy [] [(22,(aA (decide ((e:Int)<(a.xIdx.length:Int)))))] (qh g n p q u o a []) ?_);refine aw (AO (t:=(decide ((e:Int)<(a.xIdx.length:Int)))) (bG z) ?_);refine ma (iE (iE (m7 rfl ?_)));refine eV ?_;refine alL (DE g n p []) rfl (BF (by kernel_rfl) (BF (by kernel_rfl) (BF aa0 Ex))) ⟨(fE trivial (fE trivial (lW (xs:=(p.map jf)) (fE trivial jP)))),by kernel_rfl⟩ ?_;exact⟨(n,p),(by kernel_rfl),J⟩
  |cons b Q=>
   rw[vu]at J;refine aw (Cy [] [(22,(aA (decide ((e:Int)<(a.xIdx.length:Int)))))] (qh g n p q u o a []) ?_);refine aw (Bo (t:=(decide ((e:Int)<(a.xIdx.length:Int)))) (bD z) ?_);refine cN ?_;refine aW ?_;refine aw (dL ?_);refine aw (Cy [(1,oE (jk (aX z)))] [(6,DM)] (qh g n p q u o a (RB b)) ?_);refine aw (Cy [] [(27,(aA (!(bL b.de==bL (bs [])))))] (qh g n p q u o a (RB b)) ?_);rcases eo (bL b.de==bL (bs []))with C|C
   ·replace J:=(dh C).symm.trans J;refine AO (t:=(!(bL b.de==bL (bs [])))) (cx C) ?_;refine cN ?_;refine eV ?_;refine aW ?_;refine Cm [(2,oq (bU z rfl P))] [(21,Y ((e+1:Nat):Int)),(33,Y ((e+1:Nat):Int))] (qh g n p q u o a (RB b)) ?_;refine aW ?_;exact⟨(e+1,Q,n,p),⟨(fE trivial (fE trivial (lW (xs:=(p.map jf)) (fE trivial (fE trivial jP))))),by kernel_rfl⟩,⟨kM z,J⟩,Z0 _⟩
   replace J:=(ep C).symm.trans J;refine Bo (t:=(!(bL b.de==bL (bs [])))) (dq C) ?_;have R:=j0 J;replace J:=(dh R).symm.trans J;have K:=j0 J;replace J:=(dh K).symm.trans J;refine Cm [(13,⟨_,_,.pr (.ap (cg ((p++[b.de]).map jf)) (cg (([b.de]).map jf)) (n+1) (n+1)) (GA (f:=jf) (h:=(qh g n p q u o a (RB b))) (y:=(.full (cD [b.de]))) (k:=1) (Yw R) rfl (λc H=>sS c (by rw[mY];exact H)) rfl rfl (mB K (by decide)).1 (mB K (by decide)).2)⟩)] [(32,.vec 2 0 (n+1) (n+1) 1),(31,.full (cD [b.de])),(30,dk b.de),(29,.ptr 5 2),(28,.vec 2 0 n n 1)] (aef g n p b q u o a []) ?_;refine eV ?_;refine aW ?_;refine Cm [(2,oq (bU z rfl P))] [(21,Y ((e+1:Nat):Int)),(33,Y ((e+1:Nat):Int))] (aef g n p b q u o a []) ?_;refine aW ?_;exact⟨(e+1,Q,n+1,p++[b.de]),⟨(fE trivial (fE trivial (lW (xs:=((p++[b.de]).map jf)) (fE trivial (fE trivial jP))))),by kernel_rfl⟩,⟨kM z,J⟩,Z0 _⟩
 rintro⟨i,j⟩ J
 try dsimp only at J
 rw[oW]at J;refine eV ?_;refine aW ?_;refine aw ?_;obtain⟨W,h3,J⟩:=bz J;refine Cy [(4,⟨_,_,.Tg (yJ (xs:=(j.map jf)) dJ) (aq1 dJ) (nW:=[.vec 2 0 i i 1]) (h:=(DE g i j [.gone])) (l:=[2]) (by kernel_rfl) (by kernel_rfl) (by kernel_rfl) (by kernel_rfl) (apg h3)⟩)] [(2,O (cD W))] (AB g [.cells [.vec 2 0 i i 1],.gone,.gone]) ?_;refine dm ?_;have hr:=Zw J;subst hr;exact fI (by kernel_rfl)
def NK(N:Nat)(c:bo)(d:I aJ)(e:I aL):I so->Nat->U Int
 |[],_=>some (0:Int)
 |f::g,h=>(B4 N c d f).bind λa=>bif (a.2.2 !=0)then some a.2.2 else(HF N e f a.2.1 a.1).bind λb=>bif (b !=0)then some b else(NK N c d e g (h+1))
def ND(N:Nat)(a:bo)(b:I aJ)(c:I aL)(d:az):U Int:=(HU N d).bind λe=>NK N a b c e 0
def amV{N c e f g}:KO 65 [c6 c,O (aS e),O (bm f),aK g] Y (ND N c e f g):=
 fw func65 (au λb i=>V [[],[(4,cL (akg i)),(7,oL b ft)]] (gT iy 16 b λj=>dN 1 [] [1,2,4,16,17,18] 2 (λh=>⟨42,[(1,O (aS e)),(2,O (bm f)),(4,A0),(16,O (cD b)),(17,Y b.length),(18,Y h)],[.cells (c6 c).cells,.cells (aK g).cells]⟩) (λh a k=>gR [[],[f0 (bG a)],[]]) (λh t u a k l=>au λm n=>V [[],[t0 (bD a)],[(1,oE (kp (aX a)))],[(10,cK Wc n)],[]] (aY λo=>au λp q=>V [[f0 o],[(13,cK acF q)],[]] (aY λr=>gb l () [[f0 r],[(2,oq (bU a rfl j))]] a)))))
def Hf(N:Nat)(a:I aL):U ((I aL)×(I (so×bk))):=some (a,[])
def aug(a:I aL)(l:I ar):I ar:= .cells [O (bm a)]:: .map (cz cA []):: .cells [.mp 1]::l
def A5(N:Nat)(a:I aL)(r:(I aL)×(I (so×bk)))(J:Hf N a=some r):KH 54 [O (bm a)] [] (.fn 96 [CL,A0]) ([.cells [O (bm r.1)],.map (cz cA r.2),.cells [.mp 1]]):=by
 rw[Hf]at J;refine Jp 3 func54 rfl (by kernel_rfl) (Zi rfl) ?_;refine nh (s':=⟨6,[(0,O (bm a))],[]⟩) (by kernel_rfl) ?_;refine aw (Cy [] [(1,A0)] [.cells [O (bm a)]] ?_);refine aw (Cy [] [(3,CL)] (aug a []) ?_);refine aw (Cy [] [(2,.fn 96 [CL,A0])] (aug a []) ?_);refine dm ?_;have b:=Zw J;subst b;exact xp (fE trivial (fE trivial (fE trivial jP))) (by kernel_rfl)
def DD(N:Nat)(a:I Int):U (I Int):=bif (Nat.ble ((0+a.length)*8) 140737488355328)then some a else none
def RW(a:I Int)(l:I ar):I ar:= .cells [.own 1 (bH a)]:: .front 3 1 a.length::l
def auf{N a r}(J:DD N a=some r):KH 66 [O (bH a)] [] (.fn 113 [.bM [[.sl (bH r)]] 0 0]) []:=by
 rw[DD]at J;refine tz 0 func66 rfl (by kernel_rfl) (Zi rfl) ?_;refine nh (s':=⟨6,[(0,O (bH a))],[]⟩) (by kernel_rfl) ?_;refine aw (Cy [] [(1,A0)] [.cells [O (bH a)]] ?_);refine aw ?_;have b:=j0 J;replace J:=(dh b).symm.trans J;refine Cy [(4,oZ lY a b)] [] (RW a []) ?_;refine aw (Cy [] [(2,.fn 113 [A0])] (RW a []) ?_);refine gr [2] 2 (Zi rfl) (s':=⟨6,[(2,.fn 113 [A0])],RW a []⟩) (by kernel_rfl) ?_;refine aln 0 (s':=⟨6,[(2,.fn 113 [.bM [[.sl (bH a)]] 0 0])],[.gone,.front 3 1 a.length]⟩) (by kernel_rfl) ?_;refine dm ?_;have c:=Zw J;subst c;exact ku (by kernel_rfl)
def CS(N:Nat)(c:Bool):I Int->Nat->Int->U Int
 |[],_,_=>some (0:Int)
 |e::b,f,a=>(bif c then some false else bif (a !=0)then some (decide (e>(i64.wrap (((65536:Int)).tdiv a))))else none).bind λd=>bif d then some (2:Int)else bif c then(λb2_0=>CS N c b (f+1) b2_0) a else(λb2_0=>CS N c b (f+1) b2_0) (aF (a*e))
def P4(N:Nat)(b:I Int):I Int->Nat->Bool->U Int
 |[],_,a=>CS N a b 0 (1:Int)
 |v4::c,d,a=>bif (decide (v4<0))then some (1:Int)else(bif a then some true else some (v4==0)).bind λe=>(λf=>P4 N b c (d+1) f) e
def R4(N:Nat)(a:I Int):U Int:=bif (decide ((a.length:Int)>16))then some (2:Int)else P4 N a a 0 false
def arn{N c}:KO 258 [O (bH c)] Y (R4 N c):=
 fw func258 (V [[],[(4,oL c fG)]] (aY λq=>V [[f0 q],[],[(4,oL c fG)]] (gT lY 0 c λr=>fa 1 [] [0,3,4,12,13,14] 0 (λi(h:Bool)=>⟨46,[(0,O (bH c)),(3,Y 1),(4,aA h),(12,O (bH c)),(13,Y c.length),(14,Y i)],[]⟩) (λi h f t=>V [[],[f0 (bG f)],[(4,oL c fG)]] (gT lY 0 c λo=>fa 2 [] [3,4,26,27,28] 0 (λj(a:Int)=>⟨46,[(3,Y a),(4,aA h),(26,O (bH c)),(27,Y c.length),(28,Y j)],[]⟩) (λj a e u=>gR [[],[f0 (bG e)],[]]) (λj v w a e u p=>V [[],[t0 (bD e)],[(1,oE (gY (aX e)))]] (gG (λg=>[(39,aA g)]) (λ_=>[]) (ax (λk=>gE [(2,bF (cx k))] []) λk=>cF λx=>gE [(2,bT (dq k))] [(16,⟨_,_,.nz (b:=a) (Ue.1 x)⟩)]) λg=>eY λ_=>ax (λl=>gb p a [[f0 (cx l)],[(2,oq (bU e rfl o))]] e) λl=>gb p (aF (a*v)) [[t0 (dq l)],[],[(2,oq (bU e rfl o))]] e)))) (λi A B h f t y=>V [[],[t0 (bD f)],[(1,oE (gY (aX f)))],[]] (aY λz=>V [[f0 z]] (gG (λm=>[(4,aA m)]) (λ_=>[]) (ax (λn=>gE [(1,bT n)] []) λn=>gE [(1,bF n)] []) λm=>gb y m [[(2,oq (bU f rfl r))]] f))))))
def DN(N:Nat):I Int->Nat->Int->U Int
 |[],_,a=>some a
 |c::b,d,a=>(λb2_0=>DN N b (d+1) b2_0) (aF (a*c))
def Li(N:Nat)(a:I Int):I Int->Nat->U Int
 |[],_=>DN N a 0 (1:Int)
 |b::c,d=>bif (b==0)then some (0:Int)else(Li N a c (d+1))
def El(N:Nat)(a:I Int):U Int:=(R4 N a).bind λb=>bif (b !=0)then some (0:Int)else Li N a a 0
def aex{N a}:KO 198 [O (bH a)] Y (El N a):=
 fw func198 (au λt h=>V [[],[(4,cK arn h)]] (aY λi=>V [[f0 i],[],[(4,oL a fG)]] (gT lY 0 a λj=>dN 1 [] [0,3,11,12,13] 0 (λf=>⟨31,[(0,O (bH a)),(3,Y 1),(11,O (bH a)),(12,Y a.length),(13,Y f)],[]⟩) (λf c k=>V [[],[f0 (bG c)],[(4,oL a fG)]] (gT lY 0 a λl=>fa 2 [] [3,20,21,22] 0 (λg(b:Int)=>⟨31,[(3,Y b),(20,O (bH a)),(21,Y a.length),(22,Y g)],[]⟩) (λg b e m=>gR [[],[f0 (bG e)],[]]) (λg n o b e m p=>gb p (aF (b*n)) [[],[t0 (bD e)],[(1,oE (gY (aX e)))],[],[(2,oq (bU e rfl l))]] e))) (λf u v c k q=>V [[],[t0 (bD c)],[(1,oE (gY (aX c)))],[]] (aY λr=>gb q () [[f0 r],[(2,oq (bU c rfl j))]] c)))))
def Dk(N:Nat)(b:I Int):Nat->Int->Int->(I Int)->U ((I Int)×Bool)
 |0,_,_,_=>none
 |f+1,e,a,c=>bif (decide (a>=0))then bif (decide ((0:Int)<=a))then(b[(a).toNat]?).bind λd=>bif (d !=0)then bif (Nat.beq c.length b.length)then bif (decide (a<(b.length:Int)))then(c[(a).toNat]?).bind λg=>(λh i j=>Dk N b f h i j) (i64.wrap ((e).tdiv d)) (aF (a-(1:Int))) (c.set ((a).toNat) ((e).tmod d))else none else none else none else none else bif (Nat.beq c.length b.length)then some (c,true)else none
def G6(N:Nat)(a:I Int)(b:Int):U ((I Int)×Bool):=(bif (decide (b<0))then some true else (El N a).bind λc=>some (decide (b>=c))).bind λd=>bif d then some ([],false)else bif (Nat.ble (a.length*8) 140737488355328)then Dk N a N b (aF ((a.length:Int)-(1:Int))) (List.replicate a.length 0)else none
def ain{N a o}:KO 115 [O (bH a),Y o] (λr=>.bq [O (bH r.1),aA r.2]) (G6 N a o):=
 fw func115 (V [[]] (gG (λp=>[(15,aA p)]) (λ_=>[]) (ax (λk=>gE [(2,bT k)] []) λk=>au λE v=>gE [(2,bF k)] [(16,cK aex v)]) λp=>aY λw=>cF λx=>arc 1 [[f0 w],[(4,oL a fG),(7,⟨_,_,.pr (.mk (cg ((List.replicate a.length 0).map fk)) a.length a.length) (aay (f:=fk) (d0:=0) (dy:=8) rfl rfl (mB x (by decide)))⟩)],[(4,oL a fG)]] [0,1,6,7] 1 [] [] (λ(e:Int)(c:Int)(h:(I Int))=>⟨42,[(0,O (bH a)),(1,Y e),(6,.vec 0 0 a.length a.length 1),(7,Y c)],[.vec 3 1 (cg (h.map fk))]⟩) (Dk N a) (λF e c h G z=>V [[]] (ax (λl=>cF λm=>au λg q=>cF λt=>cF λu=>cF λA=>au λn B=>aeN z (i64.wrap ((e).tdiv g),aF (c-(1:Int)),h.set ((c).toNat) ((e).tmod g)) [[t0 l],[(16,⟨_,_,.el (xs:=bH a) (i:=c) (U0 m) (gY q)⟩),(22,⟨_,_,.nz (b:=g) (Ue.1 t)⟩),(25,⟨_,_,.pr (.ix ((c).toNat)) (TT (yk (f:=fk) (Yw u)) (U0 m) (U0 A) rfl)⟩),(28,⟨_,_,.pr (.st ((fk n).map AV.d) (cg ((h.set ((c).toNat) ((e).tmod g)).map fk))) (Yi (f:=fk) (j:=0) (y:=((e).tmod g)) (zs:=[Y ((e).tmod g)]) (Yw u) B rfl)⟩)],[(10,⟨_,_,.el (xs:=bH a) (i:=c) (U0 m) (gY q)⟩),(16,⟨_,_,.nz (b:=g) (Ue.1 t)⟩)],[]] (gC:=[.Ay ((h.set ((c).toNat) ((e).tmod g)).map fk)])) λl=>cF λC=>V [[f0 l]] (li (λ_=>(asq [6] 0 (bH h) a.length 1 3 1 [.Ay (h.map fk)] (WS (Yw C)) (pk _) (WT (λ_=>rfl) _) ·)) (gR [[]])))) (gC:=[.Ay ((List.replicate a.length 0).map fk)])))
def C6(N:Nat)(a:I Int):Nat->Nat->U (I (I Int))
 |0,_=>some []
 |n+1,k=>(G6 N a (k:Int)).bind λr=>bif r.2 then (C6 N a n (k+1)).bind λl=>some (r.1::l)else none
def F9(N:Nat)(a:I Int):U (I (I Int)):=(El N a).bind λn=>bif (decide ((0:Int)<=n)&&Nat.ble n.toNat 9223372036854775807)then C6 N a n.toNat 0 else none
def aue{N:Nat}{d:I Int}:∀(n s:Nat)(r:I (I Int)),C6 N d n s=some r->r.length=n/\∀(k:Nat)(p:I Int),r[k]?=some p->G6 N d ((s+k:Nat):Int)=some (p,true)
 |0,s,r,h=>by cases h;exact⟨rfl,λk p c=>by simp at c⟩
 |n+1,s,r,h=>by
  rw[C6]at h;obtain⟨x,f,h⟩:=bz h;obtain⟨e,h⟩:=lN h;obtain⟨l,g,h⟩:=bz h;cases h
  obtain⟨q1,i⟩:=aue n (s+1) l g;refine⟨by rw[Zl,q1],λk p c=> ?_⟩;cases k with
  |zero=>
   cases c
   obtain⟨a,b⟩:=x;simp only at e;subst e;exact f
  |succ k=>
   rw[show s+(k+1)=s+1+k by omega];exact i k p c
def aud{N:Nat}{a:I Int}{r:I (I Int)}(J:F9 N a=some r):Bn prog 113 [se a] (r.map rO):=by
 obtain⟨n,c,J⟩:=bz J;obtain⟨b,d⟩:=lN J;rw[Zr]at b;obtain⟨q1,e⟩:=aue _ _ _ d;have f:((n.toNat:Nat):Int)=n:=Int.toNat_of_nonneg (U0 b.1);refine aoX a r (by rw[q1];exact Zi b.2) (by rw[q1,f];exact aex _ c) λk p g=> ?_;have:=e k p g;rw[ZQ]at this;exact ain _ this
def HN(N:Nat)(b:I aJ)(d:I Int):I dH->Nat->(I aJ)->U (I aJ)
 |[],_,a=>bif (Nat.ble ((a.length+b.length)*24) 140737488355328)then some (a++b)else none
 |v6::f,e,a=>(d[((e:Int)).toNat]?).bind λc=>bif (aF c==c)then bif (Nat.ble ((a.length+1)*24) 140737488355328)then(λg=>HN N b d f (e+1) g) (a++[(⟨v6.ay,Int64.ofInt c⟩:aJ)])else none else none
def LH(N:Nat)(a:I dH)(b:I Int)(c:I aJ):U (I aJ):=HN N c b a 0 []
def auc{N b f e}:KO 68 [O (gZ b),O (bH f),O (aS e)] (λr=>.d (.sl (aS r))) (LH N b f e):=
 fw func68 (V [[],[],[(4,oL b gv)]] (li (λ_=>(lQ 7 75 2 [] (.inr (by kernel_rfl)) ·)) (gT nJ 0 b λj=>fa 1 [] [1,2,7,10,11,12] 1 (λg(a:I aJ)=>⟨31,[(1,O (bH f)),(2,O (aS e)),(7,.own 0 (aS a)),(10,O (gZ b)),(11,Y b.length),(12,Y g)],[.front 75 2 a.length]⟩) (λg a c k=>cF λl=>gR [[],[f0 (bG c)],[(7,oA uY a e l)]]) (λg h q a c k m=>au λi n=>cF λo=>cF λp=>gb m (a++[(⟨h.ay,Int64.ofInt i⟩:aJ)]) [[],[t0 (bD c)],[(4,oE (mW (aX c)))],[(16,oE (gY n)),(23,oq (congrArg (λz=>AV.agg [dk h.ay,z]) (Ci (Ua.1 o)))),(28,oA uY a ([(⟨h.ay,Int64.ofInt i⟩:aJ)]) p)],[(2,oq (bU c rfl j))]] c))))
def yI(N:Nat)(a:I aJ)(b:I aL)(c:I (so×bk)):U (I aJ):=some a
def Ff(a:I aL)(b:I (so×bk))(c:I aJ)(l:I ar):I ar:= .cells [.mp 2]:: .cells [O (bm a)]:: .map (cz cA b):: .cells [.fn 96 [A0,Ac]]:: .cells [O (aS c)]::l
abbrev Hz:=λa b=>([.cells [.mp 2],.cells [O (bm a)],.map (cz cA b)]:List ar)
abbrev S0:=([.cells [.fn 93 [Aj,AD,DP],.fn 91 [DP]],.cells [DM]]:List ar)
def kY{N c a b r}(J:yI N c a b=some r):KH 53 [.fn 96 [A0,Ac],O (aS c)] (Hz a b) DM ([.cells [.mp 2],.cells [O (bm a)],.map (cz cA b),.cells [.fn 96 [A0,Ac]],.cells [O (aS r)],.cells [.fn 93 [Aj,AD,DP],.fn 91 [DP]],.cells [DM]]):=by
 rw[yI]at J;refine Jp 7 func53 rfl (by kernel_rfl) (Zi rfl) ?_;refine nh (s':=⟨17,[(0,.fn 96 [A0,Ac]),(1,O (aS c))],Hz a b⟩) (by kernel_rfl) ?_;refine aw (Cy [] [(2,Aj),(3,AD)] (Ff a b c []) ?_);refine aw (Cy [] [(5,DP)] (Ff a b c [.cells [.d (.v .nilFunc),.d (.v .nilFunc)],.cells [DM]]) ?_);refine aw (Cy [] [] (Ff a b c [.cells [.d (.v .nilFunc),.fn 91 [DP]],.cells [DM]]) ?_);refine aw (Cy [] [] (Ff a b c S0) ?_);refine aw (Cy [] [(4,DM)] (Ff a b c S0) ?_);refine dm ?_;have e:=Zw J;subst e;exact xp (fE trivial (fE trivial (fE trivial (fE trivial (fE trivial (fE trivial (fE trivial jP))))))) (by kernel_rfl)
def Ep(N:Nat)(c:so)(d:I aL)(a:I (so×bk)):U (bk×Int×(I (so×bk))):=bif (ni a c)then some (ib a c (⟨(⟨0,0,0,0,0⟩:aM),[],[]⟩:bk),(0:Int),a)else(wI N d c).bind λb=>bif b.2 then(Ia N b.1).bind λe=>bif (e !=0)then some (b.1,(1:Int),a)else bif (Nat.blt a.length 9223372036854775807)then some (b.1,(0:Int),((c,b.1)::a))else none else some (b.1,(9:Int),a)
def aff{N a b c}:KP 96 [dk a,A0,Ac] (Hz b c) (λr=>.bq [gF r.1,Y r.2.1]) (λr=>(Hz b r.2.2)) (Ep N a b c):=
 fh 3 func96 (V [[],[(8,oq (ajg cA (.agg #[.int .i64 0,.int .i64 0,.int .i64 0,.int .i64 0,.int .i64 0,.slice none 0 0,.slice none 0 0]) (⟨(⟨0,0,0,0,0⟩:aM),[],[]⟩:bk) rfl true c a))],[]] (ax (λe=>gH [[t0 e],[]]) λe=>au λl i=>V [[f0 e],[(7,cK LO i)],[]] (ax (λg=>au λm j=>V [[f0 (cx g)],[(4,cK afT j)]] (ax (λh=>gH [[t0 h],[]]) λh=>cF λk=>gH [[f0 h],[(10,⟨_,_,.sd (o:= .none) (aic (f:=cA) k)⟩)],[]])) λg=>gH [[t0 (dq g)],[]])))
def Jb(N:Nat)(c:Int)(a:Int64)(b:Int):U (Int×Int):=(bif (decide (a.toInt<0))then some true else some (decide (a.toInt>=b))).bind λd=>bif d then some ((0:Int),(12:Int))else some (aF ((aF (c*b))+a.toInt),(0:Int))
def ae8{N b c d}:KO 238 [Y b,bx c,Y d] (λr=>.bq [Y r.1,Y r.2]) (Jb N b c d):=
 fw func238 (V [[]] (gG (λe=>[(14,aA e)]) (λ_=>[]) (ax (λa=>gE [(2,bT a)] []) λa=>gE [(2,bF a)] []) λe=>aY λf=>gR [[f0 f],[]]))
def GP(N:Nat)(d:bk×Int×(I (so×bk)))(b:Int)(h:I aJ):I bE->Nat->Int->U (Int64×Int×(I (so×bk)))
 |[],_,c=>bif (decide ((0:Int)<=c))then(d.1.eD[(c).toNat]?).bind λa=>bif (aF (if(if(aF (b-(1:Int)))<a.xN.toInt then(aF (b-(1:Int)))else a.xN.toInt)>0then(if(aF (b-(1:Int)))<a.xN.toInt then(aF (b-(1:Int)))else a.xN.toInt)else(0:Int))==(if(if(aF (b-(1:Int)))<a.xN.toInt then(aF (b-(1:Int)))else a.xN.toInt)>0then(if(aF (b-(1:Int)))<a.xN.toInt then(aF (b-(1:Int)))else a.xN.toInt)else(0:Int)))then some ((Int64.ofInt (if(if(aF (b-(1:Int)))<a.xN.toInt then(aF (b-(1:Int)))else a.xN.toInt)>0then(if(aF (b-(1:Int)))<a.xN.toInt then(aF (b-(1:Int)))else a.xN.toInt)else(0:Int))),(0:Int),d.2.2)else none else none
 |j::e,i,c=>(we N j h).bind λf=>bif (f.2 !=0)then some ((0:Int64),f.2,d.2.2)else(d.1.aR[((i:Int)).toNat]?).bind λk=>(Jb N c f.1 k).bind λg=>bif (g.2 !=0)then some ((0:Int64),g.2,d.2.2)else(λl=>GP N d b h e (i+1) l) g.1
def NT(N:Nat)(c:I aJ)(b:c8)(d:Int)(e:I aL)(f:I (so×bk)):U (Int64×Int×(I (so×bk))):=(Ep N b.de e f).bind λa=>bif (a.2.1 !=0)then some ((0:Int64),a.2.1,a.2.2)else bif (a.1.aH.bB !=3)then some ((0:Int64),(10:Int),a.2.2)else bif ((b.cQ.length:Int) !=(a.1.aR.length:Int))then some ((0:Int64),(11:Int),a.2.2)else GP N a d c b.cQ 0 (0:Int)
def ahm{N g a h e j}:KP 237 [.fn 96 [A0,Ac],O (aS g),ij a,Y h] (Hz e j) (λr=>.bq [bx r.1,Y r.2.1]) (λr=>(Hz e r.2.2)) (NT N g a h e j):=
 fh 3 func237 (au λf q=>V [[],[(10,oR [dk a.de,A0,Ac] [.cells [.mp 2],.cells [O (bm e)],.map (cz cA j),.cells (ij a).cells] [0,1,2] (aff _ q))],[]] (ax (λk=>gH [[t0 k],[]]) λk=>V [[f0 k],[]] (ax (λl=>gH [[t0 l],[]]) λl=>V [[f0 l],[(7,oL a.cQ fW),(16,oL f.1.aR fG)]] (ax (λm=>gH [[t0 m],[]]) λm=>V [[f0 m],[],[(7,oL a.cQ fW)]] (gT mZ 42 a.cQ λt=>fa 1 [] [1,3,10,12,42,43,44] 5 (λn(b:Int)=>⟨83,[(1,O (aS g)),(3,Y h),(10,AD),(12,Y b),(42,O (fz a.cQ)),(43,Y a.cQ.length),(44,Y n)],[.cells [.mp 2],.cells [O (bm e)],.map (cz cA f.2.2),.cells (ij a).cells,.cells (gF f.1).cells]⟩) (λn b c u=>cF λv=>au λw x=>cF λy=>gH [[],[f0 (bG c)],[(10,⟨_,_,.el (xs:=eC f.1.eD) (i:=b) (U0 v) (mh x)⟩),(32,oq (Ci (Ua.1 y)))]]) (λn G z b c u A=>au λH B=>V [[],[t0 (bD c)],[(4,oE (o8 (aX c)))],[(7,cK Ip B)],[]] (ax (λo=>gH [[t0 o],[]]) λo=>au λJ C=>au λE F=>V [[f0 o],[(16,oE (gY C)),(22,cK ae8 F)],[]] (ax (λp=>gH [[t0 p],[]]) λp=>gb A E.1 [[f0 p],[(2,oq (bU c rfl t))]] c))))))))
def BG(N:Nat)(e:bk×Int×(I (so×bk)))(f:Nat)(a:Int)(g:Int->(I (so×bk))->U (fP×Int×(I (so×bk))))(d:Int)(h:Int64)(b:I (so×bk)):U (fP×Int×(I (so×bk))):=bif (d !=0)then some (DB,d,b)else(e.1.aR[((f:Int)).toNat]?).bind λi=>(Jb N a h i).bind λc=>bif (c.2 !=0)then some (DB,c.2,b)else g c.1 b
def ry(N:Nat)(c:bk×Int×(I (so×bk)))(f:I aJ)(g:I aL):I c8->Nat->Int->(I (so×bk))->U (fP×Int×(I (so×bk)))
 |[],_,a,b=>bif (decide ((0:Int)<=a))then(c.1.eD[(a).toNat]?).bind λh=>some ((⟨h,c.1.aH⟩:fP),(0:Int),b)else none
 |i::l,e,a,b=>bif (bL i.de==bL (bs []))then(we N i.bN f).bind λm=>BG N c e a (λj k=>ry N c f g l (e+1) j k) m.2 m.1 b else(c.1.aR[((e:Int)).toNat]?).bind λn=>(NT N f i n g b).bind λd=>BG N c e a (λj k=>ry N c f g l (e+1) j k) d.2.1 d.1 d.2.2
def Jo(N:Nat)(d:I aJ)(b:az)(c:I aL)(e:I (so×bk)):U (fP×Int×(I (so×bk))):=(Ep N b.ay c e).bind λa=>bif (a.2.1 !=0)then some (DB,a.2.1,a.2.2)else bif ((b.xIdx.length:Int) !=(a.1.aR.length:Int))then some (DB,(11:Int),a.2.2)else ry N a d c b.xIdx 0 (0:Int) a.2.2
def Ce(a:I aL)(b:I (so×bk))(c:az)(l:I ar):I ar:= .cells [.mp 2]:: .cells [O (bm a)]:: .map (cz cA b):: .cells (aK c).cells:: .cells eB::l
def zf(b:I aL)(a:bk×Int×(I (so×bk)))(c:az)(l:I ar):I ar:= .cells [.mp 2]:: .cells [O (bm b)]:: .map (cz cA a.2.2):: .cells (aK c).cells:: .cells eB:: .cells (gF a.1).cells::l
def qj(b:I aL)(a:I (so×bk))(c:az)(d:bk×Int×(I (so×bk)))(e:c8)(l:I ar):I ar:=Ce b a c (.cells (gF d.1).cells:: .cells (ij e).cells::l)
def Sx(a:I aL)(l:I ar):I ar:= .cells [.mp 2]:: .cells [O (bm a)]::l
def ak7(N:Nat)(l:I aJ)(a:az)(c:I aL)(u:I (so×bk))(r:fP×Int×(I (so×bk)))(J:Jo N l a c u=some r):KH 159 [.fn 96 [A0,Ac],O (aS l),aK a] (Hz c u) (.bq [eJ r.1,Y r.2.1]) (Hz c r.2.2):=by
 rw[Jo]at J;refine tz 3 func159 rfl (by kernel_rfl) (Zi rfl) ?_;refine nh (s':=⟨91,[(0,.fn 96 [A0,Ac]),(1,O (aS l)),(2,aK a)],Sx c [.map (cz cA u)]⟩) (by kernel_rfl) ?_;refine aw (Cy [] [(5,Aj),(6,AD)] (Ce c u a []) ?_);refine aw ?_;obtain⟨b,H,J⟩:=bz J;refine Cy [(10,oR [dk a.ay,A0,Ac] (Ce c u a []) [0,1,2] (aff _ H))] [(8,DM),(9,Y b.2.1)] (zf c b a []) ?_;refine aw (aw ?_);refine Cy [] [(22,(aA (b.2.1 !=0)))] (zf c b a []) ?_;rcases eo (b.2.1 !=0)with v|v
 ·replace J:=(dh v).symm.trans J;refine Bo (t:=(b.2.1 !=0)) v ?_;refine aw (Cy [] [(7,Y b.2.1)] (zf c b a []) ?_);refine dm (dn ?_);have n:=Zw J;subst n;exact ku (by kernel_rfl)
 replace J:=(ep v).symm.trans J;refine AO (t:=(b.2.1 !=0)) v ?_;refine cN ?_;refine aW ?_;refine aw (aw ?_);refine Cy [(7,oL a.xIdx gq),(16,oL b.1.aR fG)] [(31,(aA ((a.xIdx.length:Int) !=(b.1.aR.length:Int))))] (zf c b a []) ?_;rcases eo ((a.xIdx.length:Int) !=(b.1.aR.length:Int))with w|w
 ·replace J:=(dh w).symm.trans J;refine Bo (t:=((a.xIdx.length:Int) !=(b.1.aR.length:Int))) w ?_;refine aw (Cy [] [(7,Y 11)] (zf c b a []) ?_);refine dm (dn ?_);have n:=Zw J;subst n;exact ku (by kernel_rfl)
 replace J:=(ep w).symm.trans J;refine AO (t:=((a.xIdx.length:Int) !=(b.1.aR.length:Int))) w ?_;refine cN ?_;refine aW ?_;refine aw (Cy [] [(10,Y 0)] (zf c b a []) ?_);refine aw (aw ?_);refine Cy [(7,oL a.xIdx gq)] [(34,O (fc a.xIdx)),(35,Y a.xIdx.length),(36,Y 0)] (zf c b a []) ?_;refine dL ?_;refine Aq 34 (fc a.xIdx) (by kernel_rfl) λK=> ?_;have L:=tv gq K;refine SI [0,1,6,8,10,34,35,36] 6 (λ((h,q,j,e):Nat×(I c8)×Int×(I (so×bk)))=>⟨91,[(0,.fn 96 [A0,Ac]),(1,O (aS l)),(6,AD),(8,DM),(10,Y j),(34,O (fc a.xIdx)),(35,Y a.xIdx.length),(36,Y h)],Ce c e a (QP b.1)⟩) (λ((h,q,j,e):Nat×(I c8)×Int×(I (so×bk)))=>a.xIdx.drop h=q/\ry N b l c q h j e=some r) (λ((h,q,j,e):Nat×(I c8)×Int×(I (so×bk)))=>q.length) (0,a.xIdx,(0:Int),b.2.2) (Zi rfl) (by kernel_rfl) ⟨rfl,J⟩ ?_;rintro⟨h,q,j,e⟩ ⟨x,J⟩;cases q with
 |nil=>
  rw[ry]at J;refine aw (Cy [] [(37,(aA (decide ((h:Int)<(a.xIdx.length:Int)))))] (Ce c e a (QP b.1)) ?_);refine aw (AO (t:=(decide ((h:Int)<(a.xIdx.length:Int)))) (bG x) ?_);refine ma (iE (iE (m7 rfl ?_)));refine aW ?_;refine aw ?_;have F:=j0 J;replace J:=(dh F).symm.trans J;obtain⟨y,M,J⟩:=bz J;refine rd bC (by kernel_rfl) [(10,⟨_,_,.el (xs:=eC b.1.eD) (i:=j) (U0 F) (mh M)⟩)] [(7,Y 0)] (Sx c [.map (cz cA e),.cells (aK a).cells,.cells [bx y.xN,bx y.xD,Y b.1.aH.bB,Y b.1.aH.bW,Y b.1.aH.ck,Y b.1.aH.ct,Y b.1.aH.cC],.cells (gF b.1).cells]) (by kernel_rfl) ?_;refine dm ?_;have n:=Zw J;subst n;exact ku (by kernel_rfl)
 |cons g G=>
  rw[ry]at J;refine aw (Cy [] [(37,(aA (decide ((h:Int)<(a.xIdx.length:Int)))))] (Ce c e a (QP b.1)) ?_);refine aw (Bo (t:=(decide ((h:Int)<(a.xIdx.length:Int)))) (bD x) ?_);refine cN ?_;refine aW ?_;refine aw (dL ?_);refine aw (Cy [(4,oE (jk (aX x)))] [(12,DP),(11,Y h)] (qj c e a b g []) ?_);refine aw (Cy [] [] (qj c e a b g []) ?_);refine aw (aw ?_);refine Cy [] [(43,(aA (bL g.de==bL (bs []))))] (qj c e a b g []) ?_;refine qW [0,1,6,8,9,10,11,13,34,35,36] 7 (λ((o,C,k):Int×Int64×(I (so×bk)))=>⟨91,[(0,.fn 96 [A0,Ac]),(1,O (aS l)),(6,AD),(8,DM),(9,Y o),(10,Y j),(11,Y h),(13,bx C),(34,O (fc a.xIdx)),(35,Y a.xIdx.length),(36,Y h)],qj c k a b g []⟩) (λ((o,C,k):Int×Int64×(I (so×bk)))=>BG N b h j (λP Q=>ry N b l c G (h+1) P Q) o C k=some r) (Zi rfl) ?_ ?_
  ·rcases eo (bL g.de==bL (bs []))with z|z
   ·replace J:=(dh z).symm.trans J;refine Bo (t:=(bL g.de==bL (bs []))) z ?_;obtain⟨m,R,J⟩:=bz J;refine Cm [(10,cK Ip R)] [(9,Y m.2),(13,bx m.1),(50,Y m.2),(49,bx m.1),(44,.bq [bx m.1,Y m.2]),(48,.bq [bx m.1,Y m.2]),(47,O (aS l)),(46,dY g.bN),(45,DP)] (qj c e a b g []) ?_;refine aW ?_;exact⟨(m.2,m.1,e),by kernel_rfl,J⟩
   replace J:=(ep z).symm.trans J;refine AO (t:=(bL g.de==bL (bs []))) z ?_;obtain⟨E,S,f,T,J⟩:=jy J;refine rle bC (by kernel_rfl) [(19,oE (gY S)),(25,oR [.fn 96 [A0,Ac],O (aS l),ij g,Y E] (qj c e a b g []) [0,1,2] (ahm _ T))] [(9,Y f.2.1),(13,bx f.1),(62,Y f.2.1),(61,bx f.1),(51,.bq [bx f.1,Y f.2.1]),(60,.bq [bx f.1,Y f.2.1]),(59,Y E),(58,.bM [fk E] 0 0),(57,Y h),(56,O (bH b.1.aR)),(55,.ptr 5 5),(54,ij g),(53,O (aS l)),(52,.fn 96 [A0,Ac])] (Sx c [.map (cz cA f.2.2),.cells (aK a).cells,.cells eB,.cells (gF b.1).cells,.cells (ij g).cells]) ⟨by kernel_rfl,by kernel_rfl⟩ ?_;refine aW ?_;exact⟨(f.2.1,f.1,f.2.2),by kernel_rfl,J⟩
  rintro⟨o,C,k⟩ J
  try dsimp only at J
  rw[BG]at J;refine aw (aw ?_);refine Cy [] [(64,(aA (o !=0)))] (qj c k a b g []) ?_;rcases eo (o !=0)with A|A
  ·replace J:=(dh A).symm.trans J;refine Bo (t:=(o !=0)) A ?_;refine aw (Cy [] [(7,Y o)] (qj c k a b g []) ?_);refine dm (dn (eQ (dn (dn (eQ (dn ?_))))));have n:=Zw J;subst n;exact ku (by kernel_rfl)
  replace J:=(ep A).symm.trans J;refine AO (t:=(o !=0)) A ?_;refine cN ?_;refine aW ?_;refine aw ?_;obtain⟨bw,W,p,aT,J⟩:=jy J;refine Cy [(16,oE (gY W)),(22,cK ae8 aT)] [(10,Y p.1),(9,Y p.2)] (qj c k a b g []) ?_;refine aw (Cy [] [(79,(aA (p.2 !=0)))] (qj c k a b g []) ?_);rcases eo (p.2 !=0)with B|B
  ·replace J:=(dh B).symm.trans J;refine Bo (t:=(p.2 !=0)) B ?_;refine aw (Cy [] [(7,Y p.2)] (qj c k a b g []) ?_);refine dm (eQ (dn (dn (eQ (dn ?_)))));have n:=Zw J;subst n;exact ku (by kernel_rfl)
  replace J:=(ep B).symm.trans J;refine AO (t:=(p.2 !=0)) B ?_;refine cN ?_;refine eV ?_;refine aW ?_;refine Cm [(2,oq (bU x rfl L))] [(36,Y ((h+1:Nat):Int)),(82,Y ((h+1:Nat):Int))] (qj c k a b g []) ?_;refine aW ?_;exact⟨(h+1,G,p.1,k),by kernel_rfl,⟨kM x,J⟩,Z0 _⟩
def MX(N:Nat)(a:Int64×Int)(b:I (so×bk))(c:Int):U (fP×Int×(I (so×bk))):=some ((⟨(⟨a.1,1⟩:aB),(⟨3,0,0,0,0⟩:aM)⟩:fP),c,b)
def Oc(N:Nat)(e:I aJ)(a:az)(f:I aL)(c:I (so×bk)):U (fP×Int×(I (so×bk))):=bif (a.aD==1)then some ((⟨a.dP,a.aH⟩:fP),(0:Int),c)else bif (a.aD==2)then(we N a.bN e).bind λb=>(bif (b.2==0)then(bif (decide (b.1.toInt>2147483647))then some true else some (decide (b.1.toInt<(-2147483647:Int))))else some false).bind λg=>bif g then MX N b c (3:Int)else MX N b c b.2 else(Jo N e a f c).bind λd=>some (d.1,d.2.1,d.2.2)
def Ta(a:I aL)(b:I (so×bk))(c:az)(l:I ar):I ar:= .cells [.mp 2]:: .cells [O (bm a)]:: .map (cz cA b):: .cells (aK c).cells:: .cells eB::l
def ahi{N f a b c}:KP 94 [.fn 96 [A0,Ac],O (aS f),aK a] (Hz b c) (λr=>.bq [eJ r.1,Y r.2.1]) (λr=>(Hz b r.2.2)) (Oc N f a b c):=
 fh 3 func94 (V [[],[],[]] (ax (λg=>gH [[t0 g],[]]) λg=>V [[f0 g],[]] (ax (λh=>au λi o=>V [[t0 h],[(10,cK Ip o)]] (gG (λl=>[(37,aA l)]) (λ_=>(Ta b c a [])) (ax (λj=>cm (2,bT j) (ax (λe=>gE [(5,bT e)] [(25,bT e)]) λe=>gE [(5,bF e)] [(25,bF e)])) λj=>gE [(2,bF j),(5,uN)] []) λl=>kW 1 [] [6,8,9] 5 (λ(m:Int)=>⟨49,[(6,AD),(8,bx i.1),(9,Y m)],Ta b c a []⟩) (MX N i c) (λt n=>ax (λk=>gm n (3:Int) [[t0 k],[]]) λk=>gm n i.2 [[f0 k]]) (λm=>gH [[]]))) λh=>au λp q=>gH [[f0 h],[(10,oR [.fn 96 [A0,Ac],O (aS f),aK a] (Ta b c a []) [0,1,2] (ak7 N f a b c p q))]])))
def CP(N:Nat)(a:Int64)(b:Int64):U Int:=bif (decide (a.toInt<b.toInt))then some (-1:Int)else bif (decide (a.toInt>b.toInt))then some (1:Int)else some (0:Int)
def T7{N a b}:KO 277 [bx a,bx b] Y (CP N a b):=
 fw func277 (V [[],[]] (eY λ_=>aY λc=>gR [[f0 c],[]]))
def T3(N:Nat)(a:aB)(b:aB):U Int:=(lI N a).bind λd=>(bif d then (lI N b).bind λe=>some e else some false).bind λf=>bif f then(CP N (a.xN*b.xD) (b.xN*a.xD)).bind λg=>some g else(CP N a.xN b.xN).bind λc=>bif (c !=0)then some c else(CP N a.xD b.xD).bind λh=>some h
def ajs{N a b}:KO 236 [bp a,bp b] Y (T3 N a b):=
 fw func236 (V [[]] (au λl f=>gG (λe=>[(11,aA e)]) (λ_=>[.cells (bp a).cells,.cells (bp b).cells]) (cG (4,cK ou f) (ax (λc=>au λm g=>gE [(2,bT c)] [(13,cK ou g)]) λc=>gE [(2,bF c)] [])) λe=>ax (λd=>au λn h=>gR [[t0 d],[(14,oq (gu a.xN b.xD)),(29,oq (gu b.xN a.xD)),(31,cK T7 h)]]) λd=>au λo i=>V [[f0 d],[(13,cK T7 i)],[]] (aY λj=>au λp k=>gR [[f0 j],[(13,cK T7 k)]])))
def GS(N:Nat)(c:aM)(a:aB)(b:aB):U Int:=(nM N c a).bind λd=>(bif d then (nM N c b).bind λe=>some (!e)else some true).bind λf=>bif f then some (0:Int)else bif (c.bB==1)then(T3 N a b).bind λg=>some g else bif (decide (a.xN.toInt<b.xN.toInt))then some (-1:Int)else bif (decide (a.xN.toInt>b.xN.toInt))then some (1:Int)else some (0:Int)
abbrev RG:=λa b c=>([.cells (bY a).cells,.cells (bp b).cells,.cells (bp c).cells]:List ar)
def abc{N a b c}:KO 158 [bY a,bp b,bp c] Y (GS N a b c):=
 fw func158 (V [[]] (au λk g=>gG (λf=>[(7,aA f)]) (λ_=>(RG a b c)) (cG (7,cK wO g) (ax (λd=>au λl h=>gE [(4,bF (cx d))] [(22,cK wO h)]) λd=>gE [(4,bT (dq d))] [])) λf=>eY λ_=>ax (λe=>au λm i=>gR [[t0 e],[(7,cK ajs i)]]) λe=>V [[f0 e],[]] (eY λ_=>aY λj=>gR [[f0 j],[]])))
def UI(N:Nat)(b:Int)(a:Int):U Bool:=bif (b==13)then some (decide (a<0))else bif (b==14)then some (decide (a<=0))else some (a==0)
def an5{N a b}:KO 157 [Y a,Y b] aA (UI N a b):=
 fw func157 (V [[],[],[]] (eY λ_=>aY λc=>gR [[f0 c],[]]))
def Oo(N:Nat)(a:aM):I aB->Nat->U Int
 |[],_=>some (0:Int)
 |v6::b,c=>(tO N a v6).bind λd=>bif d then(Oo N a b (c+1))else some (1:Int)
def sW(N:Nat)(a:aM)(c:I aB):U Int:=(xH N a).bind λb=>bif (b !=0)then some b else Oo N a c 0
def Cl{N c a}:KO 303 [bY c,O (eC a)] Y (sW N c a):=
 fw func303 (au λm f=>V [[],[(4,cK K5 f)],[]] (aY λg=>V [[f0 g],[(4,oL a jC)]] (gT tq 1 a λh=>dN 1 [] [2,13,14,15] 1 (λe=>⟨24,[(2,A0),(13,O (eC a)),(14,Y a.length),(15,Y e)],Qi c⟩) (λe b i=>gR [[],[f0 (bG b)],[]]) (λe n o b i j=>au λp k=>V [[],[t0 (bD b)],[(1,oE (mh (aX b)))],[(7,cK Tx k)]] (fi λl=>gb j () [[f0 (cx l)],[(2,oq (bU b rfl h))]] b)))))
def tN(N:Nat)(e:Int64)(d:Int64):U (aB×Int):=bif (d.toInt==0)then some (cf,(4:Int))else(DJ N e).bind λb=>(DJ N d).bind λc=>(DA N b c).bind λa=>bif (a !=0)then(bif (decide ((u64.wrap ((b).tdiv a))>2147483647))then some true else some (decide ((u64.wrap ((c).tdiv a))>2147483647))).bind λf=>bif f then some (cf,(3:Int))else bif ((decide (e.toInt<0))==(decide (d.toInt<0)))then some ((⟨Int64.ofInt (u64.wrap ((b).tdiv a)),Int64.ofInt (u64.wrap ((c).tdiv a))⟩:aB),(0:Int))else some ((⟨(-(Int64.ofInt (u64.wrap ((b).tdiv a)))),Int64.ofInt (u64.wrap ((c).tdiv a))⟩:aB),(0:Int))else none
def HJ{N f g}:KO 300 [bx f,bx g] (λr=>.bq [bp r.1,Y r.2]) (tN N f g):=
 fw func300 (V [[],[]] (aY λk=>au λc l=>au λh m=>au λa n=>cF λi=>V [[f0 k],[],[(4,cK SY l),(10,cK SY m)],[(7,cK aeH n)],[(7,⟨_,_,.nz (b:=a) (Ue.1 i)⟩),(16,⟨_,_,.nz (b:=a) (Ue.1 i)⟩)]] (gG (λj=>[(36,aA j)]) (λ_=>[.cells gg]) (ax (λd=>gE [(2,bT d)] []) λd=>gE [(2,bF d)] []) λj=>eY λ_=>ax (λe=>gR [[f0 (cx e)],[(5,oq (iF (u64.wrap ((c).tdiv a)))),(11,oq (iF (u64.wrap ((h).tdiv a))))]]) λe=>gR [[t0 (dq e)],[(5,oq (iF (u64.wrap ((c).tdiv a)))),(8,oq (lT (Int64.ofInt (u64.wrap ((c).tdiv a))))),(14,oq (iF (u64.wrap ((h).tdiv a))))]])))
def SR(N:Nat)(a:aM)(b:aB):U (aB×Int):=(sW N a [b]).bind λc=>bif (c !=0)then some (cf,c)else bif (decide ((0:Int)<=a.ck))then(tN N b.xN (Int64.ofInt ((1:Int)*2^(min (a.ck).toNat (IntKind.bits .i64))))).bind λd=>some (d.1,d.2)else none
def ahS{N a c}:KO 278 [bY a,bp c] (λr=>.bq [bp r.1,Y r.2]) (SR N a c):=
 fw func278 (au λh d=>V [[],[(10,cK Cl d)],[]] (aY λe=>cF λf=>au λi g=>gR [[f0 e],[(13,⟨_,_,.nn (b:=a.ck) (U0 f)⟩),(14,oq (iF ((1:Int)*2^(min (a.ck).toNat (IntKind.bits .i64))))),(16,cK HJ g)]]))
def K1(N:Nat)(a:aM)(b:aB):U aB:=bif (a.bB==2)then(SR N a b).bind λc=>some c.1 else some b
def aq3{N a b}:KO 239 [bY a,bp b] bp (K1 N a b):=
 fw func239 (V [[],[]] (jz λc=>au λe d=>gR [[t0 c],[(7,cK ahS d)],[]]))
def MT(N:Nat)(a:Int64):U Int64:=some a
def Em(N:Nat)(a:aB):U Int64:=(lI N a).bind λb=>bif b then bif (a.xD.toInt !=0)then bif (decide ((Int64.ofInt ((a.xN.toInt).tmod a.xD.toInt)).toInt<0))then MT N ((Int64.ofInt ((a.xN.toInt).tdiv a.xD.toInt))-(1:Int64))else MT N (Int64.ofInt ((a.xN.toInt).tdiv a.xD.toInt))else none else some (0:Int64)
def ak4{N a}:KO 240 [bp a] bx (Em N a):=
 fw func240 (au λi g=>V [[],[(4,cK ou g)]] (fi λh=>cF λd=>kW 1 [[f0 (cx h)],[(13,⟨_,_,.nz (b:=a.xD.toInt) (Ue.1 d)⟩),(14,oq (iF ((a.xN.toInt).tdiv a.xD.toInt)))],[(13,⟨_,_,.nz (b:=a.xD.toInt) (Ue.1 d)⟩),(14,oq (MA a.xN a.xD.toInt))]] [3] 1 (λ(e:Int64)=>⟨21,[(3,bx e)],RF a⟩) (MT N) (λj f=>ax (λc=>gm f ((Int64.ofInt ((a.xN.toInt).tdiv a.xD.toInt))-(1:Int64)) [[t0 c],[(5,oq (mm (Int64.ofInt ((a.xN.toInt).tdiv a.xD.toInt)) (1:Int64)))]]) λc=>gm f (Int64.ofInt ((a.xN.toInt).tdiv a.xD.toInt)) [[f0 c]]) (λe=>gR [[]])))
def IF(N:Nat)(a:Int):U Bool:=(bif (decide (a>=1))then some (decide (a<=4))else some false).bind λb=>some b
def aeJ{N b}:KO 304 [Y b] aA (IF N b):=
 fw func304 (V [[]] (gG (λc=>[(2,aA c)]) (λ_=>[]) (ax (λa=>gE [(2,bT a)] []) λa=>gE [(2,bF a)] []) λc=>gR []))
def H5(N:Nat)(a:Int64):U Int:=bif (decide (a.toInt<0))then some (u64.wrap (0-(u64.wrap a.toInt)))else some (u64.wrap a.toInt)
def aa8{N a}:KO 321 [bx a] (λr=>.d (.v (.int .u64 r))) (H5 N a):=
 fw func321 (V [[],[]] (aY λb=>gR [[f0 b],[]]))
def UP(N:Nat)(b a:Int)(c:Bool)(d:Int):U Int:=bif a !=0then some (uf b a c d)else none
def asT{N a b c e r}(J:UP N a b c e=some r):AFn prog 320 [X a,X b,aA c,Y e] (·=(X r)):=asz a b c e r J
def Dv(N:Nat)(b:Int64)(a:Int64)(d:Int):U (Int64×Int):=(IF N d).bind λe=>bif e then bif (a.toInt==0)then some ((0:Int64),(4:Int))else(H5 N b).bind λf=>(H5 N a).bind λg=>(UP N f g (!((decide (b.toInt<0))==(decide (a.toInt<0)))) d).bind λc=>bif ((decide (b.toInt<0))==(decide (a.toInt<0)))then bif (decide (c>=9223372036854775808))then some ((0:Int64),(3:Int))else some (Int64.ofInt c,(0:Int))else some (Int64.ofInt (u64.wrap (0-c)),(0:Int))else some ((0:Int64),(1:Int))
def TI{N b c d}:KO 298 [bx b,bx c,Y d] (λr=>.bq [bx r.1,Y r.2]) (Dv N b c d):=
 fw func298 (au λm f=>V [[],[(4,cK aeJ f)]] (fi λg=>V [[f0 (cx g)],[]] (aY λh=>au λn i=>au λo j=>au λe k=>V [[f0 h],[],[(4,cK aa8 i),(10,cK aa8 j),(19,cL (asT k))],[]] (ax (λa=>V [[f0 (cx a)],[]] (aY λl=>gR [[f0 l],[(5,oq (iF e))]])) λa=>gR [[t0 (dq a)],[(8,oq (iF (u64.wrap (0-e))))]]))))
def Q3(N:Nat)(b:aB)(a:Int)(c:Int):U (Int64×Int):=(lI N b).bind λe=>(bif e then(bif (decide (a<0))then some true else(bif (decide (a>30))then some true else (IF N c).bind λf=>some (!f)))else some true).bind λg=>bif g then some ((0:Int64),(1:Int))else bif (decide ((0:Int)<=(u64.wrap a)))then(Dv N (Int64.ofInt (b.xN.toInt*2^(min (u64.wrap a).toNat (IntKind.bits .i64)))) b.xD c).bind λd=>some (d.1,d.2)else none
def alA{N a c g}:KO 279 [bp a,Y c,Y g] (λr=>.bq [bx r.1,Y r.2]) (Q3 N a c g):=
 fw func279 (V [[]] (au λn i=>gG (λh=>[(23,aA h)]) (λ_=>(RF a)) (cG (4,cK ou i) (ax (λd=>cm (3,bF (cx d)) (ax (λe=>gE [(7,bT e),(11,bT rfl)] []) λe=>cm (7,bF e) (ax (λf=>gE [(11,bT f)] []) λf=>au λo j=>gE [(11,bF f)] [(40,cK aeJ j)]))) λd=>gE [(3,bT (dq d)),(7,bT rfl),(11,bT rfl)] [])) λh=>aY λk=>cF λl=>au λp m=>gR [[f0 k],[(13,⟨_,_,.nn (b:=(u64.wrap c)) (U0 l)⟩),(14,oq (iF (a.xN.toInt*2^(min (u64.wrap c).toNat (IntKind.bits .i64))))),(25,cK TI m)]]))
def Rc(N:Nat)(b:Int64)(a:Int)(c:Int):U (Int64×Bool):=(Cb N a).bind λf=>(bif f then(bif (c !=1)then some (c !=2)else some false)else some true).bind λg=>bif g then some ((0:Int64),false)else(FU N a).bind λd=>(GV N a).bind λe=>(bif (decide (b.toInt>=d.toInt))then some (decide (b.toInt<=e.toInt))else some false).bind λh=>bif h then some (b,false)else(bif (c==1)then some (decide (b.toInt<d.toInt))else some false).bind λi=>bif i then some (d,true)else bif (c==1)then some (e,true)else bif (decide ((0:Int)<=(u64.wrap (aF ((64:Int)-a)))))then some (Int64.ofInt (((Int64.ofInt (u64.wrap ((u64.wrap b.toInt)*2^(min (u64.wrap (aF ((64:Int)-a))).toNat (IntKind.bits .u64))))).toInt).fdiv (2^(min (u64.wrap (aF ((64:Int)-a))).toNat (IntKind.bits .i64)))),true)else none
def aiH{N d a h}:KO 305 [bx d,Y a,Y h] (λr=>.bq [bx r.1,aA r.2]) (Rc N d a h):=
 fw func305 (V [[]] (au λu m=>gG (λi=>[(21,aA i)]) (λ_=>[]) (cG (4,cK RE m) (ax (λe=>cm (3,bF (cx e)) (ax (λc=>gE [(6,bT c)] [(28,bT c)]) λc=>gE [(6,bF c)] [(28,bF c)])) λe=>gE [(3,bT (dq e)),(6,uN)] [])) λi=>aY λn=>au λv o=>au λw p=>V [[f0 n],[(4,cK aak o),(10,cK aa6 p)]] (gG (λj=>[(26,aA j)]) (λ_=>[]) (ax (λf=>gE [(3,bT f)] []) λf=>gE [(3,bF f)] []) λj=>aY λq=>V [[f0 q]] (gG (λk=>[(36,aA k)]) (λ_=>[]) (ax (λg=>gE [(2,bT g)] []) λg=>gE [(2,bF g)] []) λk=>eY λ_=>aY λt=>cF λl=>gR [[f0 t],[],[(10,⟨_,_,.nn (b:=(u64.wrap (aF ((64:Int)-a)))) (U0 l)⟩),(14,oq (iF (u64.wrap ((u64.wrap d.toInt)*2^(min (u64.wrap (aF ((64:Int)-a))).toNat (IntKind.bits .u64)))))),(19,⟨_,_,.nn (b:=(u64.wrap (aF ((64:Int)-a)))) (U0 l)⟩),(20,oq (auz (Int64.ofInt (u64.wrap ((u64.wrap d.toInt)*2^(min (u64.wrap (aF ((64:Int)-a))).toNat (IntKind.bits .u64))))) (min (u64.wrap (aF ((64:Int)-a))).toNat (IntKind.bits .i64))))]]))))
def qJ(N:Nat)(a:aM)(b:Int64):U aB:=(Rc N b a.bW a.cC).bind λc=>some (⟨c.1,1⟩:aB)
def AY{N a b}:KO 280 [bY a,bx b] bp (qJ N a b):=
 fw func280 (au λd c=>gR [[],[(16,cK aiH c)],[]])
def GD(N:Nat)(a:aM)(b:aB):U (aB×Int):=(xH N a).bind λc=>bif (c !=0)then some (cf,c)else(Q3 N b a.ck a.ct).bind λd=>(bif (d.2 !=0)then some true else (lI N b).bind λe=>some (!e)).bind λf=>bif f then some (cf,(1:Int))else(qJ N a d.1).bind λg=>some (g,(0:Int))
def apa{N a b}:KO 241 [bY a,bp b] (λr=>.bq [bp r.1,Y r.2]) (GD N a b):=
 fw func241 (au λk e=>V [[],[(4,cK K5 e)],[]] (aY λf=>au λl g=>V [[f0 f],[(16,cK alA g)]] (gG (λd=>[(30,aA d)]) (λ_=>[.cells (bY a).cells,.cells (bp b).cells,.cells gg]) (ax (λc=>gE [(2,bT c)] []) λc=>au λm h=>gE [(2,bF c)] [(13,cK ou h)]) λd=>aY λi=>au λn j=>gR [[f0 i],[(7,cK AY j)]])))
def OC(N:Nat)(c:aM)(b:aM)(e:aB):U (aB×Int):=(nF N c).bind λf=>(bif (f !=0)then some true else (nF N b).bind λg=>some (g !=0)).bind λh=>bif h then some (cf,(10:Int))else(nM N c e).bind λi=>bif i then(K1 N c e).bind λd=>bif (b.bB==3)then(Em N d).bind λj=>some ((⟨j,1⟩:aB),(0:Int))else bif (b.bB==2)then(GD N b d).bind λa=>some (a.1,a.2)else some (d,(0:Int))else some (cf,(1:Int))
abbrev R3:=λa b c=>([.cells (bY a).cells,.cells (bY b).cells,.cells (bp c).cells,.cells gg]:List ar)
def apu{N a b c}:KO 160 [bY a,bY b,bp c] (λr=>.bq [bp r.1,Y r.2]) (OC N a b c):=
 fw func160 (V [[]] (au λq g=>gG (λf=>[(9,aA f)]) (λ_=>(R3 a b c)) (cG (4,cK qz g) (ax (λd=>gE [(3,bT d)] []) λd=>au λt h=>gE [(3,bF d)] [(16,cK qz h)])) λf=>aY λi=>au λu j=>V [[f0 i],[(7,cK wO j)]] (fi λk=>au λv l=>V [[f0 (cx k)],[(7,cK aq3 l)],[],[]] (ax (λe=>au λw m=>gR [[t0 e],[(4,cK ak4 m)]]) λe=>V [[f0 e],[]] (jz λn=>au λo p=>gR [[t0 n],[(7,cK apa p)]])))))
def SA(N:Nat)(b:aM)(a:Int64)(c:Int64):U (Int64×Int):=some ((-a),(0:Int))
def amC{N b a c}:KO 294 [bY b,bx a,bx c] (λr=>.bq [bx r.1,Y r.2]) (SA N b a c):=
 fw func294 (gR [[],[(5,oq (lT a))]])
def Un(N:Nat)(a:aM)(c:aB)(d:aB):U (aB×Int):=(sW N a ([c,d])).bind λe=>bif (e !=0)then some (cf,e)else(SA N a c.xN d.xN).bind λb=>bif (b.2 !=0)then some (cf,b.2)else(qJ N a b.1).bind λf=>some (f,(0:Int))
def al9{N c d e}:KP 293 [.agg [.fn 294 []],bY c,bp d,bp e] [] (λr=>.bq [bp r.1,Y r.2]) (λ_=>[]) (Un N c d e):=
 fh 0 func293 (au λi f=>V [[],[(13,cK Cl f)],[]] (ax (λa=>gH [[t0 a],[]]) λa=>au λj g=>V [[f0 a],[(22,cK amC g)],[]] (ax (λb=>gH [[t0 b],[]]) λb=>au λk h=>gH [[f0 b],[(7,cK AY h)]])))
def EV(N:Nat)(c:aM)(a:aB):U (aB×Int):=(Un N c a a).bind λb=>some (b.1,b.2)
def apz{N b a}:KO 264 [bY b,bp a] (λr=>.bq [bp r.1,Y r.2]) (EV N b a):=
 fw func264 (au λd c=>gR [[],[(13,oQ [.agg [.fn 294 []],bY b,bp a,bp a] [.cells (bY b).cells,.cells (bp a).cells,.cells gg] [] (al9 _ c))]])
def Lv(N:Nat)(b:aM)(a:aB):U (aB×Int):=bif (b.bB==2)then(EV N b a).bind λc=>some (c.1,c.2)else some ((⟨(-a.xN),a.xD⟩:aB),(0:Int))
def arT{N c a}:KO 206 [bY c,bp a] (λr=>.bq [bp r.1,Y r.2]) (Lv N c a):=
 fw func206 (V [[],[]] (ax (λb=>au λe d=>gR [[t0 b],[(7,cK apz d)]]) λb=>gR [[f0 b],[(8,oq (lT a.xN))]]))
def Js(N:Nat)(c:Int)(b:Int64)(a:Int64):U (aB×Int):=bif (c==4)then(qY N (b+a)).bind λd=>bif d then some ((⟨b+a,1⟩:aB),(0:Int))else some (cf,(3:Int))else bif (c==5)then(qY N (b-a)).bind λe=>bif e then some ((⟨b-a,1⟩:aB),(0:Int))else some (cf,(3:Int))else bif (c==6)then(qY N (b*a)).bind λf=>bif f then some ((⟨b*a,1⟩:aB),(0:Int))else some (cf,(3:Int))else bif (a.toInt==0)then some (cf,(4:Int))else bif (a.toInt !=0)then(bif ((Int64.ofInt ((b.toInt).tmod a.toInt)).toInt !=0)then some (!((decide (b.toInt<0))==(decide (a.toInt<0))))else some false).bind λg=>bif g then(qY N ((Int64.ofInt ((b.toInt).tdiv a.toInt))-(1:Int64))).bind λh=>bif h then some ((⟨(Int64.ofInt ((b.toInt).tdiv a.toInt))-(1:Int64),1⟩:aB),(0:Int))else some (cf,(3:Int))else(qY N (Int64.ofInt ((b.toInt).tdiv a.toInt))).bind λi=>bif i then some ((⟨Int64.ofInt ((b.toInt).tdiv a.toInt),1⟩:aB),(0:Int))else some (cf,(3:Int))else none
def akx{N i c a}:KO 265 [Y i,bx c,bx a] (λr=>.bq [bp r.1,Y r.2]) (Js N i c a):=
 fw func265 (V [[],[],[],[]] (ax (λd=>au λy l=>V [[t0 d],[(8,oq (oF c a))],[(4,cK BV l)]] (nb λm=>gR [[t0 (dq m)],[]])) λd=>V [[f0 d],[]] (ax (λe=>au λz n=>V [[t0 e],[(8,oq (mm c a))],[(4,cK BV n)]] (nb λo=>gR [[t0 (dq o)],[]])) λe=>V [[f0 e],[]] (ax (λf=>au λA p=>V [[t0 f],[(8,oq (gu c a))],[(4,cK BV p)]] (nb λq=>gR [[t0 (dq q)],[]])) λf=>V [[f0 f],[]] (aY λt=>cF λj=>V [[f0 t],[(7,⟨_,_,.nz (b:=a.toInt) (Ue.1 j)⟩),(8,oq (iF ((c.toInt).tdiv a.toInt)))]] (gG (λk=>[(26,aA k)]) (λ_=>[.cells gg]) (cG (7,⟨_,_,.nz (b:=a.toInt) (Ue.1 j)⟩) (cG (8,oq (MA c a.toInt)) (ax (λg=>gE [(4,bT g)] []) λg=>gE [(4,bF g)] []))) λk=>ax (λh=>au λB u=>V [[t0 h],[(5,oq (mm (Int64.ofInt ((c.toInt).tdiv a.toInt)) (1:Int64)))],[(4,cK BV u)]] (nb λv=>gR [[t0 (dq v)],[]])) λh=>au λC w=>V [[f0 h],[(4,cK BV w)]] (nb λx=>gR [[t0 (dq x)],[]])))))))
def Te(N:Nat)(c:aM)(a:Int64)(b:Int64):U (Int64×Int):=some (a+b,(0:Int))
def akT{N c a b}:KO 295 [bY c,bx a,bx b] (λr=>.bq [bx r.1,Y r.2]) (Te N c a b):=
 fw func295 (gR [[],[(8,oq (oF a b))]])
def VO(N:Nat)(a:aM)(c:aB)(d:aB):U (aB×Int):=(sW N a ([c,d])).bind λe=>bif (e !=0)then some (cf,e)else(Te N a c.xN d.xN).bind λb=>bif (b.2 !=0)then some (cf,b.2)else(qJ N a b.1).bind λf=>some (f,(0:Int))
def aoy{N c d e}:KP 293 [.agg [.fn 295 []],bY c,bp d,bp e] [] (λr=>.bq [bp r.1,Y r.2]) (λ_=>[]) (VO N c d e):=
 fh 0 func293 (au λi f=>V [[],[(13,cK Cl f)],[]] (ax (λa=>gH [[t0 a],[]]) λa=>au λj g=>V [[f0 a],[(22,cK akT g)],[]] (ax (λb=>gH [[t0 b],[]]) λb=>au λk h=>gH [[f0 b],[(7,cK AY h)]])))
def Es(N:Nat)(b:aM)(c:aB)(d:aB):U (aB×Int):=(VO N b c d).bind λa=>some (a.1,a.2)
abbrev Mt:=λa b c=>([.cells (bY a).cells,.cells (bp b).cells,.cells (bp c).cells,.cells gg]:List ar)
def anw{N a b c}:KO 266 [bY a,bp b,bp c] (λr=>.bq [bp r.1,Y r.2]) (Es N a b c):=
 fw func266 (au λe d=>gR [[],[(13,oQ [.agg [.fn 295 []],bY a,bp b,bp c] (Mt a b c) [] (aoy _ d))]])
def V0(N:Nat)(c:aM)(a:Int64)(b:Int64):U (Int64×Int):=some (a-b,(0:Int))
def aqF{N c a b}:KO 296 [bY c,bx a,bx b] (λr=>.bq [bx r.1,Y r.2]) (V0 N c a b):=
 fw func296 (gR [[],[(8,oq (mm a b))]])
def TE(N:Nat)(a:aM)(c:aB)(d:aB):U (aB×Int):=(sW N a ([c,d])).bind λe=>bif (e !=0)then some (cf,e)else(V0 N a c.xN d.xN).bind λb=>bif (b.2 !=0)then some (cf,b.2)else(qJ N a b.1).bind λf=>some (f,(0:Int))
def arw{N c d e}:KP 293 [.agg [.fn 296 []],bY c,bp d,bp e] [] (λr=>.bq [bp r.1,Y r.2]) (λ_=>[]) (TE N c d e):=
 fh 0 func293 (au λi f=>V [[],[(13,cK Cl f)],[]] (ax (λa=>gH [[t0 a],[]]) λa=>au λj g=>V [[f0 a],[(22,cK aqF g)],[]] (ax (λb=>gH [[t0 b],[]]) λb=>au λk h=>gH [[f0 b],[(7,cK AY h)]])))
def Eo(N:Nat)(b:aM)(c:aB)(d:aB):U (aB×Int):=(TE N b c d).bind λa=>some (a.1,a.2)
def aru{N a b c}:KO 267 [bY a,bp b,bp c] (λr=>.bq [bp r.1,Y r.2]) (Eo N a b c):=
 fw func267 (au λe d=>gR [[],[(13,oQ [.agg [.fn 296 []],bY a,bp b,bp c] (Mt a b c) [] (arw _ d))]])
def Vo(N:Nat)(a:aM)(c:Int64)(d:Int64):U (Int64×Int):=bif (decide ((0:Int)<=a.ck))then(Dv N (c*d) (Int64.ofInt ((1:Int)*2^(min (a.ck).toNat (IntKind.bits .i64)))) a.ct).bind λb=>some (b.1,b.2)else none
def ahc{N a c d}:KO 297 [bY a,bx c,bx d] (λr=>.bq [bx r.1,Y r.2]) (Vo N a c d):=
 fw func297 (cF λe=>au λg f=>gR [[],[(8,oq (gu c d)),(16,⟨_,_,.nn (b:=a.ck) (U0 e)⟩),(17,oq (iF ((1:Int)*2^(min (a.ck).toNat (IntKind.bits .i64))))),(25,cK TI f)]])
def Wi(N:Nat)(a:aM)(c:aB)(d:aB):U (aB×Int):=(sW N a ([c,d])).bind λe=>bif (e !=0)then some (cf,e)else(Vo N a c.xN d.xN).bind λb=>bif (b.2 !=0)then some (cf,b.2)else(qJ N a b.1).bind λf=>some (f,(0:Int))
def ahN{N c d e}:KP 293 [.agg [.fn 297 []],bY c,bp d,bp e] [] (λr=>.bq [bp r.1,Y r.2]) (λ_=>[]) (Wi N c d e):=
 fh 0 func293 (au λi f=>V [[],[(13,cK Cl f)],[]] (ax (λa=>gH [[t0 a],[]]) λa=>au λj g=>V [[f0 a],[(22,cK ahc g)],[]] (ax (λb=>gH [[t0 b],[]]) λb=>au λk h=>gH [[f0 b],[(7,cK AY h)]])))
def Hj(N:Nat)(b:aM)(c:aB)(d:aB):U (aB×Int):=(Wi N b c d).bind λa=>some (a.1,a.2)
def ak8{N a b c}:KO 268 [bY a,bp b,bp c] (λr=>.bq [bp r.1,Y r.2]) (Hj N a b c):=
 fw func268 (au λe d=>gR [[],[(13,oQ [.agg [.fn 297 []],bY a,bp b,bp c] (Mt a b c) [] (ahN _ d))]])
def SE(N:Nat)(a:aM)(c:Int64)(d:Int64):U (Int64×Int):=bif (decide ((0:Int)<=a.ck))then(Dv N (Int64.ofInt (c.toInt*2^(min (a.ck).toNat (IntKind.bits .i64)))) d a.ct).bind λb=>some (b.1,b.2)else none
def ajb{N a c d}:KO 299 [bY a,bx c,bx d] (λr=>.bq [bx r.1,Y r.2]) (SE N a c d):=
 fw func299 (cF λe=>au λg f=>gR [[],[(10,⟨_,_,.nn (b:=a.ck) (U0 e)⟩),(11,oq (iF (c.toInt*2^(min (a.ck).toNat (IntKind.bits .i64))))),(22,cK TI f)]])
def SS(N:Nat)(a:aM)(c:aB)(d:aB):U (aB×Int):=(sW N a ([c,d])).bind λe=>bif (e !=0)then some (cf,e)else(SE N a c.xN d.xN).bind λb=>bif (b.2 !=0)then some (cf,b.2)else(qJ N a b.1).bind λf=>some (f,(0:Int))
def arO{N c d e}:KP 293 [.agg [.fn 299 []],bY c,bp d,bp e] [] (λr=>.bq [bp r.1,Y r.2]) (λ_=>[]) (SS N c d e):=
 fh 0 func293 (au λi f=>V [[],[(13,cK Cl f)],[]] (ax (λa=>gH [[t0 a],[]]) λa=>au λj g=>V [[f0 a],[(22,cK ajb g)],[]] (ax (λb=>gH [[t0 b],[]]) λb=>au λk h=>gH [[f0 b],[(7,cK AY h)]])))
def Hn(N:Nat)(b:aM)(c:aB)(d:aB):U (aB×Int):=(SS N b c d).bind λa=>some (a.1,a.2)
def ak2{N a b c}:KO 269 [bY a,bp b,bp c] (λr=>.bq [bp r.1,Y r.2]) (Hn N a b c):=
 fw func269 (au λe d=>gR [[],[(13,oQ [.agg [.fn 299 []],bY a,bp b,bp c] (Mt a b c) [] (arO _ d))]])
def Fv(N:Nat)(a:aB)(b:aB):U (aB×Int):=(lI N a).bind λd=>(bif d then (lI N b).bind λe=>some (!e)else some true).bind λf=>bif f then some (cf,(1:Int))else(tN N ((a.xN*b.xD)+(b.xN*a.xD)) (a.xD*b.xD)).bind λc=>some (c.1,c.2)
abbrev K2:=λa b=>([.cells (bp a).cells,.cells (bp b).cells,.cells gg]:List ar)
def aoC{N a b}:KO 270 [bp a,bp b] (λr=>.bq [bp r.1,Y r.2]) (Fv N a b):=
 fw func270 (V [[]] (au λi e=>gG (λd=>[(13,aA d)]) (λ_=>(K2 a b)) (cG (4,cK ou e) (ax (λc=>au λj f=>gE [(3,bF (cx c))] [(16,cK ou f)]) λc=>gE [(3,bT (dq c))] [])) λd=>aY λg=>au λk h=>gR [[f0 g],[(14,oq (gu a.xN b.xD)),(29,oq (gu b.xN a.xD)),(32,oq (oF (a.xN*b.xD) (b.xN*a.xD))),(47,oq (gu a.xD b.xD)),(49,cK HJ h)]]))
def IP(N:Nat)(a:aB)(b:aB):U (aB×Int):=(lI N a).bind λd=>(bif d then (lI N b).bind λe=>some (!e)else some true).bind λf=>bif f then some (cf,(1:Int))else(tN N ((a.xN*b.xD)-(b.xN*a.xD)) (a.xD*b.xD)).bind λc=>some (c.1,c.2)
def ann{N a b}:KO 271 [bp a,bp b] (λr=>.bq [bp r.1,Y r.2]) (IP N a b):=
 fw func271 (V [[]] (au λi e=>gG (λd=>[(13,aA d)]) (λ_=>(K2 a b)) (cG (4,cK ou e) (ax (λc=>au λj f=>gE [(3,bF (cx c))] [(16,cK ou f)]) λc=>gE [(3,bT (dq c))] [])) λd=>aY λg=>au λk h=>gR [[f0 g],[(14,oq (gu a.xN b.xD)),(29,oq (gu b.xN a.xD)),(32,oq (mm (a.xN*b.xD) (b.xN*a.xD))),(47,oq (gu a.xD b.xD)),(49,cK HJ h)]]))
def GK(N:Nat)(a:aB)(b:aB):U (aB×Int):=(lI N a).bind λd=>(bif d then (lI N b).bind λe=>some (!e)else some true).bind λf=>bif f then some (cf,(1:Int))else(tN N (a.xN*b.xN) (a.xD*b.xD)).bind λc=>some (c.1,c.2)
def ake{N a b}:KO 272 [bp a,bp b] (λr=>.bq [bp r.1,Y r.2]) (GK N a b):=
 fw func272 (V [[]] (au λi e=>gG (λd=>[(13,aA d)]) (λ_=>(K2 a b)) (cG (4,cK ou e) (ax (λc=>au λj f=>gE [(3,bF (cx c))] [(16,cK ou f)]) λc=>gE [(3,bT (dq c))] [])) λd=>aY λg=>au λk h=>gR [[f0 g],[(14,oq (gu a.xN b.xN)),(29,oq (gu a.xD b.xD)),(31,cK HJ h)]]))
def I2(N:Nat)(a:aB)(b:aB):U (aB×Int):=(lI N a).bind λd=>(bif d then (lI N b).bind λe=>some (!e)else some true).bind λf=>bif f then some (cf,(1:Int))else(tN N (a.xN*b.xD) (a.xD*b.xN)).bind λc=>some (c.1,c.2)
def ahz{N a b}:KO 273 [bp a,bp b] (λr=>.bq [bp r.1,Y r.2]) (I2 N a b):=
 fw func273 (V [[]] (au λi e=>gG (λd=>[(13,aA d)]) (λ_=>(K2 a b)) (cG (4,cK ou e) (ax (λc=>au λj f=>gE [(3,bF (cx c))] [(16,cK ou f)]) λc=>gE [(3,bT (dq c))] [])) λd=>aY λg=>au λk h=>gR [[f0 g],[(14,oq (gu a.xN b.xD)),(29,oq (gu a.xD b.xN)),(31,cK HJ h)]]))
def Nj(N:Nat)(d:Int)(a:aM)(b:aB)(c:aB):U (aB×Int):=bif (a.bB==3)then(Js N d b.xN c.xN).bind λh=>some (h.1,h.2)else(bif (d==4)then some (a.bB==2)else some false).bind λo=>bif o then(Es N a b c).bind λi=>some (i.1,i.2)else(bif (d==5)then some (a.bB==2)else some false).bind λp=>bif p then(Eo N a b c).bind λj=>some (j.1,j.2)else(bif (d==6)then some (a.bB==2)else some false).bind λg=>bif g then(Hj N a b c).bind λe=>some (e.1,e.2)else bif (a.bB==2)then(Hn N a b c).bind λf=>some (f.1,f.2)else bif (d==4)then(Fv N b c).bind λk=>some (k.1,k.2)else bif (d==5)then(IP N b c).bind λl=>some (l.1,l.2)else bif (d==6)then(GK N b c).bind λm=>some (m.1,m.2)else(I2 N b c).bind λn=>some (n.1,n.2)
def QI(a:aM)(b:aB)(c:aB)(l:I ar):I ar:= .cells (bY a).cells:: .cells (bp b).cells:: .cells (bp c).cells:: .cells gg::l
def anU{N p a b c}:KO 207 [Y p,bY a,bp b,bp c] (λr=>.bq [bp r.1,Y r.2]) (Nj N p a b c):=
 fw func207 (V [[],[],[]] (ax (λe=>au λG u=>gR [[t0 e],[(16,cK akx u)]]) λe=>V [[f0 e]] (gG (λq=>[(26,aA q)]) (λ_=>(QI a b c [])) (ax (λf=>gE [(2,bT f)] []) λf=>gE [(2,bF f)] []) λq=>ax (λg=>au λH v=>gR [[t0 g],[(10,cK anw v)]]) λg=>V [[f0 g]] (gG (λt=>[(38,aA t)]) (λ_=>(QI a b c [])) (ax (λh=>gE [(2,bT h)] []) λh=>gE [(2,bF h)] []) λt=>ax (λi=>au λJ w=>gR [[t0 i],[(10,cK aru w)]]) λi=>V [[f0 i]] (gG (λd=>[(50,aA d)]) (λ_=>(QI a b c [])) (ax (λj=>gE [(2,bT j)] []) λj=>gE [(2,bF j)] []) λd=>ax (λk=>au λx y=>gR [[t0 k],[(10,cK ak8 y)]]) λk=>V [[f0 k],[]] (ax (λl=>au λz A=>gR [[t0 l],[(10,cK ak2 A)]]) λl=>V [[f0 l],[]] (ax (λm=>au λK B=>gR [[t0 m],[(7,cK aoC B)]]) λm=>V [[f0 m],[]] (ax (λn=>au λL C=>gR [[t0 n],[(7,cK ann C)]]) λn=>V [[f0 n],[]] (ax (λo=>au λM E=>gR [[t0 o],[(7,cK ake E)]]) λo=>au λP F=>gR [[f0 o],[(7,cK ahz F)]])))))))))
def BD(N:Nat)(e:aM)(b:aB)(c:aB)(f:Int)(d:Bool):U (aB×Int):=bif d then(GS N e b c).bind λa=>(bif ((decide (a>0))==(f==9))then some (a !=0)else some false).bind λh=>bif h then some (c,(0:Int))else some (b,(0:Int))else(Nj N f e b c).bind λg=>some (g.1,g.2)
def yZ(N:Nat)(a:Int)(b:aM)(d:aB)(e:aB):U (aB×Int):=(bif (decide (a<4))then some true else some (decide (a>10))).bind λf=>bif f then some (cf,(1:Int))else(nF N b).bind λg=>bif (g !=0)then some (cf,(10:Int))else(nM N b d).bind λh=>(bif h then(bif (a !=8)then (nM N b e).bind λi=>some (!i)else some false)else some true).bind λj=>bif j then some (cf,(1:Int))else bif (a==8)then(Lv N b d).bind λc=>some (c.1,c.2)else bif (a==9)then BD N b d e a (a==9)else BD N b d e a (a==10)
def Oj(a:aM)(b:aB)(c:aB)(l:I ar):I ar:= .cells (bY a).cells:: .cells (bp b).cells:: .cells (bp c).cells:: .cells gg::l
def Vn{N d a b c}:KO 120 [Y d,bY a,bp b,bp c] (λr=>.bq [bp r.1,Y r.2]) (yZ N d a b c):=
 fw func120 (V [[]] (gG (λm=>[(11,aA m)]) (λ_=>(Oj a b c [])) (ax (λg=>gE [(2,bT g)] []) λg=>gE [(2,bF g)] []) λm=>aY λq=>au λF t=>V [[f0 q],[(4,cK qz t)]] (aY λu=>V [[f0 u]] (au λG v=>gG (λn=>[(24,aA n)]) (λ_=>(Oj a b c [])) (cG (7,cK wO v) (ax (λh=>cm (4,bF (cx h)) (ax (λe=>au λH w=>gE [(7,bT e)] [(31,cK wO w),(37,bT e)]) λe=>gE [(7,bF e)] [(37,bF e)])) λh=>gE [(4,bT (dq h)),(7,uN)] [])) λn=>aY λx=>V [[f0 x],[],[]] (ax (λi=>au λy z=>gR [[t0 i],[(7,cK arT z)]]) λi=>kW 1 [[f0 i],[]] [0,5,6,7,8,48] 4 (λ(f:Bool)=>⟨73,[(0,Y d),(5,A0),(6,Ac),(7,CL),(8,Aj),(48,aA f)],Oj a b c []⟩) (BD N a b c d) (λJ o=>ax (λj=>gm o (d==9) [[t0 j]]) λj=>gm o (d==10) [[f0 j],[]]) (λf=>ax (λk=>au λA B=>V [[t0 k],[(10,cK abc B)]] (gG (λp=>[(63,aA p)]) (λ_=>(Oj a b c [])) (ax (λl=>gE [(5,bT l)] []) λl=>gE [(5,bF l)] []) λp=>aY λC=>gR [[f0 C],[]])) λk=>au λK E=>gR [[f0 k],[(13,cK anU E)]]))))))
end Go.Proofs.YtnnapanbbbcalaaGreatDoor
