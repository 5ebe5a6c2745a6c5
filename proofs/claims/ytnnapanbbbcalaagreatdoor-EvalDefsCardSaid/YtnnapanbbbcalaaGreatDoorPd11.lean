/-
  Part 11 of the proof: PE1, PE2, PE3.
-/
import Derived.Test.YtnnapanbbbcalaaGreatDoorPd10
set_option linter.defProp false
namespace Go.Proofs.YtnnapanbbbcalaaGreatDoor
open IntKind (u64 i64)
open Tryz
open Go.RowKit
set_option maxRecDepth 100000
set_option maxHeartbeats 0
set_option linter.unusedVariables false
def jG{α β γ:Type}{a:Option α}{b:α->Option β}{f:α->β->Option γ}{r:γ}(h:Option.bind a (λx=>Option.bind (b x) (f x))=some r):∃x,a=some x/\∃y,b x=some y/\f x y=some r:=have⟨x,p,h⟩:=bz h;have⟨y,q,h⟩:=bz h;⟨x,p,y,q,h⟩
def gL(v:bo)(r:I AV):I AV:=(O (cD v.bG))::(O (nZ v.dU))::(O (lL v.bu))::(O (iy v.aM))::(O (cD v.dM))::r
def ML(N:Nat)(a:I aR):I aR->Nat->U Bool
 |[],_=>some (decide ((a.length:Int)<=30))
 |v4::b,c=>(bif (decide ((v4.aC.size:Int)>100))then some true else(bif (decide ((v4.iH.aQ.length:Int)>20))then some true else some (decide ((v4.iH.eF.length:Int)>4200)))).bind λd=>bif d then some false else(ML N a b (c+1))
def V3(N:Nat)(a:I aR):U Bool:=ML N a a 0
def anY{N b}:KO 8 [O (bp b)] az (V3 N b):=
 fw func8 (V [[],[]] (gT xe 0 b λi=>dP 1 [] [0,3] 0 (λc=>⟨40,[(0,O (bp b)),(3,Y c)],[]⟩) (λc a j=>gR [[(7,oL b vQ)],[f0 (bI a)],[(4,oL b vQ)]]) (λc g m a j k=>V [[(7,oL b vQ)],[t0 (bH a)]] (gG (λh=>[(36,az h)]) (λ_=>[]) (cU (7,oE (vI (aY a))) (ax (λe=>gE [(7,bT e),(17,bT rfl)] []) λe=>cp (7,bF e) (cU (31,oE (vI (aY a))) (cU (43,oL g.iH.aQ fF) (ax (λf=>gE [(17,bT f)] []) λf=>gE [(17,bF f)] [(61,oE (vI (aY a))),(73,oL g.iH.eF jK)]))))) λh=>bg λl=>gb k () [[f0 l],[(5,oq (bV a rfl i))]] a))))
def Nk(N:Nat)(a:I aJ)(b:Int):I aJ->Nat->U Bool
 |[],_=>some (decide ((a.length:Int)<=b))
 |c::d,e=>bif (decide ((c.aC.size:Int)>100))then some false else(Nk N a b d (e+1))
def Qt(N:Nat)(a:I aJ)(b:Int):U Bool:=Nk N a b a 0
def amt{N a c}:KO 14 [O (aT a),Y c] az (Qt N a c):=
 fw func14 (V [[],[]] (gT uD 0 a λf=>dP 1 [] [0,1,5] 0 (λe=>⟨23,[(0,O (aT a)),(1,Y c),(5,Y e)],[]⟩) (λe b g=>gR [[(7,oL a mV)],[f0 (bI b)],[(4,oL a mV)]]) (λe j k b g h=>V [[(7,oL a mV)],[t0 (bH b)],[(7,oE (oa (aY b)))]] (bg λi=>gb h () [[f0 i],[(5,oq (bV b rfl f))]] b))))
def zL(N:Nat)(b:Int)(d:ay->Int->U Int):I ay->Nat->Int->U Int
 |[],_,a=>some a
 |v10::c,e,a=>bif (decide (a<=b))then(d v10 (aE (b-a))).bind λf=>(λg=>zL N b d c (e+1) g) (aE (a+f))else some a
def PD(N:Nat)(b:Int->U Int)(c:Int):I bD->Nat->Int->U Int
 |[],_,a=>b a
 |d::e,f,a=>bif (decide (a<=c))then(λg=>PD N b c e (f+1) g) (aE (a+(d.xL.length:Int)))else b a
def Cr(N:Nat)(b:Int)(e:ay->Int->U Int):I ay->Nat->Int->U Int
 |[],_,a=>some a
 |c::f,g,a=>bif (decide (a<=b))then(e c (aE (b-a))).bind λd=>(λh=>Cr N b e f (g+1) h) (aE (a+d))else some a
def Du(N:Nat)(a:Int)(c:ay->Int->U Int)(d:ay):I c7->Nat->Int->U Int
 |[],_,b=>zL N a c d.bS 0 b
 |e::f,g,b=>bif (decide (b<=a))then PD N (λh=>Du N a c d f (g+1) h) a e.cP 0 (aE ((aE (b+(e.bO.xL.length:Int)))+(e.cP.length:Int)))else Cr N a c d.bS 0 b
def wC(N:Nat):Nat->ay->Int->U Int
 |0,_,_=>none
 |d+1,a,b=>Du N b (wC N d) a a.xIdx 0 (aE ((aE ((1:Int)+(a.bO.xL.length:Int)))+(a.xIdx.length:Int)))
def TC(N:Nat)(a:ay)(b:Int):U Int:=wC N N a b
abbrev GY:=λa=>([.cells (aK a).cells]:List ar)
def arV(N:Nat):∀d:Nat,(∀{a:ay}{h:Int},KO 37 [aK a,Y h] Y (wC N d a h)):=by
 intro d
 induction d with
 |zero=>intro a h r J;rw[wC]at J;cases J
 |succ d ih=>
  have w:= @ih;intro a h;rw[wC];exact fw func37 (V [[],[(10,oL a.bO.xL jH),(22,oL a.xIdx gq)],[]] (gB rJ 0 11 a.xIdx λx=>ft 1 [] [1,2,5,6] 1 (λl(n:Int)=>⟨101,[(1,Y h),(2,Ad),(5,Y n),(6,Y l)],GY a⟩) (λl n b A=>V [[(10,oL a.xIdx gq),(18,bF (bI b)),(21,bF (bI b)),(24,bF (bI b)),(28,bF (bI b))],[(0,bF rfl)],[]] (gB o0 0 12 a.bS λB=>ft 2 [] [1,2,5,8] 1 (λo(g:Int)=>⟨101,[(1,Y h),(2,Ad),(5,Y g),(8,Y o)],GY a⟩) (λo g c C=>gR [[(10,oL a.bS ji),(18,bF (bI c)),(21,bF (bI c)),(24,bF (bI c)),(28,bF (bI c))],[(0,bF rfl)],[]]) (λo E F g c C G=>V [[(10,oL a.bS ji),(18,bT (bH c)),(21,bT (bH c)),(24,bT (bH c)),(28,bT (bH c))]] (jC λH=>au λK L=>gb G (aE (g+K)) [[(0,bT H)],[(13,oE (gz (aY c))),(28,cK w L)],[(5,oq (bV c rfl B))]] c)))) (λl k v6 n b A y=>V [[(10,oL a.xIdx gq),(18,bT (bH b)),(21,bT (bH b)),(24,bT (bH b)),(28,bT (bH b))]] (ax (λp=>V [[(0,bT p)],[(13,oE (jh (aY b))),(25,oL k.bO.xL jH),(40,oE (jh (aY b))),(49,oL k.cP fX)],[]] (Is (λ_=>(EK 0 11 (fc a.xIdx) (by kernel_rfl) ·)) λM=>have P:=td fX (Hm (j:=3) (d:= .sl (fA k.cP)) M (jh (aY b)) rfl);ft 3 [] [1,2,5,6,7] 1 (λq(i:Int)=>⟨101,[(1,Y h),(2,Ad),(5,Y i),(6,Y l),(7,Y q)],GY a⟩) (λq i e Q=>gb y i [[(13,oE (jh (aY b))),(22,oL k.cP fX),(30,bF (bI e)),(33,bF (bI e)),(36,bF (bI e)),(40,bF (bI e))],[(0,bF rfl)],[(5,oq (bV b rfl x))]] b) (λq z bY i e Q R=>V [[(13,oE (jh (aY b))),(22,oL k.cP fX),(30,bT (bH e)),(33,bT (bH e)),(36,bT (bH e)),(40,bT (bH e))]] (ax (λt=>gb R (aE (i+(z.xL.length:Int))) [[(0,bT t)],[(13,oE (jh (aY b))),(25,oE (o7 (aY e))),(34,oL z.xL jH)],[(5,oq (bV e rfl P))]] e) λt=>gb y i [[(0,bF t)],[(5,oq (bV b rfl x))]] b)))) λp=>V [[(0,bF p)],[]] (gB o0 0 12 a.bS λS=>ft 4 [] [1,2,5,8] 1 (λu(m:Int)=>⟨101,[(1,Y h),(2,Ad),(5,Y m),(8,Y u)],GY a⟩) (λu m f T=>gR [[(10,oL a.bS ji),(18,bF (bI f)),(21,bF (bI f)),(24,bF (bI f)),(28,bF (bI f))],[(0,bF rfl)],[]]) (λu W fv m f T lC=>V [[(10,oL a.bS ji),(18,bT (bH f)),(21,bT (bH f)),(24,bT (bH f)),(28,bT (bH f))]] (jC λde=>au λv dN=>gb lC (aE (m+v)) [[(0,bT de)],[(13,oE (gz (aY f))),(28,cK w dN)],[(5,oq (bV f rfl S))]] f)))))))
def ajD{N a b}:KO 37 [aK a,Y b] Y (TC N a b):=(arV N N)
def aud(N:Nat)(c:ay->U Bool):I ay->Nat->U Bool
 |[],_=>some true
 |d::a,e=>(c d).bind λb=>bif b then(aud N c a (e+1))else some false
def arQ(N:Nat)(a:ay->U Bool)(b:ay):I c7->Nat->U Bool
 |[],_=>aud N a b.bS 0
 |c::d,e=>bif (decide ((c.dc.size:Int)>100))then some false else(arQ N a b d (e+1))
def PK(N:Nat)(a:bo):U Bool:=(bif (decide ((if(a.dM.length:Int)>(if(a.aM.length:Int)>(if(a.bu.length:Int)>(a.bG.length:Int)then(a.bu.length:Int)else(a.bG.length:Int))then(a.aM.length:Int)else(if(a.bu.length:Int)>(a.bG.length:Int)then(a.bu.length:Int)else(a.bG.length:Int)))then(a.dM.length:Int)else(if(a.aM.length:Int)>(if(a.bu.length:Int)>(a.bG.length:Int)then(a.bu.length:Int)else(a.bG.length:Int))then(a.aM.length:Int)else(if(a.bu.length:Int)>(a.bG.length:Int)then(a.bu.length:Int)else(a.bG.length:Int))))<=64))then some (decide ((a.dU.length:Int)<=256))else some false).bind λb=>some b
abbrev L1:=λa=>([.cells (c9 a).cells]:List ar)
def akQ{N a}:KO 105 [c9 a] az (PK N a):=
 fw func105 (V [[]] (gG (λc=>[(2,az c)]) (λ_=>(L1 a)) (cU (7,oL a.bG fB) (cU (16,oL a.bu mP) (cU (25,oL a.aM j6) (cU (34,oL a.dM fB) (ax (λb=>gE [(14,bT b)] [(52,oL a.dU qe)]) λb=>gE [(14,bF b)] []))))) λc=>gR []))
def FB(N:Nat)(a:Int):U Bool:=(bif (decide (a>=97))then some (decide (a<=122))else some false).bind λb=>some b
def auc{N b}:KO 249 [.d (.v (.int .i32 b))] az (FB N b):=
 fw func249 (V [[]] (gG (λc=>[(2,az c)]) (λ_=>[]) (ax (λa=>gE [(2,bT a)] []) λa=>gE [(2,bF a)] []) λc=>gR []))
def Pu(N:Nat)(a:Int):U Bool:=(bif (decide (a>=48))then some (decide (a<=57))else some false).bind λb=>some b
def ard{N b}:KO 284 [.d (.v (.int .i32 b))] az (Pu N b):=
 fw func284 (V [[]] (gG (λc=>[(2,az c)]) (λ_=>[]) (ax (λa=>gE [(2,bT a)] []) λa=>gE [(2,bF a)] []) λc=>gR []))
def No(N:Nat)(a:Int):U Bool:=(FB N a).bind λb=>(bif b then some true else (Pu N a).bind λc=>(bif c then some true else some (a==95))).bind λd=>some d
def anR{N c}:KO 251 [.d (.v (.int .i32 c))] az (No N c):=
 fw func251 (V [[]] (au λh f=>gG (λe=>[(2,az e)]) (λ_=>[]) (cU (4,cK auc f) (ax (λa=>gE [(2,bT a),(6,bT rfl)] []) λa=>au λi g=>cp (2,bF a) (cU (13,cK ard g) (ax (λb=>gE [(6,bT b)] []) λb=>gE [(6,bF b)] [])))) λe=>gR []))
def Jo(N:Nat)(b:so):Nat->Int->U Int
 |0,_=>none
 |c+1,a=>(bif (decide (a<(b.size:Int)))then bif (decide ((0:Int)<=a))then(b[(a).toNat]?).bind λd=>(No N (IntKind.i32.wrap (d.toNat:Int))).bind λe=>some e else none else some false).bind λf=>bif f then(λg=>Jo N b c g) (aE (a+(1:Int)))else some a
def N1(N:Nat)(a:so):U Int:=Jo N a N (0:Int)
def aoG{N a}:KP 250 [dj a,.fn 251 []] [] Y (λ_=>[]) (N1 N a):=
 fh 0 func250 (Mr 1 [[],[]] [0,1,5] 0 (λ(b:Int)=>⟨21,[(0,dj a),(1,.fn 251 []),(5,Y b)],[]⟩) (Jo N a) (λk b l f=>gG (λe=>[(17,az e)]) (λ_=>[]) (ax (λc=>cH λg=>au λm h=>au λn j=>gE [(4,bT c)] [(25,⟨_,_,.ch (i:=b) (Vd g) h⟩),(31,cK anR j)]) λc=>gE [(4,bF c)] []) λe=>ax (λd=>rV f (aE (b+(1:Int))) [[t0 d],[]]) λd=>gH [[f0 d],[]]))
def TI(N:Nat):U (I so):=some pH
def amX{N r}(J:TI N=some r):gZ prog 285 [] (·=(O (cD r))):=by
 cases J;exact aqX
def PU(N:Nat)(a:so):I so->Nat->U Int
 |[],_=>some (-1:Int)
 |c::d,b=>bif (bL a==bL c)then some (b:Int)else(PU N a d (b+1))
def OQ(N:Nat)(a:I so)(b:so):U Int:=PU N b a 0
def ano{N a c}:KO 194 [O (cD a),dj c] Y (OQ N a c):=
 fw func194 (V [[],[(4,oL a fB)]] (gT iG 0 a λf=>dP 1 [] [0,1,7,8] 0 (λe=>⟨19,[(0,O (cD a)),(1,dj c),(7,Y a.length),(8,Y e)],[]⟩) (λe b g=>gR [[],[f0 (bI b)],[]]) (λe j k b g h=>V [[],[t0 (bH b)],[],[(10,oE (k9 (aY b)))]] (bg λi=>gb h () [[f0 i],[(2,oq (bV b rfl f))]] b))))
def CC(N:Nat)(a:I so)(b:so):U Bool:=(OQ N a b).bind λc=>some (decide (c>=0))
def aaC{N a b}:KO 110 [O (cD a),dj b] az (CC N a b):=
 fw func110 (au λe c=>gR [[],[(7,cK ano c)]])
def Lx(N:Nat)(a:so):U Bool:=(TI N).bind λb=>(CC N b a).bind λc=>some c
def aiw{N a}:KO 252 [dj a] az (Lx N a):=
 fw func252 (au λd b=>au λe c=>gR [[],[(1,cL (amX b)),(7,cK aaC c)]])
def zU(N:Nat)(a:so):U Bool:=(bif (bL a==bL (bs []))then some false else(bif (decide ((a.size:Int)<=16))then (a[0]?).bind λb=>(FB N (IntKind.i32.wrap (b.toNat:Int))).bind λc=>(bif c then (N1 N a).bind λd=>(bif (d==(a.size:Int))then (Lx N a).bind λe=>some (!e)else some false)else some false)else some false)).bind λf=>some f
def J6{N a}:KO 186 [dj a] az (zU N a):=
 fw func186 (V [[]] (gG (λf=>[(2,az f)]) (λ_=>[]) (ax (λb=>gE [(2,bF (cy b)),(7,bF rfl),(13,bF rfl),(20,bF rfl)] []) λb=>cp (2,bT (dt b)) (ax (λc=>au λl g=>au λm h=>cp (7,bT c) (cU (28,⟨_,_,.ch (i:=0) (by decide) g⟩) (cU (34,cK auc h) (ax (λd=>au λn j=>cp (13,bT d) (cU (46,oQ [dj a,.fn 251 []] [] [] (aoG _ j)) (ax (λe=>au λo k=>gE [(20,bT e)] [(67,cK aiw k)]) λe=>gE [(20,bF e)] []))) λd=>gE [(13,bF d),(20,bF rfl)] [])))) λc=>gE [(7,bF c),(13,bF rfl),(20,bF rfl)] [])) λf=>gR []))
def Dz(N:Nat)(b:so)(c:Int)(e:bo)(a:I (so×Int)):U (Int×(I (so×Int))):=(zU N b).bind λd=>bif d then bif ((ia a b 0) !=0)then some ((8:Int),a)else bif (Nat.blt a.length 9223372036854775807)then some ((0:Int),((b,c)::a))else none else some ((7:Int),a)
abbrev Gx:=λa b=>([.cells (gL a [.mp 1]),.map (fW b)]:List ar)
def Q0{N a f b c}:KP 106 [Ad,dj a,Y f] (Gx b c) (λr=>Y r.1) (λr=>(Gx b r.2)) (Dz N a f b c):=
 fh 2 func106 (au λi g=>V [[],[(4,cK J6 g)]] (ax (λd=>V [[f0 (cy d)],[(17,oq (It false c a))]] (ax (λe=>gH [[t0 e],[]]) λe=>cH λh=>gH [[f0 e],[(19,⟨_,_,.sd (o:= .none) (Rw h)⟩)],[]])) λd=>gH [[t0 (dt d)],[]]))
def jE(N:Nat)(a:Bool):U Bool:=bif a then some true else some false
def MZ(N:Nat)(a:so):U Bool:=bif (bL a==bL (bs [115,105,122,101]))then jE N (bL a==bL (bs [115,105,122,101]))else bif (bL a==bL (bs [119,104,101,114,101]))then jE N (bL a==bL (bs [119,104,101,114,101]))else bif (bL a==bL (bs [105,110]))then jE N (bL a==bL (bs [105,110]))else bif (bL a==bL (bs [100,101,102]))then jE N (bL a==bL (bs [100,101,102]))else bif (bL a==bL (bs [111,117,116]))then jE N (bL a==bL (bs [111,117,116]))else bif (bL a==bL (bs [115,117,109]))then jE N (bL a==bL (bs [115,117,109]))else bif (bL a==bL (bs [112,114,111,100]))then jE N (bL a==bL (bs [112,114,111,100]))else bif (bL a==bL (bs [109,105,110]))then jE N (bL a==bL (bs [109,105,110]))else bif (bL a==bL (bs [109,97,120]))then jE N (bL a==bL (bs [109,97,120]))else bif (bL a==bL (bs [115,99,97,110]))then jE N (bL a==bL (bs [115,99,97,110]))else bif (bL a==bL (bs [111,118,101,114]))then jE N (bL a==bL (bs [111,118,101,114]))else bif (bL a==bL (bs [105,102]))then jE N (bL a==bL (bs [105,102]))else bif (bL a==bL (bs [99,97,115,116]))then jE N (bL a==bL (bs [99,97,115,116]))else bif (bL a==bL (bs [102,114,97,99]))then jE N (bL a==bL (bs [102,114,97,99]))else bif (bL a==bL (bs [105,110,116]))then jE N (bL a==bL (bs [105,110,116]))else bif (bL a==bL (bs [102,105,120]))then jE N (bL a==bL (bs [102,105,120]))else bif (bL a==bL (bs [99,101,105,108]))then jE N (bL a==bL (bs [99,101,105,108]))else bif (bL a==bL (bs [102,108,111,111,114]))then jE N (bL a==bL (bs [102,108,111,111,114]))else bif (bL a==bL (bs [122,101,114,111]))then jE N (bL a==bL (bs [122,101,114,111]))else bif (bL a==bL (bs [101,118,101,110]))then jE N (bL a==bL (bs [101,118,101,110]))else bif (bL a==bL (bs [115,97,116]))then jE N (bL a==bL (bs [115,97,116]))else jE N (bL a==bL (bs [119,114,97,112]))
def amP{N a}:KO 275 [dj a] az (MZ N a):=
 fw func275 (kO 1 [[],[],[]] [4] 0 (λ(y:Bool)=>⟨27,[(4,az y)],[]⟩) (jE N) (λA b=>ax (λc=>gm b (bL a==bL (bs [115,105,122,101])) [[t0 c]]) λc=>V [[f0 c],[]] (ax (λd=>gm b (bL a==bL (bs [119,104,101,114,101])) [[t0 d]]) λd=>V [[f0 d],[]] (ax (λe=>gm b (bL a==bL (bs [105,110])) [[t0 e]]) λe=>V [[f0 e],[]] (ax (λf=>gm b (bL a==bL (bs [100,101,102])) [[t0 f]]) λf=>V [[f0 f],[]] (ax (λg=>gm b (bL a==bL (bs [111,117,116])) [[t0 g]]) λg=>V [[f0 g],[]] (ax (λh=>gm b (bL a==bL (bs [115,117,109])) [[t0 h]]) λh=>V [[f0 h],[]] (ax (λi=>gm b (bL a==bL (bs [112,114,111,100])) [[t0 i]]) λi=>V [[f0 i],[]] (ax (λj=>gm b (bL a==bL (bs [109,105,110])) [[t0 j]]) λj=>V [[f0 j],[]] (ax (λk=>gm b (bL a==bL (bs [109,97,120])) [[t0 k]]) λk=>V [[f0 k],[]] (ax (λl=>gm b (bL a==bL (bs [115,99,97,110])) [[t0 l]]) λl=>V [[f0 l],[]] (ax (λm=>gm b (bL a==bL (bs [111,118,101,114])) [[t0 m]]) λm=>V [[f0 m],[]] (ax (λn=>gm b (bL a==bL (bs [105,102])) [[t0 n]]) λn=>V [[f0 n],[]] (ax (λo=>gm b (bL a==bL (bs [99,97,115,116])) [[t0 o]]) λo=>V [[f0 o],[]] (ax (λp=>gm b (bL a==bL (bs [102,114,97,99])) [[t0 p]]) λp=>V [[f0 p],[]] (ax (λq=>gm b (bL a==bL (bs [105,110,116])) [[t0 q]]) λq=>V [[f0 q],[]] (ax (λr=>gm b (bL a==bL (bs [102,105,120])) [[t0 r]]) λr=>V [[f0 r],[]] (ax (λt=>gm b (bL a==bL (bs [99,101,105,108])) [[t0 t]]) λt=>V [[f0 t],[]] (ax (λu=>gm b (bL a==bL (bs [102,108,111,111,114])) [[t0 u]]) λu=>V [[f0 u],[]] (ax (λv=>gm b (bL a==bL (bs [122,101,114,111])) [[t0 v]]) λv=>V [[f0 v],[]] (ax (λw=>gm b (bL a==bL (bs [101,118,101,110])) [[t0 w]]) λw=>V [[f0 w],[]] (ax (λx=>gm b (bL a==bL (bs [115,97,116])) [[t0 x]]) λx=>gm b (bL a==bL (bs [119,114,97,112])) [[f0 x],[]]))))))))))))))))))))) (λy=>bg λz=>gR [[f0 z],[]]))
def Cp(N:Nat)(c:so):Nat->Int->U Bool
 |0,_=>none
 |d+1,b=>bif (decide (b<(c.size:Int)))then bif (decide ((0:Int)<=b))then(c[(b).toNat]?).bind λa=>(bif (decide ((a.toNat:Int)<97))then(bif (decide ((a.toNat:Int)<48))then some ((a.toNat:Int) !=95)else(bif (decide ((a.toNat:Int)>57))then some ((a.toNat:Int) !=95)else some false))else(bif (decide ((a.toNat:Int)>122))then(bif (decide ((a.toNat:Int)<48))then some ((a.toNat:Int) !=95)else(bif (decide ((a.toNat:Int)>57))then some ((a.toNat:Int) !=95)else some false))else some false)).bind λe=>bif e then some false else(λf=>Cp N c d f) (aE (b+(1:Int)))else none else some true
def P0(N:Nat)(a:so):U Bool:=(bif (decide ((a.size:Int)<1))then some true else(bif (decide ((a.size:Int)>16))then some true else (MZ N a).bind λc=>(bif c then some true else (a[0]?).bind λb=>(bif (decide ((b.toNat:Int)<97))then some true else some (decide ((b.toNat:Int)>122)))))).bind λd=>bif d then some false else Cp N a N (0:Int)
def amL{N a}:KO 223 [dj a] az (P0 N a):=
 fw func223 (V [[]] (gG (λn=>[(26,az n)]) (λ_=>[]) (ax (λe=>gE [(3,bT e),(8,bT rfl),(12,bT rfl),(17,bT rfl)] []) λe=>cp (3,bF e) (ax (λf=>gE [(8,bT f),(12,bT rfl),(17,bT rfl)] []) λf=>au λy q=>cp (8,bF f) (cU (31,cK amP q) (ax (λg=>gE [(12,bT g),(17,bT rfl)] []) λg=>au λz o=>cp (12,bF g) (cU (43,⟨_,_,.ch (i:=0) (by decide) o⟩) (ax (λh=>gE [(17,bT h)] []) λh=>gE [(17,bF h)] [(58,⟨_,_,.ch (i:=0) (by decide) o⟩)])))))) λn=>bg λr=>Mr 1 [[f0 r],[]] [0,28,29] 0 (λ(d:Int)=>⟨54,[(0,dj a),(28,Y (a.size:Int)),(29,Y d)],[]⟩) (Cp N a) (λA d B t=>V [[]] (jC λu=>cH λv=>au λC w=>V [[t0 u],[],[(7,⟨_,_,.ch (i:=d) (Vd v) w⟩)]] (gG (λp=>[(52,az p)]) (λ_=>[]) (ax (λj=>cp (2,bT j) (cp (6,bT rfl) (ax (λb=>gE [(9,bT b),(14,bT rfl)] [(37,bT b)]) λb=>cp (9,bF b) (cU (37,bF b) (ax (λk=>gE [(14,bT k)] []) λk=>gE [(14,bF k)] []))))) λj=>cp (2,bF j) (ax (λl=>cp (6,bT l) (ax (λc=>gE [(9,bT c),(14,bT rfl)] [(37,bT c)]) λc=>cp (9,bF c) (cU (37,bF c) (ax (λm=>gE [(14,bT m)] []) λm=>gE [(14,bF m)] [])))) λl=>gE [(6,bF l),(9,uN),(14,bF rfl)] [])) λp=>bg λx=>rV t (aE (d+(1:Int))) [[f0 x],[]])))))
def NV(N:Nat)(b:bD):I dZ->Nat->U Int
 |[],_=>some (0:Int)
 |v4::c,a=>(P0 N v4.aC).bind λd=>(bif d then(bif (v4.eQ.toInt==0)then some true else(bif (decide ((a:Int)>0))then bif (decide ((0:Int)<=(aE ((a:Int)-(1:Int)))))then(b.xL[(aE ((a:Int)-(1:Int))).toNat]?).bind λe=>some (!(Op.bytesLess (bL e.aC) (bL v4.aC)))else none else some false))else some true).bind λf=>bif f then some (1:Int)else(NV N b c (a+1))
def Dp(N:Nat)(a:bD):U Int:=NV N a a.xL 0
abbrev Qf:=λa=>([.cells (dW a).cells]:List ar)
def Pv{N a}:KO 135 [dW a] Y (Dp N a):=
 fw func135 (V [[],[(7,oL a.xL jH)]] (gT vz 6 a.xL λj=>dP 1 [] [1,6,7,8] 1 (λe=>⟨39,[(1,Ad),(6,O (hJ a.xL)),(7,Y a.xL.length),(8,Y e)],Qf a⟩) (λe b k=>gR [[],[f0 (bI b)],[]]) (λe l r b k m=>V [[],[t0 (bH b)],[(4,oE (lO (aY b)))]] (au λt n=>gG (λh=>[(37,az h)]) (λ_=>[.cells (dW a).cells,.cells (uJ l).cells]) (cU (7,cK amL n) (ax (λf=>cp (4,bF (cy f)) (ax (λg=>gE [(9,bT g),(12,uN)] []) λg=>cp (9,bF g) (ax (λc=>cH λo=>au λu p=>gE [(12,bT c)] [(52,⟨_,_,.el (xs:=hJ a.xL) (i:=(aE ((e:Int)-(1:Int)))) (Vd o) (lO p)⟩),(70,bT c)]) λc=>gE [(12,bF c)] [(70,bF c)]))) λf=>gE [(4,bT (dt f)),(9,bT rfl),(12,uN)] [])) λh=>bg λq=>gb m () [[f0 q],[(2,oq (bV b rfl j))]] b))))
def Vu(N:Nat)(a:iu):U Int:=(Dp N a.bO).bind λb=>some b
def ahQ{N a}:KO 187 [uL a] Y (Vu N a):=
 fw func187 (au λc b=>gR [[],[(7,cK Pv b)]])
def PX(N:Nat)(a:I (so×Int)):I dZ->Nat->U Int
 |[],_=>some (0:Int)
 |b::c,d=>bif ((ia a b.aC 0) !=1)then some (9:Int)else(PX N a c (d+1))
def Di(N:Nat)(a:bD)(d:bo)(b:I (so×Int)):U Int:=(Dp N a).bind λc=>bif (c !=0)then some (1:Int)else PX N b a.xL 0
def TJ{N a e c}:KP 188 [Ad,dW a] (Gx e c) Y (λ_=>(Gx e c)) (Di N a e c):=
 fh 2 func188 (au λn i=>V [[],[(4,cK Pv i)]] (ax (λf=>gH [[t0 f],[]]) λf=>V [[f0 f],[(7,oL a.xL jH)]] (gT vz 11 a.xL λj=>dP 1 [] [0,11,12,13] 3 (λg=>⟨26,[(0,Ad),(11,O (hJ a.xL)),(12,Y a.xL.length),(13,Y g)],[.cells (gL e [.mp 1]),.map (fW c),.cells (dW a).cells]⟩) (λg b k=>gH [[],[f0 (bI b)],[]]) (λg l o b k m=>V [[],[t0 (bH b)],[(1,oE (lO (aY b)))],[(20,oq (It false c l.aC))]] (ax (λh=>gH [[t0 h],[]]) λh=>gb m () [[f0 h],[(2,oq (bV b rfl j))]] b)))))
def Nz(N:Nat)(a:iu)(b:bo)(c:I (so×Int)):U Int:=(Vu N a).bind λd=>bif (d !=0)then some (1:Int)else(Di N a.bO b c).bind λe=>some e
def ald{N a b c}:KP 107 [Ad,uL a] (Gx b c) Y (λ_=>(Gx b c)) (Nz N a b c):=
 fh 2 func107 (au λg e=>V [[],[(4,cK ahQ e)]] (ax (λd=>gH [[t0 d],[]]) λd=>au λh f=>gH [[f0 d],[(10,oQ [Ad,dW a.bO] [.cells (gL b [.mp 1]),.map (fW c),.cells (uL a).cells] [0,1] (TJ _ f))]]))
def Ud(N:Nat)(a:aL):U Bool:=some ((a.bA==a.bA)&&((a.bU==0)&&((a.ck==0)&&((a.cr==0)&&((a.cC==0)&&true)))))
def apk{N a}:KO 199 [bX a] az (Ud N a):=
 fw func199 (gR [[],[]])
def wj(N:Nat)(a:aL):U Int:=(bif (decide (a.cr>=1))then(bif (decide (a.cr<=4))then(bif (a.cC==1)then some true else some (a.cC==2))else some false)else some false).bind λb=>(bif (a.bA !=2)then some true else(bif (decide (a.bU<2))then some true else(bif (decide (a.bU>31))then some true else(bif (decide (a.ck<0))then some true else(bif (decide (a.ck>30))then some true else some (!b)))))).bind λc=>bif c then some (10:Int)else some (0:Int)
abbrev SA:=λa=>([.cells (bX a).cells]:List ar)
def Me{N b}:KO 200 [bX b] Y (wj N b):=
 fw func200 (V [[]] (gG (λj=>[(3,az j)]) (λ_=>(SA b)) (ax (λc=>cp (3,bT c) (ax (λd=>cp (8,bT d) (ax (λa=>gE [(12,bT a)] [(49,bT a)]) λa=>gE [(12,bF a)] [(49,bF a)])) λd=>gE [(8,bF d),(12,uN)] [])) λc=>gE [(3,bF c),(8,bF rfl),(12,uN)] []) λj=>gG (λk=>[(48,az k)]) (λ_=>(SA b)) (ax (λe=>gE [(3,bT e),(8,bT rfl),(13,bT rfl),(18,bT rfl),(23,bT rfl)] []) λe=>cp (3,bF e) (ax (λf=>gE [(8,bT f),(13,bT rfl),(18,bT rfl),(23,bT rfl)] []) λf=>cp (8,bF f) (ax (λg=>gE [(13,bT g),(18,bT rfl),(23,bT rfl)] []) λg=>cp (13,bF g) (ax (λh=>gE [(18,bT h),(23,bT rfl)] []) λh=>cp (18,bF h) (ax (λi=>gE [(23,bT i)] []) λi=>gE [(23,bF i)] []))))) λk=>bg λl=>gR [[f0 l],[]]))
def JN(N:Nat)(a:aL)(b:Bool):U Int:=bif b then(Ud N a).bind λc=>bif c then some (0:Int)else some (10:Int)else bif (a.bA==2)then(wj N a).bind λd=>bif (d==0)then some (0:Int)else some (10:Int)else some (10:Int)
def nE(N:Nat)(a:aL):U Int:=bif (a.bA==1)then JN N a (a.bA==1)else JN N a (a.bA==3)
def ql{N a}:KO 117 [bX a] Y (nE N a):=
 fw func117 (kO 1 [[],[],[]] [1,4,5] 1 (λ(d:Bool)=>⟨15,[(1,Ad),(4,Y a.bA),(5,az d)],SA a⟩) (JN N a) (λk e=>ax (λb=>gm e (a.bA==1) [[t0 b]]) λb=>gm e (a.bA==3) [[f0 b],[]]) (λd=>ax (λc=>au λl f=>V [[t0 c],[(4,cK apk f)]] (bg λg=>gR [[f0 g],[]])) λc=>V [[f0 c],[]] (jC λh=>au λm i=>V [[t0 h],[(4,cK Me i)]] (bg λj=>gR [[f0 j],[]]))))
def Jh(N:Nat):I Int->Nat->Int->U Int
 |[],_,a=>some a
 |b::c,d,a=>(λe=>Jh N c (d+1) e) (if b>a then b else a)
def Te(N:Nat)(a:I Int):U Int:=(a[0]?).bind λb=>Jh N (a.drop 1) 1 b
def EG(N:Nat)(a:I Int):U Int:=bif (decide ((a.length:Int)<1))then none else Te N a
def asi{N a r}(J:EG N a=some r):KF 253 [O (bE a)] (Y r):=by
 rw[EG]at J;refine Ii func253 ?_;refine wj0 bB r 1 [[],[(4,oL a fF)]] [0] 0 ⟨25,[(0,O (bE a))],[]⟩ (Te N a) ?_ ?_
 ·intro p h;apply bc J<;>intro i J
  ·cases J
  exact mA bB h () [[(0,bF i)]] J
 intro J;rw[Te]at J;obtain⟨j,l,J⟩:=bz J;refine fZ bB [[(4,oE (k:=0) (gV l))],[]] ?_;refine Dd lT 0 a λm=> ?_;refine Hn bB 2 [] [0,3,4] 0 (λ((b,c,e):Nat×(I Int)×Int)=>⟨25,[(0,O (bE a)),(3,Y e),(4,Y b)],[]⟩) (λ((b,c,e):Nat×(I Int)×Int)=>a.drop b=c/\Jh N c b e=some r) (λ((b,c,e):Nat×(I Int)×Int)=>c.length) (1,a.drop 1,j) ⟨rfl,J⟩ ?_;rintro⟨b,c,e⟩ ⟨f,J⟩ q n;cases c with
 |nil=>
  rw[Jh]at J;cases J;exact wr bB [[(7,oL a fF)],[(0,bF (bI f))],[]]
 |cons g o=>
  rw[Jh]at J;exact Bc bB n (b+1,o,(if g>e then g else e)) [[(7,oL a fF)],[(0,bT (bH f))],[(10,oE (gV (aY f)))],[(5,oq (bV f rfl m))]] ⟨kI f,J⟩
def yG(N:Nat)(a:aL)(b:I Int):U Int:=(nE N a).bind λc=>bif (c !=0)then some (10:Int)else(EG N b).bind λd=>bif (decide (d>6))then some (11:Int)else some (0:Int)
def af9{N a b}:KO 189 [bX a,O (bE b)] Y (yG N a b):=
 fw func189 (au λh c=>V [[],[(4,cK ql c)]] (bg λe=>au λi f=>V [[f0 e],[(4,cL (asi f))]] (bg λg=>gR [[f0 g],[]])))
def Og(N:Nat)(b:Int×(I (so×Int)))(c:bo):I bD->Nat->U (Int×(I (so×Int)))
 |[],_=>some ((0:Int),b.2)
 |d::e,f=>(Di N d c b.2).bind λa=>bif (a !=0)then some (a,b.2)else(Og N b c e (f+1))
def La(N:Nat)(b:fm)(c:bo)(e:I (so×Int)):U (Int×(I (so×Int))):=(Dz N b.aC (2:Int) c e).bind λa=>bif (a.1 !=0)then some (a.1,a.2)else(yG N b.aH ([(b.aQ.length:Int)])).bind λd=>bif (d !=0)then some (d,a.2)else Og N a c b.aQ 0
def US(a:bo)(l:I ar):I ar:= .cells (gL a [.mp 1])::l
def aoL{N a b e}:KP 108 [Ad,pz a] (Gx b e) (λr=>Y r.1) (λr=>(Gx b r.2)) (La N a b e):=
 fh 2 func108 (au λj l=>V [[],[(10,oR [Ad,dj a.aC,Y 2] (US b [.map (fW e),.cells (pz a).cells]) [0,1] (Q0 _ l))],[]] (ax (λf=>gH [[t0 f],[]]) λf=>au λu m=>V [[f0 f],[(13,oL a.aQ fX),(19,cK af9 m)],[]] (ax (λg=>gH [[t0 g],[]]) λg=>V [[f0 g],[(7,oL a.aQ fX)]] (gT m9 28 a.aQ λn=>dP 1 [] [0,28,29,30] 3 (λh=>⟨41,[(0,Ad),(28,O (fA a.aQ)),(29,Y a.aQ.length),(30,Y h)],US b [.map (fW j.2),.cells (pz a).cells]⟩) (λh c o=>gH [[],[f0 (bI c)],[]]) (λh k v c o p=>au λq t=>V [[],[t0 (bH c)],[(1,oE (o7 (aY c)))],[(7,oQ [Ad,dW k] (US b [.map (fW j.2),.cells (pz a).cells,.cells (dW k).cells]) [0,1] (TJ _ t))],[]] (ax (λi=>gH [[t0 i],[]]) λi=>gb p () [[f0 i],[(2,oq (bV c rfl n))]] c))))))
def UM(N:Nat)(a:Int):U Unit:=bif decide ((0:Int)<=a)&&Nat.ble (a.toNat*48) 140737488355328 then some ()else none
def aqP{N v1 r}(J:UM N v1=some r):dq prog 286 [.d (.v (.slice none 0 0)),Y v1] [] λb h1=>b= .own 0 []/\h1=[.front 80 3 0]:=by
 obtain⟨a,_⟩:=fe J;rw[Zo]at a;have e:Int.ofNat v1.toNat=v1:=Int.toNat_of_nonneg (Vd a.1);have h:=akS a.2;rw[e]at h;exact h
def zO(N:Nat):I (I dF)->Nat->(I dF)->U (I dF)
 |[],_,a=>some a
 |v10::b,c,a=>bif (Nat.ble ((a.length+v10.length)*48) 140737488355328)then(λd=>zO N b (c+1) d) (a++v10)else none
def xA(N:Nat)(b:I (I dF)):I (I dF)->Nat->Int->U (I dF)
 |[],_,a=>(UM N a).bind λf=>zO N b 0 []
 |v4::c,d,a=>bif (decide ((aE (a+(v4.length:Int)))<0))then none else(λe=>xA N b c (d+1) e) (aE (a+(v4.length:Int)))
def CZ(N:Nat)(a:I (I dF)):U (I dF):=xA N a a 0 (0:Int)
def afo{N a r}(J:CZ N a=some r):KF 254 [O (pQ a)] (O (dAxiss r)):=by
 rw[CZ]at J;refine Ii func254 ?_;refine fZ bB [[],[],[(4,oL a V5)]] ?_;refine Dd aes 0 a λk=> ?_;refine Rj bB 1 [] [0,3,9,10,11] 0 a (λh(g:Int)=>⟨36,[(0,O (pQ a)),(3,Y g),(9,O (pQ a)),(10,Y a.length),(11,Y h)],[]⟩) (xA N a) (0:Int) J ?_ ?_
 ·intro h g c J l;rw[xA]at J;obtain⟨w,m,J⟩:=bz J;refine fZ bB [[],[(0,bF (bI c))],[(4,⟨_,_,.kV (aqP m)⟩)],[(4,oL a V5)]] ?_;refine Dd aes 0 a λn=> ?_;refine Rj bB 2 [] [6,25,26,27] 1 a (λi(b:I dF)=>⟨36,[(6,.own 0 (dAxiss b)),(25,O (pQ a)),(26,Y a.length),(27,Y i)],[.front 80 3 b.length]⟩) (zO N) [] J ?_ ?_
  ·intro i b e J o;rw[zO]at J;cases J;exact wr bB [[],[(0,bF (bI e))],[]]
  intro i f p b e J o q;rw[zO]at J;obtain⟨t,J⟩:=xw J;exact wb bB q (b++f) [[],[(0,bT (bH e))],[(1,oE (rde (aY e)))],[(7,oA nO b f t)],[(2,oq (bV e rfl n))]] e J
 intro h j x g c J l u;rw[xA]at J;refine fZ bB [[],[(0,bT (bH c))],[(1,oE (rde (aY c)))],[(7,oL j gw)],[]] ?_;apply bc J<;>intro v J;{cases J}
 exact wb bB u (aE (g+(j.length:Int))) [[(0,bF v)],[(2,oq (bV c rfl k))]] c J
def PQ(N:Nat)(c:I (so×Int))(g:bo):I dF->Nat->(I (so×Bool))->U Int
 |[],_,_=>some (0:Int)
 |a::h,i,d=>(zU N a.aC).bind λe=>bif e then(bif (ia d a.aC false)then some true else some ((ia c a.aC 0)==1)).bind λf=>bif f then some (8:Int)else bif (Nat.blt d.length 9223372036854775807)then(Di N a.eH g c).bind λb=>bif (b !=0)then some b else(λj=>PQ N c g h (i+1) j) ((a.aC,true)::d)else none else some (7:Int)
def Kn(N:Nat)(a:bZ)(b:bo)(c:I (so×Int)):U Int:=(CZ N ([a.aQ,a.cl])).bind λd=>PQ N c b d 0 []
def tO(a:bo)(b:I (so×Int))(c:bZ)(l:I ar):I ar:= .cells (gL a [.mp 1]):: .map (fW b):: .cells (fb c).cells::l
def ahs{N g e a}:KP 190 [Ad,fb g] (Gx e a) Y (λ_=>(Gx e a)) (Kn N g e a):=
 fh 2 func190 (au λi p=>V [[],[],[(16,cL (afo p)),(19,oL i gw)]] (gT nO 15 i λq=>ft 1 [] [0,5,15,16,17] 4 (λj(b:I (so×Bool))=>⟨52,[(0,Ad),(5,.mp 3),(15,O (dAxiss i)),(16,Y i.length),(17,Y j)],tO e a g [.map (B5 b)]⟩) (λj b f r=>gH [[],[f0 (bI f)],[]]) (λj c z b f r t=>au λu v=>V [[],[t0 (bH f)],[(1,oE (m7 (aY f)))],[(7,cK J6 v)]] (ax (λk=>V [[f0 (cy k)]] (gG (λh=>[(26,az h)]) (λ_=>(tO e a g [.map (B5 b),.cells (Ug c).cells])) (cU (11,oq (aoT false b c.aC)) (ax (λl=>gE [(4,bT l)] []) λl=>gE [(4,bF l)] [(35,oq (It false a c.aC))])) λh=>ax (λm=>gH [[t0 m],[]]) λm=>cH λw=>au λx y=>V [[f0 m],[(10,⟨_,_,.sd (o:= .none) (alF w)⟩)],[(10,oQ [Ad,dW c.eH] (tO e a g [.map (B5 ((c.aC,true)::b)),.cells (Ug c).cells]) [0,1] (TJ _ y))],[]] (ax (λn=>gH [[t0 n],[]]) λn=>gb t ((c.aC,true)::b) [[f0 n],[(2,oq (bV f rfl q))]] f))) λk=>gH [[t0 (dt k)],[]]))))
def CO(N:Nat)(a:bZ)(b:Bool):U Int:=bif b then bif ((a.cl.length:Int)==0)then some (11:Int)else some (0:Int)else bif (a.dG==5)then(bif (decide ((a.cl.length:Int)>0))then some true else some ((a.aQ.length:Int)==0)).bind λc=>bif c then some (11:Int)else some (0:Int)else some (1:Int)
def KD(N:Nat)(a:bZ):U Int:=bif (a.dG==0)then bif (decide ((a.cl.length:Int)>0))then some (11:Int)else some (0:Int)else bif (a.dG==1)then CO N a (a.dG==1)else bif (a.dG==2)then CO N a (a.dG==2)else bif (a.dG==3)then CO N a (a.dG==3)else CO N a (a.dG==4)
abbrev SF:=λa=>([.cells (fb a).cells]:List ar)
def apj{N a}:KO 191 [fb a] Y (KD N a):=
 fw func191 (V [[],[],[]] (ax (λc=>V [[t0 c],[(7,oL a.cl gw)]] (bg λk=>gR [[f0 k],[]])) λc=>kO 1 [[f0 c],[]] [1,4,11] 1 (λ(i:Bool)=>⟨32,[(1,Ad),(4,Y a.dG),(11,az i)],SF a⟩) (CO N a) (λo b=>ax (λd=>gm b (a.dG==1) [[t0 d]]) λd=>V [[f0 d],[]] (ax (λe=>gm b (a.dG==2) [[t0 e]]) λe=>V [[f0 e],[]] (ax (λf=>gm b (a.dG==3) [[t0 f]]) λf=>gm b (a.dG==4) [[f0 f],[]]))) (λi=>ax (λg=>V [[t0 g],[(7,oL a.cl gw)]] (bg λl=>gR [[f0 l],[]])) λg=>V [[f0 g],[]] (jC λm=>V [[t0 m]] (gG (λj=>[(31,az j)]) (λ_=>(SF a)) (cU (7,oL a.cl gw) (ax (λh=>gE [(4,bT h)] []) λh=>gE [(4,bF h)] [(22,oL a.aQ gw)])) λj=>bg λn=>gR [[f0 n],[]])))))
def HC(N:Nat):I dF->Nat->(I so)->U (I so)
 |[],_,a=>some a
 |b::c,d,a=>bif (Nat.ble ((a.length+1)*16) 140737488355328)then(λe=>HC N c (d+1) e) (a++[b.aC])else none
def ME(N:Nat)(a:bZ):U (I so):=(CZ N ([a.aQ,a.cl])).bind λb=>HC N b 0 []
abbrev U1:=λa b=>([.cells (fb a).cells,.front 9 1 b]:List ar)
def apY{N e}:KO 193 [fb e] (λr=>.d (.sl (cD r))) (ME N e):=
 fw func193 (au λc h=>V [[],[],[(16,cL (afo h)),(19,oL c gw)]] (li (λ_=>(mR 3 9 1 [] (.inr (by kernel_rfl)) ·)) (gT nO 11 c λi=>ft 1 [] [3,11,12,13] 2 (λf(a:I so)=>⟨24,[(3,.own 1 (cD a)),(11,O (dAxiss c)),(12,Y c.length),(13,Y f)],U1 e a.length⟩) (λf a b j=>gR [[],[f0 (bI b)],[]]) (λf g m a b j k=>cH λl=>gb k (a++[g.aC]) [[],[t0 (bH b)],[(1,oE (m7 (aY b)))],[(13,oA iG a ([g.aC]) l)],[(2,oq (bV b rfl i))]] b))))
def L6(N:Nat)(b:ay->Int->U Int)(c:Int):I ay->Nat->Int->U Int
 |[],_,a=>some a
 |e::f,g,a=>(b e (aE (c-(1:Int)))).bind λd=>(λh=>L6 N b c f (g+1) h) (if(aE ((1:Int)+d))>a then(aE ((1:Int)+d))else a)
def sO(N:Nat):Nat->ay->Int->U Int
 |0,_,_=>none
 |d+1,b,a=>bif (decide (a<=1))then some a else L6 N (sO N d) a b.bS 0 (1:Int)
def Ub(N:Nat)(a:ay)(b:Int):U Int:=sO N N a b
def ala(N:Nat):∀d:Nat,(∀{a:ay}{c:Int},KO 148 [aK a,Y c] Y (sO N d a c)):=by
 intro d
 induction d with
 |zero=>intro a c r J;rw[sO]at J;cases J
 |succ d ih=>
  have f:= @ih;intro a c;rw[sO];exact fw func148 (V [[],[]] (bg λi=>V [[(0,bF i)],[],[(7,oL a.bS ji)]] (gT o0 12 a.bS λj=>ft 1 [] [1,5,12,13,14] 1 (λg(e:Int)=>⟨27,[(1,Y c),(5,Y e),(12,O (dExprs a.bS)),(13,Y a.bS.length),(14,Y g)],GY a⟩) (λg e b k=>gR [[],[(0,bF (bI b))],[]]) (λg n o e b k l=>au λh m=>gb l (if(aE ((1:Int)+h))>e then(aE ((1:Int)+h))else e) [[],[(0,bT (bH b))],[(1,oE (gz (aY b)))],[(13,cK f m)],[(2,oq (bV b rfl j))]] b))))
def asV{N a b}:KO 148 [aK a,Y b] Y (Ub N a b):=(ala N N)
def Uw(N:Nat)(a:ay):U Int:=(Ub N a (41:Int)).bind λb=>some b
def asB{N a}:KO 87 [aK a] Y (Uw N a):=
 fw func87 (au λc b=>gR [[],[(4,cK asV b)]])
def BN(N:Nat)(a:ay):U ay:=some a
def VK{N a r}(J:BN N a=some r):gZ prog 89 [aK a] (·=(.fn 149 [.bK [fu r] 0 0])):=by
 cases J;exact aiq a
def vu(N:Nat):I ay->Int->U Int
 |[],a=>some a
 |_::b,a=>bif (decide ((aE (a+(1:Int)))>2000))then some (aE (a+(1:Int)))else(λc=>vu N b c) (aE (a+(1:Int)))
def Ht(N:Nat)(a:ay):U Int:=(BN N a).bind λb=>vu N (dR b) (0:Int)
def qp(a:ay)(b:Int)(l:I ar):I ar:= .cells (aK a).cells:: .cells [Y (aE (b+(1:Int)))]::l
def sf(a:ay)(b:Int)(l:I ar):I ar:= .cells (aK a).cells:: .cells [Y b]::l
def Ut(a:ay)(l:I ar):I ar:= .cells (aK a).cells:: .cells [Y 0]::l
def asP{N b r}(J:Ht N b=some r):KF 88 [aK b] (Y r):=by
 rw[Ht]at J;refine mJ func88 rfl (by kernel_rfl) ?_;refine gu [0] 0 (Zr _) (s':=⟨12,[(0,aK b)],[]⟩) (by kernel_rfl) ?_;refine aw (CU [] [(1,Ad)] (GY b) ?_);refine aw (CU [] [(3,AM)] (Ut b []) ?_);refine aw (aw ?_);obtain⟨c,h,J⟩:=bz J;refine CU [(4,cL (VK h))] [(5,.fn 149 [.bK [fu c] 0 0])] (Ut b []) ?_;refine dI ?_;refine gu [3,5] 2 (Zh rfl) (s':=⟨12,[(3,AM),(5,.fn 149 [.bK [fu c] 0 0])],Ut b []⟩) (by kernel_rfl) ?_;refine yq (m:=2) (enc:=aK) (xs:=(dR c)) (by kernel_rfl) (VV c) (λ(a:Int)=>(sf b a [])) (λ(a:Int) l=>vu N l a=some r) (0:Int) (by kernel_rfl) J (by rintro a;rfl) (by rintro a;kernel_rfl) (by kernel_rfl) rfl ?_ ?_
 ·rintro a i j J k e f
  try dsimp only at J
  rw[vu]at J;refine gu [3] 3 (Zr _) (s':=⟨12,[(3,AM)],sf b a [.lp .ready 6 e f (dT 12 [(3,AM),(5,.fn 149 [.bK [fu c] 0 0])])]⟩) (by kernel_rfl) ?_;refine cO ?_;refine aV ?_;refine⟨sf b a [],[],rfl,(by kernel_rfl),?_⟩;refine gu [3] 3 (Zh rfl) (s':=⟨12,[(3,AM)],sf b a [.lp .busy 6 e f (dT 12 [(3,AM),(5,.fn 149 [.bK [fu c] 0 0])])]⟩) (by kernel_rfl) ?_;refine dI ?_;refine aw (CU [] [] (qp b a [.lp .busy 6 e f (dT 12 [(3,AM),(5,.fn 149 [.bK [fu c] 0 0])])]) ?_);refine aw (CU [] [(10,(az (decide ((aE (a+(1:Int)))>2000))))] (qp b a [.lp .busy 6 e f (dT 12 [(3,AM),(5,.fn 149 [.bK [fu c] 0 0])])]) ?_);rcases eo (decide ((aE (a+(1:Int)))>2000))with d|d
  ·replace J:=(dh d).symm.trans J;refine C4 (t:=(decide ((aE (a+(1:Int)))>2000))) d ?_;refine lW (amz rfl ?_);refine amS (qp b a []) rfl (by kernel_rfl) (by kernel_rfl) ?_;refine(mU rfl ?_);refine aV ?_;refine aw (CU [] [(2,Y (aE (a+(1:Int))))] (qp b a [.gone]) ?_);refine dk ?_;have g:=Zs J;subst g;exact fJ (by kernel_rfl)
  replace J:=(ee d).symm.trans J;refine BT (t:=(decide ((aE (a+(1:Int)))>2000))) d ?_;refine cO ?_;refine eV ?_;refine Bp (qp b a []) rfl (by kernel_rfl) (by kernel_rfl) ?_;exact⟨aE (a+(1:Int)),(by kernel_rfl),J⟩
 rintro a J
 try dsimp only at J
 rw[vu]at J;refine eV ?_;refine aV ?_;refine aw (CU [] [(2,Y a)] (sf b a [.gone]) ?_);refine dk ?_;have g:=Zs J;subst g;exact fJ (by kernel_rfl)
def ER(N:Nat)(a:bD):U Bool:=(bif (a.xK.toInt==0)then some ((a.xL.length:Int)==0)else some false).bind λb=>some b
def agn{N a}:KO 227 [dW a] az (ER N a):=
 fw func227 (V [[]] (gG (λc=>[(2,az c)]) (λ_=>(Qf a)) (ax (λb=>gE [(3,bT b)] [(19,oL a.xL jH)]) λb=>gE [(3,bF b)] []) λc=>gR []))
def JI(N:Nat)(a:c7):U Bool:=bif (bL a.dc==bL (bs []))then some ((a.cP.length:Int)==0)else(ER N a.bO).bind λb=>some b
def aib{N a}:KO 230 [ig a] az (JI N a):=
 fw func230 (V [[],[]] (ax (λb=>gR [[t0 b],[(7,oL a.cP fX)]]) λb=>au λd c=>gR [[f0 b],[(7,cK agn c)]]))
def V6(N:Nat)(a:c7):U Bool:=(JI N a).bind λb=>some (!b)
def aqk{N a}:KO 229 [ig a] az (V6 N a):=
 fw func229 (au λc b=>gR [[],[(4,cK aib b)]])
def Nt(N:Nat):I c7->Nat->U Int
 |[],_=>some (-1:Int)
 |v4::b,a=>(V6 N v4).bind λc=>bif c then some (a:Int)else(Nt N b (a+1))
def TQ(N:Nat)(a:I c7):U Int:=Nt N a 0
def ajv{N a}:KP 276 [O (fc a),.fn 229 []] [] Y (λ_=>[]) (TQ N a):=
 fh 0 func276 (V [[],[(4,oL a gq)]] (gT rJ 0 a λf=>dP 1 [] [0,1,7,8] 0 (λc=>⟨19,[(0,O (fc a)),(1,.fn 229 []),(7,Y a.length),(8,Y c)],[]⟩) (λc b g=>gH [[],[f0 (bI b)],[]]) (λc j k b g h=>au λl i=>V [[],[t0 (bH b)],[],[(10,oE (jh (aY b))),(16,cK aqk i)]] (ax (λe=>gH [[t0 e],[]]) λe=>gb h () [[f0 e],[(2,oq (bV b rfl f))]] b))))
def JJ(N:Nat)(a:I c7):U Bool:=(TQ N a).bind λb=>some (decide (b>=0))
def apl{N a}:KP 228 [O (fc a),.fn 229 []] [] az (λ_=>[]) (JJ N a):=
 fh 0 func228 (au λc b=>gH [[],[(7,oQ [O (fc a),.fn 229 []] [] [] (ajv _ b))]])
def ND(N:Nat)(a:ay):U Bool:=(bif (a.aD==1)then some true else some (a.aD==12)).bind λb=>(bif (decide (a.aD<1))then some true else some (decide (a.aD>18))).bind λc=>bif c then some false else(bif (a.aD==1)then some false else some (!((a.dQ.xN.toInt==(0:Int64).toInt)&&((a.dQ.xD.toInt==(0:Int64).toInt)&&true)))).bind λd=>bif d then some false else(bif b then some false else some (!((a.aH.bA==0)&&((a.aH.bU==0)&&((a.aH.ck==0)&&((a.aH.cr==0)&&((a.aH.cC==0)&&true))))))).bind λe=>bif e then some false else(bif (a.aD==2)then some false else (ER N a.bO).bind λf=>some (!f)).bind λg=>bif g then some false else(bif (a.aD==3)then some false else(bif (bL a.aC==bL (bs []))then some (decide ((a.xIdx.length:Int)>0))else some true)).bind λh=>bif h then some false else(JJ N a.xIdx).bind λi=>some (!i)
def zJ(a:ay)(l:I ar):I ar:= .cells (aK a).cells::l
def al6{N a}:KO 151 [aK a] az (ND N a):=
 fw func151 (V [[]] (gG (λj=>[(3,(az (a.aD==1))),(4,az j)]) (λ_=>(zJ a [])) (ax (λc=>gE [(6,bT c)] []) λc=>gE [(6,bF c)] []) λj=>V [[]] (gG (λk=>[(24,az k)]) (λ_=>(zJ a [])) (ax (λe=>gE [(3,bT e)] []) λe=>gE [(3,bF e)] []) λk=>bg λp=>V [[f0 p]] (gG (λl=>[(33,az l)]) (λ_=>(zJ a [])) (ax (λf=>gE [(2,bF (cy f))] []) λf=>gE [(2,bT (dt f))] []) λl=>bg λq=>V [[f0 q]] (gG (λm=>[(42,az m)]) (λ_=>(zJ a [])) (ax (λg=>gE [(2,bF (cy g))] []) λg=>gE [(2,bT (dt g))] []) λm=>bg λr=>V [[f0 r]] (gG (λn=>[(51,az n)]) (λ_=>(zJ a [])) (ax (λh=>gE [(2,bF (cy h))] []) λh=>au λx t=>gE [(2,bT (dt h))] [(16,cK agn t)]) λn=>bg λu=>V [[f0 u]] (gG (λo=>[(60,az o)]) (λ_=>(zJ a [])) (ax (λi=>gE [(2,bF (cy i)),(6,uN)] []) λi=>cp (2,bT (dt i)) (ax (λb=>gE [(6,bF (cy b))] [(28,oL a.xIdx gq),(34,bF (cy b))]) λb=>gE [(6,bT (dt b))] [(34,bT (dt b))])) λo=>bg λv=>au λy w=>gR [[f0 v],[(7,oQ [O (fc a.xIdx),.fn 229 []] (zJ a []) [] (apl _ w))]])))))))
def O1(N:Nat)(a:c7):U Bool:=(bif (bL a.dc==bL (bs []))then some false else (zU N a.dc).bind λb=>some (!b)).bind λc=>some c
abbrev T4:=λa=>([.cells (ig a).cells]:List ar)
def ah8{N a}:KO 231 [ig a] az (O1 N a):=
 fw func231 (V [[]] (gG (λc=>[(2,az c)]) (λ_=>(T4 a)) (ax (λb=>gE [(3,bF (cy b))] []) λb=>au λe d=>gE [(3,bT (dt b))] [(19,cK J6 d)]) λc=>gR []))
def Od(N:Nat):I c7->Nat->U Int
 |[],_=>some (-1:Int)
 |v4::b,a=>(O1 N v4).bind λc=>bif c then some (a:Int)else(Od N b (a+1))
def RQ(N:Nat)(a:I c7):U Int:=Od N a 0
def asY{N a}:KP 276 [O (fc a),.fn 231 []] [] Y (λ_=>[]) (RQ N a):=
 fh 0 func276 (V [[],[(4,oL a gq)]] (gT rJ 0 a λf=>dP 1 [] [0,1,7,8] 0 (λc=>⟨19,[(0,O (fc a)),(1,.fn 231 []),(7,Y a.length),(8,Y c)],[]⟩) (λc b g=>gH [[],[f0 (bI b)],[]]) (λc j k b g h=>au λl i=>V [[],[t0 (bH b)],[],[(10,oE (jh (aY b))),(16,cK ah8 i)]] (ax (λe=>gH [[t0 e],[]]) λe=>gb h () [[f0 e],[(2,oq (bV b rfl f))]] b))))
def Rt(N:Nat)(a:I c7):U Bool:=(RQ N a).bind λb=>some (decide (b>=0))
def ajq{N a}:KP 228 [O (fc a),.fn 231 []] [] az (λ_=>[]) (Rt N a):=
 fh 0 func228 (au λc b=>gH [[],[(7,oQ [O (fc a),.fn 231 []] [] [] (asY _ b))]])
def MC(N:Nat)(a:ay):U Bool:=(bif (a.aD==3)then (zU N a.aC).bind λb=>some (!b)else some false).bind λc=>bif c then some false else(Rt N a.xIdx).bind λd=>some (!d)
def aj0{N a}:KO 152 [aK a] az (MC N a):=
 fw func152 (V [[]] (gG (λc=>[(11,az c)]) (λ_=>(GY a)) (ax (λb=>au λh e=>gE [(3,bT b)] [(19,cK J6 e)]) λb=>gE [(3,bF b)] []) λc=>bg λf=>au λi g=>gR [[f0 f],[(7,oQ [O (fc a.xIdx),.fn 231 []] (GY a) [] (ajq _ g))]]))
def EL(N:Nat)(a:Int)(b:Bool):U Int:=bif b then some (1:Int)else bif (a==11)then some (3:Int)else some (2:Int)
def FR(N:Nat)(a:Int)(b:Bool):U Int:=bif b then some (0:Int)else bif (a==8)then EL N a (a==8)else bif (a==12)then EL N a (a==12)else EL N a (a==18)
def Kl(N:Nat)(a:Int):U Int:=bif (a==1)then FR N a (a==1)else bif (a==2)then FR N a (a==2)else FR N a (a==3)
def aiY{N a}:KO 232 [Y a] Y (Kl N a):=
 fw func232 (kO 1 [[],[],[]] [3,4] 0 (λ(h:Bool)=>⟨14,[(3,Y a),(4,az h)],[]⟩) (FR N a) (λl b=>ax (λc=>gm b (a==1) [[t0 c]]) λc=>V [[f0 c],[]] (ax (λd=>gm b (a==2) [[t0 d]]) λd=>gm b (a==3) [[f0 d],[]])) (λh=>bg λj=>kO 2 [[f0 j],[]] [3,8] 0 (λ(i:Bool)=>⟨14,[(3,Y a),(8,az i)],[]⟩) (EL N a) (λm e=>ax (λf=>gm e (a==8) [[t0 f]]) λf=>V [[f0 f],[]] (ax (λg=>gm e (a==12) [[t0 g]]) λg=>gm e (a==18) [[f0 g],[]])) (λi=>e7 λ_=>bg λk=>gR [[f0 k],[]])))
def S0(N:Nat)(a:c7):U Bool:=some (decide ((a.cP.length:Int)>6))
def asA{N a}:KO 233 [ig a] az (S0 N a):=
 fw func233 (gR [[],[(7,oL a.cP fX)]])
def PR(N:Nat):I c7->Nat->U Int
 |[],_=>some (-1:Int)
 |v4::b,a=>(S0 N v4).bind λc=>bif c then some (a:Int)else(PR N b (a+1))
def Qo(N:Nat)(a:I c7):U Int:=PR N a 0
def arx{N a}:KP 276 [O (fc a),.fn 233 []] [] Y (λ_=>[]) (Qo N a):=
 fh 0 func276 (V [[],[(4,oL a gq)]] (gT rJ 0 a λf=>dP 1 [] [0,1,7,8] 0 (λc=>⟨19,[(0,O (fc a)),(1,.fn 233 []),(7,Y a.length),(8,Y c)],[]⟩) (λc b g=>gH [[],[f0 (bI b)],[]]) (λc j k b g h=>au λl i=>V [[],[t0 (bH b)],[],[(10,oE (jh (aY b))),(16,cK asA i)]] (ax (λe=>gH [[t0 e],[]]) λe=>gb h () [[f0 e],[(2,oq (bV b rfl f))]] b))))
def Qv(N:Nat)(a:I c7):U Bool:=(Qo N a).bind λb=>some (decide (b>=0))
def akL{N a}:KP 228 [O (fc a),.fn 233 []] [] az (λ_=>[]) (Qv N a):=
 fh 0 func228 (au λc b=>gH [[],[(7,oQ [O (fc a),.fn 233 []] [] [] (arx _ b))]])
def Nd(N:Nat)(a:ay):U Bool:=(Kl N a.aD).bind λb=>(bif ((a.bS.length:Int) !=b)then some true else some (decide ((a.xIdx.length:Int)>6))).bind λc=>bif c then some false else(Qv N a.xIdx).bind λd=>some (!d)
def alQ{N a}:KO 153 [aK a] az (Nd N a):=
 fw func153 (V [[]] (au λh e=>gG (λc=>[(15,az c)]) (λ_=>(GY a)) (cU (7,oL a.bS ji) (cU (16,cK aiY e) (ax (λb=>gE [(7,bT b)] []) λb=>gE [(7,bF b)] [(31,oL a.xIdx gq)]))) λc=>bg λf=>au λi g=>gR [[f0 f],[(7,oQ [O (fc a.xIdx),.fn 233 []] (GY a) [] (akL _ g))]]))
def Dc(N:Nat)(a:ay):U Bool:=(bif (decide ((13:Int)<=a.aD))then some (decide (a.aD<=18))else some false).bind λb=>some b
def Ul{N a}:KO 52 [aK a] az (Dc N a):=
 fw func52 (V [[]] (gG (λc=>[(2,az c)]) (λ_=>(GY a)) (ax (λb=>gE [(3,bT b)] []) λb=>gE [(3,bF b)] []) λc=>gR []))
def FU(N:Nat)(a:Int)(b:Int)(c:Bool):U Bool:=bif c then some true else(bif (a==11)then some (b==0)else some false).bind λd=>some d
def Mo(N:Nat)(a:Int)(b:Int):U Bool:=bif (a==16)then FU N a b (a==16)else bif (a==17)then FU N a b (a==17)else FU N a b (a==18)
def ane{N a b}:KO 234 [Y a,Y b] az (Mo N a b):=
 fw func234 (kO 1 [[],[],[]] [0,1,6] 0 (λ(g:Bool)=>⟨16,[(0,Y a),(1,Y b),(6,az g)],[]⟩) (FU N a b) (λj c=>ax (λd=>gm c (a==16) [[t0 d]]) λd=>V [[f0 d],[]] (ax (λe=>gm c (a==17) [[t0 e]]) λe=>gm c (a==18) [[f0 e],[]])) (λg=>bg λi=>V [[f0 i]] (gG (λh=>[(4,az h)]) (λ_=>[]) (ax (λf=>gE [(2,bT f)] []) λf=>gE [(2,bF f)] []) λh=>gR [])))
def O8(N:Nat)(b:ay):I ay->Nat->U Bool
 |[],_=>some true
 |d::e,c=>(Dc N d).bind λf=>(Mo N b.aD (c:Int)).bind λa=>bif (f==a)then(O8 N b e (c+1))else some false
def LQ(N:Nat)(a:ay):U Bool:=(bif (a.aD==1)then (nE N a.aH).bind λb=>some (b !=0)else(bif (a.aD==12)then (nE N a.aH).bind λc=>some (c !=0)else some false)).bind λd=>bif d then some false else O8 N a a.bS 0
def ajE{N a}:KO 154 [aK a] az (LQ N a):=
 fw func154 (V [[]] (gG (λg=>[(18,az g)]) (λ_=>(GY a)) (ax (λc=>au λr h=>gE [(3,bT c),(8,bT rfl)] [(34,cK ql h)]) λc=>cp (3,bF c) (ax (λe=>au λt i=>gE [(8,bT e)] [(34,cK ql i)]) λe=>gE [(8,bF e)] [])) λg=>bg λj=>V [[f0 j],[(7,oL a.bS ji)]] (gT o0 20 a.bS λk=>dP 1 [] [1,20,21,22] 1 (λf=>⟨35,[(1,Ad),(20,O (dExprs a.bS)),(21,Y a.bS.length),(22,Y f)],GY a⟩) (λf b l=>gR [[],[f0 (bI b)],[]]) (λf u v b l m=>au λw n=>au λo p=>V [[],[t0 (bH b)],[(4,oE (gz (aY b)))],[(4,cK Ul n),(16,cK ane p)]] (e9 λq=>gb m () [[f0 (cy q)],[(2,oq (bV b rfl k))]] b)))))
def BV(N:Nat)(a:Int):U Bool:=(bif (decide (a>=2))then some (decide (a<=31))else some false).bind λb=>some b
def Td{N b}:KO 292 [Y b] az (BV N b):=
 fw func292 (V [[]] (gG (λc=>[(2,az c)]) (λ_=>[]) (ax (λa=>gE [(2,bT a)] []) λa=>gE [(2,bF a)] []) λc=>gR []))
def EU(N:Nat)(a:Int):U Int64:=(BV N a).bind λb=>bif b then bif (decide ((0:Int)<=(u64.wrap (aE (a-(1:Int))))))then some (-(Int64.ofInt ((1:Int)*2^(min (u64.wrap (aE (a-(1:Int)))).toNat (IntKind.bits .i64)))))else none else some (0:Int64)
def aub{N a}:KO 259 [Y a] bx (EU N a):=
 fw func259 (au λf c=>V [[],[(4,cK Td c)]] (e9 λd=>cH λe=>gR [[f0 (cy d)],[(10,⟨_,_,.nn (b:=(u64.wrap (aE (a-(1:Int))))) (Vd e)⟩),(11,oq (iI ((1:Int)*2^(min (u64.wrap (aE (a-(1:Int)))).toNat (IntKind.bits .i64))))),(14,oq (l7 (Int64.ofInt ((1:Int)*2^(min (u64.wrap (aE (a-(1:Int)))).toNat (IntKind.bits .i64))))))]]))
def Gr(N:Nat)(a:Int):U Int64:=(BV N a).bind λb=>bif b then bif (decide ((0:Int)<=(u64.wrap (aE (a-(1:Int))))))then some ((Int64.ofInt ((1:Int)*2^(min (u64.wrap (aE (a-(1:Int)))).toNat (IntKind.bits .i64))))-(1:Int64))else none else some (0:Int64)
def abO{N a}:KO 260 [Y a] bx (Gr N a):=
 fw func260 (au λf c=>V [[],[(4,cK Td c)]] (e9 λd=>cH λe=>gR [[f0 (cy d)],[(10,⟨_,_,.nn (b:=(u64.wrap (aE (a-(1:Int))))) (Vd e)⟩),(11,oq (iI ((1:Int)*2^(min (u64.wrap (aE (a-(1:Int)))).toNat (IntKind.bits .i64))))),(14,oq (mz (Int64.ofInt ((1:Int)*2^(min (u64.wrap (aE (a-(1:Int)))).toNat (IntKind.bits .i64)))) (1:Int64)))]]))
def uv(N:Nat)(a:aL)(b:aA):U Bool:=(wj N a).bind λc=>(bif (c==0)then(bif (b.xD.toInt==1)then (EU N a.bU).bind λd=>(bif (decide (b.xN.toInt>=d.toInt))then (Gr N a.bU).bind λe=>some (decide (b.xN.toInt<=e.toInt))else some false)else some false)else some false).bind λf=>some f
abbrev S2:=λa b=>([.cells (bX a).cells,.cells (bm b).cells]:List ar)
def Tk{N a b}:KO 201 [bX a,bm b] az (uv N a b):=
 fw func201 (V [[]] (au λj g=>gG (λf=>[(4,az f)]) (λ_=>(S2 a b)) (cU (4,cK Me g) (ax (λc=>cp (3,bT c) (ax (λd=>au λk h=>cp (8,bT d) (cU (40,cK aub h) (ax (λe=>au λl i=>gE [(16,bT e)] [(64,cK abO i)]) λe=>gE [(16,bF e)] []))) λd=>gE [(8,bF d),(16,bF rfl)] [])) λc=>gE [(3,bF c),(8,bF rfl),(16,bF rfl)] [])) λf=>gR []))
def rT(N:Nat)(a:Int64):U Bool:=(bif (decide (a.toInt>=(-2147483647:Int)))then some (decide (a.toInt<=2147483647))else some false).bind λb=>some b
def Dm{N b}:KO 202 [bx b] az (rT N b):=
 fw func202 (V [[]] (gG (λc=>[(2,az c)]) (λ_=>[]) (ax (λa=>gE [(2,bT a)] []) λa=>gE [(2,bF a)] []) λc=>gR []))
def Wq(N:Nat)(a:Int64):U Bool:=(bif (decide (a.toInt>=(-2147483647:Int)))then some (decide (a.toInt<=2147483647))else some false).bind λb=>some b
def ap0{N b}:KO 261 [bx b] az (Wq N b):=
 fw func261 (V [[]] (gG (λc=>[(2,az c)]) (λ_=>[]) (ax (λa=>gE [(2,bT a)] []) λa=>gE [(2,bF a)] []) λc=>gR []))
def Cv(N:Nat)(a:Int64):U Int:=bif (decide (a.toInt<0))then some (u64.wrap (0-(u64.wrap a.toInt)))else some (u64.wrap a.toInt)
def SS{N a}:KO 263 [bx a] (λr=>.d (.v (.int .u64 r))) (Cv N a):=
 fw func263 (V [[],[]] (bg λb=>gR [[f0 b],[]]))
def FM(N:Nat):Nat->Int->Int->U Int
 |0,_,_=>none
 |c+1,b,a=>bif (a !=0)then(λd e=>FM N c d e) a ((b).tmod a)else some b
def g_frac_gcd(N:Nat)(a:Int)(b:Int):U Int:=FM N N a b
def ad5{N e f}:KO 262 [X e,X f] (λr=>.d (.v (.int .u64 r))) (g_frac_gcd N e f):=
 fw func262 (Hb 1 [[]] [0,1] 0 (λ(c:Int)(a:Int)=>⟨12,[(0,X c),(1,X a)],[]⟩) (FM N) (λi c a j h=>V [[]] (jC λg=>rV h (a,(c).tmod a) [[t0 g],[(10,⟨_,_,.nz (b:=a) (Vr.1 g)⟩)]])))
def lP(N:Nat)(a:aA):U Bool:=(bif (decide (a.xD.toInt>=1))then(bif (decide (a.xD.toInt<=2147483647))then (Wq N a.xN).bind λb=>(bif b then (Cv N a.xN).bind λc=>(g_frac_gcd N c (u64.wrap a.xD.toInt)).bind λd=>some (d==1)else some false)else some false)else some false).bind λe=>some e
abbrev T5:=λa=>([.cells (bm a).cells]:List ar)
def ou{N a}:KO 203 [bm a] az (lP N a):=
 fw func203 (V [[]] (gG (λe=>[(2,az e)]) (λ_=>(T5 a)) (ax (λb=>cp (3,bT b) (ax (λc=>au λi f=>cp (8,bT c) (cU (34,cK ap0 f) (ax (λd=>au λj g=>au λk h=>gE [(13,bT d)] [(49,cK SS g),(61,cK ad5 h)]) λd=>gE [(13,bF d)] []))) λc=>gE [(8,bF c),(13,bF rfl)] [])) λb=>gE [(3,bF b),(8,bF rfl),(13,bF rfl)] []) λe=>gR []))
def nT(N:Nat)(a:aL)(b:aA):U Bool:=(nE N a).bind λc=>bif (c !=0)then some false else bif (a.bA==2)then(uv N a b).bind λd=>some d else bif (a.bA==3)then(bif (b.xD.toInt==1)then (rT N b.xN).bind λe=>some e else some false).bind λf=>some f else(lP N b).bind λg=>some g
def wD{N a b}:KO 118 [bX a,bm b] az (nT N a b):=
 fw func118 (au λl g=>V [[],[(4,cK ql g)]] (bg λh=>V [[f0 h],[],[]] (ax (λc=>au λm i=>gR [[t0 c],[(7,cK Tk i)]]) λc=>V [[f0 c],[]] (ax (λd=>V [[t0 d]] (gG (λf=>[(4,az f)]) (λ_=>(S2 a b)) (ax (λe=>au λn j=>gE [(3,bT e)] [(19,cK Dm j)]) λe=>gE [(3,bF e)] []) λf=>gR [])) λd=>au λo k=>gR [[f0 d],[(4,cK ou k)]]))))
def Sw(N:Nat)(a:ay):U ay:=some a
def alS{N a r}(J:Sw N a=some r):gZ prog 155 [aK a] (·=(.fn 235 [.bK [fu r] 0 0])):=by
 cases J;exact ahG a
def xq(N:Nat):I bD->U Int
 |[]=>some (0:Int)
 |c::a=>(Dp N c).bind λb=>bif (b !=0)then some (1:Int)else(xq N a)
def Gv(N:Nat)(a:ay):U Int:=(ND N a).bind λb=>bif b then(MC N a).bind λc=>bif c then(Nd N a).bind λd=>bif d then(LQ N a).bind λe=>bif e then(bif (a.aD==1)then (nT N a.aH a.dQ).bind λf=>some (!f)else some false).bind λg=>bif g then some (1:Int)else(Sw N a).bind λh=>xq N (qE h)else some (10:Int)else some (11:Int)else some (7:Int)else some (5:Int)
def ni(a:ay)(l:I ar):I ar:= .cells (aK a).cells:: .cells [Y 0]::l
def yg(a:ay)(l:I ar):I ar:= .cells (aK a).cells::l
def amN{N a r}(J:Gv N a=some r):KF 90 [aK a] (Y r):=by
 rw[Gv]at J;refine mJ func90 rfl (by kernel_rfl) ?_;refine gu [0] 0 (Zr _) (s':=⟨38,[(0,aK a)],[]⟩) (by kernel_rfl) ?_;refine aw (CU [] [(1,Ad),(2,AM)] (ni a []) ?_);refine aw (dI ?_);refine aw ?_;obtain⟨q,z,J⟩:=bz J;refine CU [(4,cK al6 z)] [(4,az (!q))] (ni a []) ?_;rcases eo q with g|g
 ·replace J:=(dh g).symm.trans J;refine BT (t:=(!q)) (cy g) ?_;refine aw ?_;obtain⟨u,A,J⟩:=bz J;refine CU [(4,cK aj0 A)] [(8,az (!u))] (ni a []) ?_;rcases eo u with h|h
  ·replace J:=(dh h).symm.trans J;refine BT (t:=(!u)) (cy h) ?_;refine aw ?_;obtain⟨v,B,J⟩:=bz J;refine CU [(4,cK alQ B)] [(12,az (!v))] (ni a []) ?_;rcases eo v with i|i
   ·replace J:=(dh i).symm.trans J;refine BT (t:=(!v)) (cy i) ?_;refine aw ?_;obtain⟨w,C,J⟩:=bz J;refine CU [(4,cK ajE C)] [(16,az (!w))] (ni a []) ?_;rcases eo w with j|j
    ·replace J:=(dh j).symm.trans J;refine BT (t:=(!w)) (cy j) ?_;refine aw ?_;obtain⟨x,bj,J⟩:=bz J;refine CN [(20,az x)] (ni a []) ?_ ?_
     ·rcases eo (a.aD==1)with b|b
      ·replace bj:=(dh b).symm.trans bj;obtain⟨K,E,bj⟩:=bz bj;have y:=Zs bj;subst y;exact⟨[(12,bT b),(15,bT b),(18,bT b),(21,bT b),(24,bT b),(25,cK wD E),(27,bT b),(31,bT b)],by kernel_rfl⟩
      replace bj:=(ee b).symm.trans bj;have y:=Zs bj;subst y;exact⟨[(12,bF b),(15,bF b),(18,bF b),(21,bF b),(24,bF b),(27,bF b),(31,bF b)],by kernel_rfl⟩
     rcases eo x with k|k
     ·replace J:=(dh k).symm.trans J;refine C4 (t:=x) k ?_;refine aw (CU [] [] (yg a [.cells [Y 1]]) ?_);refine dk (eW (dn ?_));have c:=Zs J;subst c;exact fJ (by kernel_rfl)
     replace J:=(ee k).symm.trans J;refine BT (t:=x) k ?_;refine cO ?_;refine eV ?_;refine aV ?_;refine aw (aw ?_);obtain⟨d,F,J⟩:=bz J;refine CU [(4,cL (alS F))] [(33,.fn 235 [.bK [fu d] 0 0])] (ni a []) ?_;refine dI ?_;refine gu [2,33] 2 (Zh rfl) (s':=⟨38,[(2,AM),(33,.fn 235 [.bK [fu d] 0 0])],ni a []⟩) (by kernel_rfl) ?_;refine yq (m:=2) (enc:=dW) (xs:=(qE d)) (by kernel_rfl) (ahl d) (λ(_:Unit)=>(ni a [])) (λ(_:Unit) l=>xq N l=some r) () (by kernel_rfl) J (by rintro _;rfl) (by rintro _;kernel_rfl) (by kernel_rfl) rfl ?_ ?_
     ·rintro _ f G J L n o
      try dsimp only at J
      rw[xq]at J;refine gu [2,34] 3 (Zr _) (s':=⟨38,[(2,AM),(34,dW f)],ni a [.lp .ready 34 n o (dT 38 [(2,AM),(33,.fn 235 [.bK [fu d] 0 0])])]⟩) (by kernel_rfl) ?_;refine CH [] [(3,AU)] (ni a [.lp .ready 34 n o (dT 38 [(2,AM),(33,.fn 235 [.bK [fu d] 0 0])]),.cells (dW f).cells]) ?_;refine aV ?_;refine⟨ni a [],Qf f,rfl,(by kernel_rfl),?_⟩;refine gu [2,3] 4 (Zh rfl) (s':=⟨38,[(2,AM),(3,AU)],ni a [.lp .busy 34 n o (dT 38 [(2,AM),(33,.fn 235 [.bK [fu d] 0 0])]),.cells (dW f).cells]⟩) (by kernel_rfl) ?_;refine dI ?_;refine aw ?_;obtain⟨e,H,J⟩:=bz J;refine CU [(4,cK Pv H)] [(37,(az (e !=0)))] (ni a [.lp .busy 34 n o (dT 38 [(2,AM),(33,.fn 235 [.bK [fu d] 0 0])]),.cells (dW f).cells]) ?_;rcases eo (e !=0)with p|p
      ·replace J:=(dh p).symm.trans J;refine C4 (t:=(e !=0)) p ?_;refine aw (CU [] [] (yg a [.cells [Y 1],.lp .busy 34 n o (dT 38 [(2,AM),(33,.fn 235 [.bK [fu d] 0 0])]),.cells (dW f).cells]) ?_);refine dk (eW ?_);refine Gw (yg a [.cells [Y 1]]) rfl (by kernel_rfl) (by kernel_rfl) ?_;refine(eW (dn ?_));have c:=Zs J;subst c;exact fJ (by kernel_rfl)
      replace J:=(ee p).symm.trans J;refine BT (t:=(e !=0)) p ?_;refine cO ?_;refine eV ?_;refine Bp (ni a []) rfl (by kernel_rfl) (by kernel_rfl) ?_;exact⟨(),(by kernel_rfl),J⟩
     rintro _ J
     try dsimp only at J
     rw[xq]at J;refine eV ?_;refine aV ?_;refine aw (CU [] [] (ni a [.gone]) ?_);refine dk ?_;have c:=Zs J;subst c;exact fJ (by kernel_rfl)
    replace J:=(ee j).symm.trans J;refine C4 (t:=(!w)) (dt j) ?_;refine aw (CU [] [] (yg a [.cells [Y 10]]) ?_);refine dk (eW (dn ?_));have c:=Zs J;subst c;exact fJ (by kernel_rfl)
   replace J:=(ee i).symm.trans J;refine C4 (t:=(!v)) (dt i) ?_;refine aw (CU [] [] (yg a [.cells [Y 11]]) ?_);refine dk (eW (dn ?_));have c:=Zs J;subst c;exact fJ (by kernel_rfl)
  replace J:=(ee h).symm.trans J;refine C4 (t:=(!u)) (dt h) ?_;refine aw (CU [] [] (yg a [.cells [Y 7]]) ?_);refine dk (eW (dn ?_));have c:=Zs J;subst c;exact fJ (by kernel_rfl)
 replace J:=(ee g).symm.trans J;refine C4 (t:=(!q)) (dt g) ?_;refine aw (CU [] [] (yg a [.cells [Y 5]]) ?_);refine dk (eW (dn ?_));have c:=Zs J;subst c;exact fJ (by kernel_rfl)
def dX:aL:=⟨(0:Int),(0:Int),(0:Int),(0:Int),(0:Int)⟩
def af7:kS:=⟨(0:Int),(0:Int),(0:Int)⟩
def iV:bk:=⟨dX,[],[]⟩
def qz:I AV:=[Y 0,Y 0,Y 0,Y 0,Y 0]
def JA:I AV:=[Y 0,Y 0,Y 0,Y 0,Y 0,.d (.v (.slice none 0 0)),.d (.v (.slice none 0 0))]
def Au(N:Nat):I ay->U Int
 |[]=>some (0:Int)
 |b::c=>(Gv N b).bind λa=>bif (a !=0)then some a else(Au N c)
def BY(N:Nat)(a:ay):U Int:=(Uw N a).bind λb=>bif (decide (b>40))then some (13:Int)else(Ht N a).bind λc=>bif (decide (c>2000))then some (2:Int)else(BN N a).bind λd=>Au N (dR d)
def pO(a:ay)(l:I ar):I ar:= .cells (aK a).cells:: .cells [Y 0]::l
def RF(a:ay)(b:Code)(c:Code)(d:ay)(e:ay)(l:I ar):I ar:=pO a (.lp .busy 13 b c (dT 19 [(2,AM),(12,.fn 149 [.bK [fu d] 0 0])]):: .cells (aK e).cells::l)
def F4(a:ay)(l:I ar):I ar:= .cells (aK a).cells::l
def aua{N a r}(J:BY N a=some r):KF 51 [aK a] (Y r):=by
 rw[BY]at J;refine mJ func51 rfl (by kernel_rfl) ?_;refine gu [0] 0 (Zr _) (s':=⟨19,[(0,aK a)],[]⟩) (by kernel_rfl) ?_;refine aw (CU [] [(1,Ad),(2,AM)] (pO a []) ?_);refine aw (aw ?_);obtain⟨k,o,J⟩:=bz J;refine CU [(4,cK asB o)] [(7,(az (decide (k>40))))] (pO a []) ?_;rcases eo (decide (k>40))with h|h
 ·replace J:=(dh h).symm.trans J;refine C4 (t:=(decide (k>40))) h ?_;refine aw (CU [] [] (F4 a [.cells [Y 13]]) ?_);refine dk (dn ?_);have c:=Zs J;subst c;exact fJ (by kernel_rfl)
 replace J:=(ee h).symm.trans J;refine BT (t:=(decide (k>40))) h ?_;refine cO ?_;refine aV ?_;refine aw (aw ?_);obtain⟨n,p,J⟩:=bz J;refine CU [(4,cL (asP p))] [(10,(az (decide (n>2000))))] (pO a []) ?_;rcases eo (decide (n>2000))with i|i
 ·replace J:=(dh i).symm.trans J;refine C4 (t:=(decide (n>2000))) i ?_;refine aw (CU [] [] (F4 a [.cells [Y 2]]) ?_);refine dk (dn ?_);have c:=Zs J;subst c;exact fJ (by kernel_rfl)
 replace J:=(ee i).symm.trans J;refine BT (t:=(decide (n>2000))) i ?_;refine cO ?_;refine aV ?_;refine aw (aw ?_);obtain⟨b,q,J⟩:=bz J;refine CU [(4,cL (VK q))] [(12,.fn 149 [.bK [fu b] 0 0])] (pO a []) ?_;refine dI ?_;refine gu [2,12] 2 (Zh rfl) (s':=⟨19,[(2,AM),(12,.fn 149 [.bK [fu b] 0 0])],pO a []⟩) (by kernel_rfl) ?_;refine yq (m:=2) (enc:=aK) (xs:=(dR b)) (by kernel_rfl) (VV b) (λ(_:Unit)=>(pO a [])) (λ(_:Unit) l=>Au N l=some r) () (by kernel_rfl) J (by rintro _;rfl) (by rintro _;kernel_rfl) (by kernel_rfl) rfl ?_ ?_
 ·rintro _ d v J w f g
  try dsimp only at J
  rw[Au]at J;refine gu [2,13] 3 (Zr _) (s':=⟨19,[(2,AM),(13,aK d)],pO a [.lp .ready 13 f g (dT 19 [(2,AM),(12,.fn 149 [.bK [fu b] 0 0])])]⟩) (by kernel_rfl) ?_;refine CH [] [(3,AU)] (pO a [.lp .ready 13 f g (dT 19 [(2,AM),(12,.fn 149 [.bK [fu b] 0 0])]),.cells (aK d).cells]) ?_;refine aV ?_;refine⟨pO a [],F4 d [],rfl,(by kernel_rfl),?_⟩;refine gu [2,3] 4 (Zh rfl) (s':=⟨19,[(2,AM),(3,AU)],RF a f g b d []⟩) (by kernel_rfl) ?_;refine dI ?_;refine aw ?_;obtain⟨e,u,J⟩:=bz J;refine CU [(4,cL (amN u))] [(4,Y e)] (RF a f g b d []) ?_;refine aw (CU [] [(17,(az (e !=0)))] (RF a f g b d []) ?_);rcases eo (e !=0)with j|j
  ·replace J:=(dh j).symm.trans J;refine C4 (t:=(e !=0)) j ?_;refine aw (CU [] [] (F4 a [.cells [Y e],.lp .busy 13 f g (dT 19 [(2,AM),(12,.fn 149 [.bK [fu b] 0 0])]),.cells (aK d).cells]) ?_);refine dk (eW ?_);refine Gw (F4 a [.cells [Y e]]) rfl (by kernel_rfl) (by kernel_rfl) ?_;refine(eW (dn ?_));have c:=Zs J;subst c;exact fJ (by kernel_rfl)
  replace J:=(ee j).symm.trans J;refine BT (t:=(e !=0)) j ?_;refine cO ?_;refine eV ?_;refine Bp (pO a []) rfl (by kernel_rfl) (by kernel_rfl) ?_;exact⟨(),(by kernel_rfl),J⟩
 rintro _ J
 try dsimp only at J
 rw[Au]at J;refine eV ?_;refine aV ?_;refine aw (CU [] [] (pO a [.gone]) ?_);refine dk ?_;have c:=Zs J;subst c;exact fJ (by kernel_rfl)
def LU(N:Nat)(a:I (so×Int)):I dZ->Nat->U Int
 |[],_=>some (0:Int)
 |v6::b,c=>bif ((ia a v6.aC 0)==0)then some (9:Int)else(LU N a b (c+1))
def E5(N:Nat)(a:bD)(c:bo)(b:I (so×Int)):U Int:=LU N b a.xL 0
def R4{N a e c}:KP 288 [Ad,dW a] (Gx e c) Y (λ_=>(Gx e c)) (E5 N a e c):=
 fh 2 func288 (V [[],[(7,oL a.xL jH)]] (gT vz 8 a.xL λh=>dP 1 [] [0,8,9,10] 3 (λf=>⟨23,[(0,Ad),(8,O (hJ a.xL)),(9,Y a.xL.length),(10,Y f)],[.cells (gL e [.mp 1]),.map (fW c),.cells (dW a).cells]⟩) (λf b i=>gH [[],[f0 (bI b)],[]]) (λf j l b i k=>V [[],[t0 (bH b)],[(1,oE (lO (aY b)))],[(20,oq (It false c j.aC))]] (ax (λg=>gH [[t0 g],[]]) λg=>gb k () [[f0 g],[(2,oq (bV b rfl h))]] b))))
def RA(N:Nat)(a:I dZ):U (I dZ):=bif Nat.ble (a.length*24) 140737488355328 then some a else none
def akW{N a r}(J:RA N a=some r):gZ prog 222 [O (hJ a)] (·=(O (hJ r))):=by
 obtain⟨c,rfl⟩:=fe J;have b:=mj c (by decide);exact apu szT (by rw[jH];exact b.1) (by rw[jH];exact b.2)
def E8(N:Nat)(a:bD):U bD:=(RA N a.xL).bind λb=>some (⟨a.xK,b⟩:bD)
def atz{N a}:KO 134 [dW a] dW (E8 N a):=
 fw func134 (au λc b=>gR [[],[(13,cL (akW b))]])
def Ip(N:Nat):I bD->Nat->(I bD)->U (I bD)
 |[],_,a=>some a
 |v4::b,c,a=>(E8 N v4).bind λd=>bif (Nat.ble ((a.length+1)*32) 140737488355328)then(λe=>Ip N b (c+1) e) (a++[d])else none
def Kb(N:Nat)(a:I bD):U (I bD):=Ip N a 0 []
def anT{N a}:KO 132 [O (fA a)] (λr=>.d (.sl (fA r))) (Kb N a):=
 fw func132 (V [[],[],[(4,oL a fX)]] (li (λ_=>(mR 3 48 2 [] (.inr (by kernel_rfl)) ·)) (gT m9 0 a λg=>ft 1 [] [3,6,7,8] 1 (λe(b:I bD)=>⟨19,[(3,.own 0 (fA b)),(6,O (fA a)),(7,Y a.length),(8,Y e)],[.front 48 2 b.length]⟩) (λe b c h=>gR [[],[f0 (bI c)],[]]) (λe l m b c h i=>au λf j=>cH λk=>gb i (b++[f]) [[],[t0 (bH c)],[(1,oE (o7 (aY c)))],[(7,cK atz j),(13,oA m9 b ([f]) k)],[(2,oq (bV c rfl g))]] c))))
def Vp(N:Nat)(a:bZ)(b:so):U Bool:=some (bL a.aC==bL b)
abbrev Q1:=λa=>([.cells [dj a]]:List ar)
def ahH{N b a}:KP 221 [fb b,Ad] (Q1 a) az (λ_=>(Q1 a)) (Vp N b a):=
 fh 1 func221 (gH [[],[]])
def N6(N:Nat)(a:so):I bZ->Nat->U Int
 |[],_=>some (-1:Int)
 |c::d,b=>(Vp N c a).bind λe=>bif e then some (b:Int)else(N6 N a d (b+1))
def Qy(N:Nat)(a:I bZ)(b:so):U Int:=N6 N b a 0
def ah7{N a c}:KP 220 [O (iy a),.fn 221 [Ad]] (Q1 c) Y (λ_=>(Q1 c)) (Qy N a c):=
 fh 1 func220 (V [[],[(4,oL a j6)]] (gT vV 0 a λg=>dP 1 [] [0,1,7,8] 1 (λe=>⟨19,[(0,O (iy a)),(1,.fn 221 [Ad]),(7,Y a.length),(8,Y e)],Q1 c⟩) (λe b h=>gH [[],[f0 (bI b)],[]]) (λe i l b h j=>au λm k=>V [[],[t0 (bH b)],[],[(10,oE (ju (aY b))),(16,oQ [fb i,Ad] (Q1 c) [0] (ahH _ k))]] (ax (λf=>gH [[t0 f],[]]) λf=>gb j () [[f0 f],[(2,oq (bV b rfl g))]] b))))
def Kj(N:Nat)(a:bo)(b:so):U Int:=(Qy N a.aM b).bind λc=>some c
abbrev Ti:=λa b=>([.cells (c9 a).cells,.cells [dj b]]:List ar)
def anC{N a b}:KO 133 [c9 a,dj b] Y (Kj N a b):=
 fw func133 (au λe c=>gR [[],[(10,oQ [O (iy a.aM),.fn 221 [AM]] (Ti a b) [1] (ah7 _ c))]])
def IL(N:Nat)(c:bZ):I dF->Nat->(I bD)->U (aL×(I bD)×Bool)
 |[],_,a=>some (c.aH,a,true)
 |v11::b,d,a=>(E8 N v11.eH).bind λe=>bif (Nat.ble ((a.length+1)*32) 140737488355328)then(λf=>IL N c b (d+1) f) (a++[e])else none
def Ji(N:Nat)(a:bo)(b:so):I fm->Nat->U (aL×(I bD)×Bool)
 |[],_=>(Kj N a b).bind λc=>bif (decide (c>=0))then bif (decide ((0:Int)<=c))then(a.aM[(c).toNat]?).bind λe=>IL N e e.aQ 0 []else none else some (dX,[],false)
 |d::f,g=>bif (bL d.aC==bL b)then(Kb N d.aQ).bind λh=>some (d.aH,h,true)else(Ji N a b f (g+1))
def EB(N:Nat)(a:bo)(b:so):U (aL×(I bD)×Bool):=Ji N a b a.bu 0
def U5{N a g}:KO 78 [c9 a,dj g] (λr=>.bn [bX r.1,O (fA r.2.1),az r.2.2]) (EB N a g):=
 fw func78 (V [[],[(7,oL a.bu mP)]] (gT Co 14 a.bu λp=>dP 1 [] [1,2,4,14,15,16] 2 (λh=>⟨61,[(1,dj g),(2,Ad),(4,AM),(14,O (lL a.bu)),(15,Y a.bu.length),(16,Y h)],[.cells (c9 a).cells,.cells qz]⟩) (λh b q=>au λj t=>V [[],[f0 (bI b)],[(7,cK anC t)],[]] (jC λu=>cH λm=>au λf n=>V [[t0 u],[],[(10,⟨_,_,.el (xs:=iy a.aM) (i:=j) (Vd m) (ju n)⟩),(19,oL f.aQ gw)]] (li (λ_=>(mR 10 48 2 [] (.inr (by kernel_rfl)) ·)) (gT nO 40 f.aQ λv=>ft 2 [] [2,4,9,10,40,41,42] 3 (λk(c:I bD)=>⟨61,[(2,Ad),(4,AM),(9,Y j),(10,.own 2 (fA c)),(40,O (dAxiss f.aQ)),(41,Y f.aQ.length),(42,Y k)],[.cells (c9 a).cells,.cells qz,.front 48 2 c.length]⟩) (λk c e w=>gR [[],[f0 (bI e)],[(10,⟨_,_,.el (xs:=iy a.aM) (i:=j) (Vd m) (ju n)⟩)]]) (λk x y c e w z=>au λo A=>cH λB=>gb z (c++[o]) [[],[t0 (bH e)],[(1,oE (m7 (aY e)))],[(10,cK atz A),(16,oA m9 c ([o]) B)],[(2,oq (bV e rfl v))]] e))))) (λh F G b q C=>V [[],[t0 (bH b)],[(1,oE (pc (aY b)))],[]] (ax (λl=>au λH E=>gR [[t0 l],[(13,cK anT E)]]) λl=>gb C () [[f0 l],[(2,oq (bV b rfl p))]] b))))
def KC(N:Nat)(b:bo)(c:I (so×Int)):I bD->Nat->U Int
 |[],_=>some (0:Int)
 |d::e,f=>(E5 N d b c).bind λa=>bif (a !=0)then some a else(KC N b c e (f+1))
def L5(N:Nat)(a:c7)(b:bo)(d:I (so×Int)):U Int:=bif (bL a.dc==bL (bs []))then(E5 N a.bO b d).bind λe=>some e else(EB N b a.dc).bind λc=>bif c.2.2 then bif (c.1.bA !=3)then some (10:Int)else bif ((a.cP.length:Int) !=(c.2.1.length:Int))then some (11:Int)else KC N b d a.cP 0 else some (9:Int)
def Q8(a:bo)(b:I (so×Int))(c:c7)(l:I ar):I ar:= .cells (gL a [.mp 1]):: .map (fW b):: .cells (ig c).cells::l
def ary{N a b c}:KP 308 [Ad,ig a] (Gx b c) Y (λ_=>(Gx b c)) (L5 N a b c):=
 fh 2 func308 (V [[],[]] (ax (λf=>au λv n=>gH [[t0 f],[(10,oQ [Ad,dW a.bO] (Q8 b c a []) [0,1] (R4 _ n))]]) λf=>au λg o=>V [[f0 f],[(19,cK U5 o)],[]] (ax (λh=>V [[f0 (cy h)],[]] (ax (λi=>gH [[t0 i],[]]) λi=>V [[f0 i],[(7,oL a.cP fX),(13,oL g.2.1 fX)]] (ax (λj=>gH [[t0 j],[]]) λj=>V [[f0 j],[(7,oL a.cP fX)]] (gT m9 44 a.cP λp=>dP 1 [] [0,44,45,46] 4 (λk=>⟨57,[(0,Ad),(44,O (fA a.cP)),(45,Y a.cP.length),(46,Y k)],Q8 b c a (SA g.1)⟩) (λk e q=>gH [[],[f0 (bI e)],[]]) (λk m w e q r=>au λt u=>V [[],[t0 (bH e)],[(1,oE (o7 (aY e)))],[(7,oQ [Ad,dW m] (Q8 b c a [.cells (bX g.1).cells,.cells (dW m).cells]) [0,1] (R4 _ u))],[]] (ax (λl=>gH [[t0 l],[]]) λl=>gb r () [[f0 l],[(2,oq (bV e rfl p))]] e)))))) λh=>gH [[t0 (dt h)],[]])))
def MO(N:Nat)(a:aL×(I bD)×Bool)(b:bo)(c:I (so×Int)):I c7->Nat->U (aL×Int)
 |[],_=>some (a.1,(0:Int))
 |e::f,g=>(L5 N e b c).bind λd=>bif (d !=0)then some (dX,d)else(MO N a b c f (g+1))
def Nu(N:Nat)(a:ay)(c:bo)(d:I (so×Int)):U (aL×Int):=(EB N c a.aC).bind λb=>bif b.2.2 then bif ((a.xIdx.length:Int) !=(b.2.1.length:Int))then some (dX,(11:Int))else MO N b c d a.xIdx 0 else some (dX,(9:Int))
def apB{N a c e}:KP 289 [Ad,aK a] (Gx c e) (λr=>.bn [bX r.1,Y r.2]) (λ_=>(Gx c e)) (Nu N a c e):=
 fh 2 func289 (au λf l=>V [[],[(19,cK U5 l)],[]] (ax (λg=>V [[f0 (cy g)],[(7,oL a.xIdx gq),(13,oL f.2.1 fX)]] (ax (λh=>gH [[t0 h],[]]) λh=>V [[f0 h],[(7,oL a.xIdx gq)]] (gT rJ 34 a.xIdx λm=>dP 1 [] [0,4,6,34,35,36] 5 (λi=>⟨49,[(0,Ad),(4,AU),(6,B4),(34,O (fc a.xIdx)),(35,Y a.xIdx.length),(36,Y i)],[.cells (gL c [.mp 1]),.map (fW e),.cells (aK a).cells,.cells qz,.cells (bX f.1).cells]⟩) (λi b n=>gH [[],[f0 (bI b)],[]]) (λi k q b n o=>au λt p=>V [[],[t0 (bH b)],[(1,oE (jh (aY b)))],[(7,oQ [Ad,ig k] [.cells (gL c [.mp 1]),.map (fW e),.cells (aK a).cells,.cells qz,.cells (bX f.1).cells,.cells (ig k).cells] [0,1] (ary _ p))],[]] (ax (λj=>gH [[t0 j],[]]) λj=>gb o () [[f0 j],[(2,oq (bV b rfl m))]] b))))) λg=>gH [[t0 (dt g)],[]]))
def I6(N:Nat)(a:aL)(b:aL):U Int:=bif ((a.bA==b.bA)&&((a.bU==b.bU)&&((a.ck==b.ck)&&((a.cr==b.cr)&&((a.cC==b.cC)&&true)))))then some (0:Int)else some (10:Int)
def Tu{N a b}:KO 287 [bX a,bX b] Y (I6 N a b):=
 fw func287 (V [[],[]] (nc λc=>gR [[t0 (dt c)],[]]))
def GK(N:Nat)(b:I aL)(d:Bool):U (aL×Int):=bif d then(b[0]?).bind λe=>(b[1]?).bind λf=>(I6 N e f).bind λc=>some (dX,c)else(b[0]?).bind λa=>(b[1]?).bind λg=>(I6 N a g).bind λh=>some (a,h)
def GO(N:Nat)(a:ay)(b:I aL)(c:Bool):U (aL×Int):=bif c then some (dX,(0:Int))else bif (a.aD==13)then GK N b (a.aD==13)else bif (a.aD==14)then GK N b (a.aD==14)else GK N b (a.aD==15)
def Lm(N:Nat)(a:ay)(f:bo)(g:I (so×Int))(b:I aL)(i:Bool):U (aL×Int):=bif i then some (a.aH,(0:Int))else bif (a.aD==2)then(E5 N a.bO f g).bind λd=>some ((⟨3,0,0,0,0⟩:aL),d)else bif (a.aD==3)then(Nu N a f g).bind λc=>some (c.1,c.2)else bif (a.aD==8)then(b[0]?).bind λe=>some (e,(0:Int))else bif (a.aD==11)then(b[1]?).bind λh=>(b[2]?).bind λj=>(I6 N h j).bind λk=>some (h,k)else bif (a.aD==16)then GO N a b (a.aD==16)else bif (a.aD==17)then GO N a b (a.aD==17)else GO N a b (a.aD==18)
def An(N:Nat)(b:ay)(e:bo)(f:I (so×Int))(c:ay->bo->(I (so×Int))->U (aL×Int)):I ay->Nat->(I aL)->U (aL×Int)
 |[],_,d=>bif (b.aD==1)then Lm N b e f d (b.aD==1)else Lm N b e f d (b.aD==12)
 |v6::g,h,d=>(c v6 e f).bind λa=>bif (a.2 !=0)then some (dX,a.2)else bif (Nat.ble ((d.length+1)*40) 140737488355328)then(λi=>An N b e f c g (h+1) i) (d++[a.1])else none
def yu(N:Nat):Nat->ay->bo->(I (so×Int))->U (aL×Int)
 |0,_,_,_=>none
 |d+1,a,b,c=>An N a b c (yu N d) a.bS 0 []
def QU(N:Nat)(a:ay)(b:bo)(c:I (so×Int)):U (aL×Int):=yu N N a b c
def yd(a:bo)(b:I (so×Int))(c:ay)(d:I aL)(l:I ar):I ar:= .cells (gL a [.mp 1]):: .map (fW b):: .cells (aK c).cells:: .cells qz:: .front 34 5 d.length::l
def ap4(N:Nat):∀d:Nat,(∀{a:ay}{c:bo}{e:I (so×Int)},KP 255 [Ad,aK a] (Gx c e) (λr=>.bn [bX r.1,Y r.2]) (λ_=>(Gx c e)) (yu N d a c e)):=by
 intro d
 induction d with
 |zero=>intro a c e r J;rw[yu]at J;cases J
 |succ d ih=>
  have h:= @ih;intro a c e;rw[yu];exact fh 2 func255 (V [[],[],[(7,oL a.bS ji)]] (li (λ_=>(mR 6 34 5 [] (.inr (by kernel_rfl)) ·)) (gT o0 13 a.bS λL=>ft 1 [] [0,3,4,6,13,14,15] 5 (λi(b:I aL)=>⟨102,[(0,Ad),(3,D5),(4,AU),(6,.own 4 (pJ b)),(13,O (dExprs a.bS)),(14,Y a.bS.length),(15,Y i)],yd c e a b []⟩) (λi b f M=>kO 2 [[],[(0,bF (bI f))],[],[],[]] [0,3,4,6,11,35,36] 5 (λ(B:Bool)=>⟨102,[(0,Ad),(3,D5),(4,AU),(6,.own 4 (pJ b)),(11,.fn 287 []),(35,Y a.aD),(36,az B)],yd c e a b []⟩) (Lm N a c e b) (λf2 C=>ax (λj=>gm C (a.aD==1) [[(0,bT j)]]) λj=>gm C (a.aD==12) [[(0,bF j)],[]]) (λB=>ax (λl=>gH [[(0,bT l)],[]]) λl=>V [[(0,bF l)],[]] (ax (λm=>au λP Q=>gH [[(0,bT m)],[(13,oQ [Ad,dW a.bO] (yd c e a b []) [0,1] (R4 _ Q))]]) λm=>V [[(0,bF m)],[]] (ax (λn=>au λR S=>gH [[(0,bT n)],[(7,oQ [Ad,aK a] (yd c e a b []) [0,1] (apB _ S))]]) λn=>V [[(0,bF n)],[]] (ax (λo=>au λT W=>gH [[(0,bT o)],[(4,oE (k:=0) (mW W))]]) λo=>V [[(0,bF o)],[]] (ax (λp=>au λaF E=>au λaG bJ=>au λaP bW=>gH [[(0,bT p)],[(4,oE (k:=1) (mW E)),(16,oE (k:=1) (mW E)),(25,oE (k:=2) (mW bJ)),(31,cK Tu bW)]]) λp=>kO 3 [[(0,bF p)],[]] [4,6,11,35,73] 5 (λ(F:Bool)=>⟨102,[(4,AU),(6,.own 4 (pJ b)),(11,.fn 287 []),(35,Y a.aD),(73,az F)],yd c e a b []⟩) (GO N a b) (λf3 q=>ax (λt=>gm q (a.aD==16) [[(0,bT t)]]) λt=>V [[(0,bF t)],[]] (ax (λu=>gm q (a.aD==17) [[(0,bT u)]]) λu=>gm q (a.aD==18) [[(0,bF u)],[]])) (λF=>ax (λv=>gH [[(0,bT v)],[]]) λv=>kO 4 [[(0,bF v)],[]] [4,6,11,78] 5 (λ(G:Bool)=>⟨102,[(4,AU),(6,.own 4 (pJ b)),(11,.fn 287 []),(78,az G)],yd c e a b []⟩) (GK N b) (λf4 w=>ax (λx=>gm w (a.aD==13) [[(0,bT x)]]) λx=>V [[(0,bF x)],[]] (ax (λy=>gm w (a.aD==14) [[(0,bT y)]]) λy=>gm w (a.aD==15) [[(0,bF y)],[]])) (λG=>ax (λz=>au λbN de=>au λcm dN=>au λv20 eI=>gH [[(0,bT z)],[(10,oE (k:=0) (mW de)),(19,oE (k:=1) (mW dN)),(25,cK Tu eI)]]) λz=>au λv21 H=>au λfv fM=>au λdL gD=>gH [[(0,bF z)],[(4,oE (k:=0) (mW H)),(16,oE (k:=0) (mW H)),(25,oE (k:=1) (mW fM)),(31,cK Tu gD)]])))))))) (λi K v7 b f M aI=>au λg jU=>V [[],[(0,bT (bH f))],[(1,oE (gz (aY f)))],[(7,oQ [Ad,aK K] (yd c e a b (GY K)) [0,1] (h _ jU))],[]] (ax (λA=>gH [[(0,bT A)],[]]) λA=>cH λlS=>gb aI (b++[g.1]) [[(0,bF A)],[(10,oA af0 b ([g.1]) lS)],[(2,oq (bV f rfl L))]] f)))))
def ams{N c a b}:KP 255 [Ad,aK c] (Gx a b) (λr=>.bn [bX r.1,Y r.2]) (λ_=>(Gx a b)) (QU N c a b):=(ap4 N N)
def yi(N:Nat)(d:ay)(e:bo):I so->Nat->(I (so×Int))->U (aL×Int)
 |[],_,a=>(QU N d e a).bind λb=>bif (b.2 !=0)then some (dX,b.2)else some (b.1,(0:Int))
 |f::g,c,a=>bif (Nat.blt a.length 9223372036854775807)then(λh=>yi N d e g (c+1) h) ((f,(3:Int))::a)else none
def N4(N:Nat)(b:ay)(c:bo)(d:I so):I so->Nat->(I (so×Int))->U (aL×Int)
 |[],_,a=>yi N b c d 0 a
 |e::f,g,a=>bif (Nat.blt a.length 9223372036854775807)then(λh=>N4 N b c d f (g+1) h) ((e,(1:Int))::a)else none
def PN(N:Nat)(b:bo)(d:I so)(a:ay):U (aL×Int):=(BY N a).bind λc=>bif (c !=0)then some (dX,c)else(Dc N a).bind λe=>bif e then some (dX,(10:Int))else N4 N a b d b.bG 0 []
def Vz(b:bo)(c:ay)(a:I (so×Int))(l:I ar):I ar:= .cells (c9 b).cells:: .cells (aK c).cells:: .cells qz:: .map (fW a):: .cells (gL b [.mp 3])::l
def ak1{N a c f}:KO 192 [c9 a,O (cD c),aK f] (λr=>.bn [bX r.1,Y r.2]) (PN N a c f):=
 fw func192 (au λE k=>V [[],[(4,cL (aua k))],[]] (bg λl=>au λF m=>V [[f0 l],[(4,cK Ul m)]] (bg λn=>V [[f0 n],[],[(7,oL a.bG fB)]] (gT iG 30 a.bG λp=>ft 1 [] [1,5,6,9,30,31,32] 5 (λj(b:I (so×Int))=>⟨65,[(1,O (cD c)),(5,AM),(6,D5),(9,B4),(30,O (cD a.bG)),(31,Y a.bG.length),(32,Y j)],Vz a f b []⟩) (λj b g q=>V [[],[f0 (bI g)],[(4,oL c fB)]] (gT iG 1 c λt=>ft 2 [] [5,6,9,42,43,44] 5 (λe(i:I (so×Int))=>⟨65,[(5,AM),(6,D5),(9,B4),(42,O (cD c)),(43,Y c.length),(44,Y e)],Vz a f i []⟩) (λe i h u=>au λG v=>V [[],[f0 (bI h)],[(7,oQ [B4,aK f] (Vz a f i []) [4,3] (ams _ v))],[]] (bg λw=>gR [[f0 w],[]])) (λe x H i h u y=>cH λz=>gb y ((x,(3:Int))::i) [[],[t0 (bH h)],[(1,oE (k9 (aY h)))],[(16,⟨_,_,.sd (o:= .none) (Rw z)⟩)],[(2,oq (bV h rfl t))]] h))) (λj A J b g q B=>cH λC=>gb B ((A,(1:Int))::b) [[],[t0 (bH g)],[(1,oE (k9 (aY g)))],[(16,⟨_,_,.sd (o:= .none) (Rw C)⟩)],[(2,oq (bV g rfl p))]] g)))))
def JG(N:Nat)(e:Int)(d:bo)(i:I (so×Int)):U (Int×(I (so×Int))):=bif (decide ((0:Int)<=e))then(d.aM[(e).toNat]?).bind λb=>(Dz N b.aC (2:Int) d i).bind λc=>bif (c.1 !=0)then some (c.1,c.2)else(yG N b.aH ([(b.aQ.length:Int),(b.cl.length:Int)])).bind λf=>bif (f !=0)then some (f,c.2)else(Kn N b d c.2).bind λg=>bif (g !=0)then some (g,c.2)else(KD N b).bind λh=>bif (h !=0)then some (h,c.2)else bif (decide ((e).toNat<=d.aM.length))then(ME N b).bind λj=>(PN N (⟨d.bG,d.dU,d.bu,(d.aM.take (e).toNat).drop 0,d.dM⟩:bo) j b.cw).bind λa=>bif (a.2 !=0)then some (a.2,c.2)else bif ((a.1.bA==b.aH.bA)&&((a.1.bU==b.aH.bU)&&((a.1.ck==b.aH.ck)&&((a.1.cr==b.aH.cr)&&((a.1.cC==b.aH.cC)&&true)))))then some ((0:Int),c.2)else some ((10:Int),c.2)else none else none
def asm{N c a d}:KP 109 [Ad,Y c] (Gx a d) (λr=>Y r.1) (λr=>(Gx a r.2)) (JG N c a d):=
 fh 2 func109 (cH λl=>au λb m=>au λn o=>V [[],[(19,⟨_,_,.el (xs:=iy a.aM) (i:=c) (Vd l) (ju m)⟩)],[(10,oR [Ad,dj b.aC,Y 2] [.cells (gL a [.mp 1]),.map (fW d),.cells (fb b).cells] [0,1] (Q0 _ o))],[]] (ax (λe=>gH [[t0 e],[]]) λe=>au λy p=>V [[f0 e],[(13,oL b.aQ gw),(22,oL b.cl gw),(28,cK af9 p)],[]] (ax (λf=>gH [[t0 f],[]]) λf=>au λz q=>V [[f0 f],[(7,oQ [Ad,fb b] [.cells (gL a [.mp 1]),.map (fW n.2),.cells (fb b).cells] [0,1] (ahs _ q))],[]] (ax (λg=>gH [[t0 g],[]]) λg=>au λA t=>V [[f0 g],[(4,cK apj t)],[]] (ax (λh=>gH [[t0 h],[]]) λh=>cH λu=>au λB v=>au λw x=>V [[f0 h],[],[(19,⟨_,_,.sub (xs:=iy a.aM) (lo:=0) (hi:=c) (by decide) (WJ _) (Vd l) (by rw[j6];exact(Vd u)) Rf adZ⟩)],[(7,cK apY v),(16,cK ak1 x)],[]] (ax (λj=>gH [[t0 j],[]]) λj=>V [[f0 j],[]] (ax (λk=>gH [[f0 (cy k)],[]]) λk=>gH [[t0 (dt k)],[]])))))))
def Jf(N:Nat)(e:I (so×Int))(c:bo):I so->Nat->Int->U (Int×Int)
 |[],_,_=>some ((0:Int),(0:Int))
 |f::g,a,b=>bif ((ia e f 0) !=2)then some (b,(9:Int))else bif (decide (((a:Int)).toNat<=c.dM.length))then(CC N ((c.dM.take ((a:Int)).toNat).drop 0) f).bind λh=>bif h then some (b,(8:Int))else(λd=>Jf N e c g (a+1) d) (aE (b+(1:Int)))else none
def Bg(N:Nat)(b:bo):I bZ->Nat->Int->(I (so×Int))->U (Int×Int)
 |[],_,c,d=>Jf N d b b.dM 0 c
 |_::e,g,c,d=>(JG N (g:Int) b d).bind λa=>bif (a.1 !=0)then some (c,a.1)else(λh f=>Bg N b e (g+1) h f) (aE (c+(1:Int))) a.2
def DI(N:Nat)(b:bo):I fm->Nat->Int->(I (so×Int))->U (Int×Int)
 |[],_,c,d=>Bg N b b.aM 0 c d
 |f::g,e,c,d=>(La N f b d).bind λa=>bif (a.1 !=0)then some (c,a.1)else(λh i=>DI N b g (e+1) h i) (aE (c+(1:Int))) a.2
def Hx(N:Nat)(a:bo)(b:I (so×Int)):I iu->Nat->U (Int×Int)
 |[],_=>DI N a a.bu 0 (2:Int) b
 |v10::c,e=>(Nz N v10 a b).bind λd=>bif (d !=0)then some ((1:Int),d)else(Hx N a b c (e+1))
def Pa(N:Nat)(a:bo):I so->Nat->(I (so×Int))->U (Int×Int)
 |[],_,b=>Hx N a b a.dU 0
 |d::e,f,b=>(Dz N d (1:Int) a b).bind λc=>bif (c.1 !=0)then some ((0:Int),c.1)else(λg=>Pa N a e (f+1) g) c.2
def JL(N:Nat)(a:bo):U (Int×Int):=(PK N a).bind λb=>bif b then Pa N a a.bG 0 []else some ((0:Int),(2:Int))
def uc(a:bo)(b:I (so×Int))(l:I ar):I ar:= .cells (c9 a).cells:: .map (fW b):: .cells (gL a [.mp 1])::l
def aiE{N a}:KO 60 [c9 a] (λr=>.bn [Y r.1,Y r.2]) (JL N a):=
 fw func60 (au λv2 z=>V [[],[(4,cK akQ z)]] (e9 λA=>V [[f0 (cy A)],[],[(7,oL a.bG fB)]] (gT iG 27 a.bG λB=>ft 1 [] [1,4,27,28,29] 3 (λt(f:I (so×Int))=>⟨115,[(1,Ad),(4,D5),(27,O (cD a.bG)),(28,Y a.bG.length),(29,Y t)],uc a f []⟩) (λt f g C=>V [[],[f0 (bI g)],[(7,oL a.dU qe)]] (gT F7 41 a.dU λE=>dP 2 [] [1,4,41,42,43] 3 (λu=>⟨115,[(1,Ad),(4,D5),(41,O (nZ a.dU)),(42,Y a.dU.length),(43,Y u)],uc a f []⟩) (λu h F=>V [[],[f0 (bI h)],[],[(7,oL a.bu mP)]] (gT Co 55 a.bu λG=>DF 3 [] [1,4,11,55,56,57] 3 (λe(n:Int)(o:I (so×Int))=>⟨115,[(1,Ad),(4,D5),(11,Y n),(55,O (lL a.bu)),(56,Y a.bu.length),(57,Y e)],uc a o []⟩) (λe n o i H=>V [[],[f0 (bI i)],[(7,oL a.aM j6)]] (gB vV 0 3 a.aM λJ=>DF 4 [] [1,4,11,73,74] 3 (λp(q:Int)(j:I (so×Int))=>⟨115,[(1,Ad),(4,D5),(11,Y q),(73,Y a.aM.length),(74,Y p)],uc a j []⟩) (λp q j l K=>V [[],[f0 (bI l)],[(7,oL a.dM fB)]] (gT iG 88 a.dM λL=>ft 5 [] [1,4,11,88,89,90] 3 (λb(c:Int)=>⟨115,[(1,Ad),(4,D5),(11,Y c),(88,O (cD a.dM)),(89,Y a.dM.length),(90,Y b)],uc a j []⟩) (λb c k M=>gR [[],[f0 (bI k)],[]]) (λb P iM c k M v=>V [[],[t0 (bH k)],[(4,oE (k9 (aY k)))],[(17,oq (It false j P))]] (bg λQ=>cH λR=>au λl5 S=>V [[f0 Q],[(10,⟨_,_,.sub (xs:=cD a.dM) (lo:=0) (hi:=(b:Int)) (by decide) (WJ _) (Vd (dO (Int.natCast_nonneg _))) (by rw[fB];exact(Vd R)) s9 En⟩),(16,cK aaC S)]] (bg λT=>gb v (aE (c+(1:Int))) [[f0 T],[],[(2,oq (bV k rfl L))]] k))))) (λp W v21 q j l K lC=>au λw gD=>V [[],[t0 (bH l)],[],[(7,oR [D5,Y p] (uc a j []) [2,1] (asm _ gD))],[]] (bg λfk=>gb lC (aE (q+(1:Int)),w.2) [[f0 fk],[],[(2,oq (bV l rfl J))]] l)))) (λe y aP n o i H jl=>au λx fx=>V [[],[t0 (bH i)],[(1,oE (pc (aY i)))],[(7,oR [D5,pz y] (uc a o [.cells (pz y).cells]) [2,1] (aoL _ fx))],[]] (bg λkP=>gb jl (aE (n+(1:Int)),x.2) [[f0 kP],[],[(2,oq (bV i rfl G))]] i)))) (λu m v11 h F dH=>au λC7 j8=>V [[],[t0 (bH h)],[(1,oE (HY (aY h)))],[(7,oQ [D5,uL m] (uc a f [.cells (uL m).cells]) [2,1] (ald _ j8))],[]] (bg λgh=>gb dH () [[f0 gh],[(2,oq (bV h rfl E))]] h)))) (λt v5 v6 f g C aI=>au λko jU=>V [[],[t0 (bH g)],[(1,oE (k9 (aY g)))],[(7,oR [D5,dj v5,Y 1] (uc a f []) [2,1] (Q0 _ jU))],[]] (bg λmc=>gb aI ko.2 [[f0 mc],[(2,oq (bV g rfl B))]] g)))))
def Sv(N:Nat)(a:aJ)(b:so):U Bool:=some (bL a.aC==bL b)
def aj3{N b a}:KP 41 [MX b,Ad] (Q1 a) az (λ_=>(Q1 a)) (Sv N b a):=
 fh 1 func41 (gH [[],[]])
def Ho(N:Nat)(a:so):I aJ->Nat->U Int
 |[],_=>some (-1:Int)
 |c::d,b=>(Sv N c a).bind λe=>bif e then some (b:Int)else(Ho N a d (b+1))
def Qj(N:Nat)(a:I aJ)(b:so):U Int:=Ho N b a 0
def amE{N a c}:KP 40 [O (aT a),.fn 41 [Ad]] (Q1 c) Y (λ_=>(Q1 c)) (Qj N a c):=
 fh 1 func40 (V [[],[(4,oL a mV)]] (gT uD 0 a λg=>dP 1 [] [0,1,7,8] 1 (λe=>⟨19,[(0,O (aT a)),(1,.fn 41 [Ad]),(7,Y a.length),(8,Y e)],Q1 c⟩) (λe b h=>gH [[],[f0 (bI b)],[]]) (λe i l b h j=>au λm k=>V [[],[t0 (bH b)],[],[(10,oE (oa (aY b))),(16,oQ [MX i,Ad] (Q1 c) [0] (aj3 _ k))]] (ax (λf=>gH [[t0 f],[]]) λf=>gb j () [[f0 f],[(2,oq (bV b rfl g))]] b))))
def DB(N:Nat)(a:Int64):U Int:=bif (decide (a.toInt<0))then some (u64.wrap (0-(u64.wrap a.toInt)))else some (u64.wrap a.toInt)
def Si{N a}:KO 137 [bx a] (λr=>.d (.v (.int .u64 r))) (DB N a):=
 fw func137 (V [[],[]] (bg λb=>gR [[f0 b],[]]))
def G5(N:Nat)(a:kS)(c:Int)(d:Int)(e:Int)(f:Int)(b:Int):U (Int×Int×Int):=some (u64.wrap (a.pj+(u64.wrap (c+b))),u64.wrap ((u64.wrap (a.mm+d))+e),u64.wrap (a.lJ+f))
def Av(N:Nat)(a:kS)(b:Int)(c:Int)(d:Int)(e:Int)(f:Int):U (Int×Int×Int):=bif (decide ((u64.wrap ((u64.wrap (a.mm+b))+c))<(u64.wrap (a.mm+b))))then G5 N a d b c e (u64.wrap (f+(1:Int)))else G5 N a d b c e f
def yS(N:Nat)(b:kS)(a:Int)(c:Int)(d:Int)(e:Int):U (Int×Int×Int):=bif (decide ((u64.wrap (b.mm+a))<a))then Av N b a e c d (1:Int)else Av N b a e c d (0:Int)
def uB(N:Nat)(b:kS)(c:Int)(a:Int)(d:Int):U (Int×Int×Int):=bif (decide ((u64.wrap (b.lJ+a))<a))then yS N b c d a (1:Int)else yS N b c d a (0:Int)
def AS(N:Nat)(a:Int)(b:Int)(d:Bool)(c:kS):U (Int×Int×Int):=bif d then bif ((u64.wrap ((u64.wrap ((BitVec.ofInt (IntKind.bits .u64) (IntKind.max .u64)^^^BitVec.ofInt (IntKind.bits .u64) b).toNat:Int))+(1:Int)))==0)then bif ((u64.wrap ((u64.wrap ((BitVec.ofInt (IntKind.bits .u64) (IntKind.max .u64)^^^BitVec.ofInt (IntKind.bits .u64) a).toNat:Int))+(1:Int)))==0)then uB N c (u64.wrap ((u64.wrap ((BitVec.ofInt (IntKind.bits .u64) (IntKind.max .u64)^^^BitVec.ofInt (IntKind.bits .u64) a).toNat:Int))+(1:Int))) (u64.wrap ((u64.wrap ((BitVec.ofInt (IntKind.bits .u64) (IntKind.max .u64)^^^BitVec.ofInt (IntKind.bits .u64) b).toNat:Int))+(1:Int))) (u64.wrap ((u64.wrap ((BitVec.ofInt (IntKind.bits .u64) (IntKind.max .u64)^^^BitVec.ofInt (IntKind.bits .u64) (0:Int)).toNat:Int))+(1:Int)))else uB N c (u64.wrap ((u64.wrap ((BitVec.ofInt (IntKind.bits .u64) (IntKind.max .u64)^^^BitVec.ofInt (IntKind.bits .u64) a).toNat:Int))+(1:Int))) (u64.wrap ((u64.wrap ((BitVec.ofInt (IntKind.bits .u64) (IntKind.max .u64)^^^BitVec.ofInt (IntKind.bits .u64) b).toNat:Int))+(1:Int))) (u64.wrap ((BitVec.ofInt (IntKind.bits .u64) (IntKind.max .u64)^^^BitVec.ofInt (IntKind.bits .u64) (0:Int)).toNat:Int))else uB N c (u64.wrap ((BitVec.ofInt (IntKind.bits .u64) (IntKind.max .u64)^^^BitVec.ofInt (IntKind.bits .u64) a).toNat:Int)) (u64.wrap ((u64.wrap ((BitVec.ofInt (IntKind.bits .u64) (IntKind.max .u64)^^^BitVec.ofInt (IntKind.bits .u64) b).toNat:Int))+(1:Int))) (u64.wrap ((BitVec.ofInt (IntKind.bits .u64) (IntKind.max .u64)^^^BitVec.ofInt (IntKind.bits .u64) (0:Int)).toNat:Int))else uB N c a b (0:Int)
def aty(a:kS)(b:Int)(l:I ar):I ar:= .cells [X a.pj,X a.mm,X (u64.wrap (a.lJ+b))]::l
abbrev Tl:=λa=>([.cells (EY a).cells]:List ar)
def aa4{N f g l a r}(J:AS N f g l a=some r):KH 136 [Ad,X f,X g,az l] (Tl a) (.bn []) ([.cells [X r.1,X r.2.1,X r.2.2]]):=by
 rw[AS]at J;refine Gg 1 func136 ?_;refine IQ bB 1 [[],[]] [0,1,2,8] 1 (λ((b,c,e):Int×Int×Int)=>⟨76,[(0,Ad),(1,X b),(2,X c),(8,X e)],Tl a⟩) (λ((b,c,e):Int×Int×Int)=>uB N a b c e=some r) ?_ ?_
 ·intro y j;apply bc J<;>intro m J
  ·refine fZ bB [[(0,bT m)],[],[],[]] ?_;apply bc J<;>intro n J
   ·refine fZ bB [[(0,bT n)],[],[]] ?_;apply bc J<;>intro o J
    ·exact mA bB j (u64.wrap ((u64.wrap ((BitVec.ofInt (IntKind.bits .u64) (IntKind.max .u64)^^^BitVec.ofInt (IntKind.bits .u64) f).toNat:Int))+(1:Int)),u64.wrap ((u64.wrap ((BitVec.ofInt (IntKind.bits .u64) (IntKind.max .u64)^^^BitVec.ofInt (IntKind.bits .u64) g).toNat:Int))+(1:Int)),u64.wrap ((u64.wrap ((BitVec.ofInt (IntKind.bits .u64) (IntKind.max .u64)^^^BitVec.ofInt (IntKind.bits .u64) (0:Int)).toNat:Int))+(1:Int))) [[(0,bT o)],[]] J
    exact mA bB j (u64.wrap ((u64.wrap ((BitVec.ofInt (IntKind.bits .u64) (IntKind.max .u64)^^^BitVec.ofInt (IntKind.bits .u64) f).toNat:Int))+(1:Int)),u64.wrap ((u64.wrap ((BitVec.ofInt (IntKind.bits .u64) (IntKind.max .u64)^^^BitVec.ofInt (IntKind.bits .u64) g).toNat:Int))+(1:Int)),u64.wrap ((BitVec.ofInt (IntKind.bits .u64) (IntKind.max .u64)^^^BitVec.ofInt (IntKind.bits .u64) (0:Int)).toNat:Int)) [[(0,bF o)]] J
   exact mA bB j (u64.wrap ((BitVec.ofInt (IntKind.bits .u64) (IntKind.max .u64)^^^BitVec.ofInt (IntKind.bits .u64) f).toNat:Int),u64.wrap ((u64.wrap ((BitVec.ofInt (IntKind.bits .u64) (IntKind.max .u64)^^^BitVec.ofInt (IntKind.bits .u64) g).toNat:Int))+(1:Int)),u64.wrap ((BitVec.ofInt (IntKind.bits .u64) (IntKind.max .u64)^^^BitVec.ofInt (IntKind.bits .u64) (0:Int)).toNat:Int)) [[(0,bF n)]] J
  exact mA bB j (f,g,(0:Int)) [[(0,bF m)]] J
 rintro⟨b,c,e⟩ J
 try dsimp only at J
 rw[uB]at J;refine GR bB r 2 [[],[],[]] [0,1,8,9] 1 (λ(h:Int)=>⟨76,[(0,Ad),(1,X b),(8,X e),(9,X h)],aty a c []⟩) (yS N a b e c) ?_ ?_
 ·intro z p;apply bc J<;>intro q J
  ·exact mA bB p (1:Int) [[(0,bT q)],[]] J
  exact mA bB p (0:Int) [[(0,bF q)]] J
 intro h J;rw[yS]at J;refine GR bB r 3 [[],[],[]] [0,8,9,10,11] 1 (λ(k:Int)=>⟨76,[(0,Ad),(8,X e),(9,X h),(10,X (u64.wrap (a.mm+b))),(11,X k)],aty a c []⟩) (Av N a b h e c) ?_ ?_
 ·intro A t;apply bc J<;>intro u J
  ·exact mA bB t (1:Int) [[(0,bT u)],[]] J
  exact mA bB t (0:Int) [[(0,bF u)]] J
 intro k J;rw[Av]at J;refine GR bB r 4 [[],[]] [0,8,11] 1 (λ(i:Int)=>⟨76,[(0,Ad),(8,X e),(11,X i)],[.cells [X a.pj,X (u64.wrap ((u64.wrap (a.mm+b))+h)),X (u64.wrap (a.lJ+c))]]⟩) (G5 N a e b h c) ?_ ?_
 ·intro B w;apply bc J<;>intro x J
  ·exact mA bB w (u64.wrap (k+(1:Int))) [[(0,bT x)],[]] J
  exact mA bB w k [[(0,bF x)]] J
 intro i J;rw[G5]at J;cases J;exact oF bB [[]]
def SV(N:Nat)(a:aJ)(b:dZ):U Bool:=some (bL a.aC==bL b.aC)
abbrev SQ:=λa=>([.cells (uJ a).cells]:List ar)
def aq9{N b a}:KP 138 [MX b,Ad] (SQ a) az (λ_=>(SQ a)) (SV N b a):=
 fh 1 func138 (gH [[],[]])
def BG(N:Nat)(a:dZ):I aJ->Nat->U Int
 |[],_=>some (-1:Int)
 |c::d,b=>(SV N c a).bind λe=>bif e then some (b:Int)else(BG N a d (b+1))
def QM(N:Nat)(a:I aJ)(b:dZ):U Int:=BG N b a 0
def ahg{N a c}:KP 40 [O (aT a),.fn 138 [Ad]] (SQ c) Y (λ_=>(SQ c)) (QM N a c):=
 fh 1 func40 (V [[],[(4,oL a mV)]] (gT uD 0 a λg=>dP 1 [] [0,1,7,8] 1 (λe=>⟨19,[(0,O (aT a)),(1,.fn 138 [Ad]),(7,Y a.length),(8,Y e)],SQ c⟩) (λe b h=>gH [[],[f0 (bI b)],[]]) (λe i l b h j=>au λm k=>V [[],[t0 (bH b)],[],[(10,oE (oa (aY b))),(16,oQ [MX i,Ad] (SQ c) [0] (aq9 _ k))]] (ax (λf=>gH [[t0 f],[]]) λf=>gb j () [[f0 f],[(2,oq (bV b rfl g))]] b))))
def O6(N:Nat)(a:Int)(b:Int):U (Int×Int):=some (u64.wrap ((u64.wrap ((u64.wrap (((a).fdiv (2^(min ((32:Int)).toNat (IntKind.bits .u64))))*((b).fdiv (2^(min ((32:Int)).toNat (IntKind.bits .u64))))))+((u64.wrap ((u64.wrap (((a).fdiv (2^(min ((32:Int)).toNat (IntKind.bits .u64))))*(u64.wrap ((BitVec.ofInt (IntKind.bits .u64) b&&&BitVec.ofInt (IntKind.bits .u64) (4294967295:Int)).toNat:Int))))+((u64.wrap ((u64.wrap ((BitVec.ofInt (IntKind.bits .u64) a&&&BitVec.ofInt (IntKind.bits .u64) (4294967295:Int)).toNat:Int))*(u64.wrap ((BitVec.ofInt (IntKind.bits .u64) b&&&BitVec.ofInt (IntKind.bits .u64) (4294967295:Int)).toNat:Int)))).fdiv (2^(min ((32:Int)).toNat (IntKind.bits .u64)))))).fdiv (2^(min ((32:Int)).toNat (IntKind.bits .u64))))))+((u64.wrap ((u64.wrap ((u64.wrap ((BitVec.ofInt (IntKind.bits .u64) a&&&BitVec.ofInt (IntKind.bits .u64) (4294967295:Int)).toNat:Int))*((b).fdiv (2^(min ((32:Int)).toNat (IntKind.bits .u64))))))+(u64.wrap ((BitVec.ofInt (IntKind.bits .u64) (u64.wrap ((u64.wrap (((a).fdiv (2^(min ((32:Int)).toNat (IntKind.bits .u64))))*(u64.wrap ((BitVec.ofInt (IntKind.bits .u64) b&&&BitVec.ofInt (IntKind.bits .u64) (4294967295:Int)).toNat:Int))))+((u64.wrap ((u64.wrap ((BitVec.ofInt (IntKind.bits .u64) a&&&BitVec.ofInt (IntKind.bits .u64) (4294967295:Int)).toNat:Int))*(u64.wrap ((BitVec.ofInt (IntKind.bits .u64) b&&&BitVec.ofInt (IntKind.bits .u64) (4294967295:Int)).toNat:Int)))).fdiv (2^(min ((32:Int)).toNat (IntKind.bits .u64))))))&&&BitVec.ofInt (IntKind.bits .u64) (4294967295:Int)).toNat:Int)))).fdiv (2^(min ((32:Int)).toNat (IntKind.bits .u64))))),u64.wrap (a*b))
def aim{N a c}:KO 139 [X a,X c] (λr=>.bn [X r.1,X r.2]) (O6 N a c):=
 fw func139 (gR [[],[],[(4,⟨_,_,.nn (b:=32) (by decide)⟩),(19,⟨_,_,.nn (b:=32) (by decide)⟩)],[(10,⟨_,_,.nn (b:=32) (by decide)⟩)],[(4,⟨_,_,.nn (b:=32) (by decide)⟩),(10,⟨_,_,.nn (b:=32) (by decide)⟩),(19,⟨_,_,.nn (b:=32) (by decide)⟩),(28,⟨_,_,.nn (b:=32) (by decide)⟩)]])
def Lv(N:Nat)(a:kS):U (Int64×Bool):=(bif (a.mm==(u64.wrap (Int64.ofInt (((Int64.ofInt a.lJ).toInt).fdiv (2^(min ((63:Int)).toNat (IntKind.bits .i64))))).toInt))then some (a.pj==(u64.wrap (Int64.ofInt (((Int64.ofInt a.lJ).toInt).fdiv (2^(min ((63:Int)).toNat (IntKind.bits .i64))))).toInt))else some false).bind λb=>some (Int64.ofInt a.lJ,b)
def apt{N a}:KP 140 [Ad] (Tl a) (λr=>.bn [bx r.1,az r.2]) (λ_=>(Tl a)) (Lv N a):=
 fh 1 func140 (V [[],[(14,oq (iI a.lJ))],[(4,⟨_,_,.nn (b:=63) (by decide)⟩),(5,oq (aei (Int64.ofInt a.lJ) (min ((63:Int)).toNat (IntKind.bits .i64))))]] (gG (λd=>[(2,bx (Int64.ofInt a.lJ)),(3,az d)]) (λ_=>(Tl a)) (ax (λc=>gE [(7,bT c)] []) λc=>gE [(7,bF c)] []) λd=>gH []))
def IF(N:Nat)(d:I aJ):I dZ->Nat->Int->Int->Int->U (Int64×Int)
 |[],_,a,b,c=>(Lv N (⟨a,b,c⟩:kS)).bind λh=>bif h.2 then some (h.1,(0:Int))else some ((0:Int64),(3:Int))
 |e::k,l,a,b,c=>(QM N d e).bind λf=>bif (decide (f<0))then some ((0:Int64),(9:Int))else bif (decide ((0:Int)<=f))then(d[(f).toNat]?).bind λi=>(DB N e.eQ).bind λm=>(DB N i.dQ).bind λn=>(O6 N m n).bind λj=>(AS N j.1 j.2 (!((decide (e.eQ.toInt<0))==(decide (i.dQ.toInt<0)))) (⟨a,b,c⟩:kS)).bind λg=>(λo p q=>IF N d k (l+1) o p q) g.1 g.2.1 g.2.2 else none
def vw(N:Nat)(a:bD)(c:I aJ):U (Int64×Int):=(Dp N a).bind λd=>bif (d !=0)then some ((0:Int64),(1:Int))else(DB N a.xK).bind λe=>(AS N (0:Int) e (decide (a.xK.toInt<0)) af7).bind λb=>IF N c a.xL 0 b.1 b.2.1 b.2.2
def NY(e:bD)(a:Int)(b:Int)(c:Int)(l:I ar):I ar:= .cells (dW e).cells:: .cells [X a,X b,X c]::l
def FC{N a g}:KO 80 [dW a,O (aT g)] (λr=>.bn [bx r.1,Y r.2]) (vw N a g):=
 fw func80 (au λL n=>V [[],[(4,cK Pv n)]] (e7 λ_=>au λo p=>au λh q=>li (λ_=>(AQ bB [(7,cK Si p),(19,oR [AM,X (0:Int),X o,(az (decide (a.xK.toInt<0)))] [.cells (dW a).cells,.cells [X (0:Int),X (0:Int),X (0:Int)]] [1] (aa4 q))] [] [.cells (dW a).cells,.cells [X h.1,X h.2.1,X h.2.2]] ·)) (V [[(7,oL a.xL jH)]] (gT vz 26 a.xL λt=>gl3 1 [] [1,6,26,27,28] 2 (λj(b:Int)(c:Int)(e:Int)=>⟨68,[(1,O (aT g)),(6,AM),(26,O (hJ a.xL)),(27,Y a.xL.length),(28,Y j)],NY a b c e []⟩) (λj b c e f u=>au λM w=>V [[],[f0 (bI f)],[(1,oQ [AM] (NY a b c e []) [1] (apt _ w))],[]] (nc λx=>gR [[t0 (dt x)],[]])) (λj k P b c e f u y=>au λz A=>V [[],[t0 (bH f)],[(1,oE (lO (aY f)))],[(7,oQ [O (aT g),.fn 138 [D5]] (NY a b c e (SQ k)) [2] (ahg _ A))],[]] (bg λB=>cH λC=>au λE F=>au λQ G=>au λR H=>au λm J=>au λl K=>gb y (l.1,l.2.1,l.2.2) [[f0 B],[(7,⟨_,_,.el (xs:=aT g) (i:=z) (Vd C) (oa F)⟩)],[(7,cK Si G),(13,cK Si H),(16,cK aim J)],[(25,oR [AM,X m.1,X m.2,(az (!((decide (k.eQ.toInt<0))==(decide (E.dQ.toInt<0)))))] (NY a b c e (SQ k)) [1] (aa4 K))],[(2,oq (bV f rfl t))]] f))))))
def PW(N:Nat)(b:iu)(c:I aJ):U (Bool×Int):=(vw N b.bO c).bind λa=>bif (a.2 !=0)then some (false,a.2)else(bif (a.1.toInt==0)then some true else(bif (decide (a.1.toInt>0))then some (!b.E3)else some false)).bind λd=>some (d,(0:Int))
def akU{N b e}:KO 42 [uL b,O (aT e)] (λr=>.bn [az r.1,Y r.2]) (PW N b e):=
 fw func42 (au λi g=>V [[],[(10,cK FC g)],[]] (bg λh=>V [[f0 h]] (gG (λf=>[(4,az f),(5,Y 0)]) (λ_=>[.cells (uL b).cells]) (ax (λc=>gE [(2,bT c),(5,uN)] []) λc=>cp (2,bF c) (ax (λa=>gE [(5,bT a)] [(28,bT a)]) λa=>gE [(5,bF a)] [(28,bF a)])) λf=>gR [])))
def L2(N:Nat)(c:I aJ):I iu->Nat->U Int
 |[],_=>some (0:Int)
 |d::b,e=>(PW N d c).bind λa=>bif (a.2 !=0)then some a.2 else bif a.1 then(L2 N c b (e+1))else some (16:Int)
def NQ(N:Nat)(b:I aJ)(c:bo):I so->Nat->U Int
 |[],_=>L2 N b c.dU 0
 |e::f,g=>(Qj N b e).bind λa=>(bif (decide (a<0))then some true else bif (decide ((0:Int)<=a))then(b[(a).toNat]?).bind λd=>(bif (decide (d.dQ.toInt<1))then some true else some (decide (d.dQ.toInt>4096)))else none).bind λh=>bif h then some (15:Int)else(NQ N b c f (g+1))
def KX(N:Nat)(a:bo)(b:I aJ):U Int:=bif ((b.length:Int) !=(a.bG.length:Int))then some (15:Int)else NQ N b a a.bG 0
def apH{N a b}:KO 17 [c9 a,O (aT b)] Y (KX N a b):=
 fw func17 (V [[],[(4,oL b mV),(13,oL a.bG fB)]] (bg λp=>V [[f0 p],[(7,oL a.bG fB)]] (gT iG 19 a.bG λq=>dP 1 [] [1,2,19,20,21] 1 (λg=>⟨66,[(1,O (aT b)),(2,Ad),(19,O (cD a.bG)),(20,Y a.bG.length),(21,Y g)],L1 a⟩) (λg c r=>V [[],[f0 (bI c)],[(7,oL a.dU qe)]] (gT F7 48 a.dU λt=>dP 2 [] [1,48,49,50] 1 (λh=>⟨66,[(1,O (aT b)),(48,O (nZ a.dU)),(49,Y a.dU.length),(50,Y h)],L1 a⟩) (λh e u=>gR [[],[f0 (bI e)],[]]) (λh E v e u w=>au λx y=>V [[],[t0 (bH e)],[(1,oE (HY (aY e)))],[(7,cK akU y)],[]] (e7 λ_=>e9 λz=>gb w () [[f0 (cy z)],[(2,oq (bV e rfl t))]] e)))) (λg l F c r A=>au λf B=>V [[],[t0 (bH c)],[(1,oE (k9 (aY c)))],[(7,oQ [O (aT b),.fn 41 [AM]] (Ti a l) [1] (amE _ B))]] (gG (λm=>[(45,az m)]) (λ_=>(Ti a l)) (ax (λj=>gE [(2,bT j),(10,bT rfl)] []) λj=>cH λn=>au λG o=>cp (2,bF j) (cU (16,⟨_,_,.el (xs:=aT b) (i:=f) (Vd n) (oa o)⟩) (ax (λk=>gE [(10,bT k)] []) λk=>gE [(10,bF k)] [(40,⟨_,_,.el (xs:=aT b) (i:=f) (Vd n) (oa o)⟩)]))) λm=>bg λC=>gb A () [[f0 C],[(2,oq (bV c rfl q))]] c)))))
def Ea(N:Nat)(a:bo)(c:I aJ):U Int:=(JL N a).bind λb=>bif (b.2 !=0)then some b.2 else(KX N a c).bind λd=>some d
def atx{N a b}:KO 32 [c9 a,O (aT b)] Y (Ea N a b):=
 fw func32 (au λg c=>V [[],[(4,cK aiE c)],[]] (bg λe=>au λh f=>gR [[f0 e],[(7,cK apH f)]]))
def KB(N:Nat)(c:I aJ):I bD->Nat->(I Int)->U ((I Int)×Int)
 |[],_,b=>some (b,(0:Int))
 |d::e,f,b=>(vw N d c).bind λa=>bif (a.2 !=0)then some ([],a.2)else(bif (decide (a.1.toInt<1))then some true else some (decide (a.1.toInt>4096))).bind λg=>bif g then some ([],(15:Int))else bif (Nat.ble ((b.length+1)*8) 140737488355328)then(λh=>KB N c e (f+1) h) (b++[a.1.toInt])else none
def FX(N:Nat)(a:I bD)(b:I aJ):U ((I Int)×Int):=KB N b a 0 []
def adE{N b e}:KO 61 [O (fA b),O (aT e)] (λr=>.bn [O (bE r.1),Y r.2]) (FX N b e):=
 fw func61 (V [[],[],[(4,oL b fX)]] (li (λ_=>(mR 6 3 1 [] (.inr (by kernel_rfl)) ·)) (gT m9 0 b λj=>ft 1 [] [1,6,11,12,13] 1 (λf(a:I Int)=>⟨38,[(1,O (aT e)),(6,.own 0 (bE a)),(11,O (fA b)),(12,Y b.length),(13,Y f)],[.front 3 1 a.length]⟩) (λf a c k=>gR [[],[f0 (bI c)],[]]) (λf l t a c k m=>au λh n=>V [[],[t0 (bH c)],[(1,oE (o7 (aY c)))],[(7,cK FC n)],[]] (bg λo=>V [[f0 o]] (gG (λi=>[(31,az i)]) (λ_=>[.front 3 1 a.length,.cells (dW l).cells]) (ax (λg=>gE [(2,bT g)] []) λg=>gE [(2,bF g)] []) λi=>bg λp=>cH λq=>gb m (a++[h.1.toInt]) [[f0 p],[(10,oA lT a ([h.1.toInt]) q)],[(2,oq (bV c rfl j))]] c))))))
def GL(N:Nat)(b:Int):I Int->Nat->Int->U Int
 |[],_,a=>some a
 |c::d,e,a=>bif (decide ((aE (a*c))>b))then some (aE (b+(1:Int)))else(λf=>GL N b d (e+1) f) (aE (a*c))
def Vw(N:Nat)(a:I Int)(b:Int):U Int:=GL N b a 0 (1:Int)
def alx{N a e}:KO 63 [O (bE a),Y e] Y (Vw N a e):=
 fw func63 (V [[],[],[(4,oL a fF)]] (gT lT 0 a λg=>ft 1 [] [1,5,8,9,10] 0 (λf(c:Int)=>⟨24,[(1,Y e),(5,Y c),(8,O (bE a)),(9,Y a.length),(10,Y f)],[]⟩) (λf c b h=>gR [[],[f0 (bI b)],[]]) (λf i l c b h j=>V [[],[t0 (bH b)],[(1,oE (gV (aY b)))],[],[]] (bg λk=>gb j (aE (c*i)) [[f0 k],[(2,oq (bV b rfl g))]] b))))
def CM(N:Nat)(c:bo)(d:I aJ)(e:so):U ((I Int)×aL×Int):=(EB N c e).bind λa=>bif a.2.2 then(FX N a.2.1 d).bind λb=>bif (b.2 !=0)then some ([],a.1,b.2)else(Vw N b.1 (4096:Int)).bind λf=>bif (decide (f>4096))then some ([],a.1,(15:Int))else some (b.1,a.1,(0:Int))else some ([],a.1,(9:Int))
def Wd{N a b c}:KO 38 [c9 a,O (aT b),dj c] (λr=>.bn [O (bE r.1),bX r.2.1,Y r.2.2]) (CM N a b c):=
 fw func38 (au λk e=>V [[],[(7,cK U5 e)],[]] (e9 λf=>au λl g=>V [[f0 (cy f)],[(7,cK adE g)],[]] (bg λh=>au λm i=>V [[f0 h],[(4,cK alx i)]] (bg λj=>gR [[f0 j],[]]))))
def UL(N:Nat)(a:aR)(b:so):U Bool:=some (bL a.aC==bL b)
def ame{N b a}:KP 85 [agc b,Ad] (Q1 a) az (λ_=>(Q1 a)) (UL N b a):=
 fh 1 func85 (gH [[],[]])
def Dj(N:Nat)(a:so):I aR->Nat->U Int
 |[],_=>some (-1:Int)
 |c::d,b=>(UL N c a).bind λe=>bif e then some (b:Int)else(Dj N a d (b+1))
def Q9(N:Nat)(a:I aR)(b:so):U Int:=Dj N b a 0
def arC{N a c}:KP 84 [O (bp a),.fn 85 [Ad]] (Q1 c) Y (λ_=>(Q1 c)) (Q9 N a c):=
 fh 1 func84 (V [[],[(4,oL a vQ)]] (gT xe 0 a λg=>dP 1 [] [0,1,7,8] 1 (λe=>⟨19,[(0,O (bp a)),(1,.fn 85 [Ad]),(7,Y a.length),(8,Y e)],Q1 c⟩) (λe b h=>gH [[],[f0 (bI b)],[]]) (λe i l b h j=>au λm k=>V [[],[t0 (bH b)],[],[(10,oE (vI (aY b))),(16,oQ [agc i,Ad] (Q1 c) [0] (ame _ k))]] (ax (λf=>gH [[t0 f],[]]) λf=>gb j () [[f0 f],[(2,oq (bV b rfl g))]] b))))
def zg(N:Nat)(b:I aR)(c:so):U (bk×Bool):=(Q9 N b c).bind λa=>bif (decide (a<0))then some (iV,false)else bif (decide ((0:Int)<=a))then(b[(a).toNat]?).bind λd=>some (d.iH,true)else none
def PF{N a b}:KO 47 [O (bp a),dj b] (λr=>.bn [fY r.1,az r.2]) (zg N a b):=
 fw func47 (au λc e=>V [[],[(7,oQ [O (bp a),.fn 85 [Ad]] [.cells [dj b],.cells JA] [0] (arC _ e))],[]] (bg λf=>cH λg=>au λj h=>gR [[f0 f],[(7,⟨_,_,.el (xs:=bp a) (i:=c) (Vd g) (vI h)⟩)]]))
def xc(N:Nat):I Int->Nat->Int->U Int
 |[],_,_=>some (0:Int)
 |b::c,d,a=>bif (a !=0)then bif (decide (b>(i64.wrap (((4096:Int)).tdiv a))))then some (2:Int)else(λe=>xc N c (d+1) e) (aE (a*b))else none
def zM(N:Nat)(a:I Int):I Int->Nat->U Int
 |[],_=>xc N a 0 (1:Int)
 |v4::b,c=>bif (decide (v4<1))then some (1:Int)else(zM N a b (c+1))
def xQ(N:Nat)(a:I Int):U Int:=bif (decide ((a.length:Int)>6))then some (2:Int)else zM N a a 0
def ae4{N a}:KO 161 [O (bE a)] Y (xQ N a):=
 fw func161 (V [[],[(4,oL a fF)]] (bg λi=>V [[f0 i],[(4,oL a fF)]] (gT lT 0 a λj=>dP 1 [] [0,11,12,13] 0 (λg=>⟨34,[(0,O (bE a)),(11,O (bE a)),(12,Y a.length),(13,Y g)],[]⟩) (λg e k=>V [[],[f0 (bI e)],[],[(4,oL a fF)]] (gT lT 0 a λl=>ft 2 [] [5,20,21,22] 0 (λh(c:Int)=>⟨34,[(5,Y c),(20,O (bE a)),(21,Y a.length),(22,Y h)],[]⟩) (λh c f m=>gR [[],[f0 (bI f)],[]]) (λh n u c f m o=>cH λp=>V [[],[t0 (bH f)],[(1,oE (gV (aY f)))],[(7,⟨_,_,.nz (b:=c) (Vr.1 p)⟩)]] (bg λq=>gb o (aE (c*n)) [[f0 q],[],[(2,oq (bV f rfl l))]] f)))) (λg v w e k r=>V [[],[t0 (bH e)],[(1,oE (gV (aY e)))],[]] (bg λt=>gb r () [[f0 t],[(2,oq (bV e rfl j))]] e)))))
def A9(N:Nat):I Int->Nat->Int->U Int
 |[],_,a=>some a
 |b::c,d,a=>(λe=>A9 N c (d+1) e) (aE (a*b))
def O4(N:Nat)(a:I Int):U Int:=(xQ N a).bind λb=>bif (b !=0)then some (0:Int)else A9 N a 0 (1:Int)
def agN{N a}:KO 162 [O (bE a)] Y (O4 N a):=
 fw func162 (au λl f=>V [[],[(4,cK ae4 f)]] (bg λg=>V [[f0 g],[],[(4,oL a fF)]] (gT lT 0 a λh=>ft 1 [] [3,9,10,11] 0 (λe(c:Int)=>⟨20,[(3,Y c),(9,O (bE a)),(10,Y a.length),(11,Y e)],[]⟩) (λe c b i=>gR [[],[f0 (bI b)],[]]) (λe j m c b i k=>gb k (aE (c*j)) [[],[t0 (bH b)],[(1,oE (gV (aY b)))],[],[(2,oq (bV b rfl h))]] b))))
def Lc(N:Nat)(a:bk):I aA->Nat->U Int
 |[],_=>some (0:Int)
 |b::c,d=>(nT N a.aH b).bind λe=>bif e then(Lc N a c (d+1))else some (1:Int)
def Ef(N:Nat)(a:bk):U Int:=(nE N a.aH).bind λb=>bif (b !=0)then some b else(xQ N a.aQ).bind λc=>bif (c !=0)then some c else(O4 N a.aQ).bind λd=>bif ((a.eF.length:Int) !=d)then some (1:Int)else Lc N a a.eF 0
abbrev SR:=λa=>([.cells (fY a).cells]:List ar)
def afP{N a}:KO 97 [fY a] Y (Ef N a):=
 fw func97 (au λp e=>V [[],[(7,cK ql e)],[]] (bg λf=>au λq g=>V [[f0 f],[(7,cK ae4 g)],[]] (bg λh=>au λr i=>V [[f0 h],[(7,oL a.eF jK),(16,cK agN i)]] (bg λj=>V [[f0 j],[(7,oL a.eF jK)]] (gT sG 27 a.eF λk=>dP 1 [] [1,27,28,29] 1 (λc=>⟨39,[(1,Ad),(27,O (eB a.eF)),(28,Y a.eF.length),(29,Y c)],SR a⟩) (λc b l=>gR [[],[f0 (bI b)],[]]) (λc t u b l m=>au λv n=>V [[],[t0 (bH b)],[(1,oE (mv (aY b)))],[(10,cK wD n)]] (e9 λo=>gb m () [[f0 (cy o)],[(2,oq (bV b rfl k))]] b)))))))
def NJ(N:Nat)(a:I Int):I Int->Nat->U Bool
 |[],_=>some true
 |c::d,b=>(a[((b:Int)).toNat]?).bind λe=>bif (c !=e)then some false else(NJ N a d (b+1))
def M0(N:Nat)(a:I Int)(b:I Int):U Bool:=bif ((a.length:Int) !=(b.length:Int))then some false else NJ N b a 0
def aio{N a c}:KO 196 [O (bE a),O (bE c)] az (M0 N a c):=
 fw func196 (V [[],[(4,oL a fF),(10,oL c fF)]] (bg λf=>V [[f0 f],[(4,oL a fF)]] (gT lT 0 a λg=>dP 1 [] [0,1,12,13] 0 (λe=>⟨26,[(0,O (bE a)),(1,O (bE c)),(12,Y a.length),(13,Y e)],[]⟩) (λe b h=>gR [[],[f0 (bI b)],[]]) (λe l m b h i=>au λn j=>V [[],[t0 (bH b)],[],[(7,oE (gV (aY b))),(19,oE (gV j))]] (bg λk=>gb i () [[f0 k],[(2,oq (bV b rfl g))]] b)))))
def Jb(N:Nat)(c:I aR)(d:so)(b:aL)(e:I Int):U Int:=(zg N c d).bind λa=>bif a.2 then(Ef N a.1).bind λf=>bif (f !=0)then some (1:Int)else bif ((a.1.aH.bA==b.bA)&&((a.1.aH.bU==b.bU)&&((a.1.aH.ck==b.ck)&&((a.1.aH.cr==b.cr)&&((a.1.aH.cC==b.cC)&&true)))))then(M0 N a.1.aQ e).bind λg=>bif g then some (0:Int)else some (15:Int)else some (10:Int)else some (9:Int)
def atw{N a b c e}:KO 112 [O (bp a),dj b,bX c,O (bE e)] Y (Jb N a b c e):=
 fw func112 (au λl f=>V [[],[(7,cK PF f)],[]] (e9 λg=>au λm h=>V [[f0 (cy g)],[(4,cK afP h)]] (e7 λ_=>e9 λi=>au λn j=>V [[f0 (cy i)],[(10,cK aio j)]] (nc λk=>gR [[t0 (dt k)],[]]))))
def aan(N:Nat)(a:I Int):U (I Int):=bif Nat.ble (a.length*8) 140737488355328 then some a else none
def ai6{N a r}(J:aan N a=some r):gZ prog 64 [O (bE a)] (·=(O (bE r))):=by
 obtain⟨c,rfl⟩:=fe J;have b:=mj c (by decide);exact aiv HQ (by rw[fF];exact b.1) (by rw[fF];exact b.2)
def abV(N:Nat)(a:I aA):U (I aA):=bif Nat.ble (a.length*16) 140737488355328 then some a else none
def akb{N a r}(J:abV N a=some r):gZ prog 86 [O (eB a)] (·=(O (eB r))):=by
 obtain⟨c,rfl⟩:=fe J;have b:=mj c (by decide);exact aky Uv (by rw[jK];exact b.1) (by rw[jK];exact b.2)
def Qa(N:Nat)(a:bk):U bk:=(aan N a.aQ).bind λb=>(abV N a.eF).bind λc=>some (⟨a.aH,b,c⟩:bk)
def afC{N a}:KO 48 [fY a] fY (Qa N a):=
 fw func48 (V [[]] (au λb c=>au λe f=>li (λ_=>(MP 1 bB [] [.cells (fY a).cells,.cells [Y a.aH.bA,Y a.aH.bU,Y a.aH.ck,Y a.aH.cr,Y a.aH.cC,O (bE b),O (eB e)]] ⟨[(13,cL (ai6 c)),(22,cL (akb f))],by kernel_rfl⟩ ·)) (gR [])))
def Nf(N:Nat)(f:I aR)(d:fm)(e:I aR)(g:(I aR)->U ((I aR)×Int))(a:Int):U ((I aR)×Int):=bif (a !=0)then some ([],a)else(zg N f d.aC).bind λb=>(Qa N b.1).bind λc=>bif (Nat.ble ((e.length+1)*104) 140737488355328)then g (e++[(⟨d.aC,c⟩:aR)])else none
def zS(N:Nat)(d:bo)(e:I aJ)(a:I aR):I fm->Nat->(I aR)->U ((I aR)×Int)
 |[],_,b=>some (b,(0:Int))
 |v6::g,h,b=>(CM N d e v6.aC).bind λc=>bif (c.2.2==0)then(Jb N a v6.aC c.2.1 c.1).bind λi=>Nf N a v6 b (λf=>zS N d e a g (h+1) f) i else Nf N a v6 b (λf=>zS N d e a g (h+1) f) c.2.2
def Uh(N:Nat)(a:bo)(b:I aJ)(c:I aR):U ((I aR)×Int):=zS N a b c a.bu 0 []
def wO(a:bo)(b:I aR)(c:fm)(d:(I Int)×aL×Int)(l:I ar):I ar:= .cells (c9 a).cells:: .front 56 8 b.length:: .cells (pz c).cells:: .cells (bX d.2.1).cells::l
def Bl(a:bo)(b:I aR)(l:I ar):I ar:= .cells (c9 a).cells:: .front 56 8 b.length::l
def EJ(a:bo)(l:I ar):I ar:= .cells (c9 a).cells::l
def ahR{N a m k r}(J:Uh N a m k=some r):KH 82 [c9 a,O (aT m),O (bp k)] [] (.bn [.own 0 (bp r.1),Y r.2]) ([.front 56 8 r.1.length]):=by
 rw[Uh]at J;refine EP 1 func82 rfl (by kernel_rfl) (Zh rfl) ?_;refine mI (s':=⟨60,[(0,c9 a),(1,O (aT m)),(2,O (bp k))],[]⟩) (by kernel_rfl) ?_;refine aw (CU [] [(3,Ad)] (EJ a []) ?_);refine aw (CU [] [(8,.d (.v (.slice none 0 0)))] (EJ a []) ?_);refine aw (aw ?_);refine CU [(7,oL a.bu mP)] [(17,O (lL a.bu)),(18,Y a.bu.length),(19,Y 0)] (EJ a []) ?_;refine dI ?_;refine Pt 8 56 8 [] (.inr ⟨rfl,rfl⟩) ?_;refine x9 17 (lL a.bu) (by kernel_rfl) λz=> ?_;have A:=td mP z;refine SP [1,2,3,8,17,18,19] 2 (λ((h,n,b):Nat×(I fm)×(I aR))=>⟨60,[(1,O (aT m)),(2,O (bp k)),(3,Ad),(8,.own 1 (bp b)),(17,O (lL a.bu)),(18,Y a.bu.length),(19,Y h)],Bl a b []⟩) (λ((h,n,b):Nat×(I fm)×(I aR))=>a.bu.drop h=n/\zS N a m k n h b=some r) (λ((h,n,b):Nat×(I fm)×(I aR))=>n.length) (0,a.bu,[]) (Zh rfl) (by kernel_rfl) ⟨rfl,J⟩ ?_;rintro⟨h,n,b⟩ ⟨o,J⟩;cases n with
 |nil=>
  rw[zS]at J;refine aw (CU [] [(20,(az (decide ((h:Int)<(a.bu.length:Int)))))] (Bl a b []) ?_);refine aw (BT (t:=(decide ((h:Int)<(a.bu.length:Int)))) (bI o) ?_);refine lW (iD (iD (mU rfl ?_)));refine aV ?_;refine aw (CU [] [(6,.own 1 (bp b)),(7,Y 0)] (Bl a b []) ?_);refine gu [6,7] 2 (Zh rfl) (s':=⟨60,[(6,.own 1 (bp b)),(7,Y 0)],Bl a b []⟩) (by kernel_rfl) ?_;refine abS (abN (i:=1) (j:=0) (Zh rfl) (Zh rfl) (Zh rfl) (Zh rfl)) ?_;refine mI (s':=⟨60,[(6,.own 0 (bp b)),(7,Y 0)],[.front 56 8 b.length,.cells (c9 a).cells]⟩) (by kernel_rfl) ?_;refine gu [6,7] 1 (Zh rfl) (s':=⟨60,[(6,.own 0 (bp b)),(7,Y 0)],[.front 56 8 b.length]⟩) (by kernel_rfl) ?_;refine dk ?_;have u:=Zs J;subst u;exact xC (fE trivial jQ) (by kernel_rfl)
 |cons f x=>
  rw[zS]at J;refine aw (CU [] [(20,(az (decide ((h:Int)<(a.bu.length:Int)))))] (Bl a b []) ?_);refine aw (C4 (t:=(decide ((h:Int)<(a.bu.length:Int)))) (bH o) ?_);refine cO ?_;refine aV ?_;refine aw (dI ?_);refine aw (CU [(1,oE (pc (aY o)))] [(10,D5)] (Bl a b [.cells (pz f).cells]) ?_);refine aw ?_;obtain⟨g,B,J⟩:=bz J;refine CU [(13,cK Wd B)] [(12,AU),(11,O (bE g.1)),(13,Y g.2.2)] (wO a b f g []) ?_;refine aw (aw ?_);refine CU [] [(33,(az (g.2.2==0)))] (wO a b f g []) ?_;refine rE [1,2,3,8,10,13,17,18,19] 4 (λ(e:Int)=>⟨60,[(1,O (aT m)),(2,O (bp k)),(3,Ad),(8,.own 1 (bp b)),(10,D5),(13,Y e),(17,O (lL a.bu)),(18,Y a.bu.length),(19,Y h)],wO a b f g []⟩) (λ(e:Int)=>Nf N k f b (λC=>zS N a m k x (h+1) C) e=some r) (Zh rfl) ?_ ?_
  ·rcases eo (g.2.2==0)with p|p
   ·replace J:=(dh p).symm.trans J;refine C4 (t:=(g.2.2==0)) p ?_;obtain⟨w,E,J⟩:=bz J;refine CH [(16,cK atw E)] [(13,Y w),(39,Y w),(38,O (bE g.1)),(37,bX g.2.1),(36,dj f.aC),(35,D5),(34,O (bp k))] (wO a b f g []) ?_;refine aV ?_;exact⟨w,by kernel_rfl,J⟩
   replace J:=(ee p).symm.trans J;refine BT (t:=(g.2.2==0)) p ?_;refine cO ?_;refine aV ?_;exact⟨g.2.2,by kernel_rfl,J⟩
  rintro e J
  try dsimp only at J
  rw[Nf]at J;refine aw (aw ?_);refine CU [] [(41,(az (e !=0)))] (wO a b f g []) ?_;rcases eo (e !=0)with q|q
  ·replace J:=(dh q).symm.trans J;refine C4 (t:=(e !=0)) q ?_;refine aw (CU [] [(6,.d (.v (.slice none 0 0))),(7,Y e)] (wO a b f g []) ?_);refine Pt 6 56 8 [] (.inr ⟨rfl,rfl⟩) ?_;refine gu [6,7] 5 (Zh rfl) (s':=⟨60,[(6,.own 4 (bp [])),(7,Y e)],wO a b f g [.front 56 8 0]⟩) (by kernel_rfl) ?_;refine abS (abN (i:=4) (j:=0) (Zh rfl) (Zh rfl) (Zh rfl) (Zh rfl)) ?_;refine mI (s':=⟨60,[(6,.own 0 (bp [])),(7,Y e)],[.front 56 8 0,.front 56 8 b.length,.cells (pz f).cells,.cells (bX g.2.1).cells,.cells (c9 a).cells]⟩) (by kernel_rfl) ?_;refine gu [6,7] 1 (Zh rfl) (s':=⟨60,[(6,.own 0 (bp [])),(7,Y e)],[.front 56 8 0]⟩) (by kernel_rfl) ?_;refine dk (dn (eW (dn (dn (eW (dn ?_))))));have u:=Zs J;subst u;exact xC (fE trivial jQ) (by kernel_rfl)
  replace J:=(ee q).symm.trans J;refine BT (t:=(e !=0)) q ?_;refine cO ?_;refine aV ?_;refine aw ?_;obtain⟨l,F,J⟩:=bz J;refine CU [(10,cK PF F)] [(14,B4)] (wO a b f g (SR l.1)) ?_;obtain⟨c,G,J⟩:=bz J;have y:=jZ J;replace J:=(dh y).symm.trans J;refine XX bB (by kernel_rfl) [(13,cK afC G),(22,oA xe b ([(⟨f.aC,c⟩:aR)]) y)] [(8,.own 1 (bp (b++[(⟨f.aC,c⟩:aR)]))),(57,.own 1 (bp (b++[(⟨f.aC,c⟩:aR)]))),(56,.full (bp [(⟨f.aC,c⟩:aR)])),(55,.agg [dj f.aC,Y c.aH.bA,Y c.aH.bU,Y c.aH.ck,Y c.aH.cr,Y c.aH.cC,O (bE c.aQ),O (eB c.eF)]),(54,fY c),(53,fY l.1),(52,dj f.aC),(51,D5),(50,.own 1 (bp b))] (EJ a [.front 56 8 (b++[(⟨f.aC,c⟩:aR)]).length,.cells (pz f).cells,.cells (bX g.2.1).cells,.cells (fY l.1).cells]) (by kernel_rfl) ?_;refine eV ?_;refine aV ?_;refine CH [(2,oq (bV o rfl A))] [(19,Y ((h+1:Nat):Int)),(58,Y ((h+1:Nat):Int))] (EJ a [.front 56 8 (b++[(⟨f.aC,c⟩:aR)]).length,.cells (pz f).cells,.cells (bX g.2.1).cells,.cells (fY l.1).cells]) ?_
  refine aV ?_;exact⟨(h+1,x,b++[(⟨f.aC,c⟩:aR)]),by kernel_rfl,⟨kI o,J⟩,Yu _⟩
def EN(N:Nat):I dF->Nat->(I bD)->U (I bD)
 |[],_,a=>some a
 |v4::b,c,a=>bif (Nat.ble ((a.length+1)*32) 140737488355328)then(λd=>EN N b (c+1) d) (a++[v4.eH])else none
def V9(N:Nat)(a:I dF):U (I bD):=EN N a 0 []
def aow{N a}:KO 62 [O (dAxiss a)] (λr=>.d (.sl (fA r))) (V9 N a):=
 fw func62 (V [[],[],[(4,oL a gw)]] (li (λ_=>(mR 3 48 2 [] (.inr (by kernel_rfl)) ·)) (gT nO 0 a λg=>ft 1 [] [3,6,7,8] 1 (λe(b:I bD)=>⟨19,[(3,.own 0 (fA b)),(6,O (dAxiss a)),(7,Y a.length),(8,Y e)],[.front 48 2 b.length]⟩) (λe b c h=>gR [[],[f0 (bI c)],[]]) (λe f k b c h i=>cH λj=>gb i (b++[f.eH]) [[],[t0 (bH c)],[(1,oE (m7 (aY c)))],[(13,oA m9 b ([f.eH]) j)],[(2,oq (bV c rfl g))]] c))))
def UF(N:Nat)(a:I Int):U (I Int):=bif Nat.ble (a.length*8) 140737488355328 then some a else none
def aex{N a r}(J:UF N a=some r):dq prog 64 [O (bE a)] [] λc h1=>c=(.vec 0 0 r.length r.length 1)/\h1=[.vec 3 1 (cg (r.map fj))]:=by
 obtain⟨e,rfl⟩:=fe J;have b:=mj e (by decide);have h1:=akr (xs:=bE a) HQ (by rw[fF];exact b.1) (by rw[fF];exact b.2);have f:cg (a.map fj)=cg (bE a):=by rw[py]
 have g:=fF (l:=a);rw[g]at h1;rw[f];exact h1
def wL(N:Nat)(d:Nat)(e:I Int)(b:Int):Nat->Int->Int->U Int
 |0,_,_=>none
 |v4+1,c,a=>bif (decide (a<(d:Int)))then bif (decide ((0:Int)<=a))then(e[(a).toNat]?).bind λf=>bif (decide ((aE (c*f))>b))then some (aE (b+(1:Int)))else(λg h=>wL N d e b v4 g h) (aE (c*f)) (aE (a+(1:Int)))else none else some c
def IV(N:Nat)(a:Nat)(c:Int)(b:I Int):U Int:=bif (Nat.beq b.length a)then wL N a b c N (1:Int) (0:Int)else none
def qD(a:I Int)(l:I ar):I ar:= .vec 3 1 (cg (a.map fj))::l
def atv{N b g a r}(J:IV N b g a=some r):KH 63 [.vec 0 0 b b 1,Y g] ([.vec 3 1 (cg (a.map fj))]) (Y r) ([.vec 3 1 (cg (a.map fj))]):=by
 rw[IV]at J;refine EP 1 func63 rfl (by kernel_rfl) (Zh rfl) ?_;refine mI (s':=⟨24,[(0,.vec 0 0 b b 1),(1,Y g)],qD a []⟩) (by kernel_rfl) ?_;refine aw (CU [] [] (qD a []) ?_);refine aw (CU [] [(5,Y 1)] (qD a []) ?_);refine aw (aw ?_);have l:=jZ J;replace J:=(dh l).symm.trans J;refine CU [(4,⟨_,_,.pr .no (x7 (f:=fj) (Yi l))⟩)] [(8,.vec 0 0 b b 1),(9,Y b),(10,Y 0)] (qD a []) ?_;refine dI ?_;refine KL [1,5,8,9,10] 1 [] [] (λ((h,e,c):Nat×Int×Int)=>⟨24,[(1,Y g),(5,Y e),(8,.vec 0 0 b b 1),(9,Y b),(10,Y c)],qD a []⟩) (λ((h,e,c):Nat×Int×Int)=>wL N b a g h e c=some r) (λ((h,e,c):Nat×Int×Int)=>h) (N,(1:Int),(0:Int)) (Zh rfl) ⟨(l6 (xs:=(a.map fj)) jQ),by kernel_rfl⟩ J ?_;rintro⟨h,e,c⟩ J
 try dsimp only at J
 cases h with
 |zero=>
  rw[wL]at J;cases J
 |succ h=>
  rw[wL]at J;refine aw (CU [] [(11,(az (decide (c<(b:Int)))))] (qD a []) ?_);refine aw ?_;rcases eo (decide (c<(b:Int)))with j|j
  ·replace J:=(dh j).symm.trans J;refine C4 (t:=(decide (c<(b:Int)))) j ?_;refine cO ?_;refine aV ?_;refine aw (dI ?_);refine aw ?_;have n:=jZ J;replace J:=(dh n).symm.trans J;obtain⟨i,o,J⟩:=bz J;refine CU [(1,⟨_,_,.pr (.ix ((c).toNat)) (Ux (x7 (f:=fj) (Yi l)) (Vd n) (Vd j) rfl)⟩),(4,⟨_,_,.pr (.el ((fj i).map AV.d)) (aqU (f:=fj) (Yi l) o)⟩)] [(7,Y i)] (qD a []) ?_;refine aw (CU [] [(5,Y (aE (e*i)))] (qD a []) ?_);refine aw (CU [] [(19,(az (decide ((aE (e*i))>g))))] (qD a []) ?_);rcases eo (decide ((aE (e*i))>g))with k|k
   ·replace J:=(dh k).symm.trans J;refine C4 (t:=(decide ((aE (e*i))>g))) k ?_;refine aw (CU [] [(4,Y (aE (g+(1:Int))))] (qD a []) ?_);refine dk (eW (dn (dn (eW (dn ?_)))));have m:=Zs J;subst m;exact xC (l6 (xs:=(a.map fj)) jQ) (by kernel_rfl)
   replace J:=(ee k).symm.trans J;refine BT (t:=(decide ((aE (e*i))>g))) k ?_;refine cO ?_;refine eV ?_;refine aV ?_;refine CH [] [(10,Y (aE (c+(1:Int)))),(22,Y (aE (c+(1:Int))))] (qD a []) ?_;refine aV ?_;exact⟨(h,aE (e*i),aE (c+(1:Int))),⟨(l6 (xs:=(a.map fj)) jQ),by kernel_rfl⟩,J,Yu _⟩
  replace J:=(ee j).symm.trans J;refine BT (t:=(decide (c<(b:Int)))) j ?_;refine lW (iD (iD (mU rfl ?_)));refine aV ?_;refine aw (CU [] [(4,Y e)] (qD a []) ?_);refine dk ?_;have m:=Zs J;subst m;exact xC (l6 (xs:=(a.map fj)) jQ) (by kernel_rfl)
def cd:aA:=⟨(0:Int64),(0:Int64)⟩
def Cw:fQ:=⟨cd,dX⟩
def eu:I AV:=[bx 0,bx 0,Y 0,Y 0,Y 0,Y 0,Y 0]
def gj:I AV:=[bx 0,bx 0]
def Tt(N:Nat)(a:I so)(b:Nat):U (I so):=bif Nat.beq a.length b&&Nat.blt b 4611686018427387904 then some (jJ a)else none
def ah5{N c a r}(J:Tt N c a=some r):dq prog 195 [.vec 0 0 a a 1] [.vec 9 1 (cg (c.map iY))] λe h1=>e=(O (cD r))/\h1=[.gone]:=by
 obtain⟨b,rfl⟩:=fe J;rw[Zo]at b;exact ah3 (Yi b.1) (Zh b.2)
def uC(N:Nat)(e:Nat->(I so)->U (I so)):I c7->Nat->Nat->(I so)->U (I so)
 |[],_,a,b=>e a b
 |c::h,d,a,b=>bif (bL c.dc==bL (bs []))then(λf g=>uC N e h (d+1) f g) a b else bif (Nat.beq b.length a)then bif (Nat.ble ((a+1)*16) 140737488355328)then(λf g=>uC N e h (d+1) f g) (a+1) (b++[c.dc])else none else none
def DY(N:Nat)(a:Nat->(I so)->U (I so))(b:ay)(c:Nat)(d:I so):U (I so):=uC N a b.xIdx 0 c d
def pf(N:Nat):I ay->Nat->(I so)->U (I so)
 |[],a,b=>(Tt N b a).bind λg=>some g
 |c::f,a,b=>bif (c.aD==3)then bif (Nat.beq b.length a)then bif (Nat.ble ((a+1)*16) 140737488355328)then DY N (λd e=>pf N f d e) c (a+1) (b++[c.aC])else none else none else DY N (λd e=>pf N f d e) c a b
def Gi(N:Nat)(a:ay):U (I so):=(BN N a).bind λb=>pf N (dR b) 0 []
def qb(b:ay)(a:Nat)(c:I so)(d:Code)(e:Code)(f:ay)(g:ay)(l:I ar):I ar:= .cells (aK b).cells:: .cells [.vec 2 0 a a 1]:: .vec 9 1 (cg (c.map iY)):: .lp .busy 9 d e (dT 36 [(3,AM),(8,.fn 149 [.bK [fu f] 0 0])]):: .cells (aK g).cells::l
def Dl(b:ay)(a:Nat)(c:I so)(l:I ar):I ar:= .cells (aK b).cells:: .cells [.vec 2 0 a a 1]:: .vec 9 1 (cg (c.map iY))::l
def aaW(c:ay)(b:Nat)(d:I so)(a:c7)(e:Code)(f:Code)(g:ay)(h:ay)(l:I ar):I ar:= .cells (aK c).cells:: .cells [.vec 2 0 (b+1) (b+1) 1]:: .vec 9 1 (cg ((d++[a.dc]).map iY)):: .lp .busy 9 e f (dT 36 [(3,AM),(8,.fn 149 [.bK [fu g] 0 0])]):: .cells (aK h).cells:: .cells (ig a).cells::l
def yc(a:ay)(l:I ar):I ar:= .cells (aK a).cells::l
def aqr{N g r}(J:Gi N g=some r):KF 111 [aK g] (O (cD r)):=by
 rw[Gi]at J;refine mJ func111 rfl (by kernel_rfl) ?_;refine gu [0] 0 (Zr _) (s':=⟨36,[(0,aK g)],[]⟩) (by kernel_rfl) ?_;refine aw (CU [] [(1,Ad)] (yc g []) ?_);refine aw (CU [] [(3,AM)] (yc g [.cells [.d (.v (.slice none 0 0))]]) ?_);refine aw (aw ?_);obtain⟨o,S,J⟩:=bz J;refine CU [(4,cL (VK S))] [(8,.fn 149 [.bK [fu o] 0 0])] (yc g [.cells [.d (.v (.slice none 0 0))]]) ?_;refine dI ?_;refine ajt 1 0 9 1 rfl rfl ?_;refine KK [3,8] 3 [] [] (Zh rfl) (s':=⟨36,[(3,AM),(8,.fn 149 [.bK [fu o] 0 0])],yc g [.cells [.vec 2 0 0 0 1],.vec 9 1 (cg (([]:I so).map iY))]⟩) ⟨(fE trivial (fE trivial (l6 (xs:=(([]:I so).map iY)) jQ))),by kernel_rfl⟩ ?_;refine yq (m:=3) (enc:=aK) (xs:=(dR o)) (by kernel_rfl) (VV o) (λ((i,j):Nat×(I so))=>(Dl g i j [])) (λ((i,j):Nat×(I so)) l=>pf N l i j=some r) (0,[]) (by kernel_rfl) J (by rintro⟨i,j⟩;rfl) (by rintro⟨i,j⟩;exact(Bu (by kernel_rfl) (Bu (by kernel_rfl) (Bu W9 WA)))) (by kernel_rfl) rfl ?_ ?_
 ·rintro⟨i,j⟩ a L J h2 q u
  try dsimp only at J
  rw[pf]at J;refine KK [3,9] 4 [] [] (Zr _) (s':=⟨36,[(3,AM),(9,aK a)],Dl g i j [.lp .ready 9 q u (dT 36 [(3,AM),(8,.fn 149 [.bK [fu o] 0 0])])]⟩) ⟨(fE trivial (fE trivial (l6 (xs:=(j.map iY)) (fE trivial jQ)))),by kernel_rfl⟩ ?_;refine CH [] [(4,B4)] (Dl g i j [.lp .ready 9 q u (dT 36 [(3,AM),(8,.fn 149 [.bK [fu o] 0 0])]),.cells (aK a).cells]) ?_;refine aV ?_;refine⟨Dl g i j [],yc a [],rfl,(by kernel_rfl),?_⟩;refine KK [3,4] 5 [] [] (Zh rfl) (s':=⟨36,[(3,AM),(4,B4)],qb g i j q u o a []⟩) ⟨(fE trivial (fE trivial (l6 (xs:=(j.map iY)) (fE trivial (fE trivial jQ))))),by kernel_rfl⟩ ?_;refine dI ?_;refine aw (aw ?_);refine CU [] [(12,(az (a.aD==3)))] (qb g i j q u o a []) ?_;refine WZ [3,4] 5 [] [] (λ((A,x):Nat×(I so))=>⟨36,[(3,AM),(4,B4)],qb g A x q u o a []⟩) (λ((A,x):Nat×(I so))=>DY N (λE F=>pf N L E F) a A x=some r) (Zh rfl) ?_ ?_
  ·rcases eo (a.aD==3)with B|B
   ·replace J:=(dh B).symm.trans J;refine C4 (t:=(a.aD==3)) B ?_;have M:=jZ J;replace J:=(dh M).symm.trans J;have G:=jZ J;replace J:=(dh G).symm.trans J;refine CH [(13,⟨_,_,.pr (.ap (cg ((j++[a.aC]).map iY)) (cg (([a.aC]).map iY)) (i+1) (i+1)) (Fk (f:=iY) (h:=(qb g i j q u o a [])) (y:=(.full (cD [a.aC]))) (k:=1) (Yi M) rfl (λc H=>s9 c (by rw[mS];exact H)) rfl rfl (mj G (by decide)).1 (mj G (by decide)).2)⟩)] [(17,.vec 2 0 (i+1) (i+1) 1),(16,.full (cD [a.aC])),(15,dj a.aC),(14,.ptr 4 1),(13,.vec 2 0 i i 1)] (yc g [.cells [.vec 2 0 (i+1) (i+1) 1],.vec 9 1 (cg ((j++[a.aC]).map iY)),.lp .busy 9 q u (dT 36 [(3,AM),(8,.fn 149 [.bK [fu o] 0 0])]),.cells (aK a).cells]) ?_;refine aV ?_;exact⟨(i+1,j++[a.aC]),⟨(fE trivial (fE trivial (l6 (xs:=((j++[a.aC]).map iY)) (fE trivial (fE trivial jQ))))),by kernel_rfl⟩,J⟩
   replace J:=(ee B).symm.trans J;refine BT (t:=(a.aD==3)) B ?_;refine cO ?_;refine aV ?_;exact⟨(i,j),⟨(fE trivial (fE trivial (l6 (xs:=(j.map iY)) (fE trivial (fE trivial jQ))))),by kernel_rfl⟩,J⟩
  rintro⟨A,x⟩ J
  try dsimp only at J
  rw[DY]at J;refine aw (CU [(7,oL a.xIdx gq)] [(19,O (fc a.xIdx)),(20,Y a.xIdx.length),(21,Y 0)] (qb g A x q u o a []) ?_);refine dI ?_;refine x9 19 (fc a.xIdx) (by kernel_rfl) λT=> ?_;have P:=td gq T;refine KL [3,19,20,21] 5 [] [] (λ((e,w,n,p):Nat×(I c7)×Nat×(I so))=>⟨36,[(3,AM),(19,O (fc a.xIdx)),(20,Y a.xIdx.length),(21,Y e)],qb g n p q u o a []⟩) (λ((e,w,n,p):Nat×(I c7)×Nat×(I so))=>a.xIdx.drop e=w/\uC N (λE F=>pf N L E F) w e n p=some r) (λ((e,w,n,p):Nat×(I c7)×Nat×(I so))=>w.length) (0,a.xIdx,A,x) (Zh rfl) ⟨(fE trivial (fE trivial (l6 (xs:=(x.map iY)) (fE trivial (fE trivial jQ))))),by kernel_rfl⟩ ⟨rfl,J⟩ ?_;rintro⟨e,w,n,p⟩ ⟨z,J⟩;cases w with
  |nil=>
   rw[uC]at J;refine aw (CU [] [(22,(az (decide ((e:Int)<(a.xIdx.length:Int)))))] (qb g n p q u o a []) ?_);refine aw (BT (t:=(decide ((e:Int)<(a.xIdx.length:Int)))) (bI z) ?_);refine lW (iD (iD (mU rfl ?_)));refine eV ?_;refine asE (Dl g n p []) rfl (Bu (by kernel_rfl) (Bu (by kernel_rfl) (Bu W9 WA))) ⟨(fE trivial (fE trivial (l6 (xs:=(p.map iY)) (fE trivial jQ)))),by kernel_rfl⟩ ?_;exact⟨(n,p),(by kernel_rfl),J⟩
  |cons b Q=>
   rw[uC]at J;refine aw (CU [] [(22,(az (decide ((e:Int)<(a.xIdx.length:Int)))))] (qb g n p q u o a []) ?_);refine aw (C4 (t:=(decide ((e:Int)<(a.xIdx.length:Int)))) (bH z) ?_);refine cO ?_;refine aV ?_;refine aw (dI ?_);refine aw (CU [(1,oE (jh (aY z)))] [(6,Dv)] (qb g n p q u o a (T4 b)) ?_);refine aw (CU [] [(27,(az (!(bL b.dc==bL (bs [])))))] (qb g n p q u o a (T4 b)) ?_);rcases eo (bL b.dc==bL (bs []))with C|C
   ·replace J:=(dh C).symm.trans J;refine BT (t:=(!(bL b.dc==bL (bs [])))) (cy C) ?_;refine cO ?_;refine eV ?_;refine aV ?_;refine CH [(2,oq (bV z rfl P))] [(21,Y ((e+1:Nat):Int)),(33,Y ((e+1:Nat):Int))] (qb g n p q u o a (T4 b)) ?_;refine aV ?_;exact⟨(e+1,Q,n,p),⟨(fE trivial (fE trivial (l6 (xs:=(p.map iY)) (fE trivial (fE trivial jQ))))),by kernel_rfl⟩,⟨kI z,J⟩,Yu _⟩
   replace J:=(ee C).symm.trans J;refine C4 (t:=(!(bL b.dc==bL (bs [])))) (dt C) ?_;have R:=jZ J;replace J:=(dh R).symm.trans J;have K:=jZ J;replace J:=(dh K).symm.trans J;refine CH [(13,⟨_,_,.pr (.ap (cg ((p++[b.dc]).map iY)) (cg (([b.dc]).map iY)) (n+1) (n+1)) (Fk (f:=iY) (h:=(qb g n p q u o a (T4 b))) (y:=(.full (cD [b.dc]))) (k:=1) (Yi R) rfl (λc H=>s9 c (by rw[mS];exact H)) rfl rfl (mj K (by decide)).1 (mj K (by decide)).2)⟩)] [(32,.vec 2 0 (n+1) (n+1) 1),(31,.full (cD [b.dc])),(30,dj b.dc),(29,.ptr 5 2),(28,.vec 2 0 n n 1)] (aaW g n p b q u o a []) ?_;refine eV ?_;refine aV ?_;refine CH [(2,oq (bV z rfl P))] [(21,Y ((e+1:Nat):Int)),(33,Y ((e+1:Nat):Int))] (aaW g n p b q u o a []) ?_;refine aV ?_;exact⟨(e+1,Q,n+1,p++[b.dc]),⟨(fE trivial (fE trivial (l6 (xs:=((p++[b.dc]).map iY)) (fE trivial (fE trivial jQ))))),by kernel_rfl⟩,⟨kI z,J⟩,Yu _⟩
 rintro⟨i,j⟩ J
 try dsimp only at J
 rw[pf]at J;refine eV ?_;refine aV ?_;refine aw ?_;obtain⟨W,h3,J⟩:=bz J;refine CU [(4,⟨_,_,.RN (zT (xs:=(j.map iY)) dK) (asJ dK) (nA:=[.vec 2 0 i i 1]) (h:=(Dl g i j [.gone])) (l:=[2]) (by kernel_rfl) (by kernel_rfl) (by kernel_rfl) (by kernel_rfl) (ah5 h3)⟩)] [(2,O (cD W))] (yc g [.cells [.vec 2 0 i i 1],.gone,.gone]) ?_;refine dk ?_;have hr:=Zs J;subst hr;exact fJ (by kernel_rfl)
def Pf(N:Nat)(c:bo)(d:I aJ)(e:I aR):I so->Nat->U Int
 |[],_=>some (0:Int)
 |f::g,h=>(CM N c d f).bind λa=>bif (a.2.2 !=0)then some a.2.2 else(Jb N e f a.2.1 a.1).bind λb=>bif (b !=0)then some b else(Pf N c d e g (h+1))
def NZ(N:Nat)(a:bo)(b:I aJ)(c:I aR)(d:ay):U Int:=(Gi N d).bind λe=>Pf N a b c e 0
def alV{N c e f g}:KO 65 [c9 c,O (aT e),O (bp f),aK g] Y (NZ N c e f g):=
 fw func65 (au λb i=>V [[],[(4,cL (aqr i)),(7,oL b fB)]] (gT iG 16 b λj=>dP 1 [] [1,2,4,16,17,18] 2 (λh=>⟨42,[(1,O (aT e)),(2,O (bp f)),(4,Ad),(16,O (cD b)),(17,Y b.length),(18,Y h)],[.cells (c9 c).cells,.cells (aK g).cells]⟩) (λh a k=>gR [[],[f0 (bI a)],[]]) (λh t u a k l=>au λm n=>V [[],[t0 (bH a)],[(1,oE (k9 (aY a)))],[(10,cK Wd n)],[]] (bg λo=>au λp q=>V [[f0 o],[(13,cK atw q)],[]] (bg λr=>gb l () [[f0 r],[(2,oq (bV a rfl j))]] a)))))
def EO(N:Nat)(a:I aR):U ((I aR)×(I (so×bk))):=some (a,[])
def afy(a:I aR)(l:I ar):I ar:= .cells [O (bp a)]:: .map (cx cz []):: .cells [.mp 1]::l
def Ci(N:Nat)(a:I aR)(r:(I aR)×(I (so×bk)))(J:EO N a=some r):KH 54 [O (bp a)] [] (.fn 96 [D5,Ad]) ([.cells [O (bp r.1)],.map (cx cz r.2),.cells [.mp 1]]):=by
 rw[EO]at J;refine EP 3 func54 rfl (by kernel_rfl) (Zh rfl) ?_;refine mI (s':=⟨6,[(0,O (bp a))],[]⟩) (by kernel_rfl) ?_;refine aw (CU [] [(1,Ad)] [.cells [O (bp a)]] ?_);refine aw (CU [] [(3,D5)] (afy a []) ?_);refine aw (CU [] [(2,.fn 96 [D5,Ad])] (afy a []) ?_);refine dk ?_;have b:=Zs J;subst b;exact xC (fE trivial (fE trivial (fE trivial jQ))) (by kernel_rfl)
def DT(N:Nat)(a:I Int):U (I Int):=bif (Nat.ble ((0+a.length)*8) 140737488355328)then some a else none
def Uu(a:I Int)(l:I ar):I ar:= .cells [.own 1 (bE a)]:: .front 3 1 a.length::l
def acY{N a r}(J:DT N a=some r):KH 66 [O (bE a)] [] (.fn 113 [.bK [[.sl (bE r)]] 0 0]) []:=by
 rw[DT]at J;refine tv 0 func66 rfl (by kernel_rfl) (Zh rfl) ?_;refine mI (s':=⟨6,[(0,O (bE a))],[]⟩) (by kernel_rfl) ?_;refine aw (CU [] [(1,Ad)] [.cells [O (bE a)]] ?_);refine aw ?_;have b:=jZ J;replace J:=(dh b).symm.trans J;refine CU [(4,oZ lT a b)] [] (Uu a []) ?_;refine aw (CU [] [(2,.fn 113 [Ad])] (Uu a []) ?_);refine gu [2] 2 (Zh rfl) (s':=⟨6,[(2,.fn 113 [Ad])],Uu a []⟩) (by kernel_rfl) ?_;refine ahv 0 (s':=⟨6,[(2,.fn 113 [.bK [[.sl (bE a)]] 0 0])],[.gone,.front 3 1 a.length]⟩) (by kernel_rfl) ?_;refine dk ?_;have c:=Zs J;subst c;exact kt (by kernel_rfl)
def BC(N:Nat)(c:Bool):I Int->Nat->Int->U Int
 |[],_,_=>some (0:Int)
 |f::b,g,a=>(bif c then some false else bif (a !=0)then some (decide (f>(i64.wrap (((65536:Int)).tdiv a))))else none).bind λd=>bif d then some (2:Int)else bif c then(λe=>BC N c b (g+1) e) a else(λe=>BC N c b (g+1) e) (aE (a*f))
def Nv(N:Nat)(b:I Int):I Int->Nat->Bool->U Int
 |[],_,a=>BC N a b 0 (1:Int)
 |v4::c,d,a=>bif (decide (v4<0))then some (1:Int)else(bif a then some true else some (v4==0)).bind λe=>(λf=>Nv N b c (d+1) f) e
def QE(N:Nat)(a:I Int):U Int:=bif (decide ((a.length:Int)>16))then some (2:Int)else Nv N a a 0 false
def ahx{N c}:KO 258 [O (bE c)] Y (QE N c):=
 fw func258 (V [[],[(4,oL c fF)]] (bg λq=>V [[f0 q],[],[(4,oL c fF)]] (gT lT 0 c λr=>ft 1 [] [0,3,4,12,13,14] 0 (λi(h:Bool)=>⟨46,[(0,O (bE c)),(3,Y 1),(4,az h),(12,O (bE c)),(13,Y c.length),(14,Y i)],[]⟩) (λi h f t=>V [[],[f0 (bI f)],[(4,oL c fF)]] (gT lT 0 c λo=>ft 2 [] [3,4,26,27,28] 0 (λj(a:Int)=>⟨46,[(3,Y a),(4,az h),(26,O (bE c)),(27,Y c.length),(28,Y j)],[]⟩) (λj a e u=>gR [[],[f0 (bI e)],[]]) (λj v w a e u p=>V [[],[t0 (bH e)],[(1,oE (gV (aY e)))]] (gG (λg=>[(39,az g)]) (λ_=>[]) (ax (λk=>gE [(2,bF (cy k))] []) λk=>cH λx=>gE [(2,bT (dt k))] [(16,⟨_,_,.nz (b:=a) (Vr.1 x)⟩)]) λg=>e7 λ_=>ax (λl=>gb p a [[f0 (cy l)],[(2,oq (bV e rfl o))]] e) λl=>gb p (aE (a*v)) [[t0 (dt l)],[],[(2,oq (bV e rfl o))]] e)))) (λi A B h f t y=>V [[],[t0 (bH f)],[(1,oE (gV (aY f)))],[]] (bg λz=>V [[f0 z]] (gG (λm=>[(4,az m)]) (λ_=>[]) (ax (λn=>gE [(1,bT n)] []) λn=>gE [(1,bF n)] []) λm=>gb y m [[(2,oq (bV f rfl r))]] f))))))
def BP(N:Nat):I Int->Nat->Int->U Int
 |[],_,a=>some a
 |c::b,d,a=>(λe=>BP N b (d+1) e) (aE (a*c))
def Mq(N:Nat)(a:I Int):I Int->Nat->U Int
 |[],_=>BP N a 0 (1:Int)
 |b::c,d=>bif (b==0)then some (0:Int)else(Mq N a c (d+1))
def Jk(N:Nat)(a:I Int):U Int:=(QE N a).bind λb=>bif (b !=0)then some (0:Int)else Mq N a a 0
def aaP{N a}:KO 198 [O (bE a)] Y (Jk N a):=
 fw func198 (au λt h=>V [[],[(4,cK ahx h)]] (bg λi=>V [[f0 i],[],[(4,oL a fF)]] (gT lT 0 a λj=>dP 1 [] [0,3,11,12,13] 0 (λf=>⟨31,[(0,O (bE a)),(3,Y 1),(11,O (bE a)),(12,Y a.length),(13,Y f)],[]⟩) (λf c k=>V [[],[f0 (bI c)],[(4,oL a fF)]] (gT lT 0 a λl=>ft 2 [] [3,20,21,22] 0 (λg(b:Int)=>⟨31,[(3,Y b),(20,O (bE a)),(21,Y a.length),(22,Y g)],[]⟩) (λg b e m=>gR [[],[f0 (bI e)],[]]) (λg n o b e m p=>gb p (aE (b*n)) [[],[t0 (bH e)],[(1,oE (gV (aY e)))],[],[(2,oq (bV e rfl l))]] e))) (λf u v c k q=>V [[],[t0 (bH c)],[(1,oE (gV (aY c)))],[]] (bg λr=>gb q () [[f0 r],[(2,oq (bV c rfl j))]] c)))))
def C0(N:Nat)(b:I Int):Nat->Int->Int->(I Int)->U ((I Int)×Bool)
 |0,_,_,_=>none
 |f+1,e,a,c=>bif (decide (a>=0))then bif (decide ((0:Int)<=a))then(b[(a).toNat]?).bind λd=>bif (d !=0)then bif (Nat.beq c.length b.length)then bif (decide (a<(b.length:Int)))then(c[(a).toNat]?).bind λg=>(λh i j=>C0 N b f h i j) (i64.wrap ((e).tdiv d)) (aE (a-(1:Int))) (c.set ((a).toNat) ((e).tmod d))else none else none else none else none else bif (Nat.beq c.length b.length)then some (c,true)else none
def Hv(N:Nat)(a:I Int)(b:Int):U ((I Int)×Bool):=(bif (decide (b<0))then some true else (Jk N a).bind λc=>some (decide (b>=c))).bind λd=>bif d then some ([],false)else bif (Nat.ble (a.length*8) 140737488355328)then C0 N a N b (aE ((a.length:Int)-(1:Int))) (List.replicate a.length 0)else none
def akR{N a o}:KO 115 [O (bE a),Y o] (λr=>.bn [O (bE r.1),az r.2]) (Hv N a o):=
 fw func115 (V [[]] (gG (λp=>[(15,az p)]) (λ_=>[]) (ax (λk=>gE [(2,bT k)] []) λk=>au λE v=>gE [(2,bF k)] [(16,cK aaP v)]) λp=>bg λw=>cH λx=>aj1 1 [[f0 w],[(4,oL a fF),(7,⟨_,_,.pr (.mk (cg ((List.replicate a.length 0).map fj)) a.length a.length) (auf (f:=fj) (d0:=0) (dy:=8) rfl rfl (mj x (by decide)))⟩)],[(4,oL a fF)]] [0,1,6,7] 1 [] [] (λ(e:Int)(c:Int)(h:(I Int))=>⟨42,[(0,O (bE a)),(1,Y e),(6,.vec 0 0 a.length a.length 1),(7,Y c)],[.vec 3 1 (cg (h.map fj))]⟩) (C0 N a) (λF e c h G z=>V [[]] (ax (λl=>cH λm=>au λg q=>cH λt=>cH λu=>cH λA=>au λn B=>aui z (i64.wrap ((e).tdiv g),aE (c-(1:Int)),h.set ((c).toNat) ((e).tmod g)) [[t0 l],[(16,⟨_,_,.el (xs:=bE a) (i:=c) (Vd m) (gV q)⟩),(22,⟨_,_,.nz (b:=g) (Vr.1 t)⟩),(25,⟨_,_,.pr (.ix ((c).toNat)) (Ux (x7 (f:=fj) (Yi u)) (Vd m) (Vd A) rfl)⟩),(28,⟨_,_,.pr (.st ((fj n).map AV.d) (cg ((h.set ((c).toNat) ((e).tmod g)).map fj))) (XE (f:=fj) (j:=0) (y:=((e).tmod g)) (zs:=[Y ((e).tmod g)]) (Yi u) B rfl)⟩)],[(10,⟨_,_,.el (xs:=bE a) (i:=c) (Vd m) (gV q)⟩),(16,⟨_,_,.nz (b:=g) (Vr.1 t)⟩)],[]] (gC:=[.zx ((h.set ((c).toNat) ((e).tmod g)).map fj)])) λl=>cH λC=>V [[f0 l]] (li (λ_=>(arR [6] 0 (bE h) a.length 1 3 1 [.zx (h.map fj)] (WW (Yi C)) (py _) (WX (λ_=>rfl) _) ·)) (gR [[]])))) (gC:=[.zx ((List.replicate a.length 0).map fj)])))
def Dw(N:Nat)(a:I Int):Nat->Nat->U (I (I Int))
 |0,_=>some []
 |n+1,k=>(Hv N a (k:Int)).bind λr=>bif r.2 then (Dw N a n (k+1)).bind λl=>some (r.1::l)else none
def I8(N:Nat)(a:I Int):U (I (I Int)):=(Jk N a).bind λn=>bif (decide ((0:Int)<=n)&&Nat.ble n.toNat 9223372036854775807)then Dw N a n.toNat 0 else none
def atu{N:Nat}{d:I Int}:∀(n s:Nat)(r:I (I Int)),Dw N d n s=some r->r.length=n/\∀(k:Nat)(p:I Int),r[k]?=some p->Hv N d ((s+k:Nat):Int)=some (p,true)
 |0,s,r,h=>by cases h;exact⟨rfl,λk p c=>by simp at c⟩
 |n+1,s,r,h=>by
  rw[Dw]at h;obtain⟨x,f,h⟩:=bz h;obtain⟨e,h⟩:=lF h;obtain⟨l,g,h⟩:=bz h;cases h
  obtain⟨q1,i⟩:=atu n (s+1) l g;refine⟨by rw[Zi,q1],λk p c=> ?_⟩;cases k with
  |zero=>
   cases c
   obtain⟨a,b⟩:=x;simp only at e;subst e;exact f
  |succ k=>
   rw[show s+(k+1)=s+1+k by omega];exact i k p c
def att{N:Nat}{a:I Int}{r:I (I Int)}(J:I8 N a=some r):BW prog 113 [rf a] (r.map rI):=by
 obtain⟨n,c,J⟩:=bz J;obtain⟨b,d⟩:=lF J;rw[Zo]at b;obtain⟨q1,e⟩:=atu _ _ _ d;have f:((n.toNat:Nat):Int)=n:=Int.toNat_of_nonneg (Vd b.1);refine anr a r (by rw[q1];exact Zh b.2) (by rw[q1,f];exact aaP _ c) λk p g=> ?_;have:=e k p g;rw[ZJ]at this;exact akR _ this
def Jw(N:Nat)(b:I aJ)(d:I Int):I dF->Nat->(I aJ)->U (I aJ)
 |[],_,a=>bif (Nat.ble ((a.length+b.length)*24) 140737488355328)then some (a++b)else none
 |v6::f,e,a=>(d[((e:Int)).toNat]?).bind λc=>bif (aE c==c)then bif (Nat.ble ((a.length+1)*24) 140737488355328)then(λg=>Jw N b d f (e+1) g) (a++[(⟨v6.aC,Int64.ofInt c⟩:aJ)])else none else none
def NH(N:Nat)(a:I dF)(b:I Int)(c:I aJ):U (I aJ):=Jw N c b a 0 []
def adm{N b f e}:KO 68 [O (dAxiss b),O (bE f),O (aT e)] (λr=>.d (.sl (aT r))) (NH N b f e):=
 fw func68 (V [[],[],[(4,oL b gw)]] (li (λ_=>(mR 7 75 2 [] (.inr (by kernel_rfl)) ·)) (gT nO 0 b λj=>ft 1 [] [1,2,7,10,11,12] 1 (λg(a:I aJ)=>⟨31,[(1,O (bE f)),(2,O (aT e)),(7,.own 0 (aT a)),(10,O (dAxiss b)),(11,Y b.length),(12,Y g)],[.front 75 2 a.length]⟩) (λg a c k=>cH λl=>gR [[],[f0 (bI c)],[(7,oA uD a e l)]]) (λg h q a c k m=>au λi n=>cH λo=>cH λp=>gb m (a++[(⟨h.aC,Int64.ofInt i⟩:aJ)]) [[],[t0 (bH c)],[(4,oE (m7 (aY c)))],[(16,oE (gV n)),(23,oq (congrArg (λz=>AV.agg [dj h.aC,z]) (DD (Ve.1 o)))),(28,oA uD a ([(⟨h.aC,Int64.ofInt i⟩:aJ)]) p)],[(2,oq (bV c rfl j))]] c))))
def yt(N:Nat)(a:I aJ)(b:I aR)(c:I (so×bk)):U (I aJ):=some a
def ED(a:I aR)(b:I (so×bk))(c:I aJ)(l:I ar):I ar:= .cells [.mp 2]:: .cells [O (bp a)]:: .map (cx cz b):: .cells [.fn 96 [Ad,AM]]:: .cells [O (aT c)]::l
abbrev HW:=λa b=>([.cells [.mp 2],.cells [O (bp a)],.map (cx cz b)]:List ar)
abbrev TP:=([.cells [.fn 93 [AU,B4,E0],.fn 91 [E0]],.cells [Dv]]:List ar)
def kQ{N c a b r}(J:yt N c a b=some r):KH 53 [.fn 96 [Ad,AM],O (aT c)] (HW a b) Dv ([.cells [.mp 2],.cells [O (bp a)],.map (cx cz b),.cells [.fn 96 [Ad,AM]],.cells [O (aT r)],.cells [.fn 93 [AU,B4,E0],.fn 91 [E0]],.cells [Dv]]):=by
 rw[yt]at J;refine EP 7 func53 rfl (by kernel_rfl) (Zh rfl) ?_;refine mI (s':=⟨17,[(0,.fn 96 [Ad,AM]),(1,O (aT c))],HW a b⟩) (by kernel_rfl) ?_;refine aw (CU [] [(2,AU),(3,B4)] (ED a b c []) ?_);refine aw (CU [] [(5,E0)] (ED a b c [.cells [.d (.v .nilFunc),.d (.v .nilFunc)],.cells [Dv]]) ?_);refine aw (CU [] [] (ED a b c [.cells [.d (.v .nilFunc),.fn 91 [E0]],.cells [Dv]]) ?_);refine aw (CU [] [] (ED a b c TP) ?_);refine aw (CU [] [(4,Dv)] (ED a b c TP) ?_);refine dk ?_;have e:=Zs J;subst e;exact xC (fE trivial (fE trivial (fE trivial (fE trivial (fE trivial (fE trivial (fE trivial jQ))))))) (by kernel_rfl)
def IW(N:Nat)(c:so)(d:I aR)(a:I (so×bk)):U (bk×Int×(I (so×bk))):=bif (mY a c)then some (ia a c (⟨(⟨0,0,0,0,0⟩:aL),[],[]⟩:bk),(0:Int),a)else(zg N d c).bind λb=>bif b.2 then(Ef N b.1).bind λe=>bif (e !=0)then some (b.1,(1:Int),a)else bif (Nat.blt a.length 9223372036854775807)then some (b.1,(0:Int),((c,b.1)::a))else none else some (b.1,(9:Int),a)
def adW{N a b c}:KP 96 [dj a,Ad,AM] (HW b c) (λr=>.bn [fY r.1,Y r.2.1]) (λr=>(HW b r.2.2)) (IW N a b c):=
 fh 3 func96 (V [[],[(8,oq (al7 cz (.agg #[.int .i64 0,.int .i64 0,.int .i64 0,.int .i64 0,.int .i64 0,.slice none 0 0,.slice none 0 0]) (⟨(⟨0,0,0,0,0⟩:aL),[],[]⟩:bk) rfl true c a))],[]] (ax (λe=>gH [[t0 e],[]]) λe=>au λl i=>V [[f0 e],[(7,cK PF i)],[]] (ax (λg=>au λm j=>V [[f0 (cy g)],[(4,cK afP j)]] (ax (λh=>gH [[t0 h],[]]) λh=>cH λk=>gH [[f0 h],[(10,⟨_,_,.sd (o:= .none) (aro (f:=cz) k)⟩)],[]])) λg=>gH [[t0 (dt g)],[]])))
def GA(N:Nat)(c:Int)(a:Int64)(b:Int):U (Int×Int):=(bif (decide (a.toInt<0))then some true else some (decide (a.toInt>=b))).bind λd=>bif d then some ((0:Int),(12:Int))else some (aE ((aE (c*b))+a.toInt),(0:Int))
def adn{N b c d}:KO 238 [Y b,bx c,Y d] (λr=>.bn [Y r.1,Y r.2]) (GA N b c d):=
 fw func238 (V [[]] (gG (λe=>[(14,az e)]) (λ_=>[]) (ax (λa=>gE [(2,bT a)] []) λa=>gE [(2,bF a)] []) λe=>bg λf=>gR [[f0 f],[]]))
def Jr(N:Nat)(d:bk×Int×(I (so×bk)))(b:Int)(h:I aJ):I bD->Nat->Int->U (Int64×Int×(I (so×bk)))
 |[],_,c=>bif (decide ((0:Int)<=c))then(d.1.eF[(c).toNat]?).bind λa=>bif (aE (if(if(aE (b-(1:Int)))<a.xN.toInt then(aE (b-(1:Int)))else a.xN.toInt)>0then(if(aE (b-(1:Int)))<a.xN.toInt then(aE (b-(1:Int)))else a.xN.toInt)else(0:Int))==(if(if(aE (b-(1:Int)))<a.xN.toInt then(aE (b-(1:Int)))else a.xN.toInt)>0then(if(aE (b-(1:Int)))<a.xN.toInt then(aE (b-(1:Int)))else a.xN.toInt)else(0:Int)))then some ((Int64.ofInt (if(if(aE (b-(1:Int)))<a.xN.toInt then(aE (b-(1:Int)))else a.xN.toInt)>0then(if(aE (b-(1:Int)))<a.xN.toInt then(aE (b-(1:Int)))else a.xN.toInt)else(0:Int))),(0:Int),d.2.2)else none else none
 |j::e,i,c=>(vw N j h).bind λf=>bif (f.2 !=0)then some ((0:Int64),f.2,d.2.2)else(d.1.aQ[((i:Int)).toNat]?).bind λk=>(GA N c f.1 k).bind λg=>bif (g.2 !=0)then some ((0:Int64),g.2,d.2.2)else(λl=>Jr N d b h e (i+1) l) g.1
def N7(N:Nat)(c:I aJ)(b:c7)(d:Int)(e:I aR)(f:I (so×bk)):U (Int64×Int×(I (so×bk))):=(IW N b.dc e f).bind λa=>bif (a.2.1 !=0)then some ((0:Int64),a.2.1,a.2.2)else bif (a.1.aH.bA !=3)then some ((0:Int64),(10:Int),a.2.2)else bif ((b.cP.length:Int) !=(a.1.aQ.length:Int))then some ((0:Int64),(11:Int),a.2.2)else Jr N a d c b.cP 0 (0:Int)
def aps{N g a h e j}:KP 237 [.fn 96 [Ad,AM],O (aT g),ig a,Y h] (HW e j) (λr=>.bn [bx r.1,Y r.2.1]) (λr=>(HW e r.2.2)) (N7 N g a h e j):=
 fh 3 func237 (au λf q=>V [[],[(10,oR [dj a.dc,Ad,AM] [.cells [.mp 2],.cells [O (bp e)],.map (cx cz j),.cells (ig a).cells] [0,1,2] (adW _ q))],[]] (ax (λk=>gH [[t0 k],[]]) λk=>V [[f0 k],[]] (ax (λl=>gH [[t0 l],[]]) λl=>V [[f0 l],[(7,oL a.cP fX),(16,oL f.1.aQ fF)]] (ax (λm=>gH [[t0 m],[]]) λm=>V [[f0 m],[],[(7,oL a.cP fX)]] (gT m9 42 a.cP λt=>ft 1 [] [1,3,10,12,42,43,44] 5 (λn(b:Int)=>⟨83,[(1,O (aT g)),(3,Y h),(10,B4),(12,Y b),(42,O (fA a.cP)),(43,Y a.cP.length),(44,Y n)],[.cells [.mp 2],.cells [O (bp e)],.map (cx cz f.2.2),.cells (ig a).cells,.cells (fY f.1).cells]⟩) (λn b c u=>cH λv=>au λw x=>cH λy=>gH [[],[f0 (bI c)],[(10,⟨_,_,.el (xs:=eB f.1.eF) (i:=b) (Vd v) (mv x)⟩),(32,oq (DD (Ve.1 y)))]]) (λn G z b c u A=>au λH B=>V [[],[t0 (bH c)],[(4,oE (o7 (aY c)))],[(7,cK FC B)],[]] (ax (λo=>gH [[t0 o],[]]) λo=>au λJ C=>au λE F=>V [[f0 o],[(16,oE (gV C)),(22,cK adn F)],[]] (ax (λp=>gH [[t0 p],[]]) λp=>gb A E.1 [[f0 p],[(2,oq (bV c rfl t))]] c))))))))
def Cx(N:Nat)(e:bk×Int×(I (so×bk)))(f:Nat)(a:Int)(g:Int->(I (so×bk))->U (fQ×Int×(I (so×bk))))(d:Int)(h:Int64)(b:I (so×bk)):U (fQ×Int×(I (so×bk))):=bif (d !=0)then some (Cw,d,b)else(e.1.aQ[((f:Int)).toNat]?).bind λi=>(GA N a h i).bind λc=>bif (c.2 !=0)then some (Cw,c.2,b)else g c.1 b
def rl(N:Nat)(c:bk×Int×(I (so×bk)))(f:I aJ)(g:I aR):I c7->Nat->Int->(I (so×bk))->U (fQ×Int×(I (so×bk)))
 |[],_,a,b=>bif (decide ((0:Int)<=a))then(c.1.eF[(a).toNat]?).bind λh=>some ((⟨h,c.1.aH⟩:fQ),(0:Int),b)else none
 |i::l,e,a,b=>bif (bL i.dc==bL (bs []))then(vw N i.bO f).bind λm=>Cx N c e a (λj k=>rl N c f g l (e+1) j k) m.2 m.1 b else(c.1.aQ[((e:Int)).toNat]?).bind λn=>(N7 N f i n g b).bind λd=>Cx N c e a (λj k=>rl N c f g l (e+1) j k) d.2.1 d.1 d.2.2
def Hg(N:Nat)(d:I aJ)(b:ay)(c:I aR)(e:I (so×bk)):U (fQ×Int×(I (so×bk))):=(IW N b.aC c e).bind λa=>bif (a.2.1 !=0)then some (Cw,a.2.1,a.2.2)else bif ((b.xIdx.length:Int) !=(a.1.aQ.length:Int))then some (Cw,(11:Int),a.2.2)else rl N a d c b.xIdx 0 (0:Int) a.2.2
def Cb(a:I aR)(b:I (so×bk))(c:ay)(l:I ar):I ar:= .cells [.mp 2]:: .cells [O (bp a)]:: .map (cx cz b):: .cells (aK c).cells:: .cells eu::l
def yP(b:I aR)(a:bk×Int×(I (so×bk)))(c:ay)(l:I ar):I ar:= .cells [.mp 2]:: .cells [O (bp b)]:: .map (cx cz a.2.2):: .cells (aK c).cells:: .cells eu:: .cells (fY a.1).cells::l
def qg(b:I aR)(a:I (so×bk))(c:ay)(d:bk×Int×(I (so×bk)))(e:c7)(l:I ar):I ar:=Cb b a c (.cells (fY d.1).cells:: .cells (ig e).cells::l)
def SX(a:I aR)(l:I ar):I ar:= .cells [.mp 2]:: .cells [O (bp a)]::l
def ajh(N:Nat)(l:I aJ)(a:ay)(c:I aR)(u:I (so×bk))(r:fQ×Int×(I (so×bk)))(J:Hg N l a c u=some r):KH 159 [.fn 96 [Ad,AM],O (aT l),aK a] (HW c u) (.bn [eK r.1,Y r.2.1]) (HW c r.2.2):=by
 rw[Hg]at J;refine tv 3 func159 rfl (by kernel_rfl) (Zh rfl) ?_;refine mI (s':=⟨91,[(0,.fn 96 [Ad,AM]),(1,O (aT l)),(2,aK a)],SX c [.map (cx cz u)]⟩) (by kernel_rfl) ?_;refine aw (CU [] [(5,AU),(6,B4)] (Cb c u a []) ?_);refine aw ?_;obtain⟨b,H,J⟩:=bz J;refine CU [(10,oR [dj a.aC,Ad,AM] (Cb c u a []) [0,1,2] (adW _ H))] [(8,Dv),(9,Y b.2.1)] (yP c b a []) ?_;refine aw (aw ?_);refine CU [] [(22,(az (b.2.1 !=0)))] (yP c b a []) ?_;rcases eo (b.2.1 !=0)with v|v
 ·replace J:=(dh v).symm.trans J;refine C4 (t:=(b.2.1 !=0)) v ?_;refine aw (CU [] [(7,Y b.2.1)] (yP c b a []) ?_);refine dk (dn ?_);have n:=Zs J;subst n;exact kt (by kernel_rfl)
 replace J:=(ee v).symm.trans J;refine BT (t:=(b.2.1 !=0)) v ?_;refine cO ?_;refine aV ?_;refine aw (aw ?_);refine CU [(7,oL a.xIdx gq),(16,oL b.1.aQ fF)] [(31,(az ((a.xIdx.length:Int) !=(b.1.aQ.length:Int))))] (yP c b a []) ?_;rcases eo ((a.xIdx.length:Int) !=(b.1.aQ.length:Int))with w|w
 ·replace J:=(dh w).symm.trans J;refine C4 (t:=((a.xIdx.length:Int) !=(b.1.aQ.length:Int))) w ?_;refine aw (CU [] [(7,Y 11)] (yP c b a []) ?_);refine dk (dn ?_);have n:=Zs J;subst n;exact kt (by kernel_rfl)
 replace J:=(ee w).symm.trans J;refine BT (t:=((a.xIdx.length:Int) !=(b.1.aQ.length:Int))) w ?_;refine cO ?_;refine aV ?_;refine aw (CU [] [(10,Y 0)] (yP c b a []) ?_);refine aw (aw ?_);refine CU [(7,oL a.xIdx gq)] [(34,O (fc a.xIdx)),(35,Y a.xIdx.length),(36,Y 0)] (yP c b a []) ?_;refine dI ?_;refine x9 34 (fc a.xIdx) (by kernel_rfl) λK=> ?_;have L:=td gq K;refine SP [0,1,6,8,10,34,35,36] 6 (λ((h,q,j,e):Nat×(I c7)×Int×(I (so×bk)))=>⟨91,[(0,.fn 96 [Ad,AM]),(1,O (aT l)),(6,B4),(8,Dv),(10,Y j),(34,O (fc a.xIdx)),(35,Y a.xIdx.length),(36,Y h)],Cb c e a (SR b.1)⟩) (λ((h,q,j,e):Nat×(I c7)×Int×(I (so×bk)))=>a.xIdx.drop h=q/\rl N b l c q h j e=some r) (λ((h,q,j,e):Nat×(I c7)×Int×(I (so×bk)))=>q.length) (0,a.xIdx,(0:Int),b.2.2) (Zh rfl) (by kernel_rfl) ⟨rfl,J⟩ ?_;rintro⟨h,q,j,e⟩ ⟨x,J⟩;cases q with
 |nil=>
  rw[rl]at J;refine aw (CU [] [(37,(az (decide ((h:Int)<(a.xIdx.length:Int)))))] (Cb c e a (SR b.1)) ?_);refine aw (BT (t:=(decide ((h:Int)<(a.xIdx.length:Int)))) (bI x) ?_);refine lW (iD (iD (mU rfl ?_)));refine aV ?_;refine aw ?_;have F:=jZ J;replace J:=(dh F).symm.trans J;obtain⟨y,M,J⟩:=bz J;refine rd bB (by kernel_rfl) [(10,⟨_,_,.el (xs:=eB b.1.eF) (i:=j) (Vd F) (mv M)⟩)] [(7,Y 0)] (SX c [.map (cx cz e),.cells (aK a).cells,.cells [bx y.xN,bx y.xD,Y b.1.aH.bA,Y b.1.aH.bU,Y b.1.aH.ck,Y b.1.aH.cr,Y b.1.aH.cC],.cells (fY b.1).cells]) (by kernel_rfl) ?_;refine dk ?_;have n:=Zs J;subst n;exact kt (by kernel_rfl)
 |cons g G=>
  rw[rl]at J;refine aw (CU [] [(37,(az (decide ((h:Int)<(a.xIdx.length:Int)))))] (Cb c e a (SR b.1)) ?_);refine aw (C4 (t:=(decide ((h:Int)<(a.xIdx.length:Int)))) (bH x) ?_);refine cO ?_;refine aV ?_;refine aw (dI ?_);refine aw (CU [(4,oE (jh (aY x)))] [(12,E0),(11,Y h)] (qg c e a b g []) ?_);refine aw (CU [] [] (qg c e a b g []) ?_);refine aw (aw ?_);refine CU [] [(43,(az (bL g.dc==bL (bs []))))] (qg c e a b g []) ?_;refine rE [0,1,6,8,9,10,11,13,34,35,36] 7 (λ((o,C,k):Int×Int64×(I (so×bk)))=>⟨91,[(0,.fn 96 [Ad,AM]),(1,O (aT l)),(6,B4),(8,Dv),(9,Y o),(10,Y j),(11,Y h),(13,bx C),(34,O (fc a.xIdx)),(35,Y a.xIdx.length),(36,Y h)],qg c k a b g []⟩) (λ((o,C,k):Int×Int64×(I (so×bk)))=>Cx N b h j (λP Q=>rl N b l c G (h+1) P Q) o C k=some r) (Zh rfl) ?_ ?_
  ·rcases eo (bL g.dc==bL (bs []))with z|z
   ·replace J:=(dh z).symm.trans J;refine C4 (t:=(bL g.dc==bL (bs []))) z ?_;obtain⟨m,R,J⟩:=bz J;refine CH [(10,cK FC R)] [(9,Y m.2),(13,bx m.1),(50,Y m.2),(49,bx m.1),(44,.bn [bx m.1,Y m.2]),(48,.bn [bx m.1,Y m.2]),(47,O (aT l)),(46,dW g.bO),(45,E0)] (qg c e a b g []) ?_;refine aV ?_;exact⟨(m.2,m.1,e),by kernel_rfl,J⟩
   replace J:=(ee z).symm.trans J;refine BT (t:=(bL g.dc==bL (bs []))) z ?_;obtain⟨E,S,f,T,J⟩:=jG J;refine rle bB (by kernel_rfl) [(19,oE (gV S)),(25,oR [.fn 96 [Ad,AM],O (aT l),ig g,Y E] (qg c e a b g []) [0,1,2] (aps _ T))] [(9,Y f.2.1),(13,bx f.1),(62,Y f.2.1),(61,bx f.1),(51,.bn [bx f.1,Y f.2.1]),(60,.bn [bx f.1,Y f.2.1]),(59,Y E),(58,.bK [fj E] 0 0),(57,Y h),(56,O (bE b.1.aQ)),(55,.ptr 5 5),(54,ig g),(53,O (aT l)),(52,.fn 96 [Ad,AM])] (SX c [.map (cx cz f.2.2),.cells (aK a).cells,.cells eu,.cells (fY b.1).cells,.cells (ig g).cells]) ⟨by kernel_rfl,by kernel_rfl⟩ ?_;refine aV ?_;exact⟨(f.2.1,f.1,f.2.2),by kernel_rfl,J⟩
  rintro⟨o,C,k⟩ J
  try dsimp only at J
  rw[Cx]at J;refine aw (aw ?_);refine CU [] [(64,(az (o !=0)))] (qg c k a b g []) ?_;rcases eo (o !=0)with A|A
  ·replace J:=(dh A).symm.trans J;refine C4 (t:=(o !=0)) A ?_;refine aw (CU [] [(7,Y o)] (qg c k a b g []) ?_);refine dk (dn (eW (dn (dn (eW (dn ?_))))));have n:=Zs J;subst n;exact kt (by kernel_rfl)
  replace J:=(ee A).symm.trans J;refine BT (t:=(o !=0)) A ?_;refine cO ?_;refine aV ?_;refine aw ?_;obtain⟨bw,W,p,aU,J⟩:=jG J;refine CU [(16,oE (gV W)),(22,cK adn aU)] [(10,Y p.1),(9,Y p.2)] (qg c k a b g []) ?_;refine aw (CU [] [(79,(az (p.2 !=0)))] (qg c k a b g []) ?_);rcases eo (p.2 !=0)with B|B
  ·replace J:=(dh B).symm.trans J;refine C4 (t:=(p.2 !=0)) B ?_;refine aw (CU [] [(7,Y p.2)] (qg c k a b g []) ?_);refine dk (eW (dn (dn (eW (dn ?_)))));have n:=Zs J;subst n;exact kt (by kernel_rfl)
  replace J:=(ee B).symm.trans J;refine BT (t:=(p.2 !=0)) B ?_;refine cO ?_;refine eV ?_;refine aV ?_;refine CH [(2,oq (bV x rfl L))] [(36,Y ((h+1:Nat):Int)),(82,Y ((h+1:Nat):Int))] (qg c k a b g []) ?_;refine aV ?_;exact⟨(h+1,G,p.1,k),by kernel_rfl,⟨kI x,J⟩,Yu _⟩
def Kf(N:Nat)(a:Int64×Int)(b:I (so×bk))(c:Int):U (fQ×Int×(I (so×bk))):=some ((⟨(⟨a.1,1⟩:aA),(⟨3,0,0,0,0⟩:aL)⟩:fQ),c,b)
def Mt(N:Nat)(e:I aJ)(a:ay)(f:I aR)(c:I (so×bk)):U (fQ×Int×(I (so×bk))):=bif (a.aD==1)then some ((⟨a.dQ,a.aH⟩:fQ),(0:Int),c)else bif (a.aD==2)then(vw N a.bO e).bind λb=>(bif (b.2==0)then(bif (decide (b.1.toInt>2147483647))then some true else some (decide (b.1.toInt<(-2147483647:Int))))else some false).bind λg=>bif g then Kf N b c (3:Int)else Kf N b c b.2 else(Hg N e a f c).bind λd=>some (d.1,d.2.1,d.2.2)
def RB(a:I aR)(b:I (so×bk))(c:ay)(l:I ar):I ar:= .cells [.mp 2]:: .cells [O (bp a)]:: .map (cx cz b):: .cells (aK c).cells:: .cells eu::l
def ag9{N f a b c}:KP 94 [.fn 96 [Ad,AM],O (aT f),aK a] (HW b c) (λr=>.bn [eK r.1,Y r.2.1]) (λr=>(HW b r.2.2)) (Mt N f a b c):=
 fh 3 func94 (V [[],[],[]] (ax (λg=>gH [[t0 g],[]]) λg=>V [[f0 g],[]] (ax (λh=>au λi o=>V [[t0 h],[(10,cK FC o)]] (gG (λl=>[(37,az l)]) (λ_=>(RB b c a [])) (ax (λj=>cp (2,bT j) (ax (λe=>gE [(5,bT e)] [(25,bT e)]) λe=>gE [(5,bF e)] [(25,bF e)])) λj=>gE [(2,bF j),(5,uN)] []) λl=>kO 1 [] [6,8,9] 5 (λ(m:Int)=>⟨49,[(6,B4),(8,bx i.1),(9,Y m)],RB b c a []⟩) (Kf N i c) (λt n=>ax (λk=>gm n (3:Int) [[t0 k],[]]) λk=>gm n i.2 [[f0 k]]) (λm=>gH [[]]))) λh=>au λp q=>gH [[f0 h],[(10,oR [.fn 96 [Ad,AM],O (aT f),aK a] (RB b c a []) [0,1,2] (ajh N f a b c p q))]])))
def Da(N:Nat)(a:Int64)(b:Int64):U Int:=bif (decide (a.toInt<b.toInt))then some (-1:Int)else bif (decide (a.toInt>b.toInt))then some (1:Int)else some (0:Int)
def QF{N a b}:KO 277 [bx a,bx b] Y (Da N a b):=
 fw func277 (V [[],[]] (e7 λ_=>bg λc=>gR [[f0 c],[]]))
def Vx(N:Nat)(a:aA)(b:aA):U Int:=(lP N a).bind λd=>(bif d then (lP N b).bind λe=>some e else some false).bind λf=>bif f then(Da N (a.xN*b.xD) (b.xN*a.xD)).bind λg=>some g else(Da N a.xN b.xN).bind λc=>bif (c !=0)then some c else(Da N a.xD b.xD).bind λh=>some h
def aiI{N a b}:KO 236 [bm a,bm b] Y (Vx N a b):=
 fw func236 (V [[]] (au λl f=>gG (λe=>[(11,az e)]) (λ_=>[.cells (bm a).cells,.cells (bm b).cells]) (cU (4,cK ou f) (ax (λc=>au λm g=>gE [(2,bT c)] [(13,cK ou g)]) λc=>gE [(2,bF c)] [])) λe=>ax (λd=>au λn h=>gR [[t0 d],[(14,oq (gv a.xN b.xD)),(29,oq (gv b.xN a.xD)),(31,cK QF h)]]) λd=>au λo i=>V [[f0 d],[(13,cK QF i)],[]] (bg λj=>au λp k=>gR [[f0 j],[(13,cK QF k)]])))
def Ee(N:Nat)(c:aL)(a:aA)(b:aA):U Int:=(nT N c a).bind λd=>(bif d then (nT N c b).bind λe=>some (!e)else some true).bind λf=>bif f then some (0:Int)else bif (c.bA==1)then(Vx N a b).bind λg=>some g else bif (decide (a.xN.toInt<b.xN.toInt))then some (-1:Int)else bif (decide (a.xN.toInt>b.xN.toInt))then some (1:Int)else some (0:Int)
abbrev T6:=λa b c=>([.cells (bX a).cells,.cells (bm b).cells,.cells (bm c).cells]:List ar)
def adq{N a b c}:KO 158 [bX a,bm b,bm c] Y (Ee N a b c):=
 fw func158 (V [[]] (au λk g=>gG (λf=>[(7,az f)]) (λ_=>(T6 a b c)) (cU (7,cK wD g) (ax (λd=>au λl h=>gE [(4,bF (cy d))] [(22,cK wD h)]) λd=>gE [(4,bT (dt d))] [])) λf=>e7 λ_=>ax (λe=>au λm i=>gR [[t0 e],[(7,cK aiI i)]]) λe=>V [[f0 e],[]] (e7 λ_=>bg λj=>gR [[f0 j],[]])))
def Vo(N:Nat)(b:Int)(a:Int):U Bool:=bif (b==13)then some (decide (a<0))else bif (b==14)then some (decide (a<=0))else some (a==0)
def am8{N a b}:KO 157 [Y a,Y b] az (Vo N a b):=
 fw func157 (V [[],[],[]] (e7 λ_=>bg λc=>gR [[f0 c],[]]))
def KZ(N:Nat)(a:aL):I aA->Nat->U Int
 |[],_=>some (0:Int)
 |v6::b,c=>(uv N a v6).bind λd=>bif d then(KZ N a b (c+1))else some (1:Int)
def sV(N:Nat)(a:aL)(c:I aA):U Int:=(wj N a).bind λb=>bif (b !=0)then some b else KZ N a c 0
def BA{N c a}:KO 303 [bX c,O (eB a)] Y (sV N c a):=
 fw func303 (au λm f=>V [[],[(4,cK Me f)],[]] (bg λg=>V [[f0 g],[(4,oL a jK)]] (gT sG 1 a λh=>dP 1 [] [2,13,14,15] 1 (λe=>⟨24,[(2,Ad),(13,O (eB a)),(14,Y a.length),(15,Y e)],SA c⟩) (λe b i=>gR [[],[f0 (bI b)],[]]) (λe n o b i j=>au λp k=>V [[],[t0 (bH b)],[(1,oE (mv (aY b)))],[(7,cK Tk k)]] (e9 λl=>gb j () [[f0 (cy l)],[(2,oq (bV b rfl h))]] b)))))
def tT(N:Nat)(e:Int64)(d:Int64):U (aA×Int):=bif (d.toInt==0)then some (cd,(4:Int))else(Cv N e).bind λb=>(Cv N d).bind λc=>(g_frac_gcd N b c).bind λa=>bif (a !=0)then(bif (decide ((u64.wrap ((b).tdiv a))>2147483647))then some true else some (decide ((u64.wrap ((c).tdiv a))>2147483647))).bind λf=>bif f then some (cd,(3:Int))else bif ((decide (e.toInt<0))==(decide (d.toInt<0)))then some ((⟨Int64.ofInt (u64.wrap ((b).tdiv a)),Int64.ofInt (u64.wrap ((c).tdiv a))⟩:aA),(0:Int))else some ((⟨(-(Int64.ofInt (u64.wrap ((b).tdiv a)))),Int64.ofInt (u64.wrap ((c).tdiv a))⟩:aA),(0:Int))else none
def I9{N f g}:KO 300 [bx f,bx g] (λr=>.bn [bm r.1,Y r.2]) (tT N f g):=
 fw func300 (V [[],[]] (bg λk=>au λc l=>au λh m=>au λa n=>cH λi=>V [[f0 k],[],[(4,cK SS l),(10,cK SS m)],[(7,cK ad5 n)],[(7,⟨_,_,.nz (b:=a) (Vr.1 i)⟩),(16,⟨_,_,.nz (b:=a) (Vr.1 i)⟩)]] (gG (λj=>[(36,az j)]) (λ_=>[.cells gj]) (ax (λd=>gE [(2,bT d)] []) λd=>gE [(2,bF d)] []) λj=>e7 λ_=>ax (λe=>gR [[f0 (cy e)],[(5,oq (iI (u64.wrap ((c).tdiv a)))),(11,oq (iI (u64.wrap ((h).tdiv a))))]]) λe=>gR [[t0 (dt e)],[(5,oq (iI (u64.wrap ((c).tdiv a)))),(8,oq (l7 (Int64.ofInt (u64.wrap ((c).tdiv a))))),(14,oq (iI (u64.wrap ((h).tdiv a))))]])))
def Ua(N:Nat)(a:aL)(b:aA):U (aA×Int):=(sV N a [b]).bind λc=>bif (c !=0)then some (cd,c)else bif (decide ((0:Int)<=a.ck))then(tT N b.xN (Int64.ofInt ((1:Int)*2^(min (a.ck).toNat (IntKind.bits .i64))))).bind λd=>some (d.1,d.2)else none
def amg{N a c}:KO 278 [bX a,bm c] (λr=>.bn [bm r.1,Y r.2]) (Ua N a c):=
 fw func278 (au λh d=>V [[],[(10,cK BA d)],[]] (bg λe=>cH λf=>au λi g=>gR [[f0 e],[(13,⟨_,_,.nn (b:=a.ck) (Vd f)⟩),(14,oq (iI ((1:Int)*2^(min (a.ck).toNat (IntKind.bits .i64))))),(16,cK I9 g)]]))
def Ln(N:Nat)(a:aL)(b:aA):U aA:=bif (a.bA==2)then(Ua N a b).bind λc=>some c.1 else some b
def amV{N a b}:KO 239 [bX a,bm b] bm (Ln N a b):=
 fw func239 (V [[],[]] (jC λc=>au λe d=>gR [[t0 c],[(7,cK amg d)],[]]))
def JW(N:Nat)(a:Int64):U Int64:=some a
def Fj(N:Nat)(a:aA):U Int64:=(lP N a).bind λb=>bif b then bif (a.xD.toInt !=0)then bif (decide ((Int64.ofInt ((a.xN.toInt).tmod a.xD.toInt)).toInt<0))then JW N ((Int64.ofInt ((a.xN.toInt).tdiv a.xD.toInt))-(1:Int64))else JW N (Int64.ofInt ((a.xN.toInt).tdiv a.xD.toInt))else none else some (0:Int64)
def asn{N a}:KO 240 [bm a] bx (Fj N a):=
 fw func240 (au λi g=>V [[],[(4,cK ou g)]] (e9 λh=>cH λd=>kO 1 [[f0 (cy h)],[(13,⟨_,_,.nz (b:=a.xD.toInt) (Vr.1 d)⟩),(14,oq (iI ((a.xN.toInt).tdiv a.xD.toInt)))],[(13,⟨_,_,.nz (b:=a.xD.toInt) (Vr.1 d)⟩),(14,oq (LY a.xN a.xD.toInt))]] [3] 1 (λ(e:Int64)=>⟨21,[(3,bx e)],T5 a⟩) (JW N) (λj f=>ax (λc=>gm f ((Int64.ofInt ((a.xN.toInt).tdiv a.xD.toInt))-(1:Int64)) [[t0 c],[(5,oq (mz (Int64.ofInt ((a.xN.toInt).tdiv a.xD.toInt)) (1:Int64)))]]) λc=>gm f (Int64.ofInt ((a.xN.toInt).tdiv a.xD.toInt)) [[f0 c]]) (λe=>gR [[]])))
def IK(N:Nat)(a:Int):U Bool:=(bif (decide (a>=1))then some (decide (a<=4))else some false).bind λb=>some b
def adp{N b}:KO 304 [Y b] az (IK N b):=
 fw func304 (V [[]] (gG (λc=>[(2,az c)]) (λ_=>[]) (ax (λa=>gE [(2,bT a)] []) λa=>gE [(2,bF a)] []) λc=>gR []))
def IY(N:Nat)(a:Int64):U Int:=bif (decide (a.toInt<0))then some (u64.wrap (0-(u64.wrap a.toInt)))else some (u64.wrap a.toInt)
def aeS{N a}:KO 321 [bx a] (λr=>.d (.v (.int .u64 r))) (IY N a):=
 fw func321 (V [[],[]] (bg λb=>gR [[f0 b],[]]))
def Sk(N:Nat)(b a:Int)(c:Bool)(d:Int):U Int:=bif a !=0then some (um b a c d)else none
def asj{N a b c e r}(J:Sk N a b c e=some r):gZ prog 320 [X a,X b,az c,Y e] (·=(X r)):=aoH a b c e r J
def DW(N:Nat)(b:Int64)(a:Int64)(d:Int):U (Int64×Int):=(IK N d).bind λe=>bif e then bif (a.toInt==0)then some ((0:Int64),(4:Int))else(IY N b).bind λf=>(IY N a).bind λg=>(Sk N f g (!((decide (b.toInt<0))==(decide (a.toInt<0)))) d).bind λc=>bif ((decide (b.toInt<0))==(decide (a.toInt<0)))then bif (decide (c>=9223372036854775808))then some ((0:Int64),(3:Int))else some (Int64.ofInt c,(0:Int))else some (Int64.ofInt (u64.wrap (0-c)),(0:Int))else some ((0:Int64),(1:Int))
def Q6{N b c d}:KO 298 [bx b,bx c,Y d] (λr=>.bn [bx r.1,Y r.2]) (DW N b c d):=
 fw func298 (au λm f=>V [[],[(4,cK adp f)]] (e9 λg=>V [[f0 (cy g)],[]] (bg λh=>au λn i=>au λo j=>au λe k=>V [[f0 h],[],[(4,cK aeS i),(10,cK aeS j),(19,cL (asj k))],[]] (ax (λa=>V [[f0 (cy a)],[]] (bg λl=>gR [[f0 l],[(5,oq (iI e))]])) λa=>gR [[t0 (dt a)],[(8,oq (iI (u64.wrap (0-e))))]]))))
def RK(N:Nat)(b:aA)(a:Int)(c:Int):U (Int64×Int):=(lP N b).bind λe=>(bif e then(bif (decide (a<0))then some true else(bif (decide (a>30))then some true else (IK N c).bind λf=>some (!f)))else some true).bind λg=>bif g then some ((0:Int64),(1:Int))else bif (decide ((0:Int)<=(u64.wrap a)))then(DW N (Int64.ofInt (b.xN.toInt*2^(min (u64.wrap a).toNat (IntKind.bits .i64)))) b.xD c).bind λd=>some (d.1,d.2)else none
def akA{N a c g}:KO 279 [bm a,Y c,Y g] (λr=>.bn [bx r.1,Y r.2]) (RK N a c g):=
 fw func279 (V [[]] (au λn i=>gG (λh=>[(23,az h)]) (λ_=>(T5 a)) (cU (4,cK ou i) (ax (λd=>cp (3,bF (cy d)) (ax (λe=>gE [(7,bT e),(11,bT rfl)] []) λe=>cp (7,bF e) (ax (λf=>gE [(11,bT f)] []) λf=>au λo j=>gE [(11,bF f)] [(40,cK adp j)]))) λd=>gE [(3,bT (dt d)),(7,bT rfl),(11,bT rfl)] [])) λh=>bg λk=>cH λl=>au λp m=>gR [[f0 k],[(13,⟨_,_,.nn (b:=(u64.wrap c)) (Vd l)⟩),(14,oq (iI (a.xN.toInt*2^(min (u64.wrap c).toNat (IntKind.bits .i64))))),(25,cK Q6 m)]]))
def Ra(N:Nat)(b:Int64)(a:Int)(c:Int):U (Int64×Bool):=(BV N a).bind λf=>(bif f then(bif (c !=1)then some (c !=2)else some false)else some true).bind λg=>bif g then some ((0:Int64),false)else(EU N a).bind λd=>(Gr N a).bind λe=>(bif (decide (b.toInt>=d.toInt))then some (decide (b.toInt<=e.toInt))else some false).bind λh=>bif h then some (b,false)else(bif (c==1)then some (decide (b.toInt<d.toInt))else some false).bind λi=>bif i then some (d,true)else bif (c==1)then some (e,true)else bif (decide ((0:Int)<=(u64.wrap (aE ((64:Int)-a)))))then some (Int64.ofInt (((Int64.ofInt (u64.wrap ((u64.wrap b.toInt)*2^(min (u64.wrap (aE ((64:Int)-a))).toNat (IntKind.bits .u64))))).toInt).fdiv (2^(min (u64.wrap (aE ((64:Int)-a))).toNat (IntKind.bits .i64)))),true)else none
def aoy{N d a h}:KO 305 [bx d,Y a,Y h] (λr=>.bn [bx r.1,az r.2]) (Ra N d a h):=
 fw func305 (V [[]] (au λu m=>gG (λi=>[(21,az i)]) (λ_=>[]) (cU (4,cK Td m) (ax (λe=>cp (3,bF (cy e)) (ax (λc=>gE [(6,bT c)] [(28,bT c)]) λc=>gE [(6,bF c)] [(28,bF c)])) λe=>gE [(3,bT (dt e)),(6,uN)] [])) λi=>bg λn=>au λv o=>au λw p=>V [[f0 n],[(4,cK aub o),(10,cK abO p)]] (gG (λj=>[(26,az j)]) (λ_=>[]) (ax (λf=>gE [(3,bT f)] []) λf=>gE [(3,bF f)] []) λj=>bg λq=>V [[f0 q]] (gG (λk=>[(36,az k)]) (λ_=>[]) (ax (λg=>gE [(2,bT g)] []) λg=>gE [(2,bF g)] []) λk=>e7 λ_=>bg λt=>cH λl=>gR [[f0 t],[],[(10,⟨_,_,.nn (b:=(u64.wrap (aE ((64:Int)-a)))) (Vd l)⟩),(14,oq (iI (u64.wrap ((u64.wrap d.toInt)*2^(min (u64.wrap (aE ((64:Int)-a))).toNat (IntKind.bits .u64)))))),(19,⟨_,_,.nn (b:=(u64.wrap (aE ((64:Int)-a)))) (Vd l)⟩),(20,oq (aei (Int64.ofInt (u64.wrap ((u64.wrap d.toInt)*2^(min (u64.wrap (aE ((64:Int)-a))).toNat (IntKind.bits .u64))))) (min (u64.wrap (aE ((64:Int)-a))).toNat (IntKind.bits .i64))))]]))))
def qL(N:Nat)(a:aL)(b:Int64):U aA:=(Ra N b a.bU a.cC).bind λc=>some (⟨c.1,1⟩:aA)
def DC{N a b}:KO 280 [bX a,bx b] bm (qL N a b):=
 fw func280 (au λd c=>gR [[],[(16,cK aoy c)],[]])
def Ih(N:Nat)(a:aL)(b:aA):U (aA×Int):=(wj N a).bind λc=>bif (c !=0)then some (cd,c)else(RK N b a.ck a.cr).bind λd=>(bif (d.2 !=0)then some true else (lP N b).bind λe=>some (!e)).bind λf=>bif f then some (cd,(1:Int))else(qL N a d.1).bind λg=>some (g,(0:Int))
def asy{N a b}:KO 241 [bX a,bm b] (λr=>.bn [bm r.1,Y r.2]) (Ih N a b):=
 fw func241 (au λk e=>V [[],[(4,cK Me e)],[]] (bg λf=>au λl g=>V [[f0 f],[(16,cK akA g)]] (gG (λd=>[(30,az d)]) (λ_=>[.cells (bX a).cells,.cells (bm b).cells,.cells gj]) (ax (λc=>gE [(2,bT c)] []) λc=>au λm h=>gE [(2,bF c)] [(13,cK ou h)]) λd=>bg λi=>au λn j=>gR [[f0 i],[(7,cK DC j)]])))
def Ku(N:Nat)(c:aL)(b:aL)(e:aA):U (aA×Int):=(nE N c).bind λf=>(bif (f !=0)then some true else (nE N b).bind λg=>some (g !=0)).bind λh=>bif h then some (cd,(10:Int))else(nT N c e).bind λi=>bif i then(Ln N c e).bind λd=>bif (b.bA==3)then(Fj N d).bind λj=>some ((⟨j,1⟩:aA),(0:Int))else bif (b.bA==2)then(Ih N b d).bind λa=>some (a.1,a.2)else some (d,(0:Int))else some (cd,(1:Int))
abbrev SW:=λa b c=>([.cells (bX a).cells,.cells (bX b).cells,.cells (bm c).cells,.cells gj]:List ar)
def asH{N a b c}:KO 160 [bX a,bX b,bm c] (λr=>.bn [bm r.1,Y r.2]) (Ku N a b c):=
 fw func160 (V [[]] (au λq g=>gG (λf=>[(9,az f)]) (λ_=>(SW a b c)) (cU (4,cK ql g) (ax (λd=>gE [(3,bT d)] []) λd=>au λt h=>gE [(3,bF d)] [(16,cK ql h)])) λf=>bg λi=>au λu j=>V [[f0 i],[(7,cK wD j)]] (e9 λk=>au λv l=>V [[f0 (cy k)],[(7,cK amV l)],[],[]] (ax (λe=>au λw m=>gR [[t0 e],[(4,cK asn m)]]) λe=>V [[f0 e],[]] (jC λn=>au λo p=>gR [[t0 n],[(7,cK asy p)]])))))
def Rn(N:Nat)(b:aL)(a:Int64)(c:Int64):U (Int64×Int):=some ((-a),(0:Int))
def ahW{N b a c}:KO 294 [bX b,bx a,bx c] (λr=>.bn [bx r.1,Y r.2]) (Rn N b a c):=
 fw func294 (gR [[],[(5,oq (l7 a))]])
def T1(N:Nat)(a:aL)(c:aA)(d:aA):U (aA×Int):=(sV N a ([c,d])).bind λe=>bif (e !=0)then some (cd,e)else(Rn N a c.xN d.xN).bind λb=>bif (b.2 !=0)then some (cd,b.2)else(qL N a b.1).bind λf=>some (f,(0:Int))
def akp{N c d e}:KP 293 [.agg [.fn 294 []],bX c,bm d,bm e] [] (λr=>.bn [bm r.1,Y r.2]) (λ_=>[]) (T1 N c d e):=
 fh 0 func293 (au λi f=>V [[],[(13,cK BA f)],[]] (ax (λa=>gH [[t0 a],[]]) λa=>au λj g=>V [[f0 a],[(22,cK ahW g)],[]] (ax (λb=>gH [[t0 b],[]]) λb=>au λk h=>gH [[f0 b],[(7,cK DC h)]])))
def HX(N:Nat)(c:aL)(a:aA):U (aA×Int):=(T1 N c a a).bind λb=>some (b.1,b.2)
def aqe{N b a}:KO 264 [bX b,bm a] (λr=>.bn [bm r.1,Y r.2]) (HX N b a):=
 fw func264 (au λd c=>gR [[],[(13,oQ [.agg [.fn 294 []],bX b,bm a,bm a] [.cells (bX b).cells,.cells (bm a).cells,.cells gj] [] (akp _ c))]])
def JK(N:Nat)(b:aL)(a:aA):U (aA×Int):=bif (b.bA==2)then(HX N b a).bind λc=>some (c.1,c.2)else some ((⟨(-a.xN),a.xD⟩:aA),(0:Int))
def aoK{N c a}:KO 206 [bX c,bm a] (λr=>.bn [bm r.1,Y r.2]) (JK N c a):=
 fw func206 (V [[],[]] (ax (λb=>au λe d=>gR [[t0 b],[(7,cK aqe d)]]) λb=>gR [[f0 b],[(8,oq (l7 a.xN))]]))
def HR(N:Nat)(c:Int)(b:Int64)(a:Int64):U (aA×Int):=bif (c==4)then(rT N (b+a)).bind λd=>bif d then some ((⟨b+a,1⟩:aA),(0:Int))else some (cd,(3:Int))else bif (c==5)then(rT N (b-a)).bind λe=>bif e then some ((⟨b-a,1⟩:aA),(0:Int))else some (cd,(3:Int))else bif (c==6)then(rT N (b*a)).bind λf=>bif f then some ((⟨b*a,1⟩:aA),(0:Int))else some (cd,(3:Int))else bif (a.toInt==0)then some (cd,(4:Int))else bif (a.toInt !=0)then(bif ((Int64.ofInt ((b.toInt).tmod a.toInt)).toInt !=0)then some (!((decide (b.toInt<0))==(decide (a.toInt<0))))else some false).bind λg=>bif g then(rT N ((Int64.ofInt ((b.toInt).tdiv a.toInt))-(1:Int64))).bind λh=>bif h then some ((⟨(Int64.ofInt ((b.toInt).tdiv a.toInt))-(1:Int64),1⟩:aA),(0:Int))else some (cd,(3:Int))else(rT N (Int64.ofInt ((b.toInt).tdiv a.toInt))).bind λi=>bif i then some ((⟨Int64.ofInt ((b.toInt).tdiv a.toInt),1⟩:aA),(0:Int))else some (cd,(3:Int))else none
def al0{N i c a}:KO 265 [Y i,bx c,bx a] (λr=>.bn [bm r.1,Y r.2]) (HR N i c a):=
 fw func265 (V [[],[],[],[]] (ax (λd=>au λy l=>V [[t0 d],[(8,oq (ot c a))],[(4,cK Dm l)]] (nc λm=>gR [[t0 (dt m)],[]])) λd=>V [[f0 d],[]] (ax (λe=>au λz n=>V [[t0 e],[(8,oq (mz c a))],[(4,cK Dm n)]] (nc λo=>gR [[t0 (dt o)],[]])) λe=>V [[f0 e],[]] (ax (λf=>au λA p=>V [[t0 f],[(8,oq (gv c a))],[(4,cK Dm p)]] (nc λq=>gR [[t0 (dt q)],[]])) λf=>V [[f0 f],[]] (bg λt=>cH λj=>V [[f0 t],[(7,⟨_,_,.nz (b:=a.toInt) (Vr.1 j)⟩),(8,oq (iI ((c.toInt).tdiv a.toInt)))]] (gG (λk=>[(26,az k)]) (λ_=>[.cells gj]) (cU (7,⟨_,_,.nz (b:=a.toInt) (Vr.1 j)⟩) (cU (8,oq (LY c a.toInt)) (ax (λg=>gE [(4,bT g)] []) λg=>gE [(4,bF g)] []))) λk=>ax (λh=>au λB u=>V [[t0 h],[(5,oq (mz (Int64.ofInt ((c.toInt).tdiv a.toInt)) (1:Int64)))],[(4,cK Dm u)]] (nc λv=>gR [[t0 (dt v)],[]])) λh=>au λC w=>V [[f0 h],[(4,cK Dm w)]] (nc λx=>gR [[t0 (dt x)],[]])))))))
def P7(N:Nat)(c:aL)(a:Int64)(b:Int64):U (Int64×Int):=some (a+b,(0:Int))
def ans{N c a b}:KO 295 [bX c,bx a,bx b] (λr=>.bn [bx r.1,Y r.2]) (P7 N c a b):=
 fw func295 (gR [[],[(8,oq (ot a b))]])
def Q4(N:Nat)(a:aL)(c:aA)(d:aA):U (aA×Int):=(sV N a ([c,d])).bind λe=>bif (e !=0)then some (cd,e)else(P7 N a c.xN d.xN).bind λb=>bif (b.2 !=0)then some (cd,b.2)else(qL N a b.1).bind λf=>some (f,(0:Int))
def aiM{N c d e}:KP 293 [.agg [.fn 295 []],bX c,bm d,bm e] [] (λr=>.bn [bm r.1,Y r.2]) (λ_=>[]) (Q4 N c d e):=
 fh 0 func293 (au λi f=>V [[],[(13,cK BA f)],[]] (ax (λa=>gH [[t0 a],[]]) λa=>au λj g=>V [[f0 a],[(22,cK ans g)],[]] (ax (λb=>gH [[t0 b],[]]) λb=>au λk h=>gH [[f0 b],[(7,cK DC h)]])))
def E9(N:Nat)(b:aL)(c:aA)(d:aA):U (aA×Int):=(Q4 N b c d).bind λa=>some (a.1,a.2)
abbrev M4:=λa b c=>([.cells (bX a).cells,.cells (bm b).cells,.cells (bm c).cells,.cells gj]:List ar)
def asK{N a b c}:KO 266 [bX a,bm b,bm c] (λr=>.bn [bm r.1,Y r.2]) (E9 N a b c):=
 fw func266 (au λe d=>gR [[],[(13,oQ [.agg [.fn 295 []],bX a,bm b,bm c] (M4 a b c) [] (aiM _ d))]])
def VU(N:Nat)(c:aL)(a:Int64)(b:Int64):U (Int64×Int):=some (a-b,(0:Int))
def aj9{N c a b}:KO 296 [bX c,bx a,bx b] (λr=>.bn [bx r.1,Y r.2]) (VU N c a b):=
 fw func296 (gR [[],[(8,oq (mz a b))]])
def RD(N:Nat)(a:aL)(c:aA)(d:aA):U (aA×Int):=(sV N a ([c,d])).bind λe=>bif (e !=0)then some (cd,e)else(VU N a c.xN d.xN).bind λb=>bif (b.2 !=0)then some (cd,b.2)else(qL N a b.1).bind λf=>some (f,(0:Int))
def alf{N c d e}:KP 293 [.agg [.fn 296 []],bX c,bm d,bm e] [] (λr=>.bn [bm r.1,Y r.2]) (λ_=>[]) (RD N c d e):=
 fh 0 func293 (au λi f=>V [[],[(13,cK BA f)],[]] (ax (λa=>gH [[t0 a],[]]) λa=>au λj g=>V [[f0 a],[(22,cK aj9 g)],[]] (ax (λb=>gH [[t0 b],[]]) λb=>au λk h=>gH [[f0 b],[(7,cK DC h)]])))
def IM(N:Nat)(b:aL)(c:aA)(d:aA):U (aA×Int):=(RD N b c d).bind λa=>some (a.1,a.2)
def alD{N a b c}:KO 267 [bX a,bm b,bm c] (λr=>.bn [bm r.1,Y r.2]) (IM N a b c):=
 fw func267 (au λe d=>gR [[],[(13,oQ [.agg [.fn 296 []],bX a,bm b,bm c] (M4 a b c) [] (alf _ d))]])
def Qe(N:Nat)(a:aL)(c:Int64)(d:Int64):U (Int64×Int):=bif (decide ((0:Int)<=a.ck))then(DW N (c*d) (Int64.ofInt ((1:Int)*2^(min (a.ck).toNat (IntKind.bits .i64)))) a.cr).bind λb=>some (b.1,b.2)else none
def aqK{N a c d}:KO 297 [bX a,bx c,bx d] (λr=>.bn [bx r.1,Y r.2]) (Qe N a c d):=
 fw func297 (cH λe=>au λg f=>gR [[],[(8,oq (gv c d)),(16,⟨_,_,.nn (b:=a.ck) (Vd e)⟩),(17,oq (iI ((1:Int)*2^(min (a.ck).toNat (IntKind.bits .i64))))),(25,cK Q6 f)]])
def Rq(N:Nat)(a:aL)(c:aA)(d:aA):U (aA×Int):=(sV N a ([c,d])).bind λe=>bif (e !=0)then some (cd,e)else(Qe N a c.xN d.xN).bind λb=>bif (b.2 !=0)then some (cd,b.2)else(qL N a b.1).bind λf=>some (f,(0:Int))
def aiF{N c d e}:KP 293 [.agg [.fn 297 []],bX c,bm d,bm e] [] (λr=>.bn [bm r.1,Y r.2]) (λ_=>[]) (Rq N c d e):=
 fh 0 func293 (au λi f=>V [[],[(13,cK BA f)],[]] (ax (λa=>gH [[t0 a],[]]) λa=>au λj g=>V [[f0 a],[(22,cK aqK g)],[]] (ax (λb=>gH [[t0 b],[]]) λb=>au λk h=>gH [[f0 b],[(7,cK DC h)]])))
def Jq(N:Nat)(b:aL)(c:aA)(d:aA):U (aA×Int):=(Rq N b c d).bind λa=>some (a.1,a.2)
def ail{N a b c}:KO 268 [bX a,bm b,bm c] (λr=>.bn [bm r.1,Y r.2]) (Jq N a b c):=
 fw func268 (au λe d=>gR [[],[(13,oQ [.agg [.fn 297 []],bX a,bm b,bm c] (M4 a b c) [] (aiF _ d))]])
def VB(N:Nat)(a:aL)(c:Int64)(d:Int64):U (Int64×Int):=bif (decide ((0:Int)<=a.ck))then(DW N (Int64.ofInt (c.toInt*2^(min (a.ck).toNat (IntKind.bits .i64)))) d a.cr).bind λb=>some (b.1,b.2)else none
def asF{N a c d}:KO 299 [bX a,bx c,bx d] (λr=>.bn [bx r.1,Y r.2]) (VB N a c d):=
 fw func299 (cH λe=>au λg f=>gR [[],[(10,⟨_,_,.nn (b:=a.ck) (Vd e)⟩),(11,oq (iI (c.toInt*2^(min (a.ck).toNat (IntKind.bits .i64))))),(22,cK Q6 f)]])
def S1(N:Nat)(a:aL)(c:aA)(d:aA):U (aA×Int):=(sV N a ([c,d])).bind λe=>bif (e !=0)then some (cd,e)else(VB N a c.xN d.xN).bind λb=>bif (b.2 !=0)then some (cd,b.2)else(qL N a b.1).bind λf=>some (f,(0:Int))
def ak3{N c d e}:KP 293 [.agg [.fn 299 []],bX c,bm d,bm e] [] (λr=>.bn [bm r.1,Y r.2]) (λ_=>[]) (S1 N c d e):=
 fh 0 func293 (au λi f=>V [[],[(13,cK BA f)],[]] (ax (λa=>gH [[t0 a],[]]) λa=>au λj g=>V [[f0 a],[(22,cK asF g)],[]] (ax (λb=>gH [[t0 b],[]]) λb=>au λk h=>gH [[f0 b],[(7,cK DC h)]])))
def Hj(N:Nat)(b:aL)(c:aA)(d:aA):U (aA×Int):=(S1 N b c d).bind λa=>some (a.1,a.2)
def alb{N a b c}:KO 269 [bX a,bm b,bm c] (λr=>.bn [bm r.1,Y r.2]) (Hj N a b c):=
 fw func269 (au λe d=>gR [[],[(13,oQ [.agg [.fn 299 []],bX a,bm b,bm c] (M4 a b c) [] (ak3 _ d))]])
def He(N:Nat)(a:aA)(b:aA):U (aA×Int):=(lP N a).bind λd=>(bif d then (lP N b).bind λe=>some (!e)else some true).bind λf=>bif f then some (cd,(1:Int))else(tT N ((a.xN*b.xD)+(b.xN*a.xD)) (a.xD*b.xD)).bind λc=>some (c.1,c.2)
abbrev KG:=λa b=>([.cells (bm a).cells,.cells (bm b).cells,.cells gj]:List ar)
def akF{N a b}:KO 270 [bm a,bm b] (λr=>.bn [bm r.1,Y r.2]) (He N a b):=
 fw func270 (V [[]] (au λi e=>gG (λd=>[(13,az d)]) (λ_=>(KG a b)) (cU (4,cK ou e) (ax (λc=>au λj f=>gE [(3,bF (cy c))] [(16,cK ou f)]) λc=>gE [(3,bT (dt c))] [])) λd=>bg λg=>au λk h=>gR [[f0 g],[(14,oq (gv a.xN b.xD)),(29,oq (gv b.xN a.xD)),(32,oq (ot (a.xN*b.xD) (b.xN*a.xD))),(47,oq (gv a.xD b.xD)),(49,cK I9 h)]]))
def Hk(N:Nat)(a:aA)(b:aA):U (aA×Int):=(lP N a).bind λd=>(bif d then (lP N b).bind λe=>some (!e)else some true).bind λf=>bif f then some (cd,(1:Int))else(tT N ((a.xN*b.xD)-(b.xN*a.xD)) (a.xD*b.xD)).bind λc=>some (c.1,c.2)
def anJ{N a b}:KO 271 [bm a,bm b] (λr=>.bn [bm r.1,Y r.2]) (Hk N a b):=
 fw func271 (V [[]] (au λi e=>gG (λd=>[(13,az d)]) (λ_=>(KG a b)) (cU (4,cK ou e) (ax (λc=>au λj f=>gE [(3,bF (cy c))] [(16,cK ou f)]) λc=>gE [(3,bT (dt c))] [])) λd=>bg λg=>au λk h=>gR [[f0 g],[(14,oq (gv a.xN b.xD)),(29,oq (gv b.xN a.xD)),(32,oq (mz (a.xN*b.xD) (b.xN*a.xD))),(47,oq (gv a.xD b.xD)),(49,cK I9 h)]]))
def IU(N:Nat)(a:aA)(b:aA):U (aA×Int):=(lP N a).bind λd=>(bif d then (lP N b).bind λe=>some (!e)else some true).bind λf=>bif f then some (cd,(1:Int))else(tT N (a.xN*b.xN) (a.xD*b.xD)).bind λc=>some (c.1,c.2)
def akN{N a b}:KO 272 [bm a,bm b] (λr=>.bn [bm r.1,Y r.2]) (IU N a b):=
 fw func272 (V [[]] (au λi e=>gG (λd=>[(13,az d)]) (λ_=>(KG a b)) (cU (4,cK ou e) (ax (λc=>au λj f=>gE [(3,bF (cy c))] [(16,cK ou f)]) λc=>gE [(3,bT (dt c))] [])) λd=>bg λg=>au λk h=>gR [[f0 g],[(14,oq (gv a.xN b.xN)),(29,oq (gv a.xD b.xD)),(31,cK I9 h)]]))
def Ij(N:Nat)(a:aA)(b:aA):U (aA×Int):=(lP N a).bind λd=>(bif d then (lP N b).bind λe=>some (!e)else some true).bind λf=>bif f then some (cd,(1:Int))else(tT N (a.xN*b.xD) (a.xD*b.xN)).bind λc=>some (c.1,c.2)
def amd{N a b}:KO 273 [bm a,bm b] (λr=>.bn [bm r.1,Y r.2]) (Ij N a b):=
 fw func273 (V [[]] (au λi e=>gG (λd=>[(13,az d)]) (λ_=>(KG a b)) (cU (4,cK ou e) (ax (λc=>au λj f=>gE [(3,bF (cy c))] [(16,cK ou f)]) λc=>gE [(3,bT (dt c))] [])) λd=>bg λg=>au λk h=>gR [[f0 g],[(14,oq (gv a.xN b.xD)),(29,oq (gv a.xD b.xN)),(31,cK I9 h)]]))
def K3(N:Nat)(d:Int)(a:aL)(b:aA)(c:aA):U (aA×Int):=bif (a.bA==3)then(HR N d b.xN c.xN).bind λh=>some (h.1,h.2)else(bif (d==4)then some (a.bA==2)else some false).bind λo=>bif o then(E9 N a b c).bind λi=>some (i.1,i.2)else(bif (d==5)then some (a.bA==2)else some false).bind λp=>bif p then(IM N a b c).bind λj=>some (j.1,j.2)else(bif (d==6)then some (a.bA==2)else some false).bind λg=>bif g then(Jq N a b c).bind λe=>some (e.1,e.2)else bif (a.bA==2)then(Hj N a b c).bind λf=>some (f.1,f.2)else bif (d==4)then(He N b c).bind λk=>some (k.1,k.2)else bif (d==5)then(Hk N b c).bind λl=>some (l.1,l.2)else bif (d==6)then(IU N b c).bind λm=>some (m.1,m.2)else(Ij N b c).bind λn=>some (n.1,n.2)
def TV(a:aL)(b:aA)(c:aA)(l:I ar):I ar:= .cells (bX a).cells:: .cells (bm b).cells:: .cells (bm c).cells:: .cells gj::l
def ag2{N p a b c}:KO 207 [Y p,bX a,bm b,bm c] (λr=>.bn [bm r.1,Y r.2]) (K3 N p a b c):=
 fw func207 (V [[],[],[]] (ax (λe=>au λG u=>gR [[t0 e],[(16,cK al0 u)]]) λe=>V [[f0 e]] (gG (λq=>[(26,az q)]) (λ_=>(TV a b c [])) (ax (λf=>gE [(2,bT f)] []) λf=>gE [(2,bF f)] []) λq=>ax (λg=>au λH v=>gR [[t0 g],[(10,cK asK v)]]) λg=>V [[f0 g]] (gG (λt=>[(38,az t)]) (λ_=>(TV a b c [])) (ax (λh=>gE [(2,bT h)] []) λh=>gE [(2,bF h)] []) λt=>ax (λi=>au λJ w=>gR [[t0 i],[(10,cK alD w)]]) λi=>V [[f0 i]] (gG (λd=>[(50,az d)]) (λ_=>(TV a b c [])) (ax (λj=>gE [(2,bT j)] []) λj=>gE [(2,bF j)] []) λd=>ax (λk=>au λx y=>gR [[t0 k],[(10,cK ail y)]]) λk=>V [[f0 k],[]] (ax (λl=>au λz A=>gR [[t0 l],[(10,cK alb A)]]) λl=>V [[f0 l],[]] (ax (λm=>au λK B=>gR [[t0 m],[(7,cK akF B)]]) λm=>V [[f0 m],[]] (ax (λn=>au λL C=>gR [[t0 n],[(7,cK anJ C)]]) λn=>V [[f0 n],[]] (ax (λo=>au λM E=>gR [[t0 o],[(7,cK akN E)]]) λo=>au λP F=>gR [[f0 o],[(7,cK amd F)]])))))))))
def CS(N:Nat)(e:aL)(b:aA)(c:aA)(f:Int)(d:Bool):U (aA×Int):=bif d then(Ee N e b c).bind λa=>(bif ((decide (a>0))==(f==9))then some (a !=0)else some false).bind λh=>bif h then some (c,(0:Int))else some (b,(0:Int))else(K3 N f e b c).bind λg=>some (g.1,g.2)
def yM(N:Nat)(a:Int)(b:aL)(d:aA)(e:aA):U (aA×Int):=(bif (decide (a<4))then some true else some (decide (a>10))).bind λf=>bif f then some (cd,(1:Int))else(nE N b).bind λg=>bif (g !=0)then some (cd,(10:Int))else(nT N b d).bind λh=>(bif h then(bif (a !=8)then (nT N b e).bind λi=>some (!i)else some false)else some true).bind λj=>bif j then some (cd,(1:Int))else bif (a==8)then(JK N b d).bind λc=>some (c.1,c.2)else bif (a==9)then CS N b d e a (a==9)else CS N b d e a (a==10)
def N8(a:aL)(b:aA)(c:aA)(l:I ar):I ar:= .cells (bX a).cells:: .cells (bm b).cells:: .cells (bm c).cells:: .cells gj::l
def QP{N d a b c}:KO 120 [Y d,bX a,bm b,bm c] (λr=>.bn [bm r.1,Y r.2]) (yM N d a b c):=
 fw func120 (V [[]] (gG (λm=>[(11,az m)]) (λ_=>(N8 a b c [])) (ax (λg=>gE [(2,bT g)] []) λg=>gE [(2,bF g)] []) λm=>bg λq=>au λF t=>V [[f0 q],[(4,cK ql t)]] (bg λu=>V [[f0 u]] (au λG v=>gG (λn=>[(24,az n)]) (λ_=>(N8 a b c [])) (cU (7,cK wD v) (ax (λh=>cp (4,bF (cy h)) (ax (λe=>au λH w=>gE [(7,bT e)] [(31,cK wD w),(37,bT e)]) λe=>gE [(7,bF e)] [(37,bF e)])) λh=>gE [(4,bT (dt h)),(7,uN)] [])) λn=>bg λx=>V [[f0 x],[],[]] (ax (λi=>au λy z=>gR [[t0 i],[(7,cK aoK z)]]) λi=>kO 1 [[f0 i],[]] [0,5,6,7,8,48] 4 (λ(f:Bool)=>⟨73,[(0,Y d),(5,Ad),(6,AM),(7,D5),(8,AU),(48,az f)],N8 a b c []⟩) (CS N a b c d) (λJ o=>ax (λj=>gm o (d==9) [[t0 j]]) λj=>gm o (d==10) [[f0 j],[]]) (λf=>ax (λk=>au λA B=>V [[t0 k],[(10,cK adq B)]] (gG (λp=>[(63,az p)]) (λ_=>(N8 a b c [])) (ax (λl=>gE [(5,bT l)] []) λl=>gE [(5,bF l)] []) λp=>bg λC=>gR [[f0 C],[]])) λk=>au λK E=>gR [[f0 k],[(13,cK ag2 E)]]))))))
end Go.Proofs.YtnnapanbbbcalaaGreatDoor
