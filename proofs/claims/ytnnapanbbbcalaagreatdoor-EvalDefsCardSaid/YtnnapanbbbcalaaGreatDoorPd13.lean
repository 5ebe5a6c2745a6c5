/-
  Part 13 of the proof: PE7, PE8, PE9, PAll, ValNames, ValNode, LinP, ValTree, ValTree2, ValidLaw, InVal1, InVal2.
-/
import Derived.Test.YtnnapanbbbcalaaGreatDoorPd12
set_option linter.defProp false
namespace Go.Proofs.YtnnapanbbbcalaaGreatDoor
open IntKind (u64 i64)
open Tryz
open Go.RowKit
set_option maxRecDepth 100000
set_option maxHeartbeats 0
set_option linter.unusedVariables false
def yR:cE:=⟨(0:Int),(0:Int),(0:Int),(0:Int),(0:Int),(0:Int)⟩
def Pn:I AV:=[bx 0,bx 0,Y 0,Y 0,Y 0,Y 0,Y 0,Y 0]
def uR(N:Nat)(u:I aJ):I dZ->Nat->Int->Int->Int->Int->Int->Int->Int->Int->Int->Int->Int->Int->U (Int64×Int)
 |[],_,a,b,k,l,c,n,o,p,d,q,e,f=>(Gn N (⟨a,b,k,l,c,n⟩:cE) (⟨o,p,d,q,e,f⟩:cE)).bind λQ=>bif Q then(BF N (⟨o,p,d,q,e,f⟩:cE) (⟨a,b,k,l,c,n⟩:cE)).bind λi=>(bif (i.dp !=0)then some true else(bif (i.di !=0)then some true else(bif (i.dd !=0)then some true else(bif (i.c6 !=0)then some true else some (decide ((u64.wrap (i.cJ+(u64.wrap (i.cY*(4294967296:Int)))))>9223372036854775808)))))).bind λR=>bif R then some ((0:Int64),(3:Int))else some ((-(Int64.ofInt (u64.wrap ((u64.wrap (i.cJ+(u64.wrap (i.cY*(4294967296:Int)))))-(1:Int)))))-(1:Int64),(0:Int))else(BF N (⟨a,b,k,l,c,n⟩:cE) (⟨o,p,d,q,e,f⟩:cE)).bind λj=>(bif (j.dp !=0)then some true else(bif (j.di !=0)then some true else(bif (j.dd !=0)then some true else(bif (j.c6 !=0)then some true else some (decide ((u64.wrap (j.cJ+(u64.wrap (j.cY*(4294967296:Int)))))>9223372036854775807)))))).bind λW=>bif W then some ((0:Int64),(3:Int))else some (Int64.ofInt (u64.wrap (j.cJ+(u64.wrap (j.cY*(4294967296:Int))))),(0:Int))
 |t::M,P,a,b,k,l,c,n,o,p,d,q,e,f=>(QO N u t.aC).bind λh=>bif h.2 then bif ((decide (h.1.toInt<0))==(decide (t.eQ.toInt<0)))then(tE N h.1).bind λv=>(tE N t.eQ).bind λY7=>(zq N (⟨a,b,k,l,c,n⟩:cE) v Y7).bind λg=>(λw x y z A B C E F G H J=>uR N u M (P+1) w x y z A B C E F G H J) g.cJ g.cY g.dp g.di g.dd g.c6 o p d q e f else(tE N h.1).bind λK=>(tE N t.eQ).bind λL=>(zq N (⟨o,p,d,q,e,f⟩:cE) K L).bind λr=>(λw x y z A B C E F G H J=>uR N u M (P+1) w x y z A B C E F G H J) a b k l c n r.cJ r.cY r.dp r.di r.dd r.c6 else some ((0:Int64),(9:Int))
def O9(N:Nat)(d:I aJ)(e:bD)(f:Int)(g:Int)(h:Int)(i:Int)(j:Int)(k:Int)(a:Int)(b:Int)(c:Int)(l:Int)(n:Int)(o:Int):U (Int64×Int):=uR N d e.xL 0 f g h i j k a b c l n o
def tN(N:Nat)(a:bD)(f:I aJ):U (Int64×Int):=(Mz N a).bind λg=>bif (g !=0)then some ((0:Int64),(1:Int))else bif (decide (a.xK.toInt<0))then(tE N a.xK).bind λd=>(zq N yR d (1:Int)).bind λb=>O9 N f a (0:Int) (0:Int) (0:Int) (0:Int) (0:Int) (0:Int) b.cJ b.cY b.dp b.di b.dd b.c6 else(tE N a.xK).bind λe=>(zq N yR e (1:Int)).bind λc=>O9 N f a c.cJ c.cY c.dp c.di c.dd c.c6 (0:Int) (0:Int) (0:Int) (0:Int) (0:Int) (0:Int)
def Oa(e:bD)(f:Int)(g:Int)(h:Int)(i:Int)(j:Int)(k:Int)(a:Int)(b:Int)(c:Int)(n:Int)(o:Int)(p:Int)(l:I ar):I ar:= .cells (dW e).cells:: .cells [X f,X g,X h,X i,X j,X k]:: .cells [X a,X b,X c,X n,X o,X p]::l
def Gc{N k E r}(J:tN N k E=some r):KF 81 [dW k,O (aT E)] (.bn [bx r.1,Y r.2]):=by
 rw[tN]at J;refine Ii func81 ?_;obtain⟨v3,h1,J⟩:=bz J;refine fZ bB [[],[(4,cK ajI h1)]] ?_;apply bc J<;>intro h2 J;{cases J;exact wr bB [[(0,bT h2)],[]]}
 refine IQ bB 1 [[(0,bF h2)],[],[]] [1,2,6,7] 3 (λ((K,L,M,P,Q,R,l,o,p,W,aG,aP):Int×Int×Int×Int×Int×Int×Int×Int×Int×Int×Int×Int)=>⟨155,[(1,O (aT E)),(2,Ad),(6,AM),(7,D5)],Oa k K L M P Q R l o p W aG aP []⟩) (λ((K,L,M,P,Q,R,l,o,p,W,aG,aP):Int×Int×Int×Int×Int×Int×Int×Int×Int×Int×Int×Int)=>O9 N E k K L M P Q R l o p W aG aP=some r) ?_ ?_
 ·intro f1 aI;apply bc J<;>intro ph J
  ·obtain⟨v44,L0,F,QB,J⟩:=jG J;exact mA bB aI ((0:Int),(0:Int),(0:Int),(0:Int),(0:Int),(0:Int),F.cJ,F.cY,F.dp,F.di,F.dd,F.c6) [[(0,bT ph)],[(10,cK CA L0),(13,cK PB QB)]] J
  obtain⟨v46,h34,G,h35,J⟩:=jG J;exact mA bB aI (G.cJ,G.cY,G.dp,G.di,G.dd,G.c6,(0:Int),(0:Int),(0:Int),(0:Int),(0:Int),(0:Int)) [[(0,bF ph)],[(10,cK CA h34),(13,cK PB h35)]] J
 rintro⟨K,L,M,P,Q,R,l,o,p,W,aG,aP⟩ J
 try dsimp only at J
 rw[O9]at J;refine fZ bB [[]] ?_;refine aet vz 0 1 k.xL λh4=> ?_;refine Hn bB 2 [] [1,2,6,7,8] 3 (λ((t,B,a,b,u,v,c,w,x,y,e,A,f,g):Nat×(I dZ)×Int×Int×Int×Int×Int×Int×Int×Int×Int×Int×Int×Int)=>⟨155,[(1,O (aT E)),(2,Ad),(6,AM),(7,D5),(8,Y t)],Oa k a b u v c w x y e A f g []⟩) (λ((t,B,a,b,u,v,c,w,x,y,e,A,f,g):Nat×(I dZ)×Int×Int×Int×Int×Int×Int×Int×Int×Int×Int×Int×Int)=>k.xL.drop t=B/\uR N E B t a b u v c w x y e A f g=some r) (λ((t,B,a,b,u,v,c,w,x,y,e,A,f,g):Nat×(I dZ)×Int×Int×Int×Int×Int×Int×Int×Int×Int×Int×Int×Int)=>B.length) (0,k.xL,K,L,M,P,Q,R,l,o,p,W,aG,aP) ⟨rfl,J⟩ ?_;rintro⟨t,B,a,b,u,v,c,w,x,y,e,A,f,g⟩ ⟨q,J⟩ f2 dH;cases B with
 |nil=>
  rw[uR]at J;obtain⟨C7,h6,J⟩:=bz J;refine fZ bB [[(10,oL k.xL jH)],[(0,bF (bI q))],[(7,cL (amO h6))]] ?_;apply bc J<;>intro h7 J
  ·obtain⟨C,h8,J⟩:=bz J;refine fZ bB [[(0,bT h7)],[(7,cL (afz h8))],[(1,⟨_,_,.lt (z:=0) (n:=6) (by decide) (by decide)⟩),(7,⟨_,_,.lt (z:=1) (n:=6) (by decide) (by decide)⟩)]] ?_;obtain⟨To,h,J⟩:=bz J;refine wx bB [(116,az To)] (Oa k a b u v c w x y e A f g [.cells (fg C).cells]) ?_ ?_
   ·apply bc h<;>intro h9 h
    ·cases h;exact gk [(3,bT h9),(8,bT rfl),(13,bT rfl),(18,bT rfl)] [(1,⟨_,_,.lt (z:=2) (n:=6) (by decide) (by decide)⟩)]
    apply bc h<;>intro aX h;{cases h;exact gk [(3,bF h9),(8,bT aX),(13,bT rfl),(18,bT rfl)] [(1,⟨_,_,.lt (z:=2) (n:=6) (by decide) (by decide)⟩),(13,⟨_,_,.lt (z:=3) (n:=6) (by decide) (by decide)⟩)]}
    apply bc h<;>intro bj h;{cases h;exact gk [(3,bF h9),(8,bF aX),(13,bT bj),(18,bT rfl)] [(1,⟨_,_,.lt (z:=2) (n:=6) (by decide) (by decide)⟩),(13,⟨_,_,.lt (z:=3) (n:=6) (by decide) (by decide)⟩),(28,⟨_,_,.lt (z:=4) (n:=6) (by decide) (by decide)⟩)]}
    apply bc h<;>intro aU h;{cases h;exact gk [(3,bF h9),(8,bF aX),(13,bF bj),(18,bT aU)] [(1,⟨_,_,.lt (z:=2) (n:=6) (by decide) (by decide)⟩),(13,⟨_,_,.lt (z:=3) (n:=6) (by decide) (by decide)⟩),(28,⟨_,_,.lt (z:=4) (n:=6) (by decide) (by decide)⟩),(43,⟨_,_,.lt (z:=5) (n:=6) (by decide) (by decide)⟩)]}
    cases h;exact gk [(3,bF h9),(8,bF aX),(13,bF bj),(18,bF aU)] [(1,⟨_,_,.lt (z:=2) (n:=6) (by decide) (by decide)⟩),(13,⟨_,_,.lt (z:=3) (n:=6) (by decide) (by decide)⟩),(28,⟨_,_,.lt (z:=4) (n:=6) (by decide) (by decide)⟩),(43,⟨_,_,.lt (z:=5) (n:=6) (by decide) (by decide)⟩)]
   apply bc J<;>intro bW J;{cases J;exact wr bB [[(0,bT bW)],[]]}
   cases J;exact wr bB [[(0,bF bW)],[(8,oq (iI (u64.wrap ((u64.wrap (C.cJ+(u64.wrap (C.cY*(4294967296:Int)))))-(1:Int))))),(11,oq (l7 (Int64.ofInt (u64.wrap ((u64.wrap (C.cJ+(u64.wrap (C.cY*(4294967296:Int)))))-(1:Int)))))),(14,oq (mz (-(Int64.ofInt (u64.wrap ((u64.wrap (C.cJ+(u64.wrap (C.cY*(4294967296:Int)))))-(1:Int))))) (1:Int64)))]]
  obtain⟨qc,bC,J⟩:=bz J;refine fZ bB [[(0,bF h7)],[(7,cL (afz bC))],[(1,⟨_,_,.lt (z:=0) (n:=6) (by decide) (by decide)⟩),(7,⟨_,_,.lt (z:=1) (n:=6) (by decide) (by decide)⟩)]] ?_;obtain⟨R3,i,J⟩:=bz J;refine wx bB [(152,az R3)] (Oa k a b u v c w x y e A f g [.cells (fg qc).cells]) ?_ ?_
  ·apply bc i<;>intro cf i
   ·cases i;exact gk [(3,bT cf),(8,bT rfl),(13,bT rfl),(18,bT rfl)] [(1,⟨_,_,.lt (z:=2) (n:=6) (by decide) (by decide)⟩)]
   apply bc i<;>intro de i;{cases i;exact gk [(3,bF cf),(8,bT de),(13,bT rfl),(18,bT rfl)] [(1,⟨_,_,.lt (z:=2) (n:=6) (by decide) (by decide)⟩),(13,⟨_,_,.lt (z:=3) (n:=6) (by decide) (by decide)⟩)]}
   apply bc i<;>intro dN i;{cases i;exact gk [(3,bF cf),(8,bF de),(13,bT dN),(18,bT rfl)] [(1,⟨_,_,.lt (z:=2) (n:=6) (by decide) (by decide)⟩),(13,⟨_,_,.lt (z:=3) (n:=6) (by decide) (by decide)⟩),(28,⟨_,_,.lt (z:=4) (n:=6) (by decide) (by decide)⟩)]}
   apply bc i<;>intro eI i;{cases i;exact gk [(3,bF cf),(8,bF de),(13,bF dN),(18,bT eI)] [(1,⟨_,_,.lt (z:=2) (n:=6) (by decide) (by decide)⟩),(13,⟨_,_,.lt (z:=3) (n:=6) (by decide) (by decide)⟩),(28,⟨_,_,.lt (z:=4) (n:=6) (by decide) (by decide)⟩),(43,⟨_,_,.lt (z:=5) (n:=6) (by decide) (by decide)⟩)]}
   cases i;exact gk [(3,bF cf),(8,bF de),(13,bF dN),(18,bF eI)] [(1,⟨_,_,.lt (z:=2) (n:=6) (by decide) (by decide)⟩),(13,⟨_,_,.lt (z:=3) (n:=6) (by decide) (by decide)⟩),(28,⟨_,_,.lt (z:=4) (n:=6) (by decide) (by decide)⟩),(43,⟨_,_,.lt (z:=5) (n:=6) (by decide) (by decide)⟩)]
  apply bc J<;>intro fM J;{cases J;exact wr bB [[(0,bT fM)],[]]}
  cases J;exact wr bB [[(0,bF fM)],[(5,oq (iI (u64.wrap (qc.cJ+(u64.wrap (qc.cY*(4294967296:Int)))))))]]
 |cons bN cm=>
  rw[uR]at J;obtain⟨v37,gD,J⟩:=bz J;refine fZ bB [[(10,oL k.xL jH)],[(0,bT (bH q))],[(13,oE (lO (aY q))),(22,cK ahw gD)],[]] ?_;apply bc J<;>intro fk J
  ·refine fZ bB [[(0,bF (cy fk))],[(16,oE (lO (aY q)))]] ?_;apply bc J<;>intro fx J
   ·obtain⟨v38,kP,Y7,j8,J⟩:=jG J;obtain⟨j,gh,J⟩:=bz J;exact Bc bB dH (t+1,cm,j.cJ,j.cY,j.dp,j.di,j.dd,j.c6,x,y,e,A,f,g) [[(0,bF (cy fx))],[(7,cK CA kP),(19,oE (lO (aY q))),(28,cK CA j8),(31,cK PB gh)],[(5,oq (bV q rfl h4))]] ⟨kI q,J⟩
   obtain⟨v41,jU,v42,mc,J⟩:=jG J;obtain⟨H,lS,J⟩:=bz J;exact Bc bB dH (t+1,cm,a,b,u,v,c,w,H.cJ,H.cY,H.dp,H.di,H.dd,H.c6) [[(0,bT (dt fx))],[(7,cK CA jU),(19,oE (lO (aY q))),(28,cK CA mc),(31,cK PB lS)],[(5,oq (bV q rfl h4))]] ⟨kI q,J⟩
  cases J;exact wr bB [[(0,bT (dt fk))],[]]
def Ow(N:Nat)(a:so):I aR->Nat->U (bk×Bool)
 |[],_=>some (iV,false)
 |b::c,d=>bif (bL b.aC==bL a)then some (b.iH,true)else(Ow N a c (d+1))
def PC(N:Nat)(a:I aR)(b:so):U (bk×Bool):=Ow N b a 0
def atT{N b c}:KO 49 [O (bp b),dj c] (λr=>.bn [fY r.1,az r.2]) (PC N b c):=
 fw func49 (V [[],[]] (gT xe 0 b λg=>gx0 1 [] [0,1,4,6] 1 [] [(0,5),(0,6)] (λe=>⟨26,[(0,O (bp b)),(1,dj c),(4,Ad),(6,Y e)],[.cells JA]⟩) (λe a h=>gR [[(7,oL b vQ)],[f0 (bI a)],[]]) (λe j k a h i=>V [[(7,oL b vQ)],[t0 (bH a)],[(7,oE (vI (aY a)))]] (ax (λf=>gR [[t0 f],[(7,oE (vI (aY a)))]]) λf=>gbX i () [[f0 f],[(5,oq (bV a rfl g))]] a))))
def Pc(N:Nat):I Int->Nat->Int->U Int
 |[],_,_=>some (0:Int)
 |b::c,d,a=>bif (a !=0)then bif (decide (b>(i64.wrap (((4096:Int)).tdiv a))))then some (2:Int)else(λe=>Pc N c (d+1) e) (aE (a*b))else none
def Es(N:Nat)(a:I Int):I Int->Nat->U Int
 |[],_=>Pc N a 0 (1:Int)
 |v4::b,c=>bif (decide (v4<1))then some (1:Int)else(Es N a b (c+1))
def Pp(N:Nat)(a:I Int):U Int:=bif (decide ((a.length:Int)>6))then some (2:Int)else Es N a a 0
def ape{N a}:KO 225 [O (bE a)] Y (Pp N a):=
 fw func225 (V [[],[(4,oL a fF)]] (e7 λ_=>gT lT 0 a λi=>dP 1 [] [0,3] 0 (λg=>⟨39,[(0,O (bE a)),(3,Y g)],[]⟩) (λg f j=>V [[(7,oL a fF)],[f0 (bI f)],[],[]] (gT lT 0 a λk=>ft 2 [] [0,4,5] 0 (λh(c:Int)=>⟨39,[(0,O (bE a)),(4,Y c),(5,Y h)],[]⟩) (λh c e l=>gR [[(7,oL a fF)],[f0 (bI e)],[]]) (λh n u c e l o=>cH λp=>V [[(7,oL a fF)],[t0 (bH e)],[(7,oE (gV (aY e))),(16,⟨_,_,.nz (b:=c) (Vr.1 p)⟩)]] (bg λq=>gb o (aE (c*n)) [[f0 q],[(10,oE (gV (aY e)))],[(5,oq (bV e rfl k))]] e)))) (λg v w f j r=>V [[(7,oL a fF)],[t0 (bH f)],[(7,oE (gV (aY f)))]] (bg λt=>gb r () [[f0 t],[(5,oq (bV f rfl i))]] f))))
def Pd(N:Nat):I Int->Nat->Int->U Int
 |[],_,a=>some a
 |v4::b,c,a=>(λd=>Pd N b (c+1) d) (aE (a*v4))
def NT(N:Nat)(a:I Int):U Int:=Pd N a 0 (1:Int)
def akc{N a}:KO 226 [O (bE a)] Y (NT N a):=
 fw func226 (V [[],[],[]] (gT lT 0 a λf=>ft 1 [] [0,3,4] 0 (λe(c:Int)=>⟨18,[(0,O (bE a)),(3,Y c),(4,Y e)],[]⟩) (λe c b g=>gR [[(7,oL a fF)],[f0 (bI b)],[]]) (λe h j c b g i=>gb i (aE (c*h)) [[(7,oL a fF)],[t0 (bH b)],[(10,oE (gV (aY b)))],[(5,oq (bV b rfl f))]] b)))
def JM(N:Nat)(a:bk):I aA->Nat->U Int
 |[],_=>some (0:Int)
 |b::c,d=>(nR N a.aH b).bind λe=>bif e then(JM N a c (d+1))else some (1:Int)
def FL(N:Nat)(a:bk):U Int:=(mQ N a.aH).bind λc=>bif c then(Pp N a.aQ).bind λb=>bif (b !=0)then some b else(NT N a.aQ).bind λd=>bif ((a.eF.length:Int) !=d)then some (1:Int)else JM N a a.eF 0 else some (10:Int)
def aaE{N a}:KO 147 [fY a] Y (FL N a):=
 fw func147 (au λo d=>V [[],[(7,cK oT d)]] (e9 λe=>au λp f=>V [[f0 (cy e)],[(7,cK ape f)],[]] (bg λg=>au λq h=>V [[f0 g],[(7,oL a.eF jK),(16,cK akc h)]] (e7 λ_=>gB sG 0 6 a.eF λi=>dP 1 [] [1,4] 1 (λc=>⟨38,[(1,Ad),(4,Y c)],SR a⟩) (λc b j=>gR [[(10,oL a.eF jK)],[f0 (bI b)],[]]) (λc r t b j k=>au λu l=>V [[(10,oL a.eF jK)],[t0 (bH b)],[(16,oE (mv (aY b))),(22,cK tY l)]] (e9 λn=>gb k () [[f0 (cy n)],[(5,oq (bV b rfl i))]] b))))))
def Jj(N:Nat)(b:I aR)(c:so):U (bk×Int):=(PC N b c).bind λa=>bif a.2 then(FL N a.1).bind λd=>bif (d !=0)then some (iV,(1:Int))else some (a.1,(0:Int))else some (iV,(9:Int))
def atS{N a b}:KO 170 [O (bp a),dj b] (λr=>.bn [fY r.1,Y r.2]) (Jj N a b):=
 fw func170 (au λh c=>V [[],[(7,cK atT c)],[]] (e9 λe=>au λi f=>V [[f0 (cy e)],[(4,cK aaE f)]] (bg λg=>gR [[f0 g],[]])))
def FF(N:Nat)(e:bk×Int)(b:Int)(h:I aJ):I bD->Nat->Int->U (Int64×Int)
 |[],_,c=>bif (decide ((0:Int)<=c))then(e.1.eF[(c).toNat]?).bind λa=>bif (aE (if(if a.xN.toInt<(aE (b-(1:Int)))then a.xN.toInt else(aE (b-(1:Int))))>0then(if a.xN.toInt<(aE (b-(1:Int)))then a.xN.toInt else(aE (b-(1:Int))))else(0:Int))==(if(if a.xN.toInt<(aE (b-(1:Int)))then a.xN.toInt else(aE (b-(1:Int))))>0then(if a.xN.toInt<(aE (b-(1:Int)))then a.xN.toInt else(aE (b-(1:Int))))else(0:Int)))then some ((Int64.ofInt (if(if a.xN.toInt<(aE (b-(1:Int)))then a.xN.toInt else(aE (b-(1:Int))))>0then(if a.xN.toInt<(aE (b-(1:Int)))then a.xN.toInt else(aE (b-(1:Int))))else(0:Int))),(0:Int))else none else none
 |i::f,g,c=>(tN N i h).bind λd=>bif (d.2 !=0)then some ((0:Int64),d.2)else(bif (decide (d.1.toInt<0))then some true else (e.1.aQ[((g:Int)).toNat]?).bind λj=>some (decide (d.1.toInt>=j))).bind λk=>bif k then some ((0:Int64),(12:Int))else(e.1.aQ[((g:Int)).toNat]?).bind λl=>(λn=>FF N e b h f (g+1) n) (aE ((aE (c*l))+d.1.toInt))
def Lg(N:Nat)(e:I aR)(c:I aJ)(a:c7)(f:Int):U (Int64×Int):=bif (bL a.dc==bL (bs []))then(tN N a.bO c).bind λd=>some (d.1,d.2)else(Jj N e a.dc).bind λb=>bif (b.2 !=0)then some ((0:Int64),b.2)else bif (b.1.aH.bA !=3)then some ((0:Int64),(10:Int))else bif ((a.cP.length:Int) !=(b.1.aQ.length:Int))then some ((0:Int64),(11:Int))else FF N b f c a.cP 0 (0:Int)
def ag0{N l f b g}:KO 245 [O (bp l),O (aT f),ig b,Y g] (λr=>.bn [bx r.1,Y r.2]) (Lg N l f b g):=
 fw func245 (V [[],[]] (ax (λh=>au λL o=>gR [[t0 h],[(10,cL (Gc o))]]) λh=>au λe p=>V [[f0 h],[(10,cK atS p)],[]] (e7 λ_=>bg λq=>V [[f0 q],[(7,oL b.cP fX),(16,oL e.1.aQ fF)]] (bg λt=>V [[f0 t],[],[]] (gB m9 0 3 b.cP λu=>ft 1 [] [1,3,6,10,12,13] 2 (λj(a:Int)=>⟨96,[(1,O (aT f)),(3,Y g),(6,Ad),(10,AM),(12,Y a),(13,Y j)],[.cells (ig b).cells,.cells (fY e.1).cells]⟩) (λj a c v=>cH λw=>au λx y=>cH λz=>gR [[(10,oL b.cP fX)],[f0 (bI c)],[(16,⟨_,_,.el (xs:=eB e.1.eF) (i:=a) (Vd w) (mv y)⟩),(32,oq (DD (Ve.1 z)))]]) (λj M A a c v B=>au λC E=>V [[(10,oL b.cP fX)],[t0 (bH c)],[(10,oE (o7 (aY c))),(19,cL (Gc E))],[]] (bg λF=>V [[f0 F]] (gG (λn=>[(76,az n)]) (λ_=>[.cells (ig b).cells,.cells (fY e.1).cells]) (ax (λk=>gE [(2,bT k)] []) λk=>au λP G=>gE [(2,bF k)] [(22,oE (gV G))]) λn=>bg λH=>au λJ K=>gb B (aE ((aE (a*J))+C.1.toInt)) [[f0 H],[(13,oE (gV K))],[(5,oq (bV c rfl u))]] c))))))))
def D9(N:Nat)(e:bk)(f:I aR)(g:I aJ):I c7->Nat->Int->U (Int×Int)
 |[],_,c=>some (c,(0:Int))
 |i::j,h,c=>(e.aQ[((h:Int)).toNat]?).bind λb=>(Lg N f g i b).bind λa=>bif (a.2 !=0)then some ((0:Int),a.2)else(bif (decide (a.1.toInt<0))then some true else some (decide (a.1.toInt>=b))).bind λd=>bif d then some ((0:Int),(12:Int))else(λk=>D9 N e f g j (h+1) k) (aE ((aE (c*b))+a.1.toInt))
def Rp(N:Nat)(c:I aR)(d:I aJ)(a:bk)(b:I c7):U (Int×Int):=bif ((b.length:Int) !=(a.aQ.length:Int))then some ((0:Int),(11:Int))else D9 N a c d b 0 (0:Int)
def alw{N g h c a}:KO 171 [O (bp g),O (aT h),fY c,O (fc a)] (λr=>.bn [Y r.1,Y r.2]) (Rp N g h c a):=
 fw func171 (V [[],[(4,oL a gq),(13,oL c.aQ fF)]] (bg λo=>V [[f0 o],[],[]] (gT rJ 3 a λp=>ft 1 [] [0,1,3,6,10,11] 1 (λi(f:Int)=>⟨65,[(0,O (bp g)),(1,O (aT h)),(3,O (fc a)),(6,Ad),(10,Y f),(11,Y i)],SR c⟩) (λi f b q=>gR [[(7,oL a gq)],[f0 (bI b)],[]]) (λi x y f b q t=>au λj k=>au λl u=>V [[(7,oL a gq)],[t0 (bH b)],[(13,oE (jh (aY b))),(28,oE (gV k)),(34,cK ag0 u)],[]] (bg λv=>V [[f0 v]] (gG (λe=>[(54,az e)]) (λ_=>(SR c)) (ax (λn=>gE [(2,bT n)] []) λn=>gE [(2,bF n)] [(22,oE (gV k))]) λe=>bg λw=>gb t (aE ((aE (f*j))+l.1.toInt)) [[f0 w],[(13,oE (gV k))],[(5,oq (bV b rfl p))]] b))))))
def LX(N:Nat)(b:Int64×Int)(a:Int):U gi:=bif (a !=0)then some (⟨cd,dX,a⟩:gi)else some (⟨(⟨b.1,1⟩:aA),(⟨3,0,0,0,0⟩:aL),0⟩:gi)
def IP(N:Nat)(e:I aR)(f:I aJ)(a:ay):U gi:=bif (a.aD==1)then some (⟨a.dQ,a.aH,0⟩:gi)else bif (a.aD==2)then(tN N a.bO f).bind λb=>(bif (b.2==0)then(bif (decide (b.1.toInt>2147483647))then some true else some (decide (b.1.toInt<(-2147483647:Int))))else some false).bind λg=>bif g then LX N b (3:Int)else LX N b b.2 else(Jj N e a.aC).bind λc=>bif (c.2 !=0)then some (⟨cd,dX,c.2⟩:gi)else(Rp N e f c.1 a.xIdx).bind λd=>bif (d.2 !=0)then some (⟨cd,dX,d.2⟩:gi)else bif (decide ((0:Int)<=d.1))then(c.1.eF[(d.1).toNat]?).bind λh=>some (⟨h,c.1.aH,0⟩:gi)else none
def ao2{N h j b}:KO 101 [O (bp h),O (aT j),aK b] qB (IP N h j b):=
 fw func101 (V [[],[],[]] (e7 λ_=>ax (λc=>au λe o=>V [[t0 c],[(10,cL (Gc o))]] (gG (λk=>[(40,az k)]) (λ_=>[.cells (aK b).cells,.cells Pn]) (ax (λf=>cp (2,bT f) (ax (λa=>gE [(5,bT a)] [(25,bT a)]) λa=>gE [(5,bF a)] [(25,bF a)])) λf=>gE [(2,bF f),(5,uN)] []) λk=>kO 1 [] [6,7,8] 2 (λ(l:Int)=>⟨81,[(6,AM),(7,bx e.1),(8,Y l)],[.cells (aK b).cells,.cells Pn]⟩) (LX N e) (λz n=>ax (λg=>gm n (3:Int) [[t0 g],[]]) λg=>gm n e.2 [[f0 g]]) (λl=>V [[]] (bg λp=>gR [[f0 p],[]])))) λc=>au λq r=>V [[f0 c],[(10,cK atS r)],[]] (bg λt=>au λu v=>V [[f0 t],[(16,cK alw v)],[]] (bg λw=>cH λx=>au λA y=>gR [[f0 w],[(10,⟨_,_,.el (xs:=eB q.1.eF) (i:=u.1) (Vd x) (mv y)⟩)]]))))
def OI(N:Nat)(a:aL)(b:aA):U Bool:=(mQ N a).bind λc=>(bif c then (nR N a b).bind λd=>some d else some false).bind λe=>some e
def acx{N a b}:KO 184 [bX a,bm b] az (OI N a b):=
 fw func184 (V [[]] (au λg e=>gG (λd=>[(4,az d)]) (λ_=>(S2 a b)) (cU (4,cK oT e) (ax (λc=>au λh f=>gE [(2,bT c)] [(16,cK tY f)]) λc=>gE [(2,bF c)] [])) λd=>gR []))
def n7(N:Nat)(a:aA):U Bool:=(nR N (⟨1,0,0,0,0⟩:aL) a).bind λb=>some b
def ry{N a}:KO 247 [bm a] az (n7 N a):=
 fw func247 (au λc b=>gR [[],[(7,cK tY b)]])
def Ca(N:Nat)(a:Int64)(b:Int64):U Int:=bif (decide (a.toInt<b.toInt))then some (-1:Int)else bif (decide (a.toInt>b.toInt))then some (1:Int)else some (0:Int)
def RG{N a b}:KO 248 [bx a,bx b] Y (Ca N a b):=
 fw func248 (V [[],[]] (e7 λ_=>bg λc=>gR [[f0 c],[]]))
def Q3(N:Nat)(a:aA)(b:aA):U Int:=(n7 N a).bind λc=>(bif c then (n7 N b).bind λd=>some d else some false).bind λe=>bif e then(Ca N (a.xN*b.xD) (b.xN*a.xD)).bind λf=>some f else bif (a.xN.toInt !=b.xN.toInt)then(Ca N a.xN b.xN).bind λg=>some g else(Ca N a.xD b.xD).bind λh=>some h
def an0{N a b}:KO 185 [bm a,bm b] Y (Q3 N a b):=
 fw func185 (V [[]] (au λl g=>gG (λf=>[(10,az f)]) (λ_=>[.cells (bm a).cells,.cells (bm b).cells]) (cU (4,cK ry g) (ax (λc=>au λn h=>gE [(2,bT c)] [(13,cK ry h)]) λc=>gE [(2,bF c)] [])) λf=>ax (λd=>au λo i=>gR [[t0 d],[(14,oq (gv a.xN b.xD)),(29,oq (gv b.xN a.xD)),(31,cK RG i)]]) λd=>V [[f0 d],[]] (ax (λe=>au λp j=>gR [[t0 e],[(13,cK RG j)]]) λe=>au λq k=>gR [[f0 e],[(13,cK RG k)]])))
def Gl(N:Nat)(a:aL)(b:aA)(c:aA):U Int:=(OI N a b).bind λd=>(bif d then (OI N a c).bind λe=>some (!e)else some true).bind λf=>bif f then some (0:Int)else(Q3 N b c).bind λg=>some g
def afM{N a b c}:KO 104 [bX a,bm b,bm c] Y (Gl N a b c):=
 fw func104 (V [[]] (au λj f=>gG (λe=>[(16,az e)]) (λ_=>(T6 a b c)) (cU (7,cK acx f) (ax (λd=>au λk g=>gE [(4,bF (cy d))] [(22,cK acx g)]) λd=>gE [(4,bT (dt d))] [])) λe=>bg λh=>au λl i=>gR [[f0 h],[(7,cK an0 i)]]))
def xu(N:Nat)(a:aL):U Int64:=bif (decide ((0:Int)<=(u64.wrap a.ck)))then some (Int64.ofInt ((1:Int)*2^(min (u64.wrap a.ck).toNat (IntKind.bits .i64))))else none
def HA{N a}:KO 176 [bX a] bx (xu N a):=
 fw func176 (cH λc=>gR [[],[(10,⟨_,_,.nn (b:=(u64.wrap a.ck)) (Vd c)⟩),(11,oq (iI ((1:Int)*2^(min (u64.wrap a.ck).toNat (IntKind.bits .i64)))))]])
def EW(N:Nat)(a:Int64):U Int:=bif (decide (a.toInt<0))then some (u64.wrap ((u64.wrap (-(a+(1:Int64))).toInt)+(1:Int)))else some (u64.wrap a.toInt)
def ae3{N a}:KO 283 [bx a] (λr=>.d (.v (.int .u64 r))) (EW N a):=
 fw func283 (V [[],[]] (jC λb=>gR [[t0 b],[(5,oq (ot a (1:Int64))),(8,oq (l7 (a+(1:Int64))))]]))
def IT(N:Nat):Nat->Int->Int->U Int
 |0,_,_=>none
 |c+1,b,a=>bif (a !=0)then(λd e=>IT N c d e) a ((b).tmod a)else some b
def UN(N:Nat)(a:Int)(b:Int):U Int:=IT N N a b
def asw{N e f}:KO 306 [X e,X f] (λr=>.d (.v (.int .u64 r))) (UN N e f):=
 fw func306 (Hb 1 [[]] [0,1] 0 (λ(c:Int)(a:Int)=>⟨12,[(0,X c),(1,X a)],[]⟩) (IT N) (λi c a j h=>V [[]] (jC λg=>rV h (a,(c).tmod a) [[t0 g],[(10,⟨_,_,.nz (b:=a) (Vr.1 g)⟩)]])))
def Sg(N:Nat)(d:Bool)(b:Int)(c:Int):U (aA×Int):=(UN N b c).bind λa=>bif (a !=0)then(bif (decide ((u64.wrap ((b).tdiv a))>2147483647))then some true else some (decide ((u64.wrap ((c).tdiv a))>2147483647))).bind λe=>bif e then some (cd,(3:Int))else bif d then some ((⟨(-(Int64.ofInt (u64.wrap ((b).tdiv a)))),Int64.ofInt (u64.wrap ((c).tdiv a))⟩:aA),(0:Int))else some ((⟨Int64.ofInt (u64.wrap ((b).tdiv a)),Int64.ofInt (u64.wrap ((c).tdiv a))⟩:aA),(0:Int))else none
def aqQ{N h c e}:KO 282 [az h,X c,X e] (λr=>.bn [bm r.1,Y r.2]) (Sg N h c e):=
 fw func282 (au λa k=>cH λi=>V [[],[(7,cK asw k)],[(7,⟨_,_,.nz (b:=a) (Vr.1 i)⟩)],[(7,⟨_,_,.nz (b:=a) (Vr.1 i)⟩)]] (gG (λj=>[(23,az j)]) (λ_=>[.cells gj]) (ax (λf=>gE [(2,bT f)] []) λf=>gE [(2,bF f)] []) λj=>e7 λ_=>ax (λg=>gR [[t0 g],[(5,oq (iI (u64.wrap ((c).tdiv a)))),(8,oq (l7 (Int64.ofInt (u64.wrap ((c).tdiv a))))),(14,oq (iI (u64.wrap ((e).tdiv a))))]]) λg=>gR [[f0 g],[(5,oq (iI (u64.wrap ((c).tdiv a)))),(11,oq (iI (u64.wrap ((e).tdiv a))))]]))
def xt(N:Nat)(b:Int64)(a:Int64):U (aA×Int):=bif (a.toInt==0)then some (cd,(4:Int))else(EW N b).bind λd=>(EW N a).bind λe=>(Sg N (!((decide (b.toInt<0))==(decide (a.toInt<0)))) d e).bind λc=>some (c.1,c.2)
def Hu{N a b}:KO 246 [bx a,bx b] (λr=>.bn [bm r.1,Y r.2]) (xt N a b):=
 fw func246 (V [[],[]] (bg λc=>au λg d=>au λh e=>au λi f=>gR [[f0 c],[(19,cK ae3 d),(25,cK ae3 e),(28,cK aqQ f)]]))
def J2(N:Nat)(a:Int64)(b:Int64):U aA:=some (⟨a,b⟩:aA)
def Pw(N:Nat)(b:aL)(a:aA):U aA:=bif (b.bA==2)then(xu N b).bind λd=>(xt N a.xN d).bind λc=>J2 N c.1.xN c.1.xD else J2 N a.xN a.xD
def as1{N b a}:KO 172 [bX b,bm a] bm (Pw N b a):=
 fw func172 (Vq 1 [[],[]] [3,4] 3 (λ(d:Int64)(e:Int64)=>⟨17,[(3,AM),(4,D5)],[.cells (bX b).cells,.cells [bx d,bx e],.cells gj]⟩) (J2 N) (λj f=>ax (λc=>au λk h=>au λg i=>gm f (g.1.xN,g.1.xD) [[t0 c],[(10,cK HA h),(13,cK Hu i)]]) λc=>gm f (a.xN,a.xD) [[f0 c]]) (λd e=>gR [[]]))
def AA(N:Nat)(b:Int64)(a:Int64):U Int64:=bif (a.toInt !=0)then bif (decide (((Int64.ofInt ((b.toInt).tdiv a.toInt))*a).toInt>b.toInt))then some ((Int64.ofInt ((b.toInt).tdiv a.toInt))-(1:Int64))else some (Int64.ofInt ((b.toInt).tdiv a.toInt))else none
def Nx{N c a}:KO 173 [bx c,bx a] bx (AA N c a):=
 fw func173 (cH λd=>V [[],[(7,⟨_,_,.nz (b:=a.toInt) (Vr.1 d)⟩),(8,oq (iI ((c.toInt).tdiv a.toInt)))],[(8,oq (gv (Int64.ofInt ((c.toInt).tdiv a.toInt)) a))]] (jC λe=>gR [[t0 e],[(5,oq (mz (Int64.ofInt ((c.toInt).tdiv a.toInt)) (1:Int64)))]]))
def DG(N:Nat)(c:Int64)(b:Int64)(d:Int):U Int64:=(AA N c b).bind λa=>(bif ((c-(a*b)).toInt==0)then some true else some (d==1)).bind λe=>bif e then some a else bif (d==2)then some (a+(1:Int64))else bif (d==3)then bif (decide (c.toInt<0))then some (a+(1:Int64))else some a else(bif (decide ((c-(a*b)).toInt>(b-(c-(a*b))).toInt))then some true else(bif ((c-(a*b)).toInt==(b-(c-(a*b))).toInt)then some ((Int64.ofInt ((a.toInt).tmod (2:Int))).toInt !=0)else some false)).bind λf=>bif f then some (a+(1:Int64))else some a
def Sl{N d a j}:KO 175 [bx d,bx a,Y j] bx (DG N d a j):=
 fw func175 (au λc n=>V [[],[(7,cK Nx n)],[(11,oq (gv c a)),(14,oq (mz d (c*a)))]] (gG (λk=>[(22,az k)]) (λ_=>[]) (ax (λf=>gE [(2,bT f)] []) λf=>gE [(2,bF f)] []) λk=>e7 λ_=>ax (λg=>gR [[t0 g],[(5,oq (ot c (1:Int64)))]]) λg=>V [[f0 g],[]] (ax (λh=>V [[t0 h],[]] (jC λo=>gR [[t0 o],[(5,oq (ot c (1:Int64)))]])) λh=>V [[f0 h]] (gG (λl=>[(51,az l)]) (λ_=>[]) (cU (11,oq (mz a (d-(c*a)))) (ax (λi=>gE [(5,bT i),(11,uN)] []) λi=>cp (5,bF i) (cU (29,oq (mz a (d-(c*a)))) (ax (λe=>gE [(11,bT e)] [(40,⟨_,_,.nz (b:=2) (by decide)⟩),(41,oq (LY c (2:Int))),(46,bT e)]) λe=>gE [(11,bF e)] [(46,bF e)])))) λl=>jC λp=>gR [[t0 p],[(5,oq (ot c (1:Int64)))]]))))
def GC(N:Nat)(a:aL)(b:Int64):U aA:=some (⟨qN (-(Int64.ofInt ((1:Int)*2^(min (u64.wrap (aE (a.bU-(1:Int)))).toNat (IntKind.bits .i64))))) (sA ((Int64.ofInt ((1:Int)*2^(min (u64.wrap (aE (a.bU-(1:Int)))).toNat (IntKind.bits .i64))))-(1:Int64)) b),1⟩:aA)
def vj(N:Nat)(a:aL)(b:Int64):U aA:=bif (decide ((0:Int)<=(u64.wrap (aE (a.bU-(1:Int))))))then bif (a.cC==2)then(AA N (b+(Int64.ofInt ((1:Int)*2^(min (u64.wrap (aE (a.bU-(1:Int)))).toNat (IntKind.bits .i64))))) ((2:Int64)*(Int64.ofInt ((1:Int)*2^(min (u64.wrap (aE (a.bU-(1:Int)))).toNat (IntKind.bits .i64)))))).bind λc=>GC N a (b-((c*(2:Int64))*(Int64.ofInt ((1:Int)*2^(min (u64.wrap (aE (a.bU-(1:Int)))).toNat (IntKind.bits .i64))))))else GC N a b else none
def C3{N a c}:KO 174 [bX a,bx c] bm (vj N a c):=
 fw func174 (cH λh=>kO 1 [[],[(13,⟨_,_,.nn (b:=(u64.wrap (aE (a.bU-(1:Int))))) (Vd h)⟩),(14,oq (iI ((1:Int)*2^(min (u64.wrap (aE (a.bU-(1:Int)))).toNat (IntKind.bits .i64)))))],[]] [1,4,5] 2 (λ(d:Int64)=>⟨33,[(1,bx d),(4,AM),(5,bx (Int64.ofInt ((1:Int)*2^(min (u64.wrap (aE (a.bU-(1:Int)))).toNat (IntKind.bits .i64)))))],SU a⟩) (GC N a) (λj g=>ax (λf=>au λe i=>gm g (c-((e*(2:Int64))*(Int64.ofInt ((1:Int)*2^(min (u64.wrap (aE (a.bU-(1:Int)))).toNat (IntKind.bits .i64)))))) [[t0 f],[(11,oq (ot c (Int64.ofInt ((1:Int)*2^(min (u64.wrap (aE (a.bU-(1:Int)))).toNat (IntKind.bits .i64)))))),(17,oq (gv (2:Int64) (Int64.ofInt ((1:Int)*2^(min (u64.wrap (aE (a.bU-(1:Int)))).toNat (IntKind.bits .i64)))))),(19,cK Nx i),(23,oq (gv e (2:Int64))),(29,oq (gv (e*(2:Int64)) (Int64.ofInt ((1:Int)*2^(min (u64.wrap (aE (a.bU-(1:Int)))).toNat (IntKind.bits .i64)))))),(32,oq (mz c ((e*(2:Int64))*(Int64.ofInt ((1:Int)*2^(min (u64.wrap (aE (a.bU-(1:Int)))).toNat (IntKind.bits .i64)))))))]]) λf=>gm g c [[f0 f]]) (λd=>gR [[(5,oq (l7 (Int64.ofInt ((1:Int)*2^(min (u64.wrap (aE (a.bU-(1:Int)))).toNat (IntKind.bits .i64)))))),(11,oq (mz (Int64.ofInt ((1:Int)*2^(min (u64.wrap (aE (a.bU-(1:Int)))).toNat (IntKind.bits .i64)))) (1:Int64))),(17,oq (abw ((Int64.ofInt ((1:Int)*2^(min (u64.wrap (aE (a.bU-(1:Int)))).toNat (IntKind.bits .i64))))-(1:Int64)) d)),(20,oq (Wn (-(Int64.ofInt ((1:Int)*2^(min (u64.wrap (aE (a.bU-(1:Int)))).toNat (IntKind.bits .i64))))) (sA ((Int64.ofInt ((1:Int)*2^(min (u64.wrap (aE (a.bU-(1:Int)))).toNat (IntKind.bits .i64))))-(1:Int64)) d)))]]))
def Kz(N:Nat)(c:aL)(a:aL)(g:aA):U (aA×Int):=(mQ N c).bind λh=>(bif h then (mQ N a).bind λi=>some (!i)else some true).bind λj=>bif j then some (cd,(10:Int))else(nR N c g).bind λk=>bif k then(Pw N c g).bind λb=>bif (a.bA==3)then(AA N b.xN b.xD).bind λl=>some ((⟨l,1⟩:aA),(0:Int))else bif (a.bA==2)then(xu N a).bind λd=>(DG N (b.xN*d) b.xD a.cr).bind λe=>(vj N a e).bind λf=>some (f,(0:Int))else some (b,(0:Int))else some (cd,(1:Int))
def apy{N a b c}:KO 102 [bX a,bX b,bm c] (λr=>.bn [bm r.1,Y r.2]) (Kz N a b c):=
 fw func102 (V [[]] (au λy h=>gG (λg=>[(16,az g)]) (λ_=>(SW a b c)) (cU (4,cK oT h) (ax (λd=>au λz i=>gE [(3,bF (cy d))] [(16,cK oT i)]) λd=>gE [(3,bT (dt d))] [])) λg=>bg λj=>au λA k=>V [[f0 j],[(7,cK tY k)]] (e9 λl=>au λn o=>V [[f0 (cy l)],[(7,cK as1 o)],[]] (ax (λe=>au λB p=>gR [[t0 e],[(13,cK Nx p)]]) λe=>V [[f0 e],[]] (jC λq=>au λf t=>au λu v=>au λw x=>gR [[t0 q],[(13,cK HA t),(17,oq (gv n.xN f)),(31,cK Sl v),(34,cK C3 x)]])))))
def FI(N:Nat)(a:aL)(b:Int64)(c:Int64):U (aA×Int):=(xu N a).bind λd=>(DG N (b*d) c a.cr).bind λe=>(vj N a e).bind λf=>some (f,(0:Int))
def N2(N:Nat)(d:Int)(a:aL)(c:Int64)(b:Int64):U (aA×Int):=bif (d==4)then(vj N a (c+b)).bind λf=>some (f,(0:Int))else bif (d==5)then(vj N a (c-b)).bind λg=>some (g,(0:Int))else bif (d==6)then(xu N a).bind λh=>(DG N (c*b) h a.cr).bind λi=>(vj N a i).bind λj=>some (j,(0:Int))else bif (d==8)then(vj N a (-c)).bind λe=>some (e,(0:Int))else bif (b.toInt==0)then some (cd,(4:Int))else bif (decide (b.toInt<0))then FI N a (-c) (-b)else FI N a c b
def amM{N k e a b}:KO 177 [Y k,bX e,bx a,bx b] (λr=>.bn [bm r.1,Y r.2]) (N2 N k e a b):=
 fw func177 (V [[],[],[]] (ax (λf=>au λB n=>gR [[t0 f],[(11,oq (ot a b)),(13,cK C3 n)]]) λf=>V [[f0 f],[]] (ax (λg=>au λC o=>gR [[t0 g],[(11,oq (mz a b)),(13,cK C3 o)]]) λg=>V [[f0 g],[]] (ax (λh=>au λE p=>au λF q=>au λG t=>gR [[t0 h],[(11,oq (gv a b)),(16,cK HA p),(25,cK Sl q),(28,cK C3 t)]]) λh=>V [[f0 h],[]] (ax (λi=>au λu v=>gR [[t0 i],[(8,oq (l7 a)),(10,cK C3 v)]]) λi=>V [[f0 i],[]] (bg λw=>Vq 1 [[f0 w],[]] [2,3,5,8] 2 (λ(c:Int64)(d:Int64)=>⟨62,[(2,bx c),(3,bx d),(5,Ad),(8,AM)],SU e⟩) (FI N e) (λH l=>ax (λj=>gm l ((-a),(-b)) [[t0 j],[(5,oq (l7 a))],[(5,oq (l7 b))]]) λj=>gm l (a,b) [[f0 j]]) (λc d=>au λx y=>au λJ z=>au λK A=>gR [[(10,cK HA y),(14,oq (gv c x)),(25,cK Sl z),(28,cK C3 A)]])))))))
def Fi(N:Nat)(c:Int64)(d:Int64):U (aA×Int):=(AA N c d).bind λa=>(bif (decide (a.toInt>2147483647))then some true else some (decide (a.toInt<(-2147483647:Int)))).bind λb=>bif b then some (cd,(3:Int))else some ((⟨a,1⟩:aA),(0:Int))
def NP(N:Nat)(c:Int)(a:Int64)(b:Int64):U (aA×Int):=bif (c==4)then(bif (decide ((a+b).toInt>2147483647))then some true else some (decide ((a+b).toInt<(-2147483647:Int)))).bind λe=>bif e then some (cd,(3:Int))else some ((⟨a+b,1⟩:aA),(0:Int))else bif (c==5)then(bif (decide ((a-b).toInt>2147483647))then some true else some (decide ((a-b).toInt<(-2147483647:Int)))).bind λf=>bif f then some (cd,(3:Int))else some ((⟨a-b,1⟩:aA),(0:Int))else bif (c==6)then(bif (decide ((a*b).toInt>2147483647))then some true else some (decide ((a*b).toInt<(-2147483647:Int)))).bind λg=>bif g then some (cd,(3:Int))else some ((⟨a*b,1⟩:aA),(0:Int))else bif (c==7)then bif (b.toInt==0)then some (cd,(4:Int))else bif (decide (b.toInt<0))then Fi N (-a) (-b)else Fi N a b else(bif (decide ((-a).toInt>2147483647))then some true else some (decide ((-a).toInt<(-2147483647:Int)))).bind λd=>bif d then some (cd,(3:Int))else some ((⟨(-a),1⟩:aA),(0:Int))
def B7(l:I ar):I ar:= .cells gj::l
def am4{N p a b}:KO 178 [Y p,bx a,bx b] (λr=>.bn [bm r.1,Y r.2]) (NP N p a b):=
 fw func178 (V [[],[(5,oq (l7 a))],[],[]] (ax (λe=>V [[t0 e],[(8,oq (ot a b))]] (gG (λq=>[(46,az q)]) (λ_=>(B7 [])) (ax (λf=>gE [(2,bT f)] []) λf=>gE [(2,bF f)] []) λq=>bg λy=>gR [[f0 y],[]])) λe=>V [[f0 e],[]] (ax (λg=>V [[t0 g],[(8,oq (mz a b))]] (gG (λt=>[(46,az t)]) (λ_=>(B7 [])) (ax (λh=>gE [(2,bT h)] []) λh=>gE [(2,bF h)] []) λt=>bg λz=>gR [[f0 z],[]])) λg=>V [[f0 g],[]] (ax (λi=>V [[t0 i],[(8,oq (gv a b))]] (gG (λu=>[(46,az u)]) (λ_=>(B7 [])) (ax (λj=>gE [(2,bT j)] []) λj=>gE [(2,bF j)] []) λu=>bg λA=>gR [[f0 A],[]])) λi=>V [[f0 i],[]] (ax (λk=>V [[t0 k],[]] (bg λB=>Vq 1 [[f0 B],[]] [1,2,6] 1 (λ(v:Int64)(w:Int64)=>⟨50,[(1,bx v),(2,bx w),(6,Ad)],B7 []⟩) (Fi N) (λG x=>ax (λl=>gm x ((-a),(-b)) [[t0 l],[(5,oq (l7 a))],[(5,oq (l7 b))]]) λl=>gm x (a,b) [[f0 l]]) (λv w=>au λH C=>V [[(7,cK Nx C)]] (gG (λc=>[(46,az c)]) (λ_=>(B7 [])) (ax (λn=>gE [(2,bT n)] []) λn=>gE [(2,bF n)] []) λc=>bg λE=>gR [[f0 E],[]])))) λk=>V [[f0 k]] (gG (λd=>[(46,az d)]) (λ_=>(B7 [])) (ax (λo=>gE [(2,bT o)] []) λo=>gE [(2,bF o)] []) λd=>bg λF=>gR [[f0 F],[]]))))))
def OF(N:Nat)(a:aA)(b:aA):U (aA×Int):=(n7 N a).bind λd=>(bif d then (n7 N b).bind λe=>some (!e)else some true).bind λf=>bif f then some (cd,(1:Int))else(xt N ((a.xN*b.xD)+(b.xN*a.xD)) (a.xD*b.xD)).bind λc=>some (c.1,c.2)
def ahP{N a b}:KO 179 [bm a,bm b] (λr=>.bn [bm r.1,Y r.2]) (OF N a b):=
 fw func179 (V [[]] (au λi e=>gG (λd=>[(13,az d)]) (λ_=>(KG a b)) (cU (4,cK ry e) (ax (λc=>au λj f=>gE [(3,bF (cy c))] [(16,cK ry f)]) λc=>gE [(3,bT (dt c))] [])) λd=>bg λg=>au λk h=>gR [[f0 g],[(14,oq (gv a.xN b.xD)),(29,oq (gv b.xN a.xD)),(32,oq (ot (a.xN*b.xD) (b.xN*a.xD))),(47,oq (gv a.xD b.xD)),(49,cK Hu h)]]))
def KQ(N:Nat)(a:aA)(b:aA):U (aA×Int):=(n7 N a).bind λd=>(bif d then (n7 N b).bind λe=>some (!e)else some true).bind λf=>bif f then some (cd,(1:Int))else(xt N ((a.xN*b.xD)-(b.xN*a.xD)) (a.xD*b.xD)).bind λc=>some (c.1,c.2)
def aiz{N a b}:KO 180 [bm a,bm b] (λr=>.bn [bm r.1,Y r.2]) (KQ N a b):=
 fw func180 (V [[]] (au λi e=>gG (λd=>[(13,az d)]) (λ_=>(KG a b)) (cU (4,cK ry e) (ax (λc=>au λj f=>gE [(3,bF (cy c))] [(16,cK ry f)]) λc=>gE [(3,bT (dt c))] [])) λd=>bg λg=>au λk h=>gR [[f0 g],[(14,oq (gv a.xN b.xD)),(29,oq (gv b.xN a.xD)),(32,oq (mz (a.xN*b.xD) (b.xN*a.xD))),(47,oq (gv a.xD b.xD)),(49,cK Hu h)]]))
def Nj(N:Nat)(a:aA)(b:aA):U (aA×Int):=(n7 N a).bind λd=>(bif d then (n7 N b).bind λe=>some (!e)else some true).bind λf=>bif f then some (cd,(1:Int))else(xt N (a.xN*b.xN) (a.xD*b.xD)).bind λc=>some (c.1,c.2)
def am7{N a b}:KO 181 [bm a,bm b] (λr=>.bn [bm r.1,Y r.2]) (Nj N a b):=
 fw func181 (V [[]] (au λi e=>gG (λd=>[(13,az d)]) (λ_=>(KG a b)) (cU (4,cK ry e) (ax (λc=>au λj f=>gE [(3,bF (cy c))] [(16,cK ry f)]) λc=>gE [(3,bT (dt c))] [])) λd=>bg λg=>au λk h=>gR [[f0 g],[(14,oq (gv a.xN b.xN)),(29,oq (gv a.xD b.xD)),(31,cK Hu h)]]))
def Kg(N:Nat)(a:aA)(b:aA):U (aA×Int):=(n7 N a).bind λd=>(bif d then (n7 N b).bind λe=>some (!e)else some true).bind λf=>bif f then some (cd,(1:Int))else(xt N (a.xN*b.xD) (a.xD*b.xN)).bind λc=>some (c.1,c.2)
def aqf{N a b}:KO 182 [bm a,bm b] (λr=>.bn [bm r.1,Y r.2]) (Kg N a b):=
 fw func182 (V [[]] (au λi e=>gG (λd=>[(13,az d)]) (λ_=>(KG a b)) (cU (4,cK ry e) (ax (λc=>au λj f=>gE [(3,bF (cy c))] [(16,cK ry f)]) λc=>gE [(3,bT (dt c))] [])) λd=>bg λg=>au λk h=>gR [[f0 g],[(14,oq (gv a.xN b.xD)),(29,oq (gv a.xD b.xN)),(31,cK Hu h)]]))
def M3(N:Nat)(a:aA):U aA:=(n7 N a).bind λb=>bif b then some (⟨(-a.xN),a.xD⟩:aA)else some cd
def alX{N a}:KO 183 [bm a] bm (M3 N a):=
 fw func183 (au λd b=>V [[],[(4,cK ry b)]] (e9 λc=>gR [[f0 (cy c)],[(8,oq (l7 a.xN))]]))
def DM(N:Nat)(a:Int)(d:aL)(b:aA)(c:aA):U (aA×Int):=(bif (decide (a<4))then some true else some (decide (a>10))).bind λn=>bif n then some (cd,(1:Int))else(mQ N d).bind λo=>bif o then(nR N d b).bind λp=>(bif p then(bif (a !=8)then (nR N d c).bind λq=>some (!q)else some false)else some true).bind λr=>bif r then some (cd,(1:Int))else(bif (a==9)then some true else some (a==10)).bind λf=>bif f then(Gl N d b c).bind λg=>bif ((decide (g>0))==(a==9))then some (c,(0:Int))else some (b,(0:Int))else bif (d.bA==2)then(N2 N a d b.xN c.xN).bind λe=>some (e.1,e.2)else bif (d.bA==3)then(NP N a b.xN c.xN).bind λh=>some (h.1,h.2)else bif (a==4)then(OF N b c).bind λi=>some (i.1,i.2)else bif (a==5)then(KQ N b c).bind λj=>some (j.1,j.2)else bif (a==6)then(Nj N b c).bind λk=>some (k.1,k.2)else bif (a==7)then(Kg N b c).bind λl=>some (l.1,l.2)else(M3 N b).bind λt=>some (t,(0:Int))else some (cd,(10:Int))
def Vk(a:aL)(b:aA)(c:aA)(l:I ar):I ar:= .cells (bX a).cells:: .cells (bm b).cells:: .cells (bm c).cells:: .cells gj::l
def atQ{N q a b c}:KO 103 [Y q,bX a,bm b,bm c] (λr=>.bn [bm r.1,Y r.2]) (DM N q a b c):=
 fw func103 (V [[]] (gG (λt=>[(15,az t)]) (λ_=>(Vk a b c [])) (ax (λf=>gE [(2,bT f)] []) λf=>gE [(2,bF f)] []) λt=>bg λv=>au λQ w=>V [[f0 v],[(4,cK oT w)]] (e9 λx=>V [[f0 (cy x)]] (au λR y=>gG (λu=>[(34,az u)]) (λ_=>(Vk a b c [])) (cU (7,cK tY y) (ax (λg=>cp (4,bF (cy g)) (ax (λd=>au λW z=>gE [(7,bT d)] [(31,cK tY z),(37,bT d)]) λd=>gE [(7,bF d)] [(37,bF d)])) λg=>gE [(4,bT (dt g)),(7,uN)] [])) λu=>bg λA=>V [[f0 A]] (gG (λe=>[(41,az e)]) (λ_=>(Vk a b c [])) (ax (λh=>gE [(2,bT h)] []) λh=>gE [(2,bF h)] []) λe=>ax (λi=>au λB C=>V [[t0 i],[(10,cK afM C)]] (bg λE=>gR [[f0 E],[]])) λi=>V [[f0 i],[]] (ax (λj=>au λF G=>gR [[t0 j],[(19,cK amM G)]]) λj=>V [[f0 j],[]] (ax (λk=>au λaF H=>gR [[t0 k],[(16,cK am4 H)]]) λk=>V [[f0 k],[],[]] (ax (λl=>au λaG J=>gR [[t0 l],[(7,cK ahP J)]]) λl=>V [[f0 l],[]] (ax (λn=>au λaP K=>gR [[t0 n],[(7,cK aiz K)]]) λn=>V [[f0 n],[]] (ax (λo=>au λbw L=>gR [[t0 o],[(7,cK am7 L)]]) λo=>V [[f0 o],[]] (ax (λp=>au λbY M=>gR [[t0 p],[(7,cK aqf M)]]) λp=>au λbN P=>gR [[f0 p],[(4,cK alX P)]])))))))))))
def Ia(N:Nat)(a:gi)(d:ay)(b:gi):U gi:=bif (b.xE !=0)then some b else bif ((a.xT.bA==b.xT.bA)&&((a.xT.bU==b.xT.bU)&&((a.xT.ck==b.xT.ck)&&((a.xT.cr==b.xT.cr)&&((a.xT.cC==b.xT.cC)&&true)))))then(DM N d.aD a.xT a.xV b.xV).bind λc=>bif (c.2 !=0)then some (⟨cd,dX,c.2⟩:gi)else some (⟨c.1,a.xT,0⟩:gi)else some (⟨cd,dX,10⟩:gi)
mutual
def qd(N:Nat):Nat->(I aR)->(I aJ)->ay->U gi
 |0,_,_,_=>none
 |d+1,v1,v2,v3=>bif (decide (v3.aD<=3))then(IP N v1 v2 v3).bind λv4=>some v4 else bif (v3.aD==11)then(v3.bS[0]?).bind λv5=>((vS N d) v1 v2 v5).bind λv6=>bif (v6.2 !=0)then some (⟨cd,dX,v6.2⟩:gi)else bif v6.1 then(v3.bS[1]?).bind λv7=>((qd N d) v1 v2 v7).bind λv8=>some v8 else(v3.bS[2]?).bind λv9=>((qd N d) v1 v2 v9).bind λv10=>some v10 else(v3.bS[0]?).bind λv11=>((qd N d) v1 v2 v11).bind λv12=>bif (v12.xE !=0)then some v12 else bif (v3.aD==12)then(Kz N v12.xT v3.aH v12.xV).bind λaF=>bif (aF.2 !=0)then some (⟨cd,dX,aF.2⟩:gi)else some (⟨aF.1,v3.aH,0⟩:gi)else bif (v3.aD !=8)then(v3.bS[1]?).bind λbw=>((qd N d) v1 v2 bw).bind λbY=>Ia N v12 v3 bY else Ia N v12 v3 v12
def vS(N:Nat):Nat->(I aR)->(I aJ)->ay->U (Bool×Int)
 |0,_,_,_=>none
 |d+1,v1,v2,v3=>bif (decide (v3.aD>=16))then(v3.bS[0]?).bind λv4=>((vS N d) v1 v2 v4).bind λv5=>(bif (v5.2 !=0)then some true else some (v3.aD==18)).bind λv6=>bif v6 then(bif (v5.2==0)then some (!v5.1)else some false).bind λv7=>some (v7,v5.2)else(v3.bS[1]?).bind λv8=>((vS N d) v1 v2 v8).bind λv9=>bif (v9.2 !=0)then some (false,v9.2)else(bif (v3.aD==16)then(bif v5.1 then(bif v9.1 then some true else(bif (v3.aD==17)then some true else some false))else(bif (v3.aD==17)then some v9.1 else some false))else(bif (v3.aD==17)then(bif v5.1 then some true else some v9.1)else some false)).bind λv10=>some (v10,(0:Int))else(v3.bS[0]?).bind λv11=>((qd N d) v1 v2 v11).bind λv12=>bif (v12.xE !=0)then some (false,v12.xE)else(v3.bS[1]?).bind λaF=>((qd N d) v1 v2 aF).bind λaG=>bif (aG.xE !=0)then some (false,aG.xE)else bif ((v12.xT.bA==aG.xT.bA)&&((v12.xT.bU==aG.xT.bU)&&((v12.xT.ck==aG.xT.ck)&&((v12.xT.cr==aG.xT.cr)&&((v12.xT.cC==aG.xT.cC)&&true)))))then(Gl N v12.xT v12.xV aG.xV).bind λaP=>(bif (decide (aP<0))then(bif (v3.aD !=15)then some true else(bif (aP==0)then some (v3.aD !=13)else some false))else(bif (aP==0)then some (v3.aD !=13)else some false)).bind λbw=>some (bw,(0:Int))else some (false,(10:Int))
end
def TN(N:Nat)(a:I aR)(b:I aJ)(c:ay):U gi:=qd N N a b c
def aif(N:Nat):∀d:Nat,(∀{c:I aR}{e:I aJ}{a:ay},KO 57 [O (bp c),O (aT e),aK a] qB (qd N d c e a))/\(∀{c:I aR}{e:I aJ}{a:ay},KO 58 [O (bp c),O (aT e),aK a] (λr=>.bn [az r.1,Y r.2]) (vS N d c e a)):=by
 intro d
 induction d with
 |zero=>exact⟨(by intro c e a r J;rw[qd]at J;cases J),(by intro c e a r J;rw[vS]at J;cases J)⟩
 |succ d ih=>
  have o:= @ih.1;have z:= @ih.2;refine⟨?_,?_⟩;{intro c e a;rw[qd];exact fw func57 (V [[],[]] (ax (λh=>au λv4 A=>gR [[(0,bT h)],[(10,cK ao2 A)]]) λh=>V [[(0,bF h)],[]] (ax (λp=>au λv5 q=>au λB h5=>V [[(0,bT p)],[(13,oE (k:=0) (gz q)),(19,cK z h5)],[]] (e7 λ_=>ax (λi=>au λC h8=>au λv8 E=>gR [[(0,bT i)],[(13,oE (k:=1) (gz h8)),(19,cK o E)]]) λi=>au λv9 F=>au λj G=>gR [[(0,bF i)],[(13,oE (k:=2) (gz F)),(19,cK o G)]])) λp=>au λH t=>au λb f=>V [[(0,bF p)],[(13,oE (k:=0) (gz t)),(19,cK o f)],[]] (e7 λ_=>ax (λg=>au λaF l=>V [[(0,bT g)],[(19,cK apy l)],[]] (bg λn=>gR [[(0,bF n)],[]])) λg=>kO 1 [[(0,bF g)],[],[]] [5,6,9,12] 4 (λ(y:gi)=>⟨129,[(5,Ad),(6,AM),(9,D5),(12,AU)],[.cells (aK a).cells,.cells Pn,.cells (qB b).cells,.cells (qB y).cells]⟩) (Ia N b a) (λf1 aI=>ax (λu=>au λK L=>au λbY M=>gm aI bY [[(0,bT u)],[(13,oE (k:=1) (gz L)),(19,cK o M)]]) λu=>gm aI b [[(0,bF u)]]) (λy=>V [[]] (e7 λ_=>e9 λeI=>au λaP P=>V [[(0,bF (cy eI))],[(25,cK atQ P)],[]] (bg λQ=>gR [[(0,bF Q)],[]])))))))}
  intro c e a;rw[vS];exact fw func58 (V [[],[]] (ax (λh=>au λv4 A=>au λv5 p=>V [[(0,bT h)],[(13,oE (k:=0) (gz A)),(19,cK z p)]] (gG (λB=>[(34,az B)]) (λ_=>(GY a)) (ax (λq=>gE [(2,bT q)] []) λq=>gE [(2,bF q)] []) λB=>ax (λR=>V [[(0,bT R)]] (gG (λC=>[(6,az C),(7,Y v5.2)]) (λ_=>(GY a)) (ax (λi=>gE [(2,bT i)] []) λi=>gE [(2,bF i)] []) λC=>gR [])) λR=>au λv8 E=>au λv9 F=>V [[(0,bF R)],[(13,oE (k:=1) (gz E)),(19,cK z F)],[]] (bg λG=>V [[(0,bF G)]] (gG (λj=>[(6,az j),(7,Y 0)]) (λ_=>(GY a)) (ax (λt=>cp (3,bT t) (ax (λf=>cp (6,bT f) (ax (λW=>gE [(9,bT W),(13,uN),(15,uN)] []) λW=>cp (9,bF W) (ax (λg=>gE [(13,bT g),(15,bT f)] [(52,bT f),(55,bT g)]) λg=>gE [(13,bF g),(15,uN)] [(55,bF g)]))) λf=>cp (6,bF f) (cp (9,bF rfl) (ax (λl=>gE [(13,bT l),(15,bF f)] [(52,bF f),(55,bT l)]) λl=>gE [(13,bF l),(15,uN)] [(55,bF l)])))) λt=>cp (3,bF t) (cp (6,bF rfl) (cp (9,bF rfl) (ax (λn=>cp (13,bT n) (cU (55,bT n) (ax (λv=>gE [(15,bT v)] [(52,bT v)]) λv=>gE [(15,bF v)] [(52,bF v)]))) λn=>gE [(13,bF n),(15,uN)] [(55,bF n)])))) λj=>gR [])))) λh=>au λH P=>au λb Q=>V [[(0,bF h)],[(13,oE (k:=0) (gz P)),(19,cK o Q)],[]] (bg λu=>au λaF L=>au λy M=>V [[(0,bF u)],[(13,oE (k:=1) (gz L)),(19,cK o M)],[]] (e7 λ_=>e9 λj8=>au λaP gh=>V [[(0,bF (cy j8))],[(19,cK afM gh)]] (gG (λK=>[(6,az K),(7,Y 0)]) (λ_=>[.cells (aK a).cells,.cells (qB b).cells,.cells (qB y).cells]) (ax (λjU=>cp (2,bT jU) (ax (λmc=>gE [(7,bT mc),(10,uN)] []) λmc=>cp (7,bF mc) (ax (λw=>gE [(10,bT w)] [(43,bT w)]) λw=>gE [(10,bF w)] [(43,bF w)]))) λjU=>cp (2,bF jU) (cp (7,bF rfl) (ax (λx=>gE [(10,bT x)] [(43,bT x)]) λx=>gE [(10,bF x)] [(43,bF x)]))) λK=>gR [])))))
def art{N a b c}:KO 57 [O (bp a),O (aT b),aK c] qB (TN N a b c):=(aif N N).1
def Kx(N:Nat):I bD->Nat->U Bool
 |[],_=>some false
 |v4::a,b=>bif (decide ((v4.xL.length:Int)>20))then some true else(Kx N a (b+1))
def Th(N:Nat)(a:I bD):U Bool:=Kx N a 0
def aiO{N a}:KO 36 [O (fA a)] az (Th N a):=
 fw func36 (V [[],[]] (gT m9 0 a λe=>dP 1 [] [0,3] 0 (λc=>⟨17,[(0,O (fA a)),(3,Y c)],[]⟩) (λc b f=>gR [[(7,oL a fX)],[f0 (bI b)],[]]) (λc g j b f h=>V [[(7,oL a fX)],[t0 (bH b)],[(7,oE (o7 (aY b))),(16,oL g.xL jH)]] (bg λi=>gb h () [[f0 i],[(5,oq (bV b rfl e))]] b))))
def IB(N:Nat)(a:bZ)(b:U Bool):Nat->Int->U Bool
 |0,_=>none
 |e+1,c=>bif (decide (c<(aE ((a.aQ.length:Int)+(a.cl.length:Int)))))then bif (Nat.ble ((0+a.aQ.length)*48) 140737488355328)then bif (Nat.ble ((a.aQ.length+a.cl.length)*48) 140737488355328)then bif (decide ((0:Int)<=c))then((a.aQ++a.cl)[(c).toNat]?).bind λd=>bif (decide ((d.eH.xL.length:Int)>20))then some true else(λf=>IB N a b e f) (aE (c+(1:Int)))else none else none else none else b
def FZ(N:Nat)(b:Int):I bZ->Nat->U Bool
 |[],_=>some false
 |a::d,c=>(bif (decide ((a.aQ.length:Int)>12))then some true else(bif (decide ((a.cl.length:Int)>12))then some true else (TC N a.cw b).bind λe=>some (decide (e>b)))).bind λf=>bif f then some true else IB N a (FZ N b d (c+1)) N (0:Int)
def Nn(N:Nat)(c:Int)(d:bo):I fm->Nat->U Bool
 |[],_=>FZ N c d.aM 0
 |v10::a,e=>(bif (decide ((v10.aQ.length:Int)>12))then some true else (Th N v10.aQ).bind λb=>some b).bind λf=>bif f then some true else(Nn N c d a (e+1))
def J3(N:Nat)(b:Int)(a:bo):I iu->Nat->U Bool
 |[],_=>Nn N b a a.bu 0
 |v6::c,d=>bif (decide ((v6.bO.xL.length:Int)>20))then some true else(J3 N b a c (d+1))
def GZ(N:Nat)(a:bo)(b:Int):U Bool:=(bif (decide ((a.bG.length:Int)>12))then some true else(bif (decide ((a.dU.length:Int)>12))then some true else(bif (decide ((a.bu.length:Int)>12))then some true else(bif (decide ((a.aM.length:Int)>12))then some true else some (decide ((a.dM.length:Int)>12)))))).bind λc=>bif c then some true else J3 N b a a.dU 0
def vG(a:bo)(l:I ar):I ar:= .cells (c9 a).cells::l
def ai5{N a d}:KO 13 [c9 a,Y d] az (GZ N a d):=
 fw func13 (V [[]] (gG (λx=>[(38,az x)]) (λ_=>(vG a [])) (cU (7,oL a.bG fB) (ax (λk=>gE [(4,bT k),(10,bT rfl),(16,bT rfl),(22,bT rfl)] []) λk=>cp (4,bF k) (cU (22,oL a.dU qe) (ax (λl=>gE [(10,bT l),(16,bT rfl),(22,bT rfl)] []) λl=>cp (10,bF l) (cU (40,oL a.bu mP) (ax (λn=>gE [(16,bT n),(22,bT rfl)] []) λn=>cp (16,bF n) (cU (58,oL a.aM j6) (ax (λo=>gE [(22,bT o)] []) λo=>gE [(22,bF o)] [(76,oL a.dM fB)])))))))) λx=>e7 λ_=>gB F7 0 1 a.dU λA=>dP 1 [] [1,2,5] 1 (λp=>⟨135,[(1,Y d),(2,Ad),(5,Y p)],vG a []⟩) (λp f B=>V [[(10,oL a.dU qe)],[f0 (bI f)],[]] (gB Co 0 2 a.bu λC=>dP 2 [] [1,2,6] 1 (λq=>⟨135,[(1,Y d),(2,Ad),(6,Y q)],vG a []⟩) (λq e E=>V [[(10,oL a.bu mP)],[f0 (bI e)],[]] (gB vV 0 3 a.aM λF=>dP 3 [] [1,2,7] 1 (λc=>⟨135,[(1,Y d),(2,Ad),(7,Y c)],vG a []⟩) (λc g G=>gR [[(10,oL a.aM j6)],[f0 (bI g)],[]]) (λc b H g G J=>V [[(10,oL a.aM j6)],[t0 (bH g)],[(10,oE (ju (aY g)))]] (gG (λy=>[(108,az y)]) (λ_=>(vG a (SF b))) (cU (7,oL b.aQ gw) (ax (λr=>gE [(4,bT r),(10,bT rfl)] []) λr=>cp (4,bF r) (cU (22,oL b.cl gw) (ax (λt=>gE [(10,bT t)] []) λt=>au λbw K=>gE [(10,bF t)] [(43,cK ajD K)])))) λy=>bg λL=>Mr 4 [[f0 L],[]] [1,2,7,8,9] 2 (λ(j:Int)=>⟨135,[(1,Y d),(2,Ad),(7,Y c),(8,AM),(9,Y j)],vG a (SF b)⟩) (IB N b (FZ N d H (c+1))) (λbN j f4 M=>V [[(10,oL b.aQ gw),(19,oL b.cl gw)]] (ax (λu=>V [[t0 u]] (cH λP=>cH λQ=>cH λR=>au λh W=>li (λ_=>(MP 3 bB [(10,AU)] (vG a [.cells (fb b).cells,.front 80 3 (b.aQ++b.cl).length,.cells (Ug h).cells]) ⟨[(10,oZ nO b.aQ P),(19,oA nO b.aQ b.cl Q),(25,⟨_,_,.el (xs:=dAxiss (b.aQ++b.cl)) (i:=j) (Vd R) (m7 W)⟩)],by kernel_rfl⟩ ·)) (V [[(10,oL h.eH.xL jH)]] (bg λj8=>rV M (aE (j+(1:Int))) [[f0 j8],[]])))) λu=>gb J () [[f0 u],[(5,oq (bV g rfl F))]] g)))))) (λq v v11 e E dH=>V [[(10,oL a.bu mP)],[t0 (bH e)]] (gG (λz=>[(78,az z)]) (λ_=>(vG a [])) (cU (10,oE (pc (aY e))) (cU (19,oL v.aQ fX) (ax (λw=>gE [(8,bT w)] []) λw=>au λv21 jU=>gE [(8,bF w)] [(37,oE (pc (aY e))),(46,cK aiO jU)]))) λz=>bg λlS=>gb dH () [[f0 lS],[(5,oq (bV e rfl C))]] e)))) (λp v6 v7 f B aI=>V [[(10,oL a.dU qe)],[t0 (bH f)],[(10,oE (HY (aY f))),(22,oL v6.bO.xL jH)]] (bg λph=>gb aI () [[f0 ph],[(5,oq (bV f rfl A))]] f))))
def Ar(N:Nat)(a:so)(b:I so):U Int:=(zQ N a).bind λc=>bif c then(wq N b a).bind λd=>bif d then some (8:Int)else some (0:Int)else some (7:Int)
def LK{N a b}:KO 208 [dj a,O (cD b)] Y (Ar N a b):=
 fw func208 (au λh c=>V [[],[(4,cK J4 c)]] (e9 λe=>au λi f=>V [[f0 (cy e)],[(7,cK Ed f)]] (bg λg=>gR [[f0 g],[]])))
def NI(N:Nat)(a:bo):I so->Nat->U Int
 |[],_=>some (0:Int)
 |d::e,b=>bif (decide (((b:Int)).toNat<=a.bG.length))then(Ar N d ((a.bG.take ((b:Int)).toNat).drop 0)).bind λc=>bif (c !=0)then some c else(NI N a e (b+1))else none
def Fz(N:Nat)(a:bo):U Int:=(bif (decide ((a.bG.length:Int)>64))then some true else(bif (decide ((a.bu.length:Int)>64))then some true else(bif (decide ((a.aM.length:Int)>64))then some true else(bif (decide ((a.dM.length:Int)>64))then some true else some (decide ((a.dU.length:Int)>256)))))).bind λb=>bif b then some (2:Int)else NI N a a.bG 0
def akP{N a}:KO 121 [c9 a] Y (Fz N a):=
 fw func121 (V [[]] (gG (λh=>[(32,az h)]) (λ_=>(L1 a)) (cU (7,oL a.bG fB) (ax (λd=>gE [(4,bT d),(10,bT rfl),(16,bT rfl),(22,bT rfl)] []) λd=>cp (4,bF d) (cU (22,oL a.bu mP) (ax (λe=>gE [(10,bT e),(16,bT rfl),(22,bT rfl)] []) λe=>cp (10,bF e) (cU (40,oL a.aM j6) (ax (λf=>gE [(16,bT f),(22,bT rfl)] []) λf=>cp (16,bF f) (cU (58,oL a.dM fB) (ax (λg=>gE [(22,bT g)] []) λg=>gE [(22,bF g)] [(76,oL a.dU qe)])))))))) λh=>e7 λ_=>gB iG 0 0 a.bG λi=>dP 1 [] [1,3] 1 (λc=>⟨53,[(1,Ad),(3,Y c)],L1 a⟩) (λc b j=>gR [[(10,oL a.bG fB)],[f0 (bI b)],[]]) (λc p q b j k=>cH λl=>au λr n=>V [[(10,oL a.bG fB)],[t0 (bH b)],[(10,oE (k9 (aY b))),(25,⟨_,_,.sub (xs:=cD a.bG) (lo:=0) (hi:=(c:Int)) (by decide) (WJ _) (Vd (dO (Int.natCast_nonneg _))) (by rw[fB];exact(Vd l)) s9 En⟩),(28,cK LK n)],[]] (bg λo=>gb k () [[f0 o],[(5,oq (bV b rfl i))]] b))))
def J5(N:Nat)(b:I so)(c:I so):I dZ->Nat->U Bool
 |[],_=>some true
 |v6::d,e=>(wq N b v6.aC).bind λf=>(bif f then some false else (wq N c v6.aC).bind λg=>some (!g)).bind λa=>bif a then some false else(J5 N b c d (e+1))
def Ir(N:Nat)(a:bD)(b:I so)(c:I so):U Bool:=J5 N b c a.xL 0
def Vn{N a e f}:KO 210 [dW a,O (cD e),O (cD f)] az (Ir N a e f):=
 fw func210 (V [[],[]] (gB vz 0 1 a.xL λi=>dP 1 [] [1,2,3,7] 1 (λg=>⟨35,[(1,O (cD e)),(2,O (cD f)),(3,Ad),(7,Y g)],Qf a⟩) (λg b j=>gR [[(10,oL a.xL jH)],[f0 (bI b)],[]]) (λg p q b j k=>V [[(10,oL a.xL jH)],[t0 (bH b)]] (au λr l=>gG (λc=>[(34,az c)]) (λ_=>(Qf a)) (cU (13,oE (lO (aY b))) (cU (22,cK Ed l) (ax (λh=>gE [(9,bF (cy h))] []) λh=>au λt n=>gE [(9,bT (dt h))] [(43,oE (lO (aY b))),(52,cK Ed n)]))) λc=>bg λo=>gb k () [[f0 o],[(5,oq (bV b rfl i))]] b))))
def Bk(N:Nat)(a:bD)(b:I so):U Int:=(wY N a).bind λc=>bif c then(Ir N a [] b).bind λd=>bif d then some (0:Int)else some (9:Int)else some (1:Int)
def S6{N a b}:KO 122 [dW a,O (cD b)] Y (Bk N a b):=
 fw func122 (au λh c=>V [[],[(4,cK DR c)]] (e9 λe=>au λi f=>V [[f0 (cy e)],[(7,cK Vn f)]] (nc λg=>gR [[t0 (dt g)],[]])))
def ah1:gi:=⟨cd,dX,(0:Int)⟩
def Mv(N:Nat)(b:I so):I bD->Nat->U Int
 |[],_=>some (0:Int)
 |c::d,e=>(Bk N c b).bind λa=>bif (a !=0)then some a else(Mv N b d (e+1))
def Pj(N:Nat)(a:fm)(c:I so)(d:I so):U Int:=(Ar N a.aC d).bind λb=>bif (b !=0)then some b else(mQ N a.aH).bind λe=>bif e then bif (decide ((a.aQ.length:Int)>6))then some (11:Int)else Mv N c a.aQ 0 else some (10:Int)
def ahh{N a c f}:KO 123 [pz a,O (cD c),O (cD f)] Y (Pj N a c f):=
 fw func123 (au λr g=>V [[],[(10,cK LK g)],[]] (bg λh=>au λt i=>V [[f0 h],[(7,cK oT i)]] (e9 λj=>V [[f0 (cy j)],[(7,oL a.aQ fX)]] (e7 λ_=>gB m9 0 6 a.aQ λk=>dP 1 [] [1,3,8] 1 (λe=>⟨42,[(1,O (cD c)),(3,Ad),(8,Y e)],[.cells (pz a).cells]⟩) (λe b l=>gR [[(10,oL a.aQ fX)],[f0 (bI b)],[]]) (λe u v b l n=>au λo p=>V [[(10,oL a.aQ fX)],[t0 (bH b)],[(10,oE (o7 (aY b))),(19,cK S6 p)],[]] (bg λq=>gb n () [[f0 q],[(5,oq (bV b rfl k))]] b))))))
def OM(N:Nat)(c:I so):I dF->Nat->(I so)->U Int
 |[],_,_=>some (0:Int)
 |a::f,g,b=>(Ar N a.aC b).bind λd=>bif (d !=0)then some d else(Bk N a.eH c).bind λe=>bif (e !=0)then some e else bif (Nat.ble ((b.length+1)*16) 140737488355328)then(λh=>OM N c f (g+1) h) (b++[a.aC])else none
def K9(N:Nat)(b:I dF)(a:I so):U Int:=bif (Nat.ble ((0+a.length)*16) 140737488355328)then OM N a b 0 a else none
def agT{N b e}:KO 211 [O (dAxiss b),O (cD e)] Y (K9 N b e):=
 fw func211 (cH λh=>V [[],[(7,oZ iG e h)],[]] (gT nO 0 b λi=>ft 1 [] [0,1,5,6] 1 (λf(c:I so)=>⟨46,[(0,O (dAxiss b)),(1,O (cD e)),(5,.own 0 (cD c)),(6,Y f)],[.front 9 1 c.length]⟩) (λf c a j=>gR [[(7,oL b gw)],[f0 (bI a)],[]]) (λf g r c a j k=>au λt l=>V [[(7,oL b gw)],[t0 (bH a)],[(7,oE (m7 (aY a))),(19,cK LK l)],[]] (bg λn=>au λu o=>V [[f0 n],[(7,oE (m7 (aY a))),(19,cK S6 o)],[]] (bg λp=>cH λq=>gb k (c++[g.aC]) [[f0 p],[(10,oE (m7 (aY a))),(22,oA iG c ([g.aC]) q)],[(5,oq (bV a rfl i))]] a)))))
def MT(N:Nat)(a:bZ):U Int:=(bif (decide (a.dG<0))then some true else some (decide (a.dG>5))).bind λb=>bif b then some (1:Int)else(bif (a.dG==0)then some true else some (a.dG==5)).bind λc=>(bif (c==((a.cl.length:Int)==0))then(bif (a.dG==5)then some ((a.aQ.length:Int)==0)else some false)else some true).bind λd=>bif d then some (11:Int)else some (0:Int)
def ali{N a}:KO 212 [fb a] Y (MT N a):=
 fw func212 (V [[]] (gG (λf=>[(11,az f)]) (λ_=>(SF a)) (ax (λc=>gE [(3,bT c)] []) λc=>gE [(3,bF c)] []) λf=>bg λi=>V [[f0 i]] (gG (λg=>[(3,az g)]) (λ_=>(SF a)) (ax (λd=>gE [(3,bT d)] []) λd=>gE [(3,bF d)] []) λg=>gG (λh=>[(36,az h)]) (λ_=>(SF a)) (cU (10,oL a.cl gw) (ax (λe=>cp (6,bF (cy e)) (ax (λb=>gE [(10,bT b)] [(40,oL a.aQ gw),(46,bT b)]) λb=>gE [(10,bF b)] [(46,bF b)])) λe=>gE [(6,bT (dt e)),(10,uN)] [])) λh=>bg λj=>gR [[f0 j],[]])))
def Gj(N:Nat):I dF->Nat->(I so)->U (I so)
 |[],_,a=>some a
 |c::b,d,a=>bif (Nat.ble ((a.length+1)*16) 140737488355328)then(λe=>Gj N b (d+1) e) (a++[c.aC])else none
def Fb(N:Nat)(b:bZ):I dF->Nat->(I so)->U (I so)
 |[],_,a=>Gj N b.cl 0 a
 |v4::c,d,a=>bif (Nat.ble ((a.length+1)*16) 140737488355328)then(λe=>Fb N b c (d+1) e) (a++[v4.aC])else none
def Ns(N:Nat)(a:bZ):U (I so):=Fb N a a.aQ 0 []
def ap2{N b}:KO 214 [fb b] (λr=>.d (.sl (cD r))) (Ns N b):=
 fw func214 (V [[],[],[]] (li (λ_=>(mR 3 9 1 [] (.inr (by kernel_rfl)) ·)) (gB nO 0 6 b.aQ λk=>ft 1 [] [1,3,4] 2 (λg(c:I so)=>⟨39,[(1,Ad),(3,.own 1 (cD c)),(4,Y g)],U1 b c.length⟩) (λg c e l=>V [[(10,oL b.aQ gw)],[f0 (bI e)],[]] (gB nO 0 7 b.cl λn=>ft 2 [] [1,3,5] 2 (λh(a:I so)=>⟨39,[(1,Ad),(3,.own 1 (cD a)),(5,Y h)],U1 b a.length⟩) (λh a f o=>gR [[(10,oL b.cl gw)],[f0 (bI f)],[]]) (λh i p a f o q=>cH λt=>gb q (a++[i.aC]) [[(10,oL b.cl gw)],[t0 (bH f)],[(13,oE (m7 (aY f))),(25,oA iG a ([i.aC]) t)],[(5,oq (bV f rfl n))]] f))) (λg j w c e l u=>cH λv=>gb u (c++[j.aC]) [[(10,oL b.aQ gw)],[t0 (bH e)],[(13,oE (m7 (aY e))),(25,oA iG c ([j.aC]) v)],[(5,oq (bV e rfl k))]] e))))
def Oy(N:Nat)(a:I so)(b:bo):I bD->Nat->U Int
 |[],_=>some (0:Int)
 |v6::c,d=>(Ir N v6 a b.bG).bind λe=>bif e then(Oy N a b c (d+1))else some (9:Int)
def NA(N:Nat)(a:bo)(b:I so)(c:I bD):U Int:=Oy N b a c 0
def atP{N c e a}:KO 301 [c9 c,O (cD e),O (fA a)] Y (NA N c e a):=
 fw func301 (V [[],[]] (gT m9 2 a λg=>dP 1 [] [1,2,3,7] 1 (λf=>⟨23,[(1,O (cD e)),(2,O (fA a)),(3,Ad),(7,Y f)],L1 c⟩) (λf b h=>gR [[(7,oL a fX)],[f0 (bI b)],[]]) (λf l n b h i=>au λo j=>V [[(7,oL a fX)],[t0 (bH b)],[(7,oE (o7 (aY b))),(22,cK Vn j)]] (e9 λk=>gb i () [[f0 (cy k)],[(5,oq (bV b rfl g))]] b))))
def G9(N:Nat)(c:bZ):I dF->Nat->(I bD)->U (aL×(I bD)×Bool)
 |[],_,a=>some (c.aH,a,true)
 |d::e,b,a=>bif (Nat.ble ((a.length+1)*32) 140737488355328)then(λf=>G9 N c e (b+1) f) (a++[d.eH])else none
def MJ(N:Nat)(c:so):I bZ->Nat->U (aL×(I bD)×Bool)
 |[],_=>some (dX,[],false)
 |a::b,d=>bif (bL a.aC==bL c)then G9 N a a.aQ 0 []else(MJ N c b (d+1))
def Il(N:Nat)(a:so)(c:bo):I fm->Nat->U (aL×(I bD)×Bool)
 |[],_=>MJ N a c.aM 0
 |b::d,e=>bif (bL b.aC==bL a)then some (b.aH,b.aQ,true)else(Il N a c d (e+1))
def GQ(N:Nat)(a:bo)(b:so):U (aL×(I bD)×Bool):=Il N b a a.bu 0
def Tm(a:bo)(l:I ar):I ar:= .cells (c9 a).cells:: .cells qz::l
def SM{N a h}:KO 125 [c9 a,dj h] (λr=>.bn [bX r.1,O (fA r.2.1),az r.2.2]) (GQ N a h):=
 fw func125 (V [[],[]] (gB Co 0 2 a.bu λt=>dP 1 [] [1,2,4,7] 2 (λk=>⟨85,[(1,dj h),(2,Ad),(4,AM),(7,Y k)],Tm a []⟩) (λk c u=>V [[(10,oL a.bu mP)],[f0 (bI c)],[]] (gB vV 0 3 a.aM λv=>dP 2 [] [1,2,4,8] 2 (λi=>⟨85,[(1,dj h),(2,Ad),(4,AM),(8,Y i)],Tm a []⟩) (λi b w=>gR [[(10,oL a.aM j6)],[f0 (bI b)],[]]) (λi l x b w y=>V [[(10,oL a.aM j6)],[t0 (bH b)],[(10,oE (ju (aY b)))]] (ax (λn=>V [[t0 n],[],[]] (li (λ_=>(mR 9 48 2 [] (.inr (by kernel_rfl)) ·)) (Is (λ_=>(EK 0 3 (iy a.aM) (by kernel_rfl) ·)) λz=>have A:=td gw (Hm (j:=6) (d:= .sl (dAxiss l.aQ)) z (ju (aY b)) rfl);ft 3 [] [2,4,8,9,10] 3 (λe(f:I bD)=>⟨85,[(2,Ad),(4,AM),(8,Y i),(9,.own 2 (fA f)),(10,Y e)],Tm a [.front 48 2 f.length]⟩) (λe f g B=>gR [[(13,oE (ju (aY b))),(22,oL l.aQ gw)],[f0 (bI g)],[(10,oE (ju (aY b)))]]) (λe p G f g B C=>cH λE=>gb C (f++[p.eH]) [[(13,oE (ju (aY b))),(22,oL l.aQ gw)],[t0 (bH g)],[(13,oE (ju (aY b))),(25,oE (m7 (aY g))),(37,oA m9 f ([p.eH]) E)],[(5,oq (bV g rfl A))]] g)))) λn=>gb y () [[f0 n],[(5,oq (bV b rfl v))]] b)))) (λk q H c u F=>V [[(10,oL a.bu mP)],[t0 (bH c)],[(10,oE (pc (aY c)))]] (ax (λo=>V [[t0 o]] (li (λ_=>(MP 3 bB [(5,O (fA q.aQ)),(6,az true)] [.cells (c9 a).cells,.cells (bX q.aH).cells] ⟨[(10,oE (pc (aY c))),(28,oE (pc (aY c)))],by kernel_rfl⟩ ·)) (gR []))) λo=>gb F () [[f0 o],[(5,oq (bV c rfl t))]] c))))
def Jy(N:Nat)(f:aL×(I bD)×Bool)(e:I so)(b:bo):I c7->Nat->U (aL×Int)
 |[],_=>some (f.1,(0:Int))
 |c::g,h=>bif (bL c.dc==bL (bs []))then(Ir N c.bO e b.bG).bind λi=>bif i then(Jy N f e b g (h+1))else some (dX,(9:Int))else(GQ N b c.dc).bind λa=>bif a.2.2 then bif (a.1.bA !=3)then some (dX,(10:Int))else bif ((a.2.1.length:Int) !=(c.cP.length:Int))then some (dX,(11:Int))else(NA N b e c.cP).bind λd=>bif (d !=0)then some (dX,d)else(Jy N f e b g (h+1))else some (dX,(9:Int))
def Mw(N:Nat)(c:bo)(d:I so)(a:ay):U (aL×Int):=(GQ N c a.aC).bind λb=>bif b.2.2 then bif ((b.2.1.length:Int) !=(a.xIdx.length:Int))then some (dX,(11:Int))else Jy N b d c a.xIdx 0 else some (dX,(9:Int))
def anx{N c e b}:KO 302 [c9 c,O (cD e),aK b] (λr=>.bn [bX r.1,Y r.2]) (Mw N c e b):=
 fw func302 (au λi l=>V [[],[(10,cK SM l)],[]] (e9 λn=>V [[f0 (cy n)],[(4,oL i.2.1 fX),(13,oL b.xIdx gq)]] (e7 λ_=>gB rJ 1 11 b.xIdx λj=>dP 1 [] [1,3,5,6,8,11] 4 (λf=>⟨90,[(1,O (cD e)),(3,Ad),(5,AM),(6,D5),(8,AU),(11,Y f)],[.cells (c9 c).cells,.cells (aK b).cells,.cells qz,.cells (bX i.1).cells]⟩) (λf a o=>gR [[(10,oL b.xIdx gq)],[f0 (bI a)],[]]) (λf p B a o k=>V [[(10,oL b.xIdx gq)],[t0 (bH a)],[(10,oE (jh (aY a)))],[]] (ax (λg=>au λC q=>V [[t0 g],[(16,cK Vn q)]] (e9 λt=>gb k () [[f0 (cy t)],[(5,oq (bV a rfl j))]] a)) λg=>au λh u=>V [[f0 g],[(10,cK SM u)],[]] (e9 λv=>V [[f0 (cy v)],[]] (bg λw=>V [[f0 w],[(4,oL h.2.1 fX),(13,oL p.cP fX)]] (bg λx=>au λy z=>V [[f0 x],[(13,cK atP z)],[]] (bg λA=>gb k () [[f0 A],[(5,oq (bV a rfl j))]] a)))))))))
def pP(N:Nat)(b:ay)(i:bo)(j:I so)(e:bo->(I so)->ay->U (aL×Int)):I ay->Nat->(I aL)->U (aL×Int)
 |[],_,c=>(bif (b.aD==1)then some true else some (b.aD==12)).bind λn=>bif n then some (b.aH,(0:Int))else bif (b.aD==2)then(NA N i j [b.bO]).bind λk=>some ((⟨3,0,0,0,0⟩:aL),k)else bif (b.aD==3)then(Mw N i j b).bind λf=>some (f.1,f.2)else bif (b.aD==11)then(c[1]?).bind λa=>(c[2]?).bind λg=>bif ((a.bA==g.bA)&&((a.bU==g.bU)&&((a.ck==g.ck)&&((a.cr==g.cr)&&((a.cC==g.cC)&&true)))))then some (a,(0:Int))else some (dX,(10:Int))else bif (b.aD==8)then(c[0]?).bind λo=>some (o,(0:Int))else bif (decide (b.aD>=16))then some (dX,(0:Int))else(c[0]?).bind λd=>(c[1]?).bind λh=>bif ((d.bA==h.bA)&&((d.bU==h.bU)&&((d.ck==h.ck)&&((d.cr==h.cr)&&((d.cC==h.cC)&&true)))))then bif (decide (b.aD>=13))then some (dX,(0:Int))else some (d,(0:Int))else some (dX,(10:Int))
 |v6::p,q,c=>(e i j v6).bind λl=>bif (l.2 !=0)then some (dX,l.2)else bif (Nat.ble ((c.length+1)*40) 140737488355328)then(λr=>pP N b i j e p (q+1) r) (c++[l.1])else none
def tQ(N:Nat):Nat->bo->(I so)->ay->U (aL×Int)
 |0,_,_,_=>none
 |d+1,b,c,a=>pP N a b c (tQ N d) a.bS 0 []
def IN(N:Nat)(a:bo)(b:I so)(c:ay):U (aL×Int):=tQ N N a b c
abbrev T2:=λa b c=>([.cells (c9 a).cells,.cells (aK b).cells,.cells qz,.front 34 5 c]:List ar)
def ak7(N:Nat):∀d:Nat,(∀{c:bo}{f:I so}{a:ay},KO 274 [c9 c,O (cD f),aK a] (λr=>.bn [bX r.1,Y r.2]) (tQ N d c f a)):=by
 intro d
 induction d with
 |zero=>intro c f a r J;rw[tQ]at J;cases J
 |succ d ih=>
  have g:= @ih;intro c f a;rw[tQ];exact fw func274 (V [[],[],[]] (li (λ_=>(mR 8 34 5 [] (.inr (by kernel_rfl)) ·)) (gB o0 1 12 a.bS λv=>ft 1 [] [1,3,5,6,8,9] 4 (λh(b:I aL)=>⟨112,[(1,O (cD f)),(3,Ad),(5,AM),(6,D5),(8,.own 3 (pJ b)),(9,Y h)],T2 c a b.length⟩) (λh b e w=>V [[(10,oL a.bS ji)],[(0,bF (bI e))]] (gG (λp=>[(38,az p)]) (λ_=>(T2 c a b.length)) (ax (λi=>gE [(3,bT i)] []) λi=>gE [(3,bF i)] []) λp=>e7 λ_=>ax (λj=>au λx y=>gR [[(0,bT j)],[(19,cK atP y)]]) λj=>V [[(0,bF j)],[]] (ax (λl=>au λz A=>gR [[(0,bT l)],[(10,cK anx A)]]) λl=>V [[(0,bF l)],[]] (ax (λn=>au λB q=>au λW C=>V [[(0,bT n)],[(4,oE (k:=1) (mW q)),(13,oE (k:=2) (mW C))]] (e9 λE=>gR [[(0,bF (cy E))],[(4,oE (k:=1) (mW q))]])) λn=>V [[(0,bF n)],[]] (ax (λo=>au λaG F=>gR [[(0,bT o)],[(4,oE (k:=0) (mW F))]]) λo=>V [[(0,bF o)],[]] (bg λG=>au λaP t=>au λbw H=>V [[(0,bF G)],[(4,oE (k:=0) (mW t)),(13,oE (k:=1) (mW H))]] (e9 λK=>V [[(0,bF (cy K))],[]] (bg λL=>gR [[(0,bF L)],[(4,oE (k:=0) (mW t))]])))))))) (λh v6 v7 b e w M=>au λu P=>V [[(10,oL a.bS ji)],[(0,bT (bH e))],[(16,oE (gz (aY e))),(22,cK g P)],[]] (bg λQ=>cH λR=>gb M (b++[u.1]) [[(0,bF Q)],[(10,oA af0 b ([u.1]) R)],[(5,oq (bV e rfl v))]] e)))))
def ap3{N a b c}:KO 274 [c9 a,O (cD b),aK c] (λr=>.bn [bX r.1,Y r.2]) (IN N a b c):=(ak7 N N)
def wI(N:Nat)(d:bo)(e:I so)(a:ay):U (aL×Int):=(H9 N a).bind λc=>bif (c !=0)then some (dX,c)else(Eh N a).bind λf=>bif f then some (dX,(10:Int))else(IN N d e a).bind λb=>bif (b.2 !=0)then some (dX,b.2)else some (b.1,(0:Int))
def asW{N a b c}:KO 213 [c9 a,O (cD b),aK c] (λr=>.bn [bX r.1,Y r.2]) (wI N a b c):=
 fw func213 (au λk e=>V [[],[(4,cK aqp e)],[]] (bg λf=>au λl g=>V [[f0 f],[(4,cK abz g)]] (bg λh=>au λn i=>V [[f0 h],[(10,cK ap3 i)],[]] (bg λj=>gR [[f0 j],[]]))))
def wV(N:Nat)(c:bo)(d:Int)(i:I so):U Int:=bif (decide ((0:Int)<=d))then(c.aM[(d).toNat]?).bind λa=>(Ar N a.aC i).bind λf=>bif (f !=0)then some f else(mQ N a.aH).bind λj=>bif j then(bif (decide ((a.aQ.length:Int)>6))then some true else some (decide ((a.cl.length:Int)>6))).bind λk=>bif k then some (11:Int)else bif (Nat.ble ((0+a.aQ.length)*48) 140737488355328)then bif (Nat.ble ((a.aQ.length+a.cl.length)*48) 140737488355328)then(K9 N (a.aQ++a.cl) c.bG).bind λg=>bif (g !=0)then some g else(MT N a).bind λh=>bif (h !=0)then some h else bif (decide ((d).toNat<=c.aM.length))then(Ns N a).bind λe=>(wI N (⟨c.bG,[],c.bu,(c.aM.take (d).toNat).drop 0,[]⟩:bo) e a.cw).bind λb=>bif (b.2 !=0)then some b.2 else bif ((b.1.bA==a.aH.bA)&&((b.1.bU==a.aH.bU)&&((b.1.ck==a.aH.ck)&&((b.1.cr==a.aH.cr)&&((b.1.cC==a.aH.cC)&&true)))))then some (0:Int)else some (10:Int)else none else none else none else some (10:Int)else none
def ai7{N b c f}:KO 124 [c9 b,Y c,O (cD f)] Y (wV N b c f):=
 fw func124 (cH λg=>au λa j=>au λE k=>V [[],[(10,⟨_,_,.el (xs:=iy b.aM) (i:=c) (Vd g) (ju j)⟩)],[(10,cK LK k)],[]] (bg λl=>au λF n=>V [[f0 l],[(7,cK oT n)]] (e9 λo=>V [[f0 (cy o)]] (gG (λh=>[(38,az h)]) (λ_=>[.cells (c9 b).cells,.cells (fb a).cells]) (cU (7,oL a.aQ gw) (ax (λe=>gE [(4,bT e)] []) λe=>gE [(4,bF e)] [(22,oL a.cl gw)])) λh=>bg λp=>cH λq=>cH λr=>au λG t=>V [[f0 p],[(10,oZ nO a.aQ q),(19,oA nO a.aQ a.cl r),(28,cK agT t)],[]] (bg λu=>au λH v=>V [[f0 u],[(4,cK ali v)],[]] (bg λw=>cH λx=>au λy z=>au λA B=>V [[f0 w],[(22,⟨_,_,.sub (xs:=iy b.aM) (lo:=0) (hi:=c) (by decide) (WJ _) (Vd g) (by rw[j6];exact(Vd x)) Rf adZ⟩),(31,cK ap2 z),(40,cK asW B)],[]] (e7 λ_=>nc λC=>gR [[t0 (dt C)],[]])))))))
def rD(N:Nat)(b:bo):I so->Nat->Int->U (Int×Int)
 |[],_,_=>some ((0:Int),(0:Int))
 |a::f,c,d=>(GQ N b a).bind λe=>bif e.2.2 then bif (decide (((c:Int)).toNat<=b.dM.length))then(wq N ((b.dM.take ((c:Int)).toNat).drop 0) a).bind λg=>bif g then some (d,(8:Int))else(λh=>rD N b f (c+1) h) (aE (d+(1:Int)))else none else some (d,(9:Int))
def qy(N:Nat)(a:bo):I bZ->Nat->(I so)->Int->U (Int×Int)
 |[],_,_,b=>rD N a a.dM 0 b
 |f::g,d,c,b=>(wV N a (d:Int) c).bind λe=>bif (e !=0)then some (b,e)else bif (Nat.ble ((c.length+1)*16) 140737488355328)then(λh i=>qy N a g (d+1) h i) (c++[f.aC]) (aE (b+(1:Int)))else none
def ud(N:Nat)(c:bo):I fm->Nat->(I so)->Int->U (Int×Int)
 |[],_,a,b=>qy N c c.aM 0 a b
 |e::d,g,a,b=>(Pj N e c.bG a).bind λf=>bif (f !=0)then some (b,f)else bif (Nat.ble ((a.length+1)*16) 140737488355328)then(λh i=>ud N c d (g+1) h i) (a++[e.aC]) (aE (b+(1:Int)))else none
def HK(N:Nat)(a:bo):I iu->Nat->U (Int×Int)
 |[],_=>bif (Nat.ble ((0+a.bG.length)*16) 140737488355328)then ud N a a.bu 0 a.bG (2:Int)else none
 |c::d,e=>(Bk N c.bO a.bG).bind λb=>bif (b !=0)then some ((1:Int),b)else(HK N a d (e+1))
def wm(N:Nat)(a:bo):U (Int×Int):=(Fz N a).bind λb=>bif (b !=0)then some ((0:Int),b)else HK N a a.dU 0
abbrev Ue:=λa b=>([.cells (c9 a).cells,.front 9 1 b]:List ar)
def amx{N a}:KO 70 [c9 a] (λr=>.bn [Y r.1,Y r.2]) (wm N a):=
 fw func70 (au λv2 t=>V [[],[(4,cK akP t)],[]] (e7 λ_=>gB F7 0 1 a.dU λu=>dP 1 [] [1,5] 1 (λl=>⟨136,[(1,Ad),(5,Y l)],L1 a⟩) (λl g v=>cH λw=>V [[(10,oL a.dU qe)],[f0 (bI g)],[(10,oZ iG a.bG w)],[],[]] (gB Co 0 2 a.bu λx=>DF 2 [] [1,7,8,9] 2 (λn(b:I so)(c:Int)=>⟨136,[(1,Ad),(7,.own 1 (cD b)),(8,Y c),(9,Y n)],Ue a b.length⟩) (λn b c d y=>V [[(10,oL a.bu mP)],[f0 (bI d)],[]] (gB vV 0 3 a.aM λz=>DF 3 [] [1,7,8,11] 2 (λo(e:I so)(i:Int)=>⟨136,[(1,Ad),(7,.own 1 (cD e)),(8,Y i),(11,Y o)],Ue a e.length⟩) (λo e i h A=>V [[(10,oL a.aM j6)],[f0 (bI h)],[]] (gB iG 0 4 a.dM λB=>ft 4 [] [1,8,13] 2 (λj(k:Int)=>⟨136,[(1,Ad),(8,Y k),(13,Y j)],Ue a e.length⟩) (λj k f C=>gR [[(10,oL a.dM fB)],[f0 (bI f)],[]]) (λj E fv k f C F=>au λG H=>V [[(10,oL a.dM fB)],[t0 (bH f)],[(13,oE (k9 (aY f))),(19,cK SM H)],[]] (e9 λJ=>cH λK=>au λgp L=>V [[f0 (cy J)],[(10,⟨_,_,.sub (xs:=cD a.dM) (lo:=0) (hi:=(j:Int)) (by decide) (WJ _) (Vd (dO (Int.natCast_nonneg _))) (by rw[fB];exact(Vd K)) s9 En⟩),(22,oE (k9 (aY f))),(28,cK Ed L)]] (bg λM=>gb F (aE (k+(1:Int))) [[f0 M],[],[(5,oq (bV f rfl B))]] f))))) (λo p bw e i h A P=>au λfI Q=>V [[(10,oL a.aM j6)],[t0 (bH h)],[(10,cK ai7 Q)],[]] (bg λR=>cH λW=>gb P (e++[p.aC],aE (i+(1:Int))) [[f0 R],[(13,oE (ju (aY h))),(25,oA iG e ([p.aC]) W)],[],[(5,oq (bV h rfl z))]] h)))) (λn q v10 b c d y dH=>au λiM fx=>V [[(10,oL a.bu mP)],[t0 (bH d)],[(10,oE (pc (aY d))),(25,cK ahh fx)],[]] (bg λkP=>cH λj8=>gb dH (b++[q.aC],aE (c+(1:Int))) [[f0 kP],[(13,oE (pc (aY d))),(25,oA iG b ([q.aC]) j8)],[],[(5,oq (bV d rfl x))]] d)))) (λl v5 v6 g v aI=>au λv28 gh=>V [[(10,oL a.dU qe)],[t0 (bH g)],[(10,oE (HY (aY g))),(25,cK S6 gh)],[]] (bg λjU=>gb aI () [[f0 jU],[(5,oq (bV g rfl u))]] g))))
def Nw(N:Nat)(a:so):I aJ->Nat->U (Int64×Bool)
 |[],_=>some ((0:Int64),false)
 |b::c,d=>bif (bL b.aC==bL a)then some (b.dQ,true)else(Nw N a c (d+1))
def Tw(N:Nat)(a:I aJ)(b:so):U (Int64×Bool):=Nw N b a 0
def ap6{N b c}:KO 43 [O (aT b),dj c] (λr=>.bn [bx r.1,az r.2]) (Tw N b c):=
 fw func43 (V [[],[]] (gT uD 0 b λg=>dP 1 [] [0,1,6] 0 (λe=>⟨25,[(0,O (aT b)),(1,dj c),(6,Y e)],[]⟩) (λe a h=>gR [[(7,oL b mV)],[f0 (bI a)],[]]) (λe j k a h i=>V [[(7,oL b mV)],[t0 (bH a)],[(7,oE (oa (aY a)))]] (ax (λf=>gR [[t0 f],[(7,oE (oa (aY a)))]]) λf=>gb i () [[f0 f],[(5,oq (bV a rfl g))]] a))))
def OY(N:Nat)(b:iu)(c:I aJ):U (Bool×Int):=(tN N b.bO c).bind λa=>bif (a.2 !=0)then some (false,a.2)else(bif (a.1.toInt==0)then some true else(bif (decide (a.1.toInt>0))then some (!b.E3)else some false)).bind λd=>some (d,(0:Int))
def ajn{N b e}:KO 44 [uL b,O (aT e)] (λr=>.bn [az r.1,Y r.2]) (OY N b e):=
 fw func44 (au λi g=>V [[],[(10,cL (Gc g))],[]] (bg λh=>V [[f0 h]] (gG (λf=>[(4,az f),(5,Y 0)]) (λ_=>[.cells (uL b).cells]) (ax (λc=>gE [(2,bT c),(5,uN)] []) λc=>cp (2,bF c) (ax (λa=>gE [(5,bT a)] [(28,bT a)]) λa=>gE [(5,bF a)] [(28,bF a)])) λf=>gR [])))
def MG(N:Nat)(c:I aJ):I iu->Nat->U Int
 |[],_=>some (0:Int)
 |d::b,e=>(OY N d c).bind λa=>bif (a.2 !=0)then some a.2 else bif a.1 then(MG N c b (e+1))else some (16:Int)
def Ng(N:Nat)(b:I aJ)(c:bo):I so->Nat->U Int
 |[],_=>MG N b c.dU 0
 |d::e,f=>(Tw N b d).bind λa=>(bif a.2 then(bif (decide (a.1.toInt<1))then some true else some (decide (a.1.toInt>4096)))else some true).bind λg=>bif g then some (15:Int)else(Ng N b c e (f+1))
def LL(N:Nat)(a:bo)(b:I aJ):U Int:=bif ((b.length:Int) !=(a.bG.length:Int))then some (15:Int)else Ng N b a a.bG 0
def aod{N a e}:KO 18 [c9 a,O (aT e)] Y (LL N a e):=
 fw func18 (V [[],[(4,oL e mV),(13,oL a.bG fB)]] (e7 λ_=>gB iG 0 0 a.bG λk=>dP 1 [] [1,2,5] 1 (λf=>⟨66,[(1,O (aT e)),(2,Ad),(5,Y f)],L1 a⟩) (λf b l=>V [[(10,oL a.bG fB)],[f0 (bI b)],[]] (gB F7 0 1 a.dU λn=>dP 2 [] [1,2,8] 1 (λg=>⟨66,[(1,O (aT e)),(2,Ad),(8,Y g)],L1 a⟩) (λg c o=>gR [[(10,oL a.dU qe)],[f0 (bI c)],[]]) (λg z p c o q=>au λr t=>V [[(10,oL a.dU qe)],[t0 (bH c)],[(10,oE (HY (aY c))),(19,cK ajn t)],[]] (e7 λ_=>e9 λu=>gb q () [[f0 (cy u)],[(5,oq (bV c rfl n))]] c)))) (λf A B b l v=>au λw x=>V [[(10,oL a.bG fB)],[t0 (bH b)],[(13,oE (k9 (aY b))),(19,cK ap6 x)]] (gG (λj=>[(43,az j)]) (λ_=>(L1 a)) (ax (λh=>cp (2,bF (cy h)) (ax (λi=>gE [(6,bT i)] []) λi=>gE [(6,bF i)] [])) λh=>gE [(2,bT (dt h)),(6,bT rfl)] []) λj=>bg λy=>gb v () [[f0 y],[(5,oq (bV b rfl k))]] b))))
def M7(N:Nat)(a:bo)(c:I aJ):U Int:=(wm N a).bind λb=>bif (b.2 !=0)then some b.2 else(LL N a c).bind λd=>some d
def aoU{N a b}:KO 34 [c9 a,O (aT b)] Y (M7 N a b):=
 fw func34 (au λg c=>V [[],[(4,cK amx c)],[]] (bg λe=>au λh f=>gR [[f0 e],[(7,cK aod f)]]))
def Gd(N:Nat)(c:bZ):I dF->Nat->(I bD)->U ((I bD)×aL×Bool)
 |[],_,a=>some (a,c.aH,true)
 |d::e,b,a=>bif (Nat.ble ((a.length+1)*32) 140737488355328)then(λf=>Gd N c e (b+1) f) (a++[d.eH])else none
def Pk(N:Nat)(c:so):I bZ->Nat->U ((I bD)×aL×Bool)
 |[],_=>some ([],dX,false)
 |a::b,d=>bif (bL a.aC==bL c)then Gd N a a.aQ 0 []else(Pk N c b (d+1))
def FP(N:Nat)(a:so)(c:bo):I fm->Nat->U ((I bD)×aL×Bool)
 |[],_=>Pk N a c.aM 0
 |b::d,e=>bif (bL b.aC==bL a)then some (b.aQ,b.aH,true)else(FP N a c d (e+1))
def MD(N:Nat)(a:bo)(b:so):U ((I bD)×aL×Bool):=FP N b a a.bu 0
def Sx(a:bo)(l:I ar):I ar:= .cells (c9 a).cells:: .cells qz::l
def agF{N a h}:KO 79 [c9 a,dj h] (λr=>.bn [O (fA r.1),bX r.2.1,az r.2.2]) (MD N a h):=
 fw func79 (V [[],[]] (gB Co 0 2 a.bu λq=>dP 1 [] [1,2,5,7] 2 (λk=>⟨85,[(1,dj h),(2,Ad),(5,AM),(7,Y k)],Sx a []⟩) (λk c t=>V [[(10,oL a.bu mP)],[f0 (bI c)],[]] (gB vV 0 3 a.aM λu=>dP 2 [] [1,2,5,8] 2 (λi=>⟨85,[(1,dj h),(2,Ad),(5,AM),(8,Y i)],Sx a []⟩) (λi b v=>gR [[(10,oL a.aM j6)],[f0 (bI b)],[]]) (λi l w b v x=>V [[(10,oL a.aM j6)],[t0 (bH b)],[(10,oE (ju (aY b)))]] (ax (λn=>V [[t0 n],[],[]] (li (λ_=>(mR 9 48 2 [] (.inr (by kernel_rfl)) ·)) (Is (λ_=>(EK 0 3 (iy a.aM) (by kernel_rfl) ·)) λy=>have z:=td gw (Hm (j:=6) (d:= .sl (dAxiss l.aQ)) y (ju (aY b)) rfl);ft 3 [] [2,5,8,9,10] 3 (λe(f:I bD)=>⟨85,[(2,Ad),(5,AM),(8,Y i),(9,.own 2 (fA f)),(10,Y e)],Sx a [.front 48 2 f.length]⟩) (λe f g A=>gR [[(13,oE (ju (aY b))),(22,oL l.aQ gw)],[f0 (bI g)],[(13,oE (ju (aY b)))]]) (λe p F f g A B=>cH λC=>gb B (f++[p.eH]) [[(13,oE (ju (aY b))),(22,oL l.aQ gw)],[t0 (bH g)],[(13,oE (ju (aY b))),(25,oE (m7 (aY g))),(37,oA m9 f ([p.eH]) C)],[(5,oq (bV g rfl z))]] g)))) λn=>gb x () [[f0 n],[(5,oq (bV b rfl u))]] b)))) (λk G H c t E=>V [[(10,oL a.bu mP)],[t0 (bH c)],[(10,oE (pc (aY c)))]] (ax (λo=>gR [[t0 o],[(10,oE (pc (aY c))),(28,oE (pc (aY c)))]]) λo=>gb E () [[f0 o],[(5,oq (bV c rfl q))]] c))))
def Ni(N:Nat)(c:I aJ):I bD->Nat->(I Int)->U ((I Int)×Int)
 |[],_,b=>some (b,(0:Int))
 |d::e,f,b=>(tN N d c).bind λa=>bif (a.2 !=0)then some ([],a.2)else(bif (decide (a.1.toInt<1))then some true else some (decide (a.1.toInt>4096))).bind λg=>bif g then some ([],(15:Int))else bif (Nat.ble ((b.length+1)*8) 140737488355328)then(λh=>Ni N c e (f+1) h) (b++[a.1.toInt])else none
def GP(N:Nat)(a:I bD)(b:I aJ):U ((I Int)×Int):=Ni N b a 0 []
def atO{N b e}:KO 72 [O (fA b),O (aT e)] (λr=>.bn [O (bE r.1),Y r.2]) (GP N b e):=
 fw func72 (V [[],[],[]] (li (λ_=>(mR 6 3 1 [] (.inr (by kernel_rfl)) ·)) (gT m9 0 b λj=>ft 1 [] [0,1,6,7] 1 (λf(a:I Int)=>⟨39,[(0,O (fA b)),(1,O (aT e)),(6,.own 0 (bE a)),(7,Y f)],[.front 3 1 a.length]⟩) (λf a c k=>gR [[(7,oL b fX)],[f0 (bI c)],[]]) (λf t u a c k l=>au λh n=>V [[(7,oL b fX)],[t0 (bH c)],[(7,oE (o7 (aY c))),(16,cL (Gc n))],[]] (bg λo=>V [[f0 o]] (gG (λi=>[(33,az i)]) (λ_=>[.front 3 1 a.length]) (ax (λg=>gE [(2,bT g)] []) λg=>gE [(2,bF g)] []) λi=>bg λp=>cH λq=>gb l (a++[h.1.toInt]) [[f0 p],[(10,oA lT a ([h.1.toInt]) q)],[(5,oq (bV c rfl j))]] c))))))
def ES(N:Nat):I Int->Nat->Int->U Int
 |[],_,a=>some a
 |v4::b,c,a=>(λd=>ES N b (c+1) d) (if(65537:Int)<(aE (a*v4))then(65537:Int)else(aE (a*v4)))
def Ag(N:Nat)(a:I Int):U Int:=ES N a 0 (1:Int)
def Jn{N a}:KO 73 [O (bE a)] Y (Ag N a):=
 fw func73 (V [[],[],[]] (gT lT 0 a λg=>ft 1 [] [0,3,4] 0 (λe(c:Int)=>⟨19,[(0,O (bE a)),(3,Y c),(4,Y e)],[]⟩) (λe c b h=>gR [[(7,oL a fF)],[f0 (bI b)],[]]) (λe f j c b h i=>gb i (if(65537:Int)<(aE (c*f))then(65537:Int)else(aE (c*f))) [[(7,oL a fF)],[t0 (bH b)],[(10,oE (gV (aY b)))],[(5,oq (bV b rfl g))]] b)))
def GI(N:Nat)(c:bo)(d:I aJ)(e:so):U ((I Int)×Int):=(MD N c e).bind λb=>bif b.2.2 then(GP N b.1 d).bind λa=>(bif (a.2==0)then (Ag N a.1).bind λf=>some (decide (f>4096))else some false).bind λg=>bif g then some ([],(15:Int))else some (a.1,a.2)else some ([],(9:Int))
def aaK{N a c e}:KO 39 [c9 a,O (aT c),dj e] (λr=>.bn [O (bE r.1),Y r.2]) (GI N a c e):=
 fw func39 (au λg h=>V [[],[(7,cK agF h)],[]] (e9 λi=>au λn j=>V [[f0 (cy i)],[(7,cK atO j)]] (gG (λf=>[(34,az f)]) (λ_=>[.cells (c9 a).cells,.cells (bX g.2.1).cells]) (ax (λb=>au λo k=>gE [(2,bT b)] [(13,cK Jn k)]) λb=>gE [(2,bF b)] []) λf=>bg λl=>gR [[f0 l],[]])))
def wa(N:Nat)(a:I Int):I Int->Nat->U Bool
 |[],_=>some true
 |c::d,b=>(a[((b:Int)).toNat]?).bind λe=>bif (c !=e)then some false else(wa N a d (b+1))
def vh(N:Nat)(a:I Int)(b:I Int):U Bool:=bif ((a.length:Int) !=(b.length:Int))then some false else wa N b a 0
def atN{N a c}:KO 19 [O (bE a),O (bE c)] az (vh N a c):=
 fw func19 (V [[],[(4,oL a fF),(10,oL c fF)]] (e7 λ_=>gT lT 0 a λf=>dP 1 [] [0,1,5] 0 (λe=>⟨26,[(0,O (bE a)),(1,O (bE c)),(5,Y e)],[]⟩) (λe b g=>gR [[(7,oL a fF)],[f0 (bI b)],[]]) (λe k l b g h=>au λn i=>V [[(7,oL a fF)],[t0 (bH b)],[(7,oE (gV (aY b))),(19,oE (gV i))]] (bg λj=>gb h () [[f0 j],[(5,oq (bV b rfl f))]] b))))
def OL(N:Nat)(b:Int64->U Int)(c:Int64)(d:dZ):I aJ->Nat->U Int
 |[],_=>b c
 |a::f,e=>(bif (bL a.aC==bL d.aC)then some (decide (a.dQ.toInt>(-1000:Int)))else some false).bind λg=>bif g then b (c+(d.eQ*a.dQ))else(OL N b c d f (e+1))
def Fe(N:Nat)(b:I aJ):I dZ->Nat->Int64->U Int
 |[],_,a=>some (qN (1:Int64) (sA a (3001:Int64))).toInt
 |v6::c,d,a=>(bif (decide (v6.eQ.toInt>100))then some true else some (decide (v6.eQ.toInt<(-100:Int)))).bind λe=>bif e then some (3001:Int)else OL N (λf=>Fe N b c (d+1) f) a v6 b 0
def Nq(N:Nat)(a:bD)(b:I aJ):U Int:=(bif (decide (a.xK.toInt>3000))then some true else some (decide (a.xK.toInt<(-3000:Int)))).bind λc=>bif c then some (3001:Int)else Fe N b a.xL 0 a.xK
def ajM{N b f}:KO 59 [dW b,O (aT f)] Y (Nq N b f):=
 fw func59 (V [[]] (gG (λp=>[(15,az p)]) (λ_=>(Qf b)) (ax (λj=>gE [(3,bT j)] []) λj=>gE [(3,bF j)] []) λp=>bg λv=>V [[f0 v],[],[]] (gB vz 0 1 b.xL λq=>ft 1 [] [1,2,5,6] 1 (λi(c:Int64)=>⟨84,[(1,O (aT f)),(2,Ad),(5,bx c),(6,Y i)],Qf b⟩) (λi c a w=>gR [[(10,oL b.xL jH)],[f0 (bI a)],[(5,oq (abw c (3001:Int64))),(8,oq (Wn (1:Int64) (sA c (3001:Int64))))]]) (λi k A c a w r=>V [[(10,oL b.xL jH)],[t0 (bH a)]] (gG (λt=>[(40,az t)]) (λ_=>(Qf b)) (cU (10,oE (lO (aY a))) (ax (λl=>gE [(7,bT l)] []) λl=>gE [(7,bF l)] [(34,oE (lO (aY a)))])) λt=>e7 λ_=>gT uD 1 f λx=>dP 2 [] [1,2,5,6,7] 1 (λg=>⟨84,[(1,O (aT f)),(2,Ad),(5,bx c),(6,Y i),(7,Y g)],Qf b⟩) (λg e y=>gb r c [[(7,oL f mV)],[f0 (bI e)],[(5,oq (bV a rfl q))]] a) (λg h B e y z=>V [[(7,oL f mV)],[t0 (bH e)]] (gG (λu=>[(66,az u)]) (λ_=>(Qf b)) (cU (7,oE (oa (aY e))) (cU (25,oE (lO (aY a))) (ax (λn=>gE [(12,bT n)] [(46,oE (oa (aY e)))]) λn=>gE [(12,bF n)] []))) λu=>ax (λo=>gb r (c+(k.eQ*h.dQ)) [[t0 o],[(13,oE (lO (aY a))),(28,oE (oa (aY e))),(38,oq (gv k.eQ h.dQ)),(41,oq (ot c (k.eQ*h.dQ)))],[(5,oq (bV a rfl q))]] a) λo=>gb z () [[f0 o],[(5,oq (bV e rfl x))]] e)))))))
def MW(N:Nat)(b:I aJ):I dF->Nat->Int->U Int
 |[],_,a=>some a
 |d::e,f,a=>(Nq N d.eH b).bind λc=>(λg=>MW N b e (f+1) g) (if(aE (a*c))<3001then(aE (a*c))else(3001:Int))
def Pl(N:Nat)(a:I dF)(b:I aJ):U Int:=MW N b a 0 (1:Int)
def atM{N a e}:KO 30 [O (dAxiss a),O (aT e)] Y (Pl N a e):=
 fw func30 (V [[],[],[]] (gT nO 0 a λh=>ft 1 [] [0,1,5,6] 0 (λf(c:Int)=>⟨24,[(0,O (dAxiss a)),(1,O (aT e)),(5,Y c),(6,Y f)],[]⟩) (λf c b i=>gR [[(7,oL a gw)],[f0 (bI b)],[]]) (λf l n c b i j=>au λg k=>gb j (if(aE (c*g))<3001then(aE (c*g))else(3001:Int)) [[(7,oL a gw)],[t0 (bH b)],[(10,oE (m7 (aY b))),(22,cK ajM k)],[(5,oq (bV b rfl h))]] b)))
def PT(N:Nat)(a:I aJ):I bZ->Nat->U Bool
 |[],_=>some true
 |c::d,b=>(Pl N c.aQ a).bind λe=>(Pl N c.cl a).bind λf=>bif (decide ((aE (e*f))>3000))then some false else(PT N a d (b+1))
def L9(N:Nat)(b:I aJ)(c:bo)(d:Int64):I aJ->Nat->U Bool
 |[],_=>PT N b c.aM 0
 |e::a,f=>bif (decide (e.dQ.toInt>d.toInt))then some false else(L9 N b c d a (f+1))
def LB(N:Nat)(a:bo)(b:I aJ)(c:Int64):U Bool:=(GZ N a (400:Int)).bind λd=>(bif d then some true else(bif (decide ((a.aM.length:Int)>12))then some true else (Qt N b (20:Int)).bind λe=>some (!e))).bind λf=>bif f then some false else L9 N b a c b 0
def aq2{N a b g}:KO 7 [c9 a,O (aT b),bx g] az (LB N a b g):=
 fw func7 (V [[]] (au λA l=>gG (λk=>[(21,az k)]) (λ_=>(L1 a)) (cU (4,cK ai5 l) (ax (λh=>gE [(2,bT h),(8,bT rfl)] []) λh=>cp (2,bF h) (cU (16,oL a.aM j6) (ax (λi=>gE [(8,bT i)] []) λi=>au λB n=>gE [(8,bF i)] [(31,cK amt n)])))) λk=>e7 λ_=>gT uD 1 b λo=>dP 1 [] [1,2,3,7] 1 (λj=>⟨60,[(1,O (aT b)),(2,bx g),(3,Ad),(7,Y j)],L1 a⟩) (λj f p=>V [[(7,oL b mV)],[f0 (bI f)],[]] (gB vV 0 3 a.aM λq=>dP 2 [] [1,3,8] 1 (λc=>⟨60,[(1,O (aT b)),(3,Ad),(8,Y c)],L1 a⟩) (λc e r=>gR [[(10,oL a.aM j6)],[f0 (bI e)],[]]) (λc C E e r t=>au λF u=>au λG v=>V [[(10,oL a.aM j6)],[t0 (bH e)],[(10,oE (ju (aY e))),(22,cK atM u),(34,oE (ju (aY e))),(46,cK atM v)]] (bg λw=>gb t () [[f0 w],[(5,oq (bV e rfl q))]] e)))) (λj H x f p y=>V [[(7,oL b mV)],[t0 (bH f)],[(7,oE (oa (aY f)))]] (bg λz=>gb y () [[f0 z],[(5,oq (bV f rfl o))]] f))))
def MB(N:Nat)(a:bo)(b:I aJ)(e:I aR)(f:Int):U (bk×Int):=(Ea N a b).bind λc=>bif (c !=0)then some (iV,c)else(ux N a b e f).bind λd=>some (d.1,d.2)
def aqM{N a b c e}:KO 10 [c9 a,O (aT b),O (bp c),Y e] (λr=>.bn [fY r.1,Y r.2]) (MB N a b c e):=
 fw func10 (au λi f=>V [[],[(7,cK atx f)],[]] (bg λg=>au λj h=>gR [[f0 g],[(13,cL (abc h))]]))
def HL(N:Nat):I dF->Nat->(I so)->(I bD)->U ((I so)×(I bD))
 |[],_,a,b=>some (a,b)
 |v4::c,d,a,b=>bif (Nat.ble ((a.length+1)*16) 140737488355328)then bif (Nat.ble ((b.length+1)*32) 140737488355328)then(λe f=>HL N c (d+1) e f) (a++[v4.aC]) (b++[v4.eH])else none else none
def OZ(N:Nat)(a:I dF):U ((I so)×(I bD)):=HL N a 0 [] []
def ac8{N b}:KO 71 [O (dAxiss b)] (λr=>.bn [O (cD r.1),O (fA r.2)]) (OZ N b):=
 fw func71 (V [[],[],[],[]] (li (λ_=>(mR 5 48 2 [] (.inr (by kernel_rfl)) ·)) (li (λ_=>(mR 4 9 1 [] (.inr (by kernel_rfl)) ·)) (gT nO 0 b λh=>DF 1 [] [0,4,5,6] 2 (λg(c:I so)(e:I bD)=>⟨31,[(0,O (dAxiss b)),(4,.own 1 (cD c)),(5,.own 0 (fA e)),(6,Y g)],[.front 48 2 e.length,.front 9 1 c.length]⟩) (λg c e a i=>gR [[(7,oL b gw)],[f0 (bI a)],[]]) (λg f n c e a i j=>cH λk=>cH λl=>gb j (c++[f.aC],e++[f.eH]) [[(7,oL b gw)],[t0 (bH a)],[(10,oE (m7 (aY a))),(22,oA iG c ([f.aC]) k)],[(10,oE (m7 (aY a))),(22,oA m9 e ([f.eH]) l)],[(5,oq (bV a rfl h))]] a)))))
def Eg(N:Nat)(b:ay->U (I ay)):I ay->Nat->(I ay)->U (I ay)
 |[],_,a=>some a
 |v4::d,e,a=>(b v4).bind λc=>bif (Nat.ble ((a.length+c.length)*160) 140737488355328)then(λf=>Eg N b d (e+1) f) (a++c)else none
def vX(N:Nat):Nat->ay->U (I ay)
 |0,_=>none
 |d+1,a=>Eg N (vX N d) a.bS 0 [a]
def U4(N:Nat)(a:ay):U (I ay):=vX N N a
def ao0(N:Nat):∀d:Nat,(∀{a:ay},KO 215 [aK a] (λr=>.d (.sl (dExprs r))) (vX N d a)):=by
 intro d
 induction d with
 |zero=>intro a r J;rw[vX]at J;cases J
 |succ d ih=>
  have e:= @ih;intro a;rw[vX];exact fw func215 (V [[],[(5,oq (congrArg AV.full (qm [a]).symm))],[]] (li (λ_=>(mR 3 52 13 (dExprs [a]) (.inl (by kernel_rfl)) ·)) (gB o0 0 12 a.bS λh=>ft 1 [] [1,3,4] 2 (λf(b:I ay)=>⟨23,[(1,Ad),(3,.own 1 (dExprs b)),(4,Y f)],[.cells (aK a).cells,.front 52 13 b.length]⟩) (λf b c i=>gR [[(10,oL a.bS ji)],[(0,bF (bI c))],[]]) (λf n o b c i j=>au λg k=>cH λl=>gb j (b++g) [[(10,oL a.bS ji)],[(0,bT (bH c))],[(13,oE (gz (aY c))),(19,cK e k),(22,oA o0 b g l)],[(5,oq (bV c rfl h))]] c))))
def aqF{N a}:KO 215 [aK a] (λr=>.d (.sl (dExprs r))) (U4 N a):=(ao0 N N)
def Et(N:Nat)(b:I so)(c:so):I so->Nat->U (I so)
 |[],a=>bif (decide ((0:Int)<=(a:Int)))then bif (decide (((a:Int)).toNat<=b.length))then bif (Nat.ble ((0+((b.take ((a:Int)).toNat).drop 0).length)*16) 140737488355328)then bif (Nat.ble ((((b.take ((a:Int)).toNat).drop 0).length+1)*16) 140737488355328)then bif (Nat.ble (((((b.take ((a:Int)).toNat).drop 0)++[c]).length+(b.drop ((a:Int)).toNat).length)*16) 140737488355328)then some ((((b.take ((a:Int)).toNat).drop 0)++[c])++(b.drop ((a:Int)).toNat))else none else none else none else none else none
 |d::e,a=>bif (Op.bytesLess (bL d) (bL c))then(Et N b c e (a+1))else bif (bL d==bL c)then some b else bif (decide (((a:Int)).toNat<=b.length))then bif (Nat.ble ((0+((b.take ((a:Int)).toNat).drop 0).length)*16) 140737488355328)then bif (Nat.ble ((((b.take ((a:Int)).toNat).drop 0).length+1)*16) 140737488355328)then bif (Nat.ble (((((b.take ((a:Int)).toNat).drop 0)++[c]).length+(b.drop ((a:Int)).toNat).length)*16) 140737488355328)then some ((((b.take ((a:Int)).toNat).drop 0)++[c])++(b.drop ((a:Int)).toNat))else none else none else none else none
def Fo(N:Nat)(a:I so)(b:so):U (I so):=Et N a b a 0
def afn{N b e}:KO 216 [O (cD b),dj e] (λr=>.d (.sl (cD r))) (Fo N b e):=
 fw func216 (V [[],[]] (gT iG 0 b λj=>dP 1 [] [0,1,5] 0 (λc=>⟨48,[(0,O (cD b)),(1,dj e),(5,Y c)],[]⟩) (λc a k=>cH λg=>cH λh=>cH λl=>cH λn=>cH λo=>gR [[(7,oL b fB),(15,bF (bI a)),(18,bF (bI a)),(21,bF (bI a)),(24,bF (bI a)),(27,bF (bI a)),(30,bF (bI a)),(34,bF (bI a))],[f0 rfl],[(7,oL b fB),(15,bF (bI a)),(18,bF (bI a)),(21,bF (bI a)),(24,bF (bI a)),(27,bF (bI a)),(30,bF (bI a)),(34,bF (bI a))],[f0 rfl],[],[(10,⟨_,_,.sub (xs:=cD b) (lo:=0) (hi:=(c:Int)) (by decide) (WJ _) (Vd g) (by rw[fB];exact(Vd h)) s9 En⟩),(13,oZ iG ((b.take ((c:Int)).toNat).drop 0) l)],[(10,oA iG ((b.take ((c:Int)).toNat).drop 0) ([e]) n)],[(10,⟨_,_,.Nh (xs:=cD b) (lo:=(c:Int)) (Vd g) (by rw[fB];exact(Vd h)) s9 aeC⟩),(13,oA iG (((b.take ((c:Int)).toNat).drop 0)++[e]) (b.drop ((c:Int)).toNat) o)]]) (λc w x a k p=>V [[(7,oL b fB),(15,bT (bH a)),(18,bT (bH a)),(21,bT (bH a)),(22,oE (k9 (aY a))),(24,bT (bH a)),(27,bT (bH a)),(30,bT (bH a)),(34,bT (bH a))]] (ax (λf=>gb p () [[t0 f],[(5,oq (bV a rfl j))]] a) λf=>V [[f0 f],[(7,oL b fB),(15,bT (bH a)),(18,bT (bH a)),(21,bT (bH a)),(22,oE (k9 (aY a))),(24,bT (bH a)),(27,bT (bH a)),(30,bT (bH a)),(34,bT (bH a))]] (bg λq=>cH λi=>cH λt=>cH λu=>cH λv=>gR [[f0 q],[],[(10,⟨_,_,.sub (xs:=cD b) (lo:=0) (hi:=(c:Int)) (by decide) (WJ _) (Vd (dO (Int.natCast_nonneg _))) (by rw[fB];exact(Vd i)) s9 En⟩),(13,oZ iG ((b.take ((c:Int)).toNat).drop 0) t)],[(10,oA iG ((b.take ((c:Int)).toNat).drop 0) ([e]) u)],[(10,⟨_,_,.Nh (xs:=cD b) (lo:=(c:Int)) (Vd (dO (Int.natCast_nonneg _))) (by rw[fB];exact(Vd i)) s9 aeC⟩),(13,oA iG (((b.take ((c:Int)).toNat).drop 0)++[e]) (b.drop ((c:Int)).toNat) v)]])))))
def I7(N:Nat)(c:(I so)->U (I so)):I c7->Nat->(I so)->U (I so)
 |[],_,b=>c b
 |v11::a,e,b=>bif (bL v11.dc==bL (bs []))then(λd=>I7 N c a (e+1) d) b else(Fo N b v11.dc).bind λf=>(λd=>I7 N c a (e+1) d) f
def Eo(N:Nat)(a:(I so)->U (I so))(b:ay)(c:I so):U (I so):=I7 N a b.xIdx 0 c
def xH(N:Nat):I ay->Nat->(I so)->U (I so)
 |[],_,a=>some a
 |b::d,e,a=>bif (b.aD==3)then(Fo N a b.aC).bind λf=>Eo N (λc=>xH N d (e+1) c) b f else Eo N (λc=>xH N d (e+1) c) b a
def JZ(N:Nat)(a:ay):U (I so):=(U4 N a).bind λb=>xH N b 0 []
def ag5{N f}:KO 127 [aK f] (λr=>.d (.sl (cD r))) (JZ N f):=
 fw func127 (au λc u=>V [[],[],[(4,cK aqF u)],[]] (gT o0 4 c λv=>ft 1 [] [3,4,5] 1 (λe(h:I so)=>⟨60,[(3,O (cD h)),(4,O (dExprs c)),(5,Y e)],GY f⟩) (λe h a w=>gR [[(7,oL c ji)],[f0 (bI a)],[]]) (λe i x h a w y=>kO 2 [[(7,oL c ji)],[t0 (bH a)],[(7,oE (gz (aY a)))]] [3,4,5] 1 (λ(o:I so)=>⟨60,[(3,O (cD o)),(4,O (dExprs c)),(5,Y e)],GY f⟩) (Eo N (λz=>xH N x (e+1) z) i) (λK p=>ax (λk=>au λA B=>gm p A [[t0 k],[(10,oE (gz (aY a))),(19,cK afn B)]]) λk=>gm p h [[f0 k]]) (λo=>V [[]] (Is (λ_=>(W8 4 (dExprs c) (by kernel_rfl) ·)) λC=>have q:=td gq (Hm (j:=11) (d:= .sl (fc i.xIdx)) C (gz (aY a)) rfl);ft 3 [] [3,4,5,6] 1 (λl(g:I so)=>⟨60,[(3,O (cD g)),(4,O (dExprs c)),(5,Y e),(6,Y l)],GY f⟩) (λl g b E=>gb y g [[(10,oE (gz (aY a))),(19,oL i.xIdx gq)],[f0 (bI b)],[(5,oq (bV a rfl v))]] a) (λl F G g b E t=>V [[(10,oE (gz (aY a))),(19,oL i.xIdx gq)],[t0 (bH b)],[(7,oE (gz (aY a))),(19,oE (jh (aY b)))]] (ax (λn=>gb t g [[f0 (cy n)],[(5,oq (bV b rfl q))]] b) λn=>au λH J=>gb t H [[t0 (dt n)],[(10,oE (gz (aY a))),(22,oE (jh (aY b))),(31,cK afn J)],[(5,oq (bV b rfl q))]] b)))))))
def Oz(N:Nat)(c:I aR)(d:so)(b:aL)(e:I Int):U Int:=(PC N c d).bind λa=>bif a.2 then(FL N a.1).bind λf=>bif (f !=0)then some (1:Int)else bif ((a.1.aH.bA==b.bA)&&((a.1.aH.bU==b.bU)&&((a.1.aH.ck==b.ck)&&((a.1.aH.cr==b.cr)&&((a.1.aH.cC==b.cC)&&true)))))then(vh N a.1.aQ e).bind λg=>bif g then some (0:Int)else some (15:Int)else some (10:Int)else some (9:Int)
def aju{N a b c e}:KO 83 [O (bp a),dj b,bX c,O (bE e)] Y (Oz N a b c e):=
 fw func83 (au λl f=>V [[],[(7,cK atT f)],[]] (e9 λg=>au λn h=>V [[f0 (cy g)],[(4,cK aaE h)]] (e7 λ_=>e9 λi=>au λo j=>V [[f0 (cy i)],[(10,cK atN j)]] (nc λk=>gR [[t0 (dt k)],[]]))))
def Pe(N:Nat)(c:bo)(f:I aJ)(g:I aR):I so->Nat->U Int
 |[],_=>some (0:Int)
 |d::h,i=>(GI N c f d).bind λa=>bif (a.2 !=0)then some a.2 else(MD N c d).bind λe=>(Oz N g d e.2.1 a.1).bind λb=>bif (b !=0)then some b else(Pe N c f g h (i+1))
def NK(N:Nat)(a:bo)(b:I aJ)(c:I aR)(d:bZ):U Int:=(JZ N d.cw).bind λe=>Pe N a b c e 0
def aoX{N c e f g}:KO 74 [c9 c,O (aT e),O (bp f),fb g] Y (NK N c e f g):=
 fw func74 (au λb i=>V [[],[(7,cK ag5 i)],[]] (gT iG 9 b λj=>dP 1 [] [1,2,4,9,10] 2 (λh=>⟨60,[(1,O (aT e)),(2,O (bp f)),(4,Ad),(9,O (cD b)),(10,Y h)],[.cells (c9 c).cells,.cells (fb g).cells]⟩) (λh a k=>gR [[(7,oL b fB)],[f0 (bI a)],[]]) (λh w x a k l=>au λn o=>V [[(7,oL b fB)],[t0 (bH a)],[(13,oE (k9 (aY a))),(19,cK aaK o)],[]] (bg λp=>au λq r=>au λt u=>V [[f0 p],[(10,oE (k9 (aY a))),(16,cK agF r)],[(10,oE (k9 (aY a))),(22,cK aju u)],[]] (bg λv=>gb l () [[f0 v],[(5,oq (bV a rfl j))]] a)))))
def vK(N:Nat)(c:I so)(g:I Int)(e:I aJ):Nat->Int->Int->(I aJ)->U (I aJ)
 |0,_,_,_=>none
 |h+1,f,b,d=>bif (decide (b>=0))then bif (decide ((0:Int)<=b))then(c[(b).toNat]?).bind λi=>(g[(b).toNat]?).bind λa=>bif (a !=0)then bif (aE ((f).tmod a)==((f).tmod a))then bif (Nat.beq d.length c.length)then bif (decide (b<(c.length:Int)))then(d[(b).toNat]?).bind λj=>(λk l n=>vK N c g e h k l n) (i64.wrap ((f).tdiv a)) (aE (b-(1:Int))) (d.set ((b).toNat) (⟨i,Int64.ofInt ((f).tmod a)⟩:aJ))else none else none else none else none else none else bif (Nat.beq d.length c.length)then bif (Nat.ble ((c.length+e.length)*24) 140737488355328)then bif (Nat.beq (d++e).length (c.length+e.length))then some (d++e)else none else none else none
def C8(N:Nat)(a:I so)(b:I Int)(c:Int)(d:I aJ):U (I aJ):=bif (Nat.ble (a.length*24) 140737488355328)then vK N a b d N c (aE ((a.length:Int)-(1:Int))) (List.replicate a.length (⟨bs [],0⟩:aJ))else none
def Vh(b:I aJ)(c:Int)(d:so)(e:Int)(a:Int)(l:I ar):I ar:= .vec 75 2 (cg ((b.set ((c).toNat) (⟨d,Int64.ofInt ((e).tmod a)⟩:aJ)).map jD))::l
def aeZ(a:I so)(l:I ar):I ar:= .vec 75 2 (cg ((List.replicate a.length (⟨bs [],0⟩:aJ)).map jD))::l
def aeb{N e q x n r}(J:C8 N e q x n=some r):KF 76 [O (cD e),O (bE q),Y x,O (aT n)] (O (aT r)):=by
 rw[C8]at J;refine mJ func76 rfl (by kernel_rfl) ?_;refine gu [0,1,2,3] 0 (Zr _) (s':=⟨44,[(0,O (cD e)),(1,O (bE q)),(2,Y x),(3,O (aT n))],[]⟩) (by kernel_rfl) ?_;refine aw (CU [] [] [] ?_);refine aw ?_;have F:=jZ J;replace J:=(dh F).symm.trans J;refine CU [(4,oL e fB),(7,⟨_,_,.pr (.mk (cg ((List.replicate e.length (⟨bs [],0⟩:aJ)).map jD)) e.length e.length) (auf (f:=jD) (d0:=(⟨bs [],0⟩:aJ)) (dy:=24) rfl rfl (mj F (by decide)))⟩)] [(9,.vec 0 0 e.length e.length 2)] (aeZ e []) ?_;refine aw (aw ?_);refine CU [(4,oL e fB)] [(10,Y (aE ((e.length:Int)-(1:Int))))] (aeZ e []) ?_;refine dI ?_;refine KL [0,1,2,3,9,10] 1 [] [] (λ((u,o,g,l):Nat×Int×Int×(I aJ))=>⟨44,[(0,O (cD e)),(1,O (bE q)),(2,Y o),(3,O (aT n)),(9,.vec 0 0 e.length e.length 2),(10,Y g)],[.vec 75 2 (cg (l.map jD))]⟩) (λ((u,o,g,l):Nat×Int×Int×(I aJ))=>vK N e q n u o g l=some r) (λ((u,o,g,l):Nat×Int×Int×(I aJ))=>u) (N,x,aE ((e.length:Int)-(1:Int)),List.replicate e.length (⟨bs [],0⟩:aJ)) (Zh rfl) ⟨(l6 (xs:=((List.replicate e.length (⟨bs [],0⟩:aJ)).map jD)) jQ),by kernel_rfl⟩ J ?_
 rintro⟨u,o,g,l⟩ J
 try dsimp only at J
 cases u with
 |zero=>
  rw[vK]at J;cases J
 |succ u=>
  rw[vK]at J;refine aw (aw ?_);refine CU [] [(18,(az (decide (g>=0))))] [.vec 75 2 (cg (l.map jD))] ?_;rcases eo (decide (g>=0))with v|v
  ·replace J:=(dh v).symm.trans J;refine C4 (t:=(decide (g>=0))) v ?_;refine cO ?_;refine aV ?_;refine aw (dI ?_);refine aw ?_;have w:=jZ J;replace J:=(dh w).symm.trans J;obtain⟨p,Q,a,G,J⟩:=jG J;have A:=jZ J;replace J:=(dh A).symm.trans J;have H:=jZ J;replace J:=(dh H).symm.trans J;have B:=jZ J;replace J:=(dh B).symm.trans J;have K:=jZ J;replace J:=(dh K).symm.trans J;obtain⟨C,R,J⟩:=bz J;refine rd bB (by kernel_rfl) [(13,⟨_,_,.el (xs:=cD e) (i:=g) (Vd w) (k9 Q)⟩),(28,⟨_,_,.el (xs:=bE q) (i:=g) (Vd w) (gV G)⟩),(34,⟨_,_,.nz (b:=a) (Vr.1 A)⟩),(38,oq (congrArg (λz=>AV.agg [dj p,z]) (DD (Ve.1 H)))),(40,⟨_,_,.pr (.ix ((g).toNat)) (Ux (x7 (f:=jD) (Yi B)) (Vd w) (Vd K) rfl)⟩),(43,⟨_,_,.pr (.st ((jD C).map AV.d) (cg ((l.set ((g).toNat) (⟨p,Int64.ofInt ((o).tmod a)⟩:aJ)).map jD))) (XE (f:=jD) (j:=0) (y:=(⟨p,Int64.ofInt ((o).tmod a)⟩:aJ)) (zs:=[dj p,bx (Int64.ofInt ((o).tmod a))]) (Yi B) R rfl)⟩)] [] (Vh l g p o a []) (by kernel_rfl) ?_
   refine CH [(10,⟨_,_,.el (xs:=bE q) (i:=g) (Vd w) (gV G)⟩),(16,⟨_,_,.nz (b:=a) (Vr.1 A)⟩)] [(2,Y (i64.wrap ((o).tdiv a))),(40,Y (i64.wrap ((o).tdiv a))),(39,Y a),(38,.bK [fj a] 0 0),(37,Y g),(36,O (bE q)),(35,Y o)] (Vh l g p o a []) ?_;refine eV ?_;refine aV ?_;refine CH [] [(10,Y (aE (g-(1:Int)))),(20,Y (aE (g-(1:Int)))),(19,Y g)] (Vh l g p o a []) ?_;refine aV ?_;exact⟨(u,i64.wrap ((o).tdiv a),aE (g-(1:Int)),l.set ((g).toNat) (⟨p,Int64.ofInt ((o).tmod a)⟩:aJ)),⟨(l6 (xs:=((l.set ((g).toNat) (⟨p,Int64.ofInt ((o).tmod a)⟩:aJ)).map jD)) jQ),by kernel_rfl⟩,J,Yu _⟩
  replace J:=(ee v).symm.trans J;refine BT (t:=(decide (g>=0))) v ?_;refine lW (iD (iD (mU rfl ?_)));refine aV ?_;refine aw ?_;have M:=jZ J;replace J:=(dh M).symm.trans J;have E:=jZ J;replace J:=(dh E).symm.trans J;refine CU [(7,⟨_,_,.pr (.ap (cg ((l++n).map jD)) (cg (n.map jD)) (e.length+n.length) (e.length+n.length)) (Fk (f:=jD) (h:=[.vec 75 2 (cg (l.map jD))]) (y:=(O (aT n))) (k:=2) (Yi M) (by rw[<-th];rfl) (λc W=>aeE c (by rw[th];exact W)) rfl rfl (mj E (by decide)).1 (mj E (by decide)).2)⟩)] [(8,.vec 0 0 (e.length+n.length) (e.length+n.length) 2)] [.vec 75 2 (cg ((l++n).map jD))] ?_;have P:=jZ J;replace J:=(dh P).symm.trans J;refine ao3 [8] 0 ((l++n).map jD) (aT (l++n)) (L:=(e.length+n.length)) [.vec 75 2 (cg ((l++n).map jD))] 1 rfl (WX (λ_=>rfl) _) (WW (Yi P)) (th _) (by kernel_rfl) (.zx .nil) ?_;refine mI (s':=⟨44,[(8,O (aT (l++n)))],[.gone]⟩) (by kernel_rfl) ?_;refine dk ?_;have hr:=Zs J;subst hr;exact fJ (by kernel_rfl)
def aab(N:Nat)(a:aL):U aA:=(mQ N a).bind λb=>bif b then some (⟨0,1⟩:aA)else some cd
def ar3{N a}:KO 218 [bX a] bm (aab N a):=
 fw func218 (au λd b=>V [[],[(4,cK oT b)]] (nc λc=>gR [[t0 (dt c)],[]]))
def UW(N:Nat)(b:aL)(a:Int64):U (aA×Int):=(nR N b (⟨a,1⟩:aA)).bind λc=>bif c then some ((⟨a,1⟩:aA),(0:Int))else some (cd,(3:Int))
def ac7(N:Nat)(a:aL):U (aA×Int):=(mQ N a).bind λb=>bif b then bif (a.bA==2)then(xu N a).bind λc=>UW N a c else UW N a (1:Int64)else some (cd,(10:Int))
def ahc{N a}:KO 219 [bX a] (λr=>.bn [bm r.1,Y r.2]) (ac7 N a):=
 fw func219 (au λk e=>V [[],[(4,cK oT e)]] (e9 λf=>kO 1 [[f0 (cy f)],[],[]] [1,2,4] 3 (λ(c:Int64)=>⟨22,[(1,Ad),(2,AM),(4,D5)],[.cells (bX a).cells,.cells gj,.cells [bx c,bx 1]]⟩) (UW N a) (λl d=>ax (λb=>au λg h=>gm d g [[t0 b],[(4,cK HA h)]]) λb=>gm d (1:Int64) [[f0 b]]) (λc=>au λn i=>V [[(7,cK tY i)]] (nc λj=>gR [[t0 (dt j)],[]]))))
def ad7(N:Nat)(a:Int)(b:aL):U (aA×Bool):=(mQ N b).bind λd=>(bif d then(bif (a==1)then some true else some (a==5))else some false).bind λe=>bif e then(aab N b).bind λf=>some (f,true)else bif (a==2)then(ac7 N b).bind λc=>some (c.1,(c.2==0))else some (cd,false)
def aid{N e b}:KO 130 [Y e,bX b] (λr=>.bn [bm r.1,az r.2]) (ad7 N e b):=
 fw func130 (V [[]] (au λk g=>gG (λf=>[(17,az f)]) (λ_=>(SU b)) (cU (4,cK oT g) (ax (λc=>cp (2,bT c) (ax (λa=>gE [(5,bT a)] [(25,bT a)]) λa=>gE [(5,bF a)] [(25,bF a)])) λc=>gE [(2,bF c),(5,uN)] [])) λf=>ax (λd=>au λl h=>gR [[t0 d],[(4,cK ar3 h)]]) λd=>V [[f0 d],[]] (jC λi=>au λn j=>gR [[t0 i],[(4,cK ahc j)],[]])))
def Hi(N:Nat)(a:Int):U Int:=bif (a==2)then some (6:Int)else bif (a==3)then some (9:Int)else bif (a==4)then some (10:Int)else some (4:Int)
def ahY{N a}:KO 131 [Y a] Y (Hi N a):=
 fw func131 (V [[],[],[]] (e7 λ_=>e7 λ_=>bg λb=>gR [[f0 b],[]]))
def EV(N:Nat)(f:Int)(g:aL):I aA->Nat->Int->Int64->Int64->U (aA×Int)
 |[],_,b,c,d=>some ((⟨c,d⟩:aA),b)
 |h::i,e,b,c,d=>bif (b==0)then(Hi N f).bind λj=>(DM N j g (⟨c,d⟩:aA) h).bind λa=>(λk l n=>EV N f g i (e+1) k l n) a.2 a.1.xN a.1.xD else some ((⟨c,d⟩:aA),b)
def Fq(N:Nat)(c:I aA)(e:Int)(d:aL):I aA->Nat->U (aA×Int)
 |[],_=>bif ((c.length:Int)==0)then(ad7 N e d).bind λa=>bif a.2 then some (a.1,(0:Int))else some (cd,(1:Int))else(c[0]?).bind λb=>EV N e d (c.drop 1) 1 (0:Int) b.xN b.xD
 |g::h,i=>(nR N d g).bind λf=>bif f then(Fq N c e d h (i+1))else some (cd,(1:Int))
def Dt(N:Nat)(a:Int)(b:aL)(c:I aA):U (aA×Int):=(bif (decide (a<1))then some true else some (decide (a>5))).bind λd=>bif d then some (cd,(1:Int))else(mQ N b).bind λe=>bif e then Fq N c a b c 0 else some (cd,(10:Int))
def S4(a:aL)(l:I ar):I ar:= .cells (bX a).cells:: .cells gj::l
def acF{N h e a r}(J:Dt N h e a=some r):KF 77 [Y h,bX e,O (eB a)] (.bn [bm r.1,Y r.2]):=by
 rw[Dt]at J;refine Ii func77 ?_;refine fZ bB [[]] ?_;obtain⟨A,p,J⟩:=bz J;refine wx bB [(19,az A)] (S4 e []) ?_ ?_
 ·apply bc p<;>intro t p
  ·cases p;exact gk [(2,bT t)] []
  cases p;exact gk [(2,bF t)] []
 apply bc J<;>intro u J;{cases J;exact wr bB [[(0,bT u)],[]]}
 obtain⟨v5,B,J⟩:=bz J;refine fZ bB [[(0,bF u)],[(4,cK oT B)]] ?_;apply bc J<;>intro v J
 ·refine fZ bB [[(0,bF (cy v))],[]] ?_;refine Dd sG 2 a λC=> ?_;refine aul bB 1 [] [0,2,4,6,8] 2 a (λq=>⟨79,[(0,Y h),(2,O (eB a)),(4,Ad),(6,AM),(8,Y q)],S4 e []⟩) (Fq N a h e) J ?_ ?_
  ·intro q i J E;rw[Fq]at J;refine fZ bB [[(7,oL a jK)],[(0,bF (bI i))],[(4,oL a jK)]] ?_;apply bc J<;>intro w J
   ·obtain⟨F,G,J⟩:=bz J;refine fZ bB [[(0,bT w)],[(7,cK aid G)],[]] ?_;apply bc J<;>intro x J
    ·cases J;exact wr bB [[(0,bF (cy x))],[]]
    cases J;exact wr bB [[(0,bT (dt x))],[]]
   obtain⟨j,H,J⟩:=bz J;refine fZ bB [[(0,bF w)],[(4,oE (k:=0) (mv H))],[]] ?_;refine Dd sG 2 a λK=> ?_;refine Hn bB 2 [] [0,2,4,6,11,12,13] 3 (λ((b,f,l,n,o):Nat×(I aA)×Int×Int64×Int64)=>⟨79,[(0,Y h),(2,O (eB a)),(4,Ad),(6,AM),(11,D5),(12,Y l),(13,Y b)],S4 e [.cells [bx n,bx o]]⟩) (λ((b,f,l,n,o):Nat×(I aA)×Int×Int64×Int64)=>a.drop b=f/\EV N h e f b l n o=some r) (λ((b,f,l,n,o):Nat×(I aA)×Int×Int64×Int64)=>f.length) (1,a.drop 1,(0:Int),j.xN,j.xD) ⟨rfl,J⟩ ?_;rintro⟨b,f,l,n,o⟩ ⟨c,J⟩ f2 L;cases f with
   |nil=>
    rw[EV]at J;cases J;exact wr bB [[(7,oL a jK),(15,bF (bI c)),(18,bF (bI c)),(22,bF (bI c))],[(0,bF rfl)],[]]
   |cons aG M=>
    rw[EV]at J;refine fZ bB [[(7,oL a jK),(15,bT (bH c)),(18,bT (bH c)),(22,bT (bH c))]] ?_;apply bc J<;>intro y J;{obtain⟨cm,P,g,Q,J⟩:=jG J;exact Bc bB L (b+1,M,g.2,g.1.xN,g.1.xD) [[(0,bT y)],[(4,cK ahY P),(19,oE (mv (aY c))),(25,cK atQ Q)],[(5,oq (bV c rfl K))]] ⟨kI c,J⟩}
    cases J;exact wr bB [[(0,bF y)],[]]
  intro q v8 v9 i J E R;rw[Fq]at J;obtain⟨W,eI,J⟩:=bz J;refine fZ bB [[(7,oL a jK)],[(0,bT (bH i))],[(10,oE (mv (aY i))),(16,cK tY eI)]] ?_;apply bc J<;>intro z J;{exact wb bB R () [[(0,bF (cy z))],[(5,oq (bV i rfl C))]] i J}
  cases J;exact wr bB [[(0,bT (dt z))],[]]
 cases J;exact wr bB [[(0,bT (dt v))],[]]
def AB(N:Nat)(e:I Int)(g:I so)(h:I aJ)(i:I aR)(c:bZ):Nat->Int->gi->U gi
 |0,_,_=>none
 |v6+1,d,f=>(Ag N e).bind λn=>bif (decide (d<n))then(C8 N g e d h).bind λj=>(TN N i j c.cw).bind λa=>bif (a.xE !=0)then some a else bif (d==0)then(λk l=>AB N e g h i c v6 k l) (aE (d+(1:Int))) a else(Dt N c.dG c.aH ([f.xV,a.xV])).bind λb=>bif (b.2 !=0)then some (⟨cd,dX,b.2⟩:gi)else(λk l=>AB N e g h i c v6 k l) (aE (d+(1:Int))) (⟨b.1,f.xT,f.xE⟩:gi)else some f
def Kh(N:Nat)(a:I aR)(b:I aJ)(c:bZ)(d:I so)(e:I Int):U gi:=AB N e d b a c N (0:Int) ah1
def ajK{N a b c e f}:KO 75 [O (bp a),O (aT b),fb c,O (cD e),O (bE f)] qB (Kh N a b c e f):=
 fw func75 (Hb 1 [[],[],[]] [0,1,3,4,7,10,11,12] 3 (λ(g:Int)(h:gi)=>⟨59,[(0,O (bp a)),(1,O (aT b)),(3,O (cD e)),(4,O (bE f)),(7,Ad),(10,AM),(11,D5),(12,Y g)],[.cells (fb c).cells,.cells Pn,.cells (qB h).cells]⟩) (AB N f e b a c) (λv g h w l=>au λx n=>V [[(7,cK Jn n)]] (jC λo=>au λp q=>au λi r=>V [[t0 o],[(16,cL (aeb q)),(25,cK art r)],[]] (e7 λ_=>ax (λj=>rV l (aE (g+(1:Int)),i) [[t0 j],[],[]]) λj=>au λk t=>V [[f0 j],[(28,cL (acF t))],[]] (bg λu=>rV l (aE (g+(1:Int)),(⟨k.1,h.xT,h.xE⟩:gi)) [[f0 u],[],[]])))))
def Aq(N:Nat)(b:I aA)(c:Int->(I aA)->U (bk×Int))(d:Int)(a:gi):U (bk×Int):=bif (a.xE !=0)then some (iV,a.xE)else bif (Nat.ble ((b.length+1)*16) 140737488355328)then c (aE (d+(1:Int))) (b++[a.xV])else none
def xg(N:Nat)(a:(I Int)×Int)(f:(I so)×(I bD))(g:I aJ)(h:I aR)(c:bZ)(i:(I so)×(I bD))(j:(I Int)×Int):Nat->Int->(I aA)->U (bk×Int)
 |0,_,_=>none
 |o+1,b,d=>(Ag N a.1).bind λr=>bif (decide (b<r))then(C8 N f.1 a.1 b g).bind λt=>(Kh N h t c i.1 j.1).bind λe=>(bif (c.dG==5)then(bif (e.xE==0)then bif (decide ((0:Int)<=(aE ((a.1.length:Int)-(1:Int)))))then(a.1[(aE ((a.1.length:Int)-(1:Int))).toNat]?).bind λp=>bif (p !=0)then some (decide (((b).tmod p)>0))else none else none else some false)else some false).bind λk=>bif k then bif (decide ((0:Int)<=(aE (b-(1:Int)))))then(d[(aE (b-(1:Int))).toNat]?).bind λu=>(Dt N (1:Int) c.aH ([u,e.xV])).bind λq=>Aq N d (λl n=>xg N a f g h c i j o l n) b (⟨q.1,e.xT,q.2⟩:gi)else none else Aq N d (λl n=>xg N a f g h c i j o l n) b e else some ((⟨c.aH,a.1,d⟩:bk),(0:Int))
def F9(N:Nat)(f:bo)(c:I aJ)(i:I aR)(j:Int):U (bk×Int):=bif (decide ((0:Int)<=j))then(f.aM[(j).toNat]?).bind λa=>(GI N f c a.aC).bind λd=>bif (d.2 !=0)then some (iV,d.2)else(OZ N a.aQ).bind λl=>(OZ N a.cl).bind λk=>(GP N k.2 c).bind λe=>bif (e.2 !=0)then some (iV,e.2)else(Ag N d.1).bind λg=>(Ag N e.1).bind λh=>bif (decide ((aE (g*h))>65536))then some (iV,(2:Int))else(NK N f c i a).bind λb=>bif (b !=0)then some (iV,b)else xg N d l c i a k e N (0:Int) []else none
def KY(c:bo)(a:bZ)(e:(I Int)×Int)(b:I aA)(l:I ar):I ar:= .cells (c9 c).cells:: .cells JA:: .cells (fb a).cells:: .cells [Y a.aH.bA,Y a.aH.bU,Y a.aH.ck,Y a.aH.cr,Y a.aH.cC,O (bE e.1),.own 4 (eB b)]:: .front 45 2 b.length::l
def ap7{N f g h q}:KO 35 [c9 f,O (aT g),O (bp h),Y q] (λr=>.bn [fY r.1,Y r.2]) (F9 N f g h q):=
 fw func35 (cH λA=>au λj B=>au λc C=>V [[],[(10,⟨_,_,.el (xs:=iy f.aM) (i:=q) (Vd A) (ju B)⟩)],[(13,cK aaK C)],[]] (bg λE=>au λn F=>au λo G=>au λp H=>V [[f0 E],[(7,cK ac8 F)],[(7,cK ac8 G)],[(7,cK atO H)],[]] (bg λJ=>au λK L=>au λM P=>V [[f0 J],[(4,cK Jn L),(10,cK Jn P)]] (bg λQ=>au λR W=>V [[f0 Q],[(13,cK aoX W)],[]] (bg λbJ=>V [[f0 bJ],[],[]] (li (λ_=>(akq 3 6 45 2 [] (.inr (by kernel_rfl)) ·)) (an1 1 [] [1,2,8,10,11,13,15,17,20,21] 5 [] [(1,5),(1,6)] (λ(k:Int)(e:(I aA))=>⟨152,[(1,O (aT g)),(2,O (bp h)),(8,AM),(10,D5),(11,O (bE c.1)),(13,O (cD n.1)),(15,O (cD o.1)),(17,O (bE p.1)),(20,AU),(21,Y k)],KY f j c e []⟩) (xg N c n g h j o p) (λaF k e f1 aI=>au λbw bW=>V [[(7,cK Jn bW)]] (jC λbC=>au λbY cf=>au λt de=>V [[t0 bC],[(16,cL (aeb cf)),(28,cK ajK de)]] (gG (λl=>[(118,az l)]) (λ_=>(KY f j c e [.cells (qB t).cells])) (ax (λu=>cp (3,bT u) (ax (λv=>cH λfM=>au λcm du=>cH λgD=>gE [(8,bT v)] [(37,oL c.1 fF),(43,⟨_,_,.el (xs:=bE c.1) (i:=(aE ((c.1.length:Int)-(1:Int)))) (Vd fM) (gV du)⟩),(49,⟨_,_,.nz (b:=cm) (Vr.1 gD)⟩)]) λv=>gE [(8,bF v)] [])) λu=>gE [(3,bF u),(8,bF rfl)] []) λl=>anS 2 [] [1,2,8,10,11,13,15,17,20,21,22] 6 [] [(1,5),(1,6)] (λ(a:gi)=>⟨152,[(1,O (aT g)),(2,O (bp h)),(8,AM),(10,D5),(11,O (bE c.1)),(13,O (cD n.1)),(15,O (cD o.1)),(17,O (bE p.1)),(20,AU),(21,Y k),(22,Dv)],KY f j c e [.cells (qB a).cells]⟩) (Aq N e (λbP eE=>xg N c n g h j o p aF bP eE) k) (λf2 y=>ax (λw=>cH λjU=>au λfv gh=>au λz mc=>aug y (⟨z.1,t.xT,z.2⟩:gi) [[t0 w],[(19,⟨_,_,.el (xs:=eB e) (i:=(aE (k-(1:Int)))) (Vd jU) (mv gh)⟩),(34,cL (acF mc))],[],[]]) λw=>aug y t [[f0 w]]) (λa=>V [[]] (ax (λx=>V [[t0 x]] (li (λ_=>(MP 2 bB [(9,Y a.xE)] (KY f j c e [.cells (qB a).cells]) ⟨[],by kernel_rfl⟩ ·)) (gR []))) λx=>cH λkP=>aui aI (aE (k+(1:Int)),e++[a.xV]) [[f0 x],[(16,oA sG e ([a.xV]) kP)],[]]))))))))))))
def JP(N:Nat)(a:bo)(c:I aJ)(f:I aR)(b:Int):U (bk×Int):=(M7 N a c).bind λd=>bif (d !=0)then some (iV,d)else(bif (decide (b<0))then some true else some (decide (b>=(a.aM.length:Int)))).bind λg=>bif g then some (iV,(9:Int))else(F9 N a c f b).bind λe=>some (e.1,e.2)
def ahX{N a c e f}:KO 11 [c9 a,O (aT c),O (bp e),Y f] (λr=>.bn [fY r.1,Y r.2]) (JP N a c e f):=
 fw func11 (au λl h=>V [[],[(7,cK aoU h)],[]] (bg λi=>V [[f0 i]] (gG (λg=>[(26,az g)]) (λ_=>[.cells (c9 a).cells,.cells JA]) (ax (λb=>gE [(2,bT b)] []) λb=>gE [(2,bF b)] [(19,oL a.aM j6)]) λg=>bg λj=>au λn k=>gR [[f0 j],[(13,cK ap7 k)]])))
def M9(N:Nat)(a:bk)(b:bk):U Bool:=(bif ((a.aH.bA==b.aH.bA)&&((a.aH.bU==b.aH.bU)&&((a.aH.ck==b.aH.ck)&&((a.aH.cr==b.aH.cr)&&((a.aH.cC==b.aH.cC)&&true)))))then (vh N a.aQ b.aQ).bind λc=>(bif c then (Iw N a.eF b.eF).bind λd=>some d else some false)else some false).bind λe=>some e
def ajX{N a b}:KO 12 [fY a,fY b] az (M9 N a b):=
 fw func12 (V [[]] (gG (λe=>[(4,az e)]) (λ_=>[.cells (fY a).cells,.cells (fY b).cells]) (ax (λc=>au λh f=>cp (5,bT c) (cU (31,cK atN f) (ax (λd=>au λi g=>gE [(12,bT d)] [(52,cK aee g)]) λd=>gE [(12,bF d)] []))) λc=>gE [(5,bF c),(12,bF rfl)] []) λe=>gR []))
def Az(N:Nat)(d:bo)(f:I aJ):Nat->Int->(I aR)->U Bool
 |0,_,_=>none
 |i+1,c,a=>bif (decide (c<=(d.aM.length:Int)))then(MB N d f a c).bind λb=>(JP N d f a c).bind λe=>(M9 N b.1 e.1).bind λj=>(bif j then some (b.2 !=e.2)else some true).bind λk=>bif k then some false else bif (b.2==0)then bif (decide ((0:Int)<=c))then(d.aM[(c).toNat]?).bind λl=>bif (Nat.ble ((a.length+1)*104) 140737488355328)then(λg h=>Az N d f i g h) (aE (c+(1:Int))) (a++[(⟨l.aC,b.1⟩:aR)])else none else none else(λg h=>Az N d f i g h) (aE (c+(1:Int))) a else(I4 N).bind λn=>some n
def Vc(N:Nat)(b:bo)(c:I aJ)(a:I aR):U Bool:=(LB N b c (8:Int64)).bind λd=>(bif d then (V3 N a).bind λe=>some (!e)else some true).bind λf=>bif f then(I4 N).bind λg=>some g else bif (Nat.ble ((0+a.length)*104) 140737488355328)then Az N b c N (-1:Int) a else none
def akJ{N b f g}:KO 3 [c9 b,O (aT f),O (bp g)] az (Vc N b f g):=
 fw func3 (V [[]] (au λG u=>gG (λp=>[(21,az p)]) (λ_=>(L1 b)) (cU (7,cK aq2 u) (ax (λh=>au λH v=>gE [(4,bF (cy h))] [(19,cK anY v)]) λh=>gE [(4,bT (dt h))] [])) λp=>ax (λj=>au λJ w=>gR [[t0 j],[(1,cK aeD w)]]) λj=>cH λx=>Hb 1 [[f0 j],[(7,oZ xe g x)],[]] [1,3,7,8] 2 (λ(e:Int)(a:I aR)=>⟨72,[(1,O (aT f)),(3,Ad),(7,.own 1 (bp a)),(8,Y e)],TM b a.length⟩) (Az N b f) (λK e a L q=>V [[(10,oL b.aM j6)]] (ax (λk=>au λc y=>au λl z=>V [[t0 k],[(13,cK aqM y)],[(13,cK ahX z)]] (au λM A=>gG (λr=>[(57,az r)]) (λ_=>[.cells (c9 b).cells,.front 56 8 a.length,.cells (fY c.1).cells,.cells (fY l.1).cells]) (cU (7,cK ajX A) (ax (λn=>gE [(4,bF (cy n))] []) λn=>gE [(4,bT (dt n))] [])) λr=>e7 λ_=>ax (λo=>cH λB=>au λt C=>cH λE=>rV q (aE (e+(1:Int)),a++[(⟨t.aC,c.1⟩:aR)]) [[t0 o],[(13,⟨_,_,.el (xs:=iy b.aM) (i:=e) (Vd B) (ju C)⟩),(31,oA xe a ([(⟨t.aC,c.1⟩:aR)]) E)],[]]) λo=>rV q (aE (e+(1:Int)),a) [[f0 o],[]])) λk=>au λP F=>gR [[f0 k],[(1,cK aeD F)]]))))
def Ju(b:so)(i:Nat):b[i]?=(bL b)[i]?:=by
 unfold bL;rw[ZF];by_cases h:i<b.size;{rw[getElem?_pos b i h,ZH (xs:=b.data) (by exact h)];rfl};{rw[getElem?_neg b i h,Array.getElem?_eq_none (xs:=b.data) (by exact Nat.le_of_not_lt h)]}
def uw(b:so):b.size=(bL b).length:=by unfold bL;rw[Z0];rfl
def K1{i:Nat}(h:i<9223372036854775807):aE ((i:Int)+1)=((i+1:Nat):Int):=by
 unfold aE;rw[b6]<;>omega
def oY(c:UInt8):Bool:=decide (97<=c.toNat)&&decide (c.toNat<=122)
def kM(c:UInt8):Bool:=oY c||(decide (48<=c.toNat)&&decide (c.toNat<=57))||c.toNat==95
def xy(l:I UInt8):Bool:=pH.any λw=>bL w==l
def Py(l:I UInt8):Bool:=decide (1<=l.length)&&(decide (l.length<=16)&&(!xy l&&((l.take 1).all oY&&l.all kM)))
def iX(s:so):Bool:=Py (bL s)
def abT(c:UInt8):IntKind.i32.wrap (c.toNat:Int)=(c.toNat:Int):=by
 have:=c.toNat_lt;rw[IntKind.wrap_i32]<;>omega
def og{p q:Prop} [Decidable p] [Decidable q](h:p↔q):decide p=decide q:=decide_eq_decide.2 h
def ij(a b:Bool):(bif a then some b else some false)=some (a&&b):=by cases a<;>rfl
def kJ(a b:Bool):(bif a then some true else some b)=some (a||b):=by cases a<;>rfl
def atL(N:Nat)(c:UInt8):FB N (c.toNat:Int)=some (oY c):=by
 unfold FB oY;rw[ij,re,og (q:=97<=c.toNat) (by omega),og (p:=(c.toNat:Int)<=122) (q:=c.toNat<=122) (by omega)]
def anF(N:Nat)(c:UInt8):Pu N (c.toNat:Int)=some (decide (48<=c.toNat)&&decide (c.toNat<=57)):=by
 unfold Pu;rw[ij,re,og (q:=48<=c.toNat) (by omega),og (p:=(c.toNat:Int)<=57) (q:=c.toNat<=57) (by omega)]
def sJ(n k:Nat):((n:Int)==(k:Int))=(n==k):=by
 rw[Bool.eq_iff_iff,Ve,Ve];omega
def apP(N:Nat)(c:UInt8):No N (c.toNat:Int)=some (kM c):=by
 unfold No kM;rw[atL,re,anF,re];have:=sJ c.toNat 95;rw[show(((c.toNat:Int)==95))=(c.toNat==95)from this,kJ,kJ,re,Bool.or_assoc]
def afS(N:Nat)(s:so)(c:s.size<9223372036854775807):∀(k i:Nat),i<=s.size->s.size-i<k->Jo N s k (i:Int)=some ((i+(((bL s).drop i).takeWhile kM).length:Nat):Int)
 |0,i,_,d=>absurd d (Z5 _)
 |k+1,i,h,d=>by
  rw[Jo];by_cases a:i<s.size
  ·have b:decide ((i:Int)<(s.size:Int))=true:=dO (by omega);have g:decide ((0:Int)<=(i:Int))=true:=dO (by omega);rw[b,g];simp only[V1,ZB];have e:i<(bL s).length:=by rw[<-uw];exact a
   rw[Ju,Zd e,List.drop_eq_getElem_cons e,re,abT,apP,re,re];cases f:kM (bL s)[i]with
   |true=>
    simp only[V1];rw[K1 (Nat.lt_trans a c),afS N s c k (i+1) a (by omega),List.takeWhile_cons_of_pos f,Zi]
    congr 2;omega
   |false=>
    simp only[UQ];rw[List.takeWhile_cons_of_neg (by rw[f];simp)];rfl
  ·have b:decide ((i:Int)<(s.size:Int))=false:=Zx (by omega);rw[b];simp only[UQ,re];rw[List.drop_eq_nil_of_le (by rw[<-uw];omega)];rfl
def ais(N:Nat)(s:so)(a:s.size<9223372036854775807)(b:s.size<N):N1 N s=some ((((bL s).takeWhile kM).length:Nat):Int):=by
 unfold N1;have:=afS N s a N 0 (WJ _) (by omega);rw[Yq,ZJ]at this;exact this
def atK{α:Type}(p:α->Bool):∀l:I α,((l.takeWhile p).length==l.length)=l.all p
 |[]=>rfl
 |x::l=>by
  cases h:p x with
  |true=>
   rw[List.takeWhile_cons_of_pos h,Z4,h,YJ,<-atK p l];simp
  |false=>rw[List.takeWhile_cons_of_neg (by rw[h];simp),Z4,h];simp
def S5(N:Nat)(v:so):∀(l:I so)(k:Nat),∃z:Int,PU N v l k=some z/\decide (z>=0)=l.any λw=>bL w==bL v
 |[],k=>⟨-1,rfl,rfl⟩
 |w::l,k=>by
  rw[PU,Ye];have a:(bL v==bL w)=(bL w==bL v):=by rw[Bool.eq_iff_iff,Ve,Ve];exact eq_comm
  cases h:bL v==bL w with
  |true=>rw[a]at h;exact⟨k,rfl,by rw[h,Bool.true_or];exact dO (by omega)⟩
  |false=>
   obtain⟨z,b,c⟩:=S5 N v l (k+1);rw[a]at h;exact⟨z,b,by rw[h,ai];exact c⟩
def ai3(N:Nat)(v:so):Lx N v=some (xy (bL v)):=by
 unfold Lx TI CC OQ;obtain⟨z,a,b⟩:=S5 N v pH 0;rw[re,a,re,re,b];rfl
def P3{α:Type}{l:I α}(h:0<l.length):l.take 1=[l[0]]:=by
 cases l with
 |nil=>cases h
 |cons x l=>rfl
def tX:bL (bs [])=[]:=rfl
def JE(N:Nat)(s:so)(g:16<N):zU N s=some (iX s):=by
 unfold zU iX Py;have d:=uw s;by_cases a:(bL s).length=0;{have:bL s=[]:=List.length_eq_zero_iff.1 a;rw[this];rfl}
 have e:(bL s==bL (bs []))=false:=by
  rw[tX,Vb];intro h;rw[h]at a;exact a rfl
 rw[e,dO (show 1<=(bL s).length by omega),YJ];simp only[UQ];by_cases b:(bL s).length<=16
 ·rw[dO (show(s.size:Int)<=16 by omega),dO b,YJ];simp only[V1];have c:0<(bL s).length:=by omega
  rw[Ju,Zd c,re,abT,atL,re,ais N s (by omega) (by omega),re,ai3,re,d,sJ,atK];have f:(bL s).take 1=[(bL s)[0]]:=P3 c;rw[f,Z4,List.all_nil,Bool.and_true,ij,ij,re]
  congr 1
  cases xy (bL s)<;>cases oY (bL s)[0]<;>cases (bL s).all kM<;>rfl
 ·rw[Zx (show ¬(s.size:Int)<=16 by omega),Zx b];rfl
def aiK(N:Nat)(b:Bool):jE N b=some b:=by cases b<;>rfl
def ahN(a b:Bool):(bif a then some a else some b)=some (a||b):=by cases a<;>rfl
def alc(a b:I UInt8):(a==b)=(b==a):=by rw[Bool.eq_iff_iff,Ve,Ve];exact eq_comm
def aqH(N:Nat)(v:so):MZ N v=some (xy (bL v)):=by
 simp only[MZ,aiK,ahN,xy,pH,Ye,List.any_nil,Bool.or_false,alc (bL v)]
def F8(n k:Nat):decide ((n:Int)<(k:Int))= !decide (k<=n):=by
 by_cases h:k<=n;{rw[dO h,Zx (by omega)];rfl};{rw[Zx h,dO (by omega)];rfl}
def lZ(n k:Nat):decide ((n:Int)>(k:Int))= !decide (n<=k):=by
 by_cases h:n<=k;{rw[dO h,Zx (by omega)];rfl};{rw[Zx h,dO (by omega)];rfl}
def acO(n k:Nat):decide ((n:Int)>=(k:Int))=decide (k<=n):=og (by omega)
def xP(n k:Nat):decide ((n:Int)<=(k:Int))=decide (n<=k):=og (by omega)
def afE(n k:Nat):((n:Int) !=(k:Int))= !(n==k):=by unfold bne;rw[sJ]
def akd(c:UInt8):(bif (decide ((c.toNat:Int)<97))then(bif (decide ((c.toNat:Int)<48))then some ((c.toNat:Int) !=95)else(bif (decide ((c.toNat:Int)>57))then some ((c.toNat:Int) !=95)else some false))else(bif (decide ((c.toNat:Int)>122))then(bif (decide ((c.toNat:Int)<48))then some ((c.toNat:Int) !=95)else(bif (decide ((c.toNat:Int)>57))then some ((c.toNat:Int) !=95)else some false))else some false))=some (!kM c):=by
 have a:=F8 c.toNat 97;have b:=F8 c.toNat 48;have d:=lZ c.toNat 57;have e:=lZ c.toNat 122;have f:=afE c.toNat 95;simp only[Int.cast_ofNat_Int]at a b d e f;rw[a,b,d,e,f];unfold kM oY;cases decide (97<=c.toNat)<;>cases decide (48<=c.toNat)<;>cases decide (c.toNat<=57)<;>cases decide (c.toNat<=122)<;>cases (c.toNat==95)<;>rfl
def abf(N:Nat)(s:so)(c:s.size<9223372036854775807):∀(k i:Nat),i<=s.size->s.size-i<k->Cp N s k (i:Int)=some (((bL s).drop i).all kM)
 |0,i,_,d=>absurd d (Z5 _)
 |k+1,i,g,d=>by
  rw[Cp];by_cases a:i<s.size
  ·have b:decide ((i:Int)<(s.size:Int))=true:=dO (by omega);have f:decide ((0:Int)<=(i:Int))=true:=dO (by omega);rw[b,f];simp only[V1,ZB];have e:i<(bL s).length:=by rw[<-uw];exact a
   rw[Ju,Zd e,List.drop_eq_getElem_cons e,re,akd,re,Z4];cases h:kM (bL s)[i]with
   |true=>
    simp only[Wh,UQ,YJ];rw[K1 (Nat.lt_trans a c),abf N s c k (i+1) a (by omega)]
   |false=>rfl
  ·have b:decide ((i:Int)<(s.size:Int))=false:=Zx (by omega);rw[b];simp only[UQ];rw[List.drop_eq_nil_of_le (by rw[<-uw];omega)];rfl
def arh(N:Nat)(s:so)(j:16<N):P0 N s=some (iX s):=by
 unfold P0 iX Py;have f:=uw s;have a:=F8 s.size 1;have b:=lZ s.size 16;simp only[Int.cast_ofNat_Int]at a b;rw[a,b,f];cases g:decide (1<=(bL s).length)with
 |false=>rfl
 |true=>
  cases h:decide ((bL s).length<=16)with
  |false=>rfl
  |true=>
   have k:=Vd g;have i:=Vd h;have c:0<(bL s).length:=by omega
   simp only[Wh,UQ,YJ];rw[aqH,re,Ju,Zd c,re];have d:=F8 (bL s)[0].toNat 97;have e:=lZ (bL s)[0].toNat 122;simp only[Int.cast_ofNat_Int]at d e;rw[d,e,kJ,kJ,re,P3 c];have:=abf N s (by omega) N 0 (WJ _) (by omega);rw[Yq]at this;rw[show Cp N s N 0=_ from this,Z4,List.all_nil,Bool.and_true];unfold oY;cases xy (bL s)<;>cases decide (97<=(bL s)[0].toNat)<;>cases decide ((bL s)[0].toNat<=122)<;>rfl
def Wu(N:Nat)(v:so):∀(l:I so)(k:Nat),Mx N v l k=some (l.any λw=>bL w==bL v)
 |[],_=>rfl
 |w::l,k=>by
  rw[Mx,Ye,Wu N v l (k+1)];cases bL w==bL v<;>rfl
def amf(c:UInt8)(z:Bool):(bif (decide ((c.toNat:Int)>=97))then(bif (decide ((c.toNat:Int)<=122))then some (!true)else(bif z then(bif (decide ((c.toNat:Int)>=48))then(bif (decide ((c.toNat:Int)<=57))then some (!true)else some (!((c.toNat:Int)==95)))else some (!((c.toNat:Int)==95)))else some (!false)))else(bif z then(bif (decide ((c.toNat:Int)>=48))then(bif (decide ((c.toNat:Int)<=57))then some (!true)else some (!((c.toNat:Int)==95)))else some (!((c.toNat:Int)==95)))else some (!false)))=some (!(bif z then kM c else oY c)):=by
 have a:=acO c.toNat 97;have b:=acO c.toNat 48;have d:=xP c.toNat 57;have e:=xP c.toNat 122;have f:=sJ c.toNat 95;simp only[Int.cast_ofNat_Int]at a b d e f;rw[a,b,d,e,f];unfold kM oY;cases decide (97<=c.toNat)<;>cases decide (48<=c.toNat)<;>cases decide (c.toNat<=57)<;>cases decide (c.toNat<=122)<;>cases (c.toNat==95)<;>cases z<;>rfl
def abH(N:Nat)(s:so)(f:s.size<9223372036854775807):∀(k i:Nat),i<=s.size->s.size-i<k->Cu N s k (i:Int)=some (bif decide (i>0)then((bL s).drop i).all kM else((bL s).take 1).all oY&&((bL s).drop 1).all kM)
 |0,i,_,g=>absurd g (Z5 _)
 |k+1,i,j,g=>by
  rw[Cu];by_cases a:i<s.size
  ·have b:decide ((i:Int)<(s.size:Int))=true:=dO (by omega);have h:decide ((0:Int)<=(i:Int))=true:=dO (by omega);rw[b,h];simp only[V1,ZB];have c:i<(bL s).length:=by rw[<-uw];exact a
   rw[Ju,Zd c,re,amf,re,K1 (Nat.lt_trans a f),abH N s f k (i+1) a (by omega),dO (show i+1>0 by omega)];simp only[V1];by_cases d:i=0;{subst d;rw[Zx (show ¬((0:Nat):Int)>0 by omega),Zx (show ¬0>0 by omega)];simp only[UQ];rw[P3 c,Z4,List.all_nil,Bool.and_true];cases oY (bL s)[0]<;>rfl};{rw[dO (show(i:Int)>0 by omega),dO (show i>0 by omega)];simp only[V1];rw[List.drop_eq_getElem_cons c,Z4];cases kM (bL s)[i]<;>rfl}
  ·have b:decide ((i:Int)<(s.size:Int))=false:=Zx (by omega);rw[b];simp only[UQ];have e:(bL s).drop i=[]:=List.drop_eq_nil_of_le (by rw[<-uw];omega);by_cases d:i=0
   ·subst d;rw[Yq]at e;rw[e];rfl
   ·rw[dO (show i>0 by omega),e];rfl
def Mk(N:Nat)(s:so)(k:16<N):zQ N s=some (iX s):=by
 unfold zQ iX Py;have d:=uw s;have a:=F8 s.size 1;have b:=lZ s.size 16;simp only[Int.cast_ofNat_Int]at a b;rw[a,b,d];cases e:decide (1<=(bL s).length)with
 |false=>rfl
 |true=>
  cases f:decide ((bL s).length<=16)with
  |false=>rfl
  |true=>
   have n:=Vd e;have g:=Vd f;have c:0<(bL s).length:=by omega
   simp only[Wh,UQ,YJ];have h:∀l,wq N l s=some (l.any λw=>bL w==bL s):=λl=>Wu N s l 0;unfold R9;rw[re,h,re,re];have:=abH N s (by omega) N 0 (WJ _) (by omega);rw[show Cu N s N 0=_ from this];show(bif xy (bL s)then some false else some (((bL s).take 1).all oY&&((bL s).drop 1).all kM))=_;have i:(bL s).all kM=(kM (bL s)[0]&&((bL s).drop 1).all kM):=by
    have j:bL s=(bL s)[0]::(bL s).drop 1:=by
     have:=List.drop_eq_getElem_cons c
     rwa [Yq]at this
    rw[<-Z4,<-j]
   rw[i,P3 c,Z4,List.all_nil,Bool.and_true];unfold kM;cases xy (bL s)<;>cases oY (bL s)[0]<;>simp
def dA(t:aL):Bool:=bif t.bA==1||t.bA==3 then t.bU==0&&(t.ck==0&&(t.cr==0&&t.cC==0))else t.bA==2&&(decide (2<=t.bU)&&(decide (t.bU<=31)&&(decide (0<=t.ck)&&(decide (t.ck<=30)&&(decide (1<=t.cr)&&(decide (t.cr<=4)&&(t.cC==1||t.cC==2)))))))
def ako(a:Bool):(bif a then some true else some false)=some a:=by cases a<;>rfl
def QH(a b:Int):decide (a<b)= !decide (b<=a):=by
 by_cases h:b<=a;{rw[dO h,Zx (by omega)];rfl};{rw[Zx h,dO (by omega)];rfl}
def On(a b:Int):decide (a>b)= !decide (a<=b):=QH b a
def nM(a b:Int):decide (a>=b)=decide (b<=a):=rfl
def yU(a b:Int):(a !=b)= !(a==b):=rfl
def tb(N:Nat)(t:aL):mQ N t=some (dA t):=by
 unfold mQ dA;simp only[kJ,ij,re,nM];cases (t.bA==1||t.bA==3)<;>rfl
def SK(N:Nat)(t:aL)(h:(t.bA==2)=true):wj N t=some (bif (decide (2<=t.bU)&&(decide (t.bU<=31)&&(decide (0<=t.ck)&&(decide (t.ck<=30)&&(decide (1<=t.cr)&&(decide (t.cr<=4)&&(t.cC==1||t.cC==2)))))))then 0 else 10):=by
 unfold wj;simp only[kJ,ij,re,nM,On,yU,h,Wh,ai];cases decide (2<=t.bU)<;>cases decide (t.bU<=31)<;>cases decide (0<=t.ck)<;>cases decide (t.ck<=30)<;>cases decide (1<=t.cr)<;>cases decide (t.cr<=4)<;>cases t.cC==1<;>cases t.cC==2<;>rfl
def rH(N:Nat)(t:aL):nE N t=some (bif dA t then 0 else 10):=by
 unfold nE JN dA Ud;cases b:t.bA==1 with
 |true=>
  simp only[V1,re,Ys,YJ,Bool.true_or,Bool.and_true];cases (t.bU==0&&(t.ck==0&&(t.cr==0&&t.cC==0)))<;>rfl
 |false=>
  cases c:t.bA==3 with
  |true=>
   simp only[V1,UQ,re,Ys,YJ,Bool.or_true,Bool.and_true];cases (t.bU==0&&(t.ck==0&&(t.cr==0&&t.cC==0)))<;>rfl
  |false=>
   cases a:t.bA==2 with
   |true=>
    rw[SK N t a];simp only[V1,UQ,re,YJ,Bool.or_false];cases (decide (2<=t.bU)&&(decide (t.bU<=31)&&(decide (0<=t.ck)&&(decide (t.ck<=30)&&(decide (1<=t.cr)&&(decide (t.cr<=4)&&(t.cC==1||t.cC==2)))))))<;>rfl
   |false=>rfl
def wF:U so->I dZ->Bool
 |_,[]=>true
 |p,m::l=>iX m.aC&&(!(m.eQ.toInt==0)&&((match p with|none=>true|some q=>Op.bytesLess (bL q) (bL m.aC))&&wF (some m.aC) l))
def agi(p:U so)(m:dZ)(l:I dZ):wF p (m::l)=(iX m.aC&&(!(m.eQ.toInt==0)&&((match p with|none=>true|some q=>Op.bytesLess (bL q) (bL m.aC))&&wF (some m.aC) l))):=by cases p<;>rfl
def jR(x:bD):Bool:=wF none x.xL
def uS(x:bD)(k:Nat):U so:=bif k==0 then none else(x.xL[k-1]?).map (·.aC)
def ast{k:Nat}(a:0<k)(h:k<=maxLen):aE ((k:Int)-1)=((k-1:Nat):Int):=by
 unfold aE;have:(k:Int)-1=((k-1:Nat):Int):=by omega
 rw[this];unfold maxLen at h;rw[b6]<;>omega
def adr{x:bD}{k:Nat}{m:dZ}{l:I dZ}(a:x.xL.drop k=m::l):uS x (k+1)=some m.aC:=by
 have:=aY a;unfold uS;simp [this]
def abx{x:bD}{k:Nat}{m:dZ}{l:I dZ}(b:x.xL.drop k=m::l)(e:x.xL.length<=maxLen):
 (bif (decide ((k:Int)>0))then bif (decide ((0:Int)<=(aE ((k:Int)-(1:Int)))))then
 (x.xL[(aE ((k:Int)-(1:Int))).toNat]?).bind λc=>
 some (!(Op.bytesLess (bL c.aC) (bL m.aC)))
 else none else some false)=some (!(match uS x k with|none=>true|some q=>Op.bytesLess (bL q) (bL m.aC))):=by
 have f:k<x.xL.length:=(Zk.1 (aY b)).1;by_cases a:k=0;{subst a;rfl}
 ·rw[dO (show(k:Int)>0 by omega),ast (by omega) (by omega),dO (show(0:Int)<=((k-1:Nat):Int) by omega)];simp only[V1,ZB];have d:uS x k=(x.xL[k-1]?).map (·.aC):=by
    unfold uS;rw[WK a];rfl
  rw[d,Zd (show k-1<x.xL.length by omega)];rfl
def afa(N:Nat)(c:16<N)(x:bD)(d:x.xL.length<=maxLen):∀(l:I dZ)(k:Nat),x.xL.drop k=l->NV N x l k=some (bif wF (uS x k) l then 0 else 1)
 |[],k,_=>rfl
 |m::l,k,a=>by
  rw[NV,arh N m.aC c,re,agi,abx a d,afa N c x d l (k+1) (kI a),adr a];generalize (match uS x k with|none=>true|some q=>Op.bytesLess (bL q) (bL m.aC))=b;cases iX m.aC<;>cases (m.eQ.toInt==0)<;>cases b<;>cases wF (some m.aC) l<;>rfl
def Of(N:Nat)(a:16<N)(x:bD)(b:x.xL.length<=maxLen):Dp N x=some (bif jR x then 0 else 1):=afa N a x b x.xL 0 rfl
def adk(N:Nat)(c:16<N)(x:bD)(d:x.xL.length<=maxLen):∀(l:I dZ)(k:Nat),x.xL.drop k=l->Mu N x l k=some (wF (uS x k) l)
 |[],k,_=>rfl
 |m::l,k,a=>by
  rw[Mu,Mk N m.aC c,re,agi,abx a d,adk N c x d l (k+1) (kI a),adr a];generalize (match uS x k with|none=>true|some q=>Op.bytesLess (bL q) (bL m.aC))=b;cases iX m.aC<;>cases (m.eQ.toInt==0)<;>cases b<;>cases wF (some m.aC) l<;>rfl
def Io(N:Nat)(a:16<N)(x:bD)(b:x.xL.length<=maxLen):wY N x=some (jR x):=adk N a x b x.xL 0 rfl
def dE(t:aL)(v:aA):Bool:=bif t.bA==2 then v.xD.toInt==1&&(decide (-(2^(t.bU-1).toNat)<=v.xN.toInt)&&decide (v.xN.toInt<2^(t.bU-1).toNat))else decide (v.xN.toInt<=2147483647)&&(decide (-2147483647<=v.xN.toInt)&&(decide (1<=v.xD.toInt)&&(decide (v.xD.toInt<=2147483647)&& (bif t.bA==3 then v.xD.toInt==1 else Nat.gcd v.xN.toInt.natAbs v.xD.toInt.toNat==1))))
def aqa:∀n:Fin 30,(decide ((0:Int)<=(u64.wrap (aE (((n.val+2:Nat):Int)-(1:Int))))))=true/\(decide ((0:Int)<=(aE (((n.val+2:Nat):Int)-(1:Int)))))=true/\
 (-(Int64.ofInt ((1:Int)*2^(min (u64.wrap (aE (((n.val+2:Nat):Int)-(1:Int)))).toNat (IntKind.bits .i64))))).toInt= -(2^(n.val+1))/\
 ((Int64.ofInt ((1:Int)*2^(min (u64.wrap (aE (((n.val+2:Nat):Int)-(1:Int)))).toNat (IntKind.bits .i64))))-(1:Int64)).toInt=2^(n.val+1)-1/\
 (-(Int64.ofInt ((1:Int)*2^(min (aE (((n.val+2:Nat):Int)-(1:Int))).toNat (IntKind.bits .i64))))).toInt= -(2^(n.val+1))/\
 (Int64.ofInt ((1:Int)*2^(min (aE (((n.val+2:Nat):Int)-(1:Int))).toNat (IntKind.bits .i64)))).toInt=2^(n.val+1):=by decide+kernel
def Ov{b:Int}(h1:2<=b)(a:b<=31):(decide ((0:Int)<=(u64.wrap (aE (b-(1:Int))))))=true/\(decide ((0:Int)<=(aE (b-(1:Int)))))=true/\
 (-(Int64.ofInt ((1:Int)*2^(min (u64.wrap (aE (b-(1:Int)))).toNat (IntKind.bits .i64))))).toInt= -(2^(b-1).toNat)/\
 ((Int64.ofInt ((1:Int)*2^(min (u64.wrap (aE (b-(1:Int)))).toNat (IntKind.bits .i64))))-(1:Int64)).toInt=2^(b-1).toNat-1/\
 (-(Int64.ofInt ((1:Int)*2^(min (aE (b-(1:Int))).toNat (IntKind.bits .i64))))).toInt= -(2^(b-1).toNat)/\
 (Int64.ofInt ((1:Int)*2^(min (aE (b-(1:Int))).toNat (IntKind.bits .i64)))).toInt=2^(b-1).toNat:=by
 obtain⟨n,rfl⟩:∃n:Nat,b=n:=⟨b.toNat,by omega⟩;have:=aqa ⟨n-2,by omega⟩;simp only[show n-2+2=n by omega,show n-2+1=n-1 by omega]at this;rw[show((n:Int)-1).toNat=n-1 by omega];exact this
def Mi(N:Nat):∀(k a b:Nat),b<k->FM N k (a:Int) (b:Int)=some ((Nat.gcd a b:Nat):Int)
 |0,a,b,h=>absurd h (Z5 _)
 |k+1,a,b,h=>by
  rw[FM];by_cases c:b=0;{subst c;simp};{rw[show(((b:Nat):Int) !=0)=true by rw[Vr];omega];simp only[V1];rw[<-Int.ofNat_tmod,Mi N k b (a%b) (by have:=Nat.mod_lt a (Nat.pos_of_ne_zero c);omega),Nat.gcd_comm a b,Nat.gcd_rec b a,Nat.gcd_comm]}
def afh(N:Nat):∀(k:Nat)(a b:Int64),0<=a.toInt->0<=b.toInt->b.toInt.toNat<k->∃g:Int64,F3 N k a b=some g/\g.toInt=((Nat.gcd a.toInt.toNat b.toInt.toNat:Nat):Int)
 |0,a,b,_,_,h=>absurd h (Z5 _)
 |k+1,a,b,p,i,h=>by
  rw[F3];by_cases e:b.toInt=0;{rw[e];refine⟨a,rfl,?_⟩;show a.toInt=((Nat.gcd a.toInt.toNat 0:Nat):Int);rw[Nat.gcd_zero_right];omega}
  ·rw[show(b.toInt !=0)=true by rw[Vr];exact e];simp only[V1];obtain⟨x,j⟩:∃x:Nat,a.toInt=x:=⟨a.toInt.toNat,by omega⟩;obtain⟨y,f⟩:∃y:Nat,b.toInt=y:=⟨b.toInt.toNat,by omega⟩;rw[j,f];have c:0<y:=by omega
   have l:(x:Int).tmod (y:Int)=((x%y:Nat):Int):=(Int.ofNat_tmod x y).symm;have q:=Nat.mod_lt x c;have r:b.toInt<2^63:=Int64.toInt_lt b;have d:(Int64.ofInt ((x%y:Nat):Int)).toInt=((x%y:Nat):Int):=by
    rw[Int64.toInt_ofInt_of_le];{omega};{omega}
   rw[l];obtain⟨g,n,o⟩:=afh N k b (Int64.ofInt ((x%y:Nat):Int)) i (by rw[d];omega) (by rw[d];omega);refine⟨g,n,?_⟩;rw[o,d,f];simp only[ZB];rw[Nat.gcd_comm x y,Nat.gcd_rec y x,Nat.gcd_comm]
def mg(z:Int):u64.wrap z=z%18446744073709551616:=rfl
def Em(N:Nat)(v:Int64):Cv N v=some ((v.toInt.natAbs:Nat):Int):=by
 unfold Cv;have a:v.toInt<2^63:=Int64.toInt_lt v;have b: -2^63<=v.toInt:=Int64.le_toInt v;by_cases h:v.toInt<0
 ·rw[dO h];simp only[V1,mg]
  congr 1
  omega
 ·rw[Zx h];simp only[UQ,mg]
  congr 1
  omega
def qS(N:Nat)(o:2147483648<N)(t:aL)(v:aA)(a:dA t=true):nT N t v=some (dE t v):=by
 unfold nT;rw[rH,a,re];unfold dE;cases c:t.bA==2 with
 |true=>
  simp only[V1];show Option.bind (uv N t v) _=_;unfold dA at a;have g:t.bA=2:=by simpa using c
  rw[g]at a;have b:(decide (2<=t.bU)&&(decide (t.bU<=31)&&(decide (0<=t.ck)&&(decide (t.ck<=30)&&(decide (1<=t.cr)&&(decide (t.cr<=4)&&(t.cC==1||t.cC==2)))))))=true:=a;unfold uv;rw[SK N t c,b,re];simp only[Zo,VX]at b;obtain⟨d,e,_⟩:=b;obtain⟨h,r,i,j,u,w⟩:=Ov d e;unfold EU Gr BV;rw[ij,re,re,nM,dO d,dO e];simp only[Bool.and_self,V1];rw[h];simp only[V1,re];rw[i,j,nM,ij,og (p:=v.xN.toInt<=2^(t.bU-1).toNat-1) (q:=v.xN.toInt<2^(t.bU-1).toNat) (by omega)];cases (v.xD.toInt==1)<;>rfl
 |false=>
  simp only[UQ];show(bif t.bA==3 then _ else _)=_;cases x:t.bA==3 with
  |true=>
   simp only[V1];unfold rT;rw[nM,ij,re,re];by_cases f:v.xD.toInt=1;{rw[f];simp only[Ys,V1,re,show decide ((1:Int)<=1)=true from rfl,show decide ((1:Int)<=2147483647)=true from rfl,Bool.and_true];rw[Bool.and_comm]};{rw[WK f];simp only[UQ,re,Bool.and_false]}
  |false=>
   simp only[UQ];unfold lP Wq;rw[nM,nM,ij,re,re,Em,re];cases k:decide (1<=v.xD.toInt)with
   |false=>cases decide (v.xN.toInt<=2147483647)<;>cases decide (-2147483647<=v.xN.toInt)<;>rfl
   |true=>
    cases l:decide (v.xD.toInt<=2147483647)with
    |false=>cases decide (v.xN.toInt<=2147483647)<;>cases decide (-2147483647<=v.xN.toInt)<;>rfl
    |true=>
     have y:=Vd k;have z:=Vd l;have n:u64.wrap v.xD.toInt=((v.xD.toInt.toNat:Nat):Int):=by rw[mg];omega
     simp only[V1,YJ];rw[n];unfold g_frac_gcd;rw[Mi N N v.xN.toInt.natAbs v.xD.toInt.toNat (by omega),re,show((((Nat.gcd v.xN.toInt.natAbs v.xD.toInt.toNat:Nat):Int))==1)=(Nat.gcd v.xN.toInt.natAbs v.xD.toInt.toNat==1)from sJ _ 1,ij,re];cases decide (v.xN.toInt<=2147483647)<;>cases decide (-2147483647<=v.xN.toInt)<;>rfl
def su(N:Nat)(w:2147483648<N)(t:aL)(v:aA)(a:dA t=true):nR N t v=some (dE t v):=by
 unfold nR dE;cases d:t.bA==2 with
 |true=>
  simp only[V1];unfold dA at a;have e:t.bA=2:=by simpa using d
  rw[e]at a;have b:(decide (2<=t.bU)&&(decide (t.bU<=31)&&(decide (0<=t.ck)&&(decide (t.ck<=30)&&(decide (1<=t.cr)&&(decide (t.cr<=4)&&(t.cC==1||t.cC==2)))))))=true:=a;simp only[Zo,VX]at b;obtain⟨f,h,_⟩:=b;obtain⟨x,i,y,z,j,k⟩:=Ov f h;rw[i];simp only[V1];rw[j,k,nM,ij,ij,re]
 |false=>
  simp only[UQ,On,kJ,re];cases l:decide (v.xN.toInt<=2147483647)with
  |false=>rfl
  |true=>
   cases n:decide (-2147483647<=v.xN.toInt)with
   |false=>rfl
   |true=>
    cases o:decide (1<=v.xD.toInt)with
    |false=>rfl
    |true=>
     cases p:decide (v.xD.toInt<=2147483647)with
     |false=>rfl
     |true=>
      have A:=Vd l;have B:=Vd n;have C:=Vd o;have E:=Vd p;simp only[Wh,Bool.or_false,UQ,YJ];cases F:t.bA==3 with
      |true=>rfl
      |false=>
       simp only[UQ];have q:(-v.xN).toInt= -v.xN.toInt:=by
        rw[Int64.toInt_neg];rw[Int.bmod_eq_of_le]<;>omega
       have c:(qN v.xN (-v.xN)).toInt=((v.xN.toInt.natAbs:Nat):Int):=by
        rw[<-abU,q];split<;>omega
       unfold Vl;obtain⟨g,r,u⟩:=afh N N (qN v.xN (-v.xN)) v.xD (by rw[c];omega) (by omega) (by omega);rw[r,re,u,c,ZB,show((((Nat.gcd v.xN.toInt.natAbs v.xD.toInt.toNat:Nat):Int))==1)=(Nat.gcd v.xN.toInt.natAbs v.xD.toInt.toNat==1)from sJ _ 1]
def tD(n:Int):Bool:=decide (-9223372036854775808<=n)&&decide (n<=9223372036854775807)
def qK{n:Int}:tD n=true↔-9223372036854775808<=n/\n<=9223372036854775807:=by
 unfold tD;rw[Zo,decide_eq_true_iff,decide_eq_true_iff]
def apb(n:Int64):tD n.toInt=true:=by
 rw[qK];have a:=n.le_toInt;have b:=n.toInt_lt;omega
def same(a b:so):Bool:=bL a==bL b
def lt(a b:so):Bool:=Op.bytesLess (bL a) (bL b)
def agK{a b:so}(h:(bL a)=(bL b)):a=b:=by
 unfold bL at h;have:a.data=b.data:=Array.toList_inj.mp h;cases a;cases b;simp_all
def atJ{a b:so}:same a b=true↔a=b:=by
 unfold same;rw[Ve];exact⟨agK,λh=>by rw[h]⟩
def alL{a b:so}:same a b=false↔a≠b:=by
 rw[<-VC,atJ]
def aaV:∀(x y:I UInt8),Op.bytesLess x y=decide (x<y)
 |[],[]=>by simp [Op.bytesLess]
 |_::_,[]=>by simp [Op.bytesLess]
 |[],_::_=>by simp [Op.bytesLess]
 |a::x,b::y=>by
  rw[Op.bytesLess,aaV x y];simp only[List.cons_lt_cons_iff];by_cases h:a<b<;>by_cases c:a=b<;>simp_all
def P1{a b:so}:lt a b=true↔(bL a)<(bL b):=by unfold lt;rw[aaV];simp
def Ws(a:so):lt a a=false:=by
 rw[<-VC,P1];exact List.lt_irrefl (bL a)
def agJ{a b c:so}(h1:lt a b=true)(d:lt b c=true):lt a c=true:=by
 rw[P1]at*;exact List.lt_trans h1 d
def ang{a b:so}(h1:lt a b=false)(c:lt b a=false):a=b:=by
 rw[<-VC,P1]at*;exact agK (List.le_antisymm (List.not_lt.mp c) (List.not_lt.mp h1))
set_option linter.unusedSimpArgs false
def lk(l:bD):Prop:=l.xL.length<=maxLen
structure aaT(x:c7):Prop where
 nr:lk x.bO
 at_:∀l∈x.cP,lk l
structure Cq(e:ay):Prop where
 nr:lk e.bO
 idx:∀x∈e.xIdx,aaT x
 args:e.bS.length<=maxLen
def ov(e:ay):Prop:=∀x∈dR e,Cq x
def zB(l:bD):Bool:=l.xK.toInt==0&&l.xL.length==0
def sL(x:c7):Bool:=bif bL x.dc==[]then x.cP.length==0 else zB x.bO
def Ox(v:aA):Bool:=v.xN.toInt==0&&v.xD.toInt==0
def Pz(t:aL):Bool:=t.bA==0&&(t.bU==0&&(t.ck==0&&(t.cr==0&&t.cC==0)))
def qn(e:ay):Bool:=decide (1<=e.aD)&&(decide (e.aD<=18)&&((e.aD==1||Ox e.dQ)&&((e.aD==1||(e.aD==12||Pz e.aH))&&((e.aD==2||zB e.bO)&&((e.aD==3||(bL e.aC==[]&&e.xIdx.length==0))&&e.xIdx.all sL)))))
def uh(e:ay):Bool:=(!(e.aD==3)||iX e.aC)&&e.xIdx.all λx=>bL x.dc==[]||iX x.dc
def px(op:Int):Int:=bif op==1||(op==2||op==3)then 0 else bif op==8||(op==12||op==18)then 1 else bif op==11 then 3 else 2
def qh(e:ay):Bool:=(e.bS.length:Int)==px e.aD&&(decide (e.xIdx.length<=6)&&e.xIdx.all λx=>decide (x.cP.length<=6))
def fi(e:ay):Bool:=decide (13<=e.aD)&&decide (e.aD<=18)
def jP(op:Int)(i:Nat):Bool:=(op==11&&i==0)||(op==16||(op==17||op==18))
def wN(b:Int):Nat->I ay->Bool
 |_,[]=>true
 |i,a::l=>fi a==jP b i&&wN b (i+1) l
def po(e:ay):Bool:=(!(e.aD==1||e.aD==12)||dA e.aH)&&wN e.aD 0 e.bS
def wU(e:ay):Bool:=(!(e.aD==1)||dE e.aH e.dQ)&&(qE e).all jR
def om(e:ay):Int:=bif qn e then bif uh e then bif qh e then bif po e then bif wU e then 0 else 1 else 10 else 11 else 7 else 5
def wZ(n:Nat):((n:Int)==0)=(n==0):=sJ n 0
def OW(n:Nat):decide ((n:Int)>0)= !(n==0):=by
 by_cases h:n=0;{subst h;rfl};{rw[dO (show(n:Int)>0 by omega),WK h];rfl}
def atI(N:Nat)(l:bD):ER N l=some (zB l):=by
 unfold ER zB;rw[ij,re,wZ]
def aj6(N:Nat)(x:c7):JI N x=some (sL x):=by
 unfold JI sL;rw[atI,re,wZ,tX];cases bL x.dc==[]<;>rfl
def Qk{α:Type}(f:α->Bool)(l:I α):(l.any λx=> !f x)= !l.all f:=by
 induction l with
 |nil=>rfl
 |cons x l a=>rw[Ye,Z4,a];cases f x<;>rfl
def atH(N:Nat):∀(l:I c7)(k:Nat),∃z:Int,Nt N l k=some z/\decide (z>=0)=l.any λx=> !sL x
 |[],k=>⟨-1,rfl,rfl⟩
 |x::l,k=>by
  rw[Nt,Ye];unfold V6;rw[aj6,re,re];cases h: !sL x with
  |true=>exact⟨k,rfl,dO (by omega)⟩
  |false=>exact atH N l (k+1)
def aq8(N:Nat)(l:I c7):JJ N l=some (!l.all sL):=by
 unfold JJ TQ;obtain⟨z,a,b⟩:=atH N l 0;rw[a,re,b,Qk]
def aed(v:aA):((v.xN.toInt==(0:Int64).toInt)&&((v.xD.toInt==(0:Int64).toInt)&&true))=Ox v:=by rw[Bool.and_true];rfl
def aey(t:aL):((t.bA==0)&&((t.bU==0)&&((t.ck==0)&&((t.cr==0)&&((t.cC==0)&&true)))))=Pz t:=by rw[Bool.and_true];rfl
def vm(a b:Bool):(bif a then some false else some b)=some (!a&&b):=by cases a<;>rfl
def afw(a b:Bool):(bif a then some b else some true)=some (!a||b):=by cases a<;>rfl
def alW(N:Nat)(e:ay):ND N e=some (qn e):=by
 unfold ND qn;simp only[OW];simp only[kJ,ij,vm,afw,re,On,QH,atI,aq8,aed,aey,tX];cases decide (1<=e.aD)<;>cases decide (e.aD<=18)<;>cases e.aD==1<;>cases Ox e.dQ<;>cases e.aD==12<;>cases Pz e.aH<;>cases e.aD==2<;>cases zB e.bO<;>cases e.aD==3<;>cases bL e.aC==[]<;>cases e.xIdx.length==0<;>cases e.xIdx.all sL<;>rfl
def acz(N:Nat):∀(l:I c7)(k:Nat),LO N l k=some (l.all sL)
 |[],_=>rfl
 |x::l,k=>by
  rw[LO,Z4,acz N l (k+1)];unfold sL zB;simp only[kJ,ako,ij,re,OW,yU,tX];cases bL x.dc==[]<;>cases x.cP.length==0<;>cases x.bO.xK.toInt==0<;>cases x.bO.xL.length==0<;>rfl
def ahp(N:Nat)(e:ay):KJ N e=some (qn e):=by
 unfold KJ qn;simp only[OW];simp only[kJ,ij,vm,afw,re,On,QH,yU,acz,aed,aey,tX];unfold zB;cases decide (1<=e.aD)<;>cases decide (e.aD<=18)<;>cases e.aD==1<;>cases Ox e.dQ<;>cases e.aD==12<;>cases Pz e.aH<;>cases e.aD==2<;>cases e.bO.xK.toInt==0<;>cases e.bO.xL.length==0<;>cases e.aD==3<;>cases bL e.aC==[]<;>cases e.xIdx.length==0<;>cases e.xIdx.all sL<;>rfl
def ar9(N:Nat)(a:16<N)(x:c7):O1 N x=some (!(bL x.dc==[]||iX x.dc)):=by
 unfold O1;rw[JE N _ a,re,vm,re,tX];cases bL x.dc==[]<;>rfl
def atG(N:Nat)(a:16<N):∀(l:I c7)(k:Nat),∃z:Int,Od N l k=some z/\decide (z>=0)=l.any λx=> !(bL x.dc==[]||iX x.dc)
 |[],k=>⟨-1,rfl,rfl⟩
 |x::l,k=>by
  rw[Od,Ye,ar9 N a,re];cases h: !(bL x.dc==[]||iX x.dc)with
  |true=>exact⟨k,rfl,dO (by omega)⟩
  |false=>exact atG N a l (k+1)
def aiN(N:Nat)(a:16<N)(e:ay):MC N e=some (uh e):=by
 unfold MC uh Rt RQ;obtain⟨z,b,c⟩:=atG N a e.xIdx 0;rw[JE N _ a,re,b];simp only[re,c,Qk,ij,vm];cases e.aD==3<;>cases iX e.aC<;>cases (e.xIdx.all λx=>bL x.dc==[]||iX x.dc)<;>rfl
def abg(N:Nat)(a:16<N):∀(l:I c7)(k:Nat),OG N l k=some (l.all λx=>bL x.dc==[]||iX x.dc)
 |[],_=>rfl
 |x::l,k=>by
  rw[OG,Z4,abg N a l (k+1),Mk N _ a,re,vm,re,vm,tX];cases bL x.dc==[]<;>cases iX x.dc<;>rfl
def ale(N:Nat)(a:16<N)(e:ay):O5 N e=some (uh e):=by
 unfold O5 uh;rw[Mk N _ a,re,abg N a];simp only[re,ij,vm];cases e.aD==3<;>cases iX e.aC<;>rfl
def atF(N:Nat):∀(l:I c7)(k:Nat),∃z:Int,PR N l k=some z/\decide (z>=0)=l.any λx=> !decide (x.cP.length<=6)
 |[],k=>⟨-1,rfl,rfl⟩
 |x::l,k=>by
  rw[PR,Ye];unfold S0;rw[re,show decide ((x.cP.length:Int)>6)= !decide (x.cP.length<=6)from lZ _ 6];cases h: !decide (x.cP.length<=6)with
  |true=>exact⟨k,rfl,dO (by omega)⟩
  |false=>exact atF N l (k+1)
def ahi(N:Nat)(a:Int):Kl N a=some (px a):=by
 unfold Kl FR EL px;cases a==1<;>cases a==2<;>cases a==3<;>cases a==8<;>cases a==12<;>cases a==18<;>cases a==11<;>rfl
def alv(N:Nat)(a:Int):Nr N a=some (px a):=by
 unfold Nr Hc D8 px;cases a==1<;>cases a==2<;>cases a==3<;>cases a==8<;>cases a==12<;>cases a==18<;>cases a==11<;>rfl
def akw(N:Nat)(e:ay):Nd N e=some (qh e):=by
 unfold Nd qh Qv Qo;obtain⟨z,a,b⟩:=atF N e.xIdx 0;rw[ahi,re,a,show decide ((e.xIdx.length:Int)>6)= !decide (e.xIdx.length<=6)from lZ _ 6];simp only[re,b,Qk,kJ,vm,yU];cases (e.bS.length:Int)==px e.aD<;>cases decide (e.xIdx.length<=6)<;>cases (e.xIdx.all λx=>decide (x.cP.length<=6))<;>rfl
def aby(N:Nat):∀(l:I c7)(k:Nat),OV N l k=some (l.all λx=>decide (x.cP.length<=6))
 |[],_=>rfl
 |x::l,k=>by
  rw[OV,Z4,aby N l (k+1),show decide ((x.cP.length:Int)>6)= !decide (x.cP.length<=6)from lZ _ 6];cases decide (x.cP.length<=6)<;>rfl
def ahy(N:Nat)(e:ay):LG N e=some (qh e):=by
 unfold LG qh;rw[alv,re,aby,show decide ((e.xIdx.length:Int)>6)= !decide (e.xIdx.length<=6)from lZ _ 6];simp only[re,kJ,vm,yU];cases (e.bS.length:Int)==px e.aD<;>cases decide (e.xIdx.length<=6)<;>rfl
def adD(N:Nat)(e:ay):Dc N e=some (fi e):=by
 unfold Dc fi;rw[ij,re]
def LZ(N:Nat)(e:ay):Eh N e=some (fi e):=by
 unfold Eh fi;rw[nM,ij,re]
def ag7(N:Nat)(a:Int)(i:Nat):Mo N a (i:Int)=some (jP a i):=by
 unfold Mo FU jP;rw[wZ];cases a==16<;>cases a==17<;>cases a==18<;>cases a==11<;>cases i==0<;>rfl
def ani(N:Nat)(a:Int)(i:Nat):LV N a (i:Int)=some (jP a i):=by
 unfold LV jP;rw[wZ];cases a==16<;>cases a==17<;>cases a==18<;>cases a==11<;>cases i==0<;>rfl
def atE(N:Nat)(e:ay):∀(l:I ay)(i:Nat),O8 N e l i=some (wN e.aD i l)
 |[],_=>rfl
 |a::l,i=>by
  rw[O8,wN,adD,re,ag7,re,atE N e l (i+1)];cases fi a==jP e.aD i<;>rfl
def adM(N:Nat)(e:ay):∀(l:I ay)(i:Nat),Ls N e l i=some (wN e.aD i l)
 |[],_=>rfl
 |a::l,i=>by
  rw[Ls,wN,LZ,re,ani,re,adM N e l (i+1)];cases fi a==jP e.aD i<;>rfl
def asS(b:Bool):((bif b then(0:Int)else 10) !=0)= !b:=by cases b<;>rfl
def aqI(N:Nat)(e:ay):LQ N e=some (po e):=by
 unfold LQ po;rw[rH,re,atE];simp only[asS];cases e.aD==1<;>cases e.aD==12<;>cases dA e.aH<;>rfl
def aoh(N:Nat)(e:ay):Kp N e=some (po e):=by
 unfold Kp po;rw[tb,re,adM];cases e.aD==1<;>cases e.aD==12<;>cases dA e.aH<;>rfl
def ajR(b:Bool):((bif b then(0:Int)else 1) !=0)= !b:=by cases b<;>rfl
def atD(N:Nat)(a:16<N):∀l:I bD,(∀x∈l,lk x)->xq N l=some (bif l.all jR then 0 else 1)
 |[],_=>rfl
 |x::l,h=>by
  rw[xq,Of N a x (h x Zl),re,ajR,atD N a l (λy b=>h y (Zg _ b)),Z4];cases jR x<;>rfl
def agk(N:Nat)(a:16<N)(c:Bool):∀(l:I bD)(k:Nat),(∀x∈l,lk x)->Lr N (some c) l k=some (l.all jR&&c)
 |[],_,_=>rfl
 |x::l,k,h=>by
  rw[Lr,Io N a x (h x Zl),re,agk N a c l (k+1) (λy b=>h y (Zg _ b)),Z4];cases jR x<;>rfl
def aaf(N:Nat)(a:16<N):∀(l:I c7)(k:Nat),(∀x∈l,aaT x)->Lt N l k=some ((l.flatMap yY).all jR)
 |[],_,_=>rfl
 |x::l,k,h=>by
  have b:=h x Zl;rw[Lt,Io N a _ b.nr,re,aaf N a l (k+1) (λy c=>h y (Zg _ c)),agk N a _ _ _ b.at_,List.flatMap_cons,yY,List.cons_append,Z4,List.all_append];cases jR x.bO<;>rfl
def amo{e:ay}(h:Cq e):∀x∈qE e,lk x:=by
 intro x a;unfold qE at a;rcases ZY.1 a with rfl|a
 ·exact h.nr
 ·obtain⟨y,b,a⟩:=List.mem_flatMap.1 a;unfold yY at a;rcases ZY.1 a with rfl|a
  ·exact(h.idx y b).nr
  ·exact(h.idx y b).at_ x a
def ajj(N:Nat)(b:2147483648<N)(e:ay)(h:Cq e)(a:po e=true):NW N e=some (wU e):=by
 unfold NW wU qE;rw[Z4,Io N (by omega) _ h.nr,re,aaf N (by omega) _ _ h.idx];cases c:e.aD==1 with
 |true=>
  have d:dA e.aH=true:=by
   unfold po at a;rw[c]at a;simp only[Bool.true_or,Wh,ai,Zo]at a;exact a.1
  rw[su N b _ _ d,re];cases dE e.aH e.dQ<;>cases jR e.bO<;>rfl
 |false=>cases jR e.bO<;>rfl
def aqR(N:Nat)(b:2147483648<N)(e:ay)(h:Cq e):Gv N e=some (om e):=by
 unfold Gv om;rw[alW,re];cases qn e with
 |false=>rfl
 |true=>
  simp only[V1];rw[aiN N (by omega),re];cases uh e with
  |false=>rfl
  |true=>
   simp only[V1];rw[akw,re];cases qh e with
   |false=>rfl
   |true=>
    simp only[V1];rw[aqI,re];cases a:po e with
    |false=>rfl
    |true=>
     simp only[V1];have c:xq N (qE e)=_:=atD N (by omega) (qE e) (amo h);unfold wU Sw;rw[re,c];cases d:e.aD==1 with
     |true=>
      have f:dA e.aH=true:=by
       unfold po at a;rw[d]at a;simp only[Bool.true_or,Wh,ai,Zo]at a;exact a.1
      rw[qS N b _ _ f,re];cases dE e.aH e.dQ<;>cases (qE e).all jR<;>rfl
     |false=>cases (qE e).all jR<;>rfl
def vi{e x:ay}(h:x∈e.bS):SizeOf.sizeOf x<SizeOf.sizeOf e:=by
 have a:=List.sizeOf_lt_of_mem h;cases e
 simp only[ay.mk.sizeOf_spec]at*;omega
def Js{e x y:ay}(h:x∈e.bS)(b:y∈dR x):y∈dR e:=by
 have a:∀l:I ay,x∈l->y∈k8 l:=by
  intro l
  induction l with
  |nil=>intro h;cases h
  |cons z l c=>
   intro h;rw[vq];rcases ZY.1 h with rfl|h
   ·exact aa _ b
   ·exact Zw _ (c h)
 exact Zg _ (a _ h)
def ov.node{e:ay}(h:ov e):Cq e:=h e Zl
def ov.arg{e x:ay}(h:ov e)(a:x∈e.bS):ov x:=λy b=>h y (Js a b)
def mC:I ay->Int
 |[]=>0
 |x::l=>bif om x !=0 then om x else mC l
def ags:∀a b:I ay,mC (a++b)=bif mC a !=0 then mC a else mC b
 |[],_=>rfl
 |x::a,b=>by
  rw[List.cons_append,mC,mC,ags a b];cases h:om x !=0 with
  |true=>simp only[V1,h]
  |false=>rfl
def acn(N:Nat)(a:2147483648<N):∀l:I ay,(∀x∈l,Cq x)->Au N l=some (mC l)
 |[],_=>rfl
 |x::l,h=>by
  rw[Au,aqR N a x (h x Zl),re,acn N a l (λy b=>h y (Zg _ b)),mC];cases om x !=0<;>rfl
def aem(N:Nat)(rec:ay->U Int):∀(l:I ay)(k:Nat),(∀x∈l,rec x=some (mC (dR x)))->L8 N rec l k=some (mC (k8 l))
 |[],_,_=>by rw[k8];rfl
 |x::l,k,h=>by
  rw[L8,h x Zl,re,aem N rec l (k+1) (λy a=>h y (Zg _ a)),vq,ags];cases mC (dR x) !=0<;>rfl
def atC(N:Nat)(a:2147483648<N):∀(d:Nat)(e:ay),SizeOf.sizeOf e<d->ov e->vx N d e=some (mC (dR e))
 |0,_,h,_=>absurd h (Z5 _)
 |d+1,e,h,b=>by
  rw[vx];have f:=aem N (vx N d) e.bS 0 λx c=>atC N a d x (by have:=vi c;omega) (b.arg c);unfold dR;rw[mC];unfold om;rw[ahp,re];cases qn e with
  |false=>rfl
  |true=>
   simp only[V1];rw[ale N (by omega),re];cases uh e with
   |false=>rfl
   |true=>
    simp only[V1];rw[ahy,re];cases qh e with
    |false=>rfl
    |true=>
     simp only[V1];rw[aoh,re];cases g:po e with
     |false=>rfl
     |true=>
      simp only[V1];rw[ajj N a e b.node g,re,f];cases wU e<;>rfl
def j7:Nat->ay->Nat
 |0,_=>1
 |L+1,e=>e.bS.foldl (λm a=>max m (1+j7 L a)) 1
def ac5{α:Type}(f:α->Nat)(b:Nat):∀(l:I α)(m:Nat),m<=b->(∀x∈l,f x<=b)->l.foldl (λm a=>max m (f a)) m<=b
 |[],_,h,_=>h
 |x::l,_,h,c=>ac5 f b l _ (Nat.max_le.2 ⟨h,c x Zl⟩) λy d=>c y (Zg _ d)
def UZ:∀(L:Nat)(e:ay),j7 L e<=L+1
 |0,_=>Zr _
 |L+1,e=>ac5 (λa=>1+j7 L a) (L+2) e.bS 1 (by omega) λx _=>by have:=UZ L x;show 1+j7 L x<=L+2;omega
def ik{z:Int}(h1: -9223372036854775808<=z)(a:z<9223372036854775808):aE z=z:=by
 unfold aE;rw[b6];omega
def Mj(a b:Nat):(if((a:Nat):Int)>((b:Nat):Int)then((a:Nat):Int)else(b:Int))=((max b a:Nat):Int):=by
 split<;>omega
def atB(N:Nat)(rec:ay->Int->U Int)(L:Nat)(b:L<=100):∀(l:I ay)(k m:Nat),(∀x∈l,rec x ((L:Int)+1)=some ((j7 L x:Nat):Int))->L6 N rec ((L:Int)+1+1) l k (m:Int)=some ((l.foldl (λm a=>max m (1+j7 L a)) m:Nat):Int)
 |[],_,_,_=>rfl
 |x::l,k,m,h=>by
  have d:=UZ L x;rw[L6,ik (by omega) (by omega),show(L:Int)+1+1-1=(L:Int)+1 by omega,h x Zl,re,ik (by omega) (by omega),show(1:Int)+((j7 L x:Nat):Int)=((1+j7 L x:Nat):Int) by omega,Mj];exact atB N rec L b l (k+1) _ λy c=>h y (Zg _ c)
def acI(N:Nat):∀(L d:Nat)(e:ay),L<d->L<=100->sO N d e ((L:Int)+1)=some ((j7 L e:Nat):Int)
 |L,0,_,h,_=>absurd h (Z5 _)
 |0,d+1,e,_,_=>by rw[sO];rfl
 |L+1,d+1,e,h,a=>by
  rw[sO,Zx (by omega)];simp only[UQ];exact atB N (sO N d) L (by omega) e.bS 0 1 λx _=>acI N L d x (by omega) (by omega)
def adx(N:Nat)(rec:ay->Int->U Int)(L:Nat)(b:L<=100):∀(l:I ay)(k m:Nat),(∀x∈l,rec x ((L:Int)+1)=some ((j7 L x:Nat):Int))->Dy N ((L:Int)+1+1) rec l k (m:Int)=some ((l.foldl (λm a=>max m (1+j7 L a)) m:Nat):Int)
 |[],_,_,_=>rfl
 |x::l,k,m,h=>by
  have d:=UZ L x;rw[Dy,dO (show(L:Int)+1+1>1 by omega)];simp only[V1];rw[ik (by omega) (by omega),show(L:Int)+1+1-1=(L:Int)+1 by omega,h x Zl,re,ik (by omega) (by omega),show(1:Int)+((j7 L x:Nat):Int)=((1+j7 L x:Nat):Int) by omega,Mj];exact adx N rec L b l (k+1) _ λy c=>h y (Zg _ c)
def akK(N:Nat)(rec:ay->Int->U Int):∀l:I ay,Dy N 1 rec l 0 1=some 1
 |[]=>rfl
 |x::l=>by rw[Dy];rfl
def adv(N:Nat):∀(L d:Nat)(e:ay),L<d->L<=100->sI N d e ((L:Int)+1)=some ((j7 L e:Nat):Int)
 |L,0,_,h,_=>absurd h (Z5 _)
 |0,d+1,e,_,_=>by rw[sI];exact akK N _ _
 |L+1,d+1,e,h,a=>by
  rw[sI];exact adx N (sI N d) L (by omega) e.bS 0 1 λx _=>adv N L d x (by omega) (by omega)
def atA(N:Nat):∀(l:I ay)(v:Nat),v<=2000->vu N l (v:Int)=some ((min (v+l.length) 2001:Nat):Int)
 |[],v,h=>by rw[vu];congr 2;simp only[Zc];omega
 |x::l,v,h=>by
  rw[vu,ik (by omega) (by omega)];by_cases a:v+1>2000
  ·rw[dO (by omega)];simp only[V1]
   congr 1
   simp only[Zi];omega
  ·rw[Zx (by omega)];simp only[UQ];rw[show(v:Int)+1=((v+1:Nat):Int) by omega,atA N l (v+1) (by omega)]
   congr 3
   simp only[Zi];omega
def asI(N:Nat)(e:ay):Ht N e=some ((min (dR e).length 2001:Nat):Int):=by
 unfold Ht BN;have:=atA N (dR e) 0 (by omega);rw[ZJ]at this;exact this
def at7(N:Nat)(rec:ay->Int->U Int)(m:Nat)(a:m<=4000):∀(l:I ay)(k n:Nat),n<=m+1->(∀x∈l,∀q:Nat,q<=m->rec x (q:Int)=some ((min (dR x).length (q+1):Nat):Int))->Ie N (m:Int) rec l k (n:Int)=some ((min (n+(k8 l).length) (m+1):Nat):Int)
 |[],k,n,b,_=>by rw[Ie,k8];congr 2;simp only[Zc];omega
 |x::l,k,n,b,h=>by
  rw[Ie];by_cases d:n<=m
  ·rw[dO (by omega)];simp only[V1];rw[ik (by omega) (by omega),show(m:Int)-(n:Int)=((m-n:Nat):Int) by omega,h x Zl (m-n) (by omega),re,ik (by omega) (by omega),show(n:Int)+((min (dR x).length (m-n+1):Nat):Int)=((n+min (dR x).length (m-n+1):Nat):Int) by omega,at7 N rec m a l (k+1) _ (by omega) λy c=>h y (Zg _ c),vq,Zj]
   congr 2
   omega
  ·rw[Zx (by omega)];simp only[UQ]
   congr 1
   omega
def ab7(N:Nat):∀(d:Nat)(e:ay)(m:Nat),SizeOf.sizeOf e<d->m<=4000->uq N d e (m:Int)=some ((min (dR e).length (m+1):Nat):Int)
 |0,_,_,h,_=>absurd h (Z5 _)
 |d+1,e,m,h,a=>by
  rw[uq];have:=at7 N (uq N d) m a e.bS 0 1 (by omega) λx b q c=>ab7 N d x q (by have:=vi b;omega) (by omega);rw[show((1:Nat):Int)=1 from rfl]at this;rw[this]
  congr 2
  unfold dR;simp only[Zi];omega
def nU(e:ay):Int:=bif decide (40<j7 40 e)then 13 else bif decide (2000<(dR e).length)then 2 else mC (dR e)
def aon(N:Nat)(a:2147483648<N)(e:ay)(h:ov e):BY N e=some (nU e):=by
 unfold BY Uw Ub nU;have b:sO N N e 41=_:=acI N 40 N e (by omega) (by omega);rw[b,re,re,asI,re,og (p:=((j7 40 e:Nat):Int)>40) (q:=40<j7 40 e) (by omega),og (p:=((min (dR e).length 2001:Nat):Int)>2000) (q:=2000<(dR e).length) (by omega)];cases decide (40<j7 40 e)<;>cases decide (2000<(dR e).length)<;>try rfl
 simp only[UQ];exact acn N a (dR e) h
def at6(N:Nat)(b:2147483648<N)(e:ay)(a:SizeOf.sizeOf e<N)(h:ov e):H9 N e=some (nU e):=by
 unfold H9 VL Sj Uf Vy U2 nU;have c:sI N N e 41=_:=adv N 40 N e (by omega) (by omega);have d:uq N N e 2000=_:=ab7 N N e 2000 a (by omega);rw[c,re,re,d,re,re,atC N b N e a h,re,og (p:=((j7 40 e:Nat):Int)>40) (q:=40<j7 40 e) (by omega),show(if(2001:Int)<((min (dR e).length 2001:Nat):Int)then(2001:Int)else((min (dR e).length 2001:Nat):Int))=((min (dR e).length 2001:Nat):Int) by split<;>omega,og (p:=((min (dR e).length 2001:Nat):Int)>2000) (q:=2000<(dR e).length) (by omega)];cases decide (40<j7 40 e)<;>cases decide (2000<(dR e).length)<;>rfl
def dw(l:I so)(s:so):Bool:=l.any λw=>bL w==bL s
def Db(N:Nat)(l:I so)(s:so):wq N l s=some (dw l s):=Wu N s l 0
def mN(a b:I so)(s:so):dw (a++b) s=(dw a s||dw b s):=List.any_append
def ac1{s x:so}(h:(bL s==bL x)=true)(l:I so):dw l x=dw l s:=by
 unfold dw;rw[Ve.1 h]
def Jx(s x:so):dw [s] x=(bL s==bL x):=by unfold dw;rw[Ye,List.any_nil,Bool.or_false]
def anH(N:Nat)(l:I so)(s:so):CC N l s=some (dw l s):=by
 unfold CC OQ;obtain⟨z,a,b⟩:=S5 N s l 0;rw[a,re,b];rfl
def jI(t:I so)(s:so):Int:=bif iX s then bif dw t s then 8 else 0 else 7
def CW(N:Nat)(a:16<N)(s:so)(t:I so):Ar N s t=some (jI t s):=by
 unfold Ar jI;rw[Mk N s a,re,Db,re];cases iX s<;>cases dw t s<;>rfl
def RZ{t:I so}{s:so}(h:jI t s=0):iX s=true/\dw t s=false:=by
 unfold jI at h;cases a:iX s<;>cases b:dw t s<;>rw[a,b]at h<;>first|exact⟨rfl,rfl⟩|(exact absurd h (by decide))
structure KN(m:List (ByteArray×Int))(S T:List ByteArray):Prop where
 val:∀s,ia m s 0=bif dw S s then 1 else bif dw T s then 2 else 0
 len:m.length<=S.length+T.length
 ZQ:∀s,dw T s=true->dw S s=false
section
variable {m:I (so×Int)} {S T:I so}
def KN.ne0(h:KN m S T)(s:so):(ia m s 0 !=0)=dw (S++T) s:=by
 rw[h.val,mN];cases dw S s<;>cases dw T s<;>rfl
def KN.ne1(h:KN m S T)(s:so):(ia m s 0 !=1)= !dw S s:=by
 rw[h.val];cases dw S s<;>cases dw T s<;>rfl
def KN.Ix(h:KN m S T)(s:so):(ia m s 0==1)=dw S s:=by
 rw[h.val];cases dw S s<;>cases dw T s<;>rfl
def KN.ne2(h:KN m S T)(s:so):(ia m s 0 !=2)= !dw T s:=by
 have:=h.ZQ s;rw[h.val];cases a:dw S s<;>cases b:dw T s<;>first|rfl|(rw[a]at this;exact absurd (this b) (by decide))
def K5{a:Type}(k:so)(v:a)(m:I (so×a))(s:so)(d:a):ia ((k,v)::m) s d=bif bL k==bL s then v else ia m s d:=rfl
def KN.adb(h:KN m S T){s:so}(a:dw (S++T) s=false):KN ((s,2)::m) S (T++[s]):=by
 rw[mN,Yf]at a;refine⟨λx=> ?_,by have:=h.len;simp only[Zi,Zj,Zc];omega,λx b=> ?_⟩
 rotate_left
 ·rw[mN,Jx]at b;cases e:bL s==bL x with
  |true=>rw[ac1 e];exact a.1
  |false=>rw[e,Bool.or_false]at b;exact h.ZQ x b
 rw[K5,h.val,mN,Jx];cases e:bL s==bL x with
 |true=>rw[ac1 e,a.1];cases dw T x<;>rfl
 |false=>cases dw S x<;>cases dw T x<;>rfl
def KN.sb(h:KN m S [])(s:so):KN ((s,1)::m) (S++[s]) []:=by
 refine⟨λx=> ?_,by have:=h.len;simp only[Zi,Zj,Zc]at*;omega,λx a=>by cases a⟩;rw[K5,h.val,mN,Jx];cases e:bL s==bL x<;>cases dw S x<;>rfl
def KN.nil:KN [] [] []:=⟨λ_=>rfl,Zr _,λ_ h=>by cases h⟩
def UD(N:Nat)(a:16<N)(s:so)(k:Int)(p:bo)(h:KN m S T)(b:S.length+T.length<9223372036854775807):
 Dz N s k p m=some (jI (S++T) s,bif jI (S++T) s==0 then(s,k)::m else m):=by
 unfold Dz jI;rw[JE N s a,re,h.ne0,show Nat.blt m.length 9223372036854775807=true from WS (by have:=h.len;omega)];cases iX s<;>cases dw (S++T) s<;>rfl
def zd(a:I so)(l:bD):Bool:=l.xL.all λm=>dw a m.aC
def jv(S:I so)(l:bD):Int:=bif jR l then bif zd S l then 0 else 9 else 1
def ad3(N:Nat)(h:KN m S T):∀(l:I dZ)(k:Nat),PX N m l k=some (bif l.all (λm=>dw S m.aC)then 0 else 9)
 |[],_=>rfl
 |x::l,k=>by
  rw[PX,h.ne1,Z4,ad3 N h l];cases dw S x.aC<;>rfl
def UX(N:Nat)(a:16<N)(l:bD)(p:bo)(b:lk l)(h:KN m S T):Di N l p m=some (jv S l):=by
 unfold Di jv;rw[Of N a l b,re,ad3 N h];cases jR l<;>rfl
def ae9(N:Nat)(a W:I so):∀(l:I dZ)(k:Nat),J5 N a W l k=some (l.all λm=>dw (a++W) m.aC)
 |[],_=>rfl
 |x::l,k=>by
  rw[J5,Db,Db,Z4,ae9 N a W l,mN];cases dw a x.aC<;>cases dw W x.aC<;>rfl
def S7(N:Nat)(a W:I so)(l:bD):Ir N l a W=some (zd (a++W) l):=ae9 N a W l.xL 0
def Sq(N:Nat)(a:16<N)(l:bD)(b:lk l)(S:I so):Bk N l S=some (jv S l):=by
 unfold Bk jv;rw[Io N a l b,re,S7,re,Wo];cases jR l<;>cases zd S l<;>rfl
def zR(n:Nat):decide ((n:Int)>6)= !decide (n<=6):=lZ n 6
def aoM(N:Nat)(t:aL)(n:Nat):yG N t [(n:Int)]=some (bif dA t then bif decide (n<=6)then 0 else 11 else 10):=by
 unfold yG;rw[rH,re,show EG N [(n:Int)]=some (n:Int)from rfl,re,zR];cases dA t<;>cases decide (n<=6)<;>rfl
def aoY(N:Nat)(t:aL)(n k:Nat):yG N t [(n:Int),(k:Int)]=some (bif dA t then bif decide (n<=6)&&decide (k<=6)then 0 else 11 else 10):=by
 unfold yG;rw[rH,re,show EG N [(n:Int),(k:Int)]=some (if(k:Int)>(n:Int)then(k:Int)else(n:Int))from rfl,re,Mj,zR];have:decide (max n k<=6)=(decide (n<=6)&&decide (k<=6)):=by
  rw[Bool.eq_iff_iff,Zo,decide_eq_true_iff,decide_eq_true_iff,decide_eq_true_iff];omega
 rw[this];cases dA t<;>cases (decide (n<=6)&&decide (k<=6))<;>rfl
def gY{α:Type}(f:α->Int):I α->Int
 |[]=>0
 |x::l=>bif f x !=0 then f x else gY f l
def xI(S T:I so)(x:fm):Int:=bif jI (S++T) x.aC !=0 then jI (S++T) x.aC else bif dA x.aH then bif decide (x.aQ.length<=6)then gY (jv S) x.aQ else 11 else 10
def abC(N:Nat)(a:16<N)(p:bo)(q:Int×I (so×Int))(h:KN q.2 S T):∀(l:I bD)(k:Nat),(∀x∈l,lk x)->Og N q p l k=some (gY (jv S) l,q.2)
 |[],_,_=>rfl
 |x::l,k,b=>by
  rw[Og,UX N a x p (b x Zl) h,re,gY];cases jv S x !=0 with
  |true=>rfl
  |false=>exact abC N a p q h l (k+1) λy c=>b y (Zg _ c)
def ku{a:Int}(h:(a !=0)=false):a=0:=by
 rw[bne_eq_false_iff_eq]at h;exact h
def ajp(N:Nat)(b:16<N)(x:fm)(p:bo)(f:∀y∈x.aQ,lk y)(h:KN m S T)(g:S.length+T.length<9223372036854775807):
 ∃c,La N x p m=some (xI S T x,c)/\(xI S T x=0->KN c S (T++[x.aC])):=by
 unfold La xI;rw[UD N b x.aC 2 p h g,re,aoM];simp only[];cases e:jI (S++T) x.aC !=0 with
 |true=>exact⟨_,rfl,λa=>by rw[V1]at a;rw[a]at e;cases e⟩
 |false=>
  have d:=ku e;have k:=h.adb (RZ d).2;rw[d];simp only[Ys,V1,UQ];cases dA x.aH with
  |false=>exact⟨_,rfl,λa=>by cases a⟩
  |true=>
   cases decide (x.aQ.length<=6)with
   |false=>exact⟨_,rfl,λa=>by cases a⟩
   |true=>exact⟨_,abC N b p (0,(x.aC,2)::m) k x.aQ 0 f,λ_=>k⟩
def at5(N:Nat)(a:16<N)(S:I so):∀(l:I bD)(k:Nat),(∀x∈l,lk x)->Mv N S l k=some (gY (jv S) l)
 |[],_,_=>rfl
 |x::l,k,b=>by
  rw[Mv,Sq N a x (b x Zl),re,gY];cases jv S x !=0 with
  |true=>rfl
  |false=>exact at5 N a S l (k+1) λy c=>b y (Zg _ c)
def aae(N:Nat)(a:16<N)(x:fm)(S T:I so)(b:∀y∈x.aQ,lk y):Pj N x S (S++T)=some (xI S T x):=by
 unfold Pj xI;rw[CW N a,re,tb,re,zR,at5 N a S _ _ b];cases jI (S++T) x.aC !=0<;>cases dA x.aH<;>cases decide (x.aQ.length<=6)<;>rfl
def sZ(S:I so):I so->I dF->Int
 |_,[]=>0
 |O,a::l=>bif jI (S++O) a.aC !=0 then jI (S++O) a.aC else bif jv S a.eH !=0 then jv S a.eH else sZ S (O++[a.aC]) l
structure ON(w:List (ByteArray×Bool))(O:List ByteArray):Prop where
 val:∀s,ia w s false=dw O s
 len:w.length<=O.length
def ON.add{w:I (so×Bool)}{a:I so}(h:ON w a)(s:so):ON ((s,true)::w) (a++[s]):=by
 refine⟨λx=> ?_,by have:=h.len;simp only[Zi,Zj,Zc];omega⟩;rw[K5,h.val,mN,Jx];cases bL s==bL x<;>cases dw a x<;>rfl
def aev(N:Nat)(b:16<N)(p:bo)(h:KN m S T):∀(l:I dF)(k:Nat)(w:I (so×Bool))(O:I so),ON w O->(∀x∈l,lk x.eH)->O.length+l.length<9223372036854775807->
 PQ N m p l k w=some (sZ S O l)
 |[],_,_,_,_,_,_=>rfl
 |a::l,k,w,O,c,d,e=>by
  have i:O.length+l.length+1<9223372036854775807:=by simp only[Zi]at e;omega
  rw[PQ,JE N _ b,re,c.val,h.Ix,UX N b _ p (d a Zl) h,re,sZ,
    show Nat.blt w.length 9223372036854775807=true from WS (by have:=c.len;omega)]
  have f:=aev N b p h l (k+1) _ _ (c.add a.aC) (λy g=>d y (Zg _ g)) (by simp only[Zj,Zi,Zc];omega);unfold jI;dsimp only;rw[mN,f];cases iX a.aC<;>cases dw S a.aC<;>cases dw O a.aC<;>first|rfl|(cases jv S a.eH !=0<;>rfl)
def at4(N:Nat)(b:16<N)(S:I so):∀(l:I dF)(k:Nat)(O:I so),(∀x∈l,lk x.eH)->S.length+O.length+l.length<1000000000->
 OM N S l k (S++O)=some (sZ S O l)
 |[],_,_,_,_=>rfl
 |a::l,k,O,c,e=>by
  have g:S.length+O.length+l.length+1<1000000000:=by simp only[Zi]at e;omega
  rw[OM,CW N b,re,Sq N b _ (c a Zl),re,sZ,
    show Nat.ble (((S++O).length+1)*16) 140737488355328=true from WS (by rw[Zj];omega)]
  have d:=at4 N b S l (k+1) (O++[a.aC]) (λy f=>c y (Zg _ f)) (by simp only[Zj,Zi,Zc];omega);rw[<-ZP]at d;dsimp only;rw[d];cases jI (S++O) a.aC !=0<;>cases jv S a.eH !=0<;>rfl
def at3(N:Nat)(a:16<N)(S:I so)(l:I dF)(b:∀x∈l,lk x.eH)(c:S.length+l.length<1000000000):K9 N l S=some (sZ S [] l):=by
 unfold K9;have:=at4 N a S l 0 [] b (by simp only[Zc];omega);rw[ZV]at this;rw[this,show Nat.ble ((0+S.length)*16) 140737488355328=true from WS (by omega)];rfl
def Lo{n:Nat}(h:n<=9223372036854775807):aE (n:Int)=(n:Int):=ik (by omega) (by omega)
def aeY(N:Nat)(a b:I dF)(h:a.length+b.length<1000000000):CZ N [a,b]=some (a++b):=by
 unfold CZ;rw[xA,show aE ((0:Int)+(a.length:Int))=((a.length:Nat):Int) by rw[Int.zero_add,Lo (by omega)],show decide ((a.length:Int)<0)=false from Zx (by omega)];simp only[UQ];rw[xA,show aE ((a.length:Int)+(b.length:Int))=((a.length+b.length:Nat):Int) by rw[<-Int.natCast_add,Lo (by omega)],show decide (((a.length+b.length:Nat):Int)<0)=false from Zx (by omega)];simp only[UQ];rw[xA];unfold UM;rw[show decide ((0:Int)<=((a.length+b.length:Nat):Int))=true from dO (by omega),ZB,show Nat.ble ((a.length+b.length)*48) 140737488355328=true from WS (by omega)];simp only[Bool.and_self,V1,re];rw[zO,show Nat.ble ((([]:I dF).length+a.length)*48) 140737488355328=true from WS (by simp only[Zc];omega)];simp only[V1,Wo];rw[zO,show Nat.ble ((a.length+b.length)*48) 140737488355328=true from WS (by omega)];rfl
def arI(N:Nat)(a:16<N)(d:bZ)(p:bo)(h:KN m S T)(b:∀x∈d.aQ++d.cl,lk x.eH)(c:d.aQ.length+d.cl.length<1000000000):
 Kn N d p m=some (sZ S [] (d.aQ++d.cl)):=by
 unfold Kn;rw[aeY N _ _ c,re];exact aev N a p h _ 0 [] [] ⟨λ_=>rfl,Zr _⟩ b (by simp only[Zj,Zc];omega)
end
def vO(d:bZ):Int:=bif d.dG==0 then bif d.cl.length==0 then 0 else 11 else bif decide (1<=d.dG)&&decide (d.dG<=4)then bif d.cl.length==0 then 11 else 0 else bif d.dG==5 then bif d.cl.length==0&& !(d.aQ.length==0)then 0 else 11 else 1
def acb(f:Int):f=0\/f=1\/f=2\/f=3\/f=4\/f=5\/(f<0\/5<f):=by omega
def anN(N:Nat)(d:bZ):KD N d=some (vO d):=by
 unfold KD vO CO;rw[OW,wZ,wZ];rcases acb d.dG with h|h|h|h|h|h|h
 ·rw[h];cases d.cl.length==0<;>rfl
 ·rw[h];cases d.cl.length==0<;>rfl
 ·rw[h];cases d.cl.length==0<;>rfl
 ·rw[h];cases d.cl.length==0<;>rfl
 ·rw[h];cases d.cl.length==0<;>rfl
 ·rw[h];cases d.cl.length==0<;>cases d.aQ.length==0<;>rfl
 ·have e:∀k:Int,0<=k->k<=5->(d.dG==k)=false:=λk b c=>Vb.2 (by omega);have a:(decide (1<=d.dG)&&decide (d.dG<=4))=false:=by
   rw[Bool.and_eq_false_iff,VT,VT];omega
  rw[e 0 (by decide) (by decide),e 1 (by decide) (by decide),e 2 (by decide) (by decide),e 3 (by decide) (by decide),e 4 (by decide) (by decide),e 5 (by decide) (by decide),a];rfl
def at2(N:Nat)(d:bZ):MT N d=some (vO d):=by
 unfold MT vO;rw[wZ,wZ];rcases acb d.dG with h|h|h|h|h|h|h
 ·rw[h];cases d.cl.length==0<;>rfl
 ·rw[h];cases d.cl.length==0<;>rfl
 ·rw[h];cases d.cl.length==0<;>rfl
 ·rw[h];cases d.cl.length==0<;>rfl
 ·rw[h];cases d.cl.length==0<;>rfl
 ·rw[h];cases d.cl.length==0<;>cases d.aQ.length==0<;>rfl
 ·have e:∀k:Int,0<=k->k<=5->(d.dG==k)=false:=λk c f=>Vb.2 (by omega);have a:(decide (1<=d.dG)&&decide (d.dG<=4))=false:=by
   rw[Bool.and_eq_false_iff,VT,VT];omega
  have b:(bif decide (d.dG<0)then some true else some (decide (d.dG>5)))=some true:=by
   rcases h with h|h
   ·rw[dO h];rfl
   ·rw[show decide (d.dG>5)=true from dO h];cases decide (d.dG<0)<;>rfl
  rw[b,e 0 (by decide) (by decide),e 5 (by decide) (by decide),a];rfl
def ng(B:Nat)(l:bD):Prop:=l.xL.length<=B
def ng.ok{l:bD}(h:ng 1000000000 l):lk l:=Za h (by decide)
def fq{n k:Nat}(h:n<=k):Nat.ble n k=true:=WS h
def at1(N:Nat):∀(l:I dF)(k:Nat)(b:I so),b.length+l.length<=1000000000->HC N l k b=some (b++l.map (·.aC))
 |[],_,b,_=>by rw[HC,a6,ZV]
 |a::l,k,b,h=>by
  simp only[Zi]at h;rw[HC,fq (by omega),V1];dsimp only;rw[at1 N l (k+1) _ (by simp only[Zj,Zi,Zc];omega),ZS,ZP];rfl
def alm(N:Nat)(d:bZ)(h:d.aQ.length+d.cl.length<1000000000):ME N d=some ((d.aQ++d.cl).map (·.aC)):=by
 unfold ME;rw[aeY N _ _ h,re,at1 N _ _ _ (by simp only[Zj,Zc];omega),Wo]
def acv(N:Nat):∀(l:I dF)(k:Nat)(b:I so),b.length+l.length<=1000000000->Gj N l k b=some (b++l.map (·.aC))
 |[],_,b,_=>by rw[Gj,a6,ZV]
 |a::l,k,b,h=>by
  simp only[Zi]at h;rw[Gj,fq (by omega),V1];dsimp only;rw[acv N l (k+1) _ (by simp only[Zj,Zi,Zc];omega),ZS,ZP];rfl
def abb(N:Nat)(d:bZ):∀(l:I dF)(k:Nat)(b:I so),b.length+l.length+d.cl.length<=1000000000->Fb N d l k b=some (b++(l++d.cl).map (·.aC))
 |[],_,b,h=>by rw[Fb,acv N _ _ _ (by simp only[Zc]at h;omega),Wo]
 |a::l,k,b,h=>by
  simp only[Zi]at h;rw[Fb,fq (by omega),V1];dsimp only;rw[abb N d l (k+1) _ (by simp only[Zj,Zi,Zc];omega),List.cons_append,ZS,ZP];rfl
def at0(N:Nat)(d:bZ)(h:d.aQ.length+d.cl.length<1000000000):Ns N d=some ((d.aQ++d.cl).map (·.aC)):=by
 unfold Ns;rw[abb N d _ _ _ (by simp only[Zc];omega),Wo]
def agx(N:Nat)(l:bD)(h:ng 1000000000 l):E8 N l=some l:=by
 unfold E8 RA;rw[fq (by have:=h;unfold ng at this;omega)];rfl
def agm(N:Nat):∀(l:I bD)(k:Nat)(b:I bD),b.length+l.length<=1000000000->(∀x∈l,ng 1000000000 x)->Ip N l k b=some (b++l)
 |[],_,b,_,_=>by rw[Ip,ZV]
 |a::l,k,b,h,c=>by
  simp only[Zi]at h;rw[Ip,agx N a (c a Zl),re,fq (by omega),V1];dsimp only;rw[agm N l (k+1) _ (by simp only[Zj,Zi,Zc];omega) λy d=>c y (Zg _ d),ZP];rfl
def ar6(N:Nat)(l:I bD)(h:l.length<=1000000000)(a:∀x∈l,ng 1000000000 x):Kb N l=some l:=by
 unfold Kb;rw[agm N l 0 [] (by simp only[Zc];omega) a,Wo]
def lX(s:so)(d:bZ):Bool:=bL d.aC==bL s
def CX(D:I bZ)(s:so)(k:Nat):Int:=match D.findIdx? (lX s)with|some i=>((k+i:Nat):Int)|none=> -1
def an5(d:bZ)(D:I bZ)(s:so)(k:Nat):CX (d::D) s k=bif lX s d then(k:Int)else CX D s (k+1):=by
 unfold CX;rw[List.findIdx?_cons];cases lX s d with
 |true=>rfl
 |false=>
  cases D.findIdx? (lX s)with
  |none=>rfl
  |some i=>simp only[UQ,Bool.false_eq_true,if_false,YV];rw[Nat.add_assoc,Nat.add_comm 1 i]
def aca(N:Nat)(s:so):∀(l:I bZ)(k:Nat),N6 N s l k=some (CX l s k)
 |[],_=>rfl
 |d::l,k=>by
  rw[N6,an5,show Vp N d s=some (lX s d)from rfl,re,aca N s l];cases lX s d<;>rfl
def ao7(N:Nat)(p:bo)(s:so):Kj N p s=some (CX p.aM s 0):=by
 unfold Kj Qy;rw[aca];rfl
def agd{α:Type}(f:α->Bool):∀l:I α,(l.findIdx? f=none/\l.find? f=none)\/∃i d,l.findIdx? f=some i/\l[i]?=some d/\l.find? f=some d/\f d=true
 |[]=>.inl ⟨rfl,rfl⟩
 |x::l=>by
  rw[List.findIdx?_cons,List.find?_cons];cases e:f x with
  |true=>exact .inr ⟨0,x,rfl,rfl,rfl,e⟩
  |false=>
   simp only[Bool.false_eq_true,if_false];rcases agd f l with⟨a,b⟩|⟨i,d,a,b,c,g⟩
   ·exact .inl ⟨by rw[a];rfl,b⟩
   ·exact .inr ⟨i+1,d,by rw[a];rfl,by rw[Yt];exact b,c,g⟩
def ep(P:I fm)(D:I bZ)(s:so):aL×I bD×Bool:=
 match P.find? (λx=>bL x.aC==bL s)with
 |some x=>(x.aH,x.aQ,true)
 |none=>match D.find? (lX s)with
  |some d=>(d.aH,d.aQ.map (·.eH),true)
  |none=>(dX,[],false)
def agH(N:Nat)(d:bZ):∀(l:I dF)(k:Nat)(b:I bD),b.length+l.length<=1000000000->(∀x∈l,ng 1000000000 x.eH)->IL N d l k b=some (d.aH,b++l.map (·.eH),true)
 |[],_,b,_,_=>by rw[IL,a6,ZV]
 |a::l,k,b,h,c=>by
  simp only[Zi]at h;rw[IL,agx N _ (c a Zl),re,fq (by omega),V1];dsimp only;rw[agH N d l (k+1) _ (by simp only[Zj,Zi,Zc];omega) λy e=>c y (Zg _ e),ZS,ZP];rfl
def abe(N:Nat)(d:bZ):∀(l:I dF)(k:Nat)(b:I bD),b.length+l.length<=1000000000->G9 N d l k b=some (d.aH,b++l.map (·.eH),true)
 |[],_,b,_=>by rw[G9,a6,ZV]
 |a::l,k,b,h=>by
  simp only[Zi]at h;rw[G9,fq (by omega),V1];dsimp only;rw[abe N d l (k+1) _ (by simp only[Zj,Zi,Zc];omega),ZS,ZP];rfl
structure mu(P:List fm):Prop where
 len:∀x∈P,x.aQ.length<=1000000000
 me:∀x∈P,∀y∈x.aQ,ng 1000000000 y
structure hX(D:List bZ):Prop where
 len:∀d∈D,d.aQ.length+d.cl.length<900000000
 me:∀d∈D,∀y∈d.aQ++d.cl,ng 1000000000 y.eH
def hX.Gp{D:I bZ}(h:hX D){d:bZ}(a:d∈D):∀y∈d.aQ,ng 1000000000 y.eH:=λy b=>h.me d a y (aa _ b)
def Pm{α:Type}{l:I α}{i:Nat}{d:α}(h:l[i]?=some d):d∈l:=ZX h
def afL(N:Nat)(p:bo)(s:so)(c:hX p.aM):∀(l:I fm)(k:Nat),mu l->Ji N p s l k=some (ep l p.aM s)
 |[],k,_=>by
  rw[Ji,ao7,re];unfold ep CX;rw[List.find?_nil];rcases agd (lX s) p.aM with⟨e,a⟩|⟨i,d,e,a,g,_⟩
  ·rw[e,a];rfl
  ·rw[e,g];simp only[ZJ];rw[show decide ((i:Int)>=0)=true from dO (by omega),ZB,a];simp only[V1,re];rw[agH N d _ _ _ (by have:=c.len d (Pm a);simp only[Zc];omega) (c.Gp (Pm a)),Wo]
 |x::l,k,b=>by
  rw[Ji,afL N p s c l (k+1) ⟨λy f=>b.len y (Zg _ f),λy f=>b.me y (Zg _ f)⟩];unfold ep;rw[List.find?_cons];cases bL x.aC==bL s with
  |true=>simp only[V1];rw[ar6 N _ (b.len x Zl) (b.me x Zl)];rfl
  |false=>rfl
def UH(N:Nat)(p:bo)(s:so)(a:mu p.bu)(b:hX p.aM):EB N p s=some (ep p.bu p.aM s):=afL N p s b p.bu 0 a
def afV(N:Nat)(s:so):∀(D:I bZ)(k:Nat),hX D->MJ N s D k=some (ep [] D s)
 |[],_,_=>rfl
 |d::D,k,h=>by
  rw[MJ,afV N s D (k+1) ⟨λy a=>h.len y (Zg _ a),λy a=>h.me y (Zg _ a)⟩];unfold ep;rw[List.find?_nil,List.find?_cons];unfold lX;cases bL d.aC==bL s with
  |true=>
   simp only[V1];rw[abe N d _ _ _ (by have:=h.len d Zl;simp only[Zc];omega),Wo]
  |false=>rfl
def aaN(N:Nat)(s:so)(p:bo)(a:hX p.aM):∀(l:I fm)(k:Nat),Il N s p l k=some (ep l p.aM s)
 |[],k=>by rw[Il,afV N s _ _ a]
 |x::l,k=>by
  rw[Il,aaN N s p a l];unfold ep;rw[List.find?_cons];cases bL x.aC==bL s<;>rfl
def FK(N:Nat)(p:bo)(s:so)(a:hX p.aM):GQ N p s=some (ep p.bu p.aM s):=aaN N s p a p.bu 0
structure VN(m:List (ByteArray×Int))(V:List ByteArray):Prop where
 val:∀s,(ia m s 0==0)= !dw V s
 len:m.length<=V.length
def VN.add{m:I (so×Int)}{a:I so}(h:VN m a)(s:so)(k:Int)(b:(k==0)=false):VN ((s,k)::m) (a++[s]):=by
 refine⟨λx=> ?_,by have:=h.len;simp only[Zi,Zj,Zc];omega⟩;rw[K5,mN,Jx];cases e:bL s==bL x with
 |true=>rw[V1,b,Bool.or_true];rfl
 |false=>rw[UQ,h.val,Bool.or_false]
def pY(a:I so)(l:bD):Int:=bif zd a l then 0 else 9
def agG(N:Nat){m:I (so×Int)}{a:I so}(h:VN m a):∀(l:I dZ)(k:Nat),LU N m l k=some (bif l.all (λm=>dw a m.aC)then 0 else 9)
 |[],_=>rfl
 |x::l,k=>by
  rw[LU,h.val,Z4,agG N h l];cases dw a x.aC<;>rfl
def Rb(N:Nat){m:I (so×Int)}{a:I so}(h:VN m a)(l:bD)(p:bo):E5 N l p m=some (pY a l):=agG N h l.xL 0
def yk(a:I so)(P:I fm)(D:I bZ)(x:c7):Int:=bif bL x.dc==[]then pY a x.bO else bif (ep P D x.dc).2.2 then bif (ep P D x.dc).1.bA !=3 then 10 else bif x.cP.length==(ep P D x.dc).2.1.length then gY (pY a) x.cP else 11 else 9
def H0(a b:Nat):((a:Int) !=(b:Int))= !(a==b):=afE a b
def agA(N:Nat){m:I (so×Int)}{a:I so}(h:VN m a)(p:bo):∀(l:I bD)(k:Nat),KC N p m l k=some (gY (pY a) l)
 |[],_=>rfl
 |x::l,k=>by
  rw[KC,Rb N h,re,gY,agA N h p l];cases pY a x !=0<;>rfl
def ajQ(N:Nat){m:I (so×Int)}{a:I so}(h:VN m a)(p:bo)(b:mu p.bu)(c:hX p.aM)(x:c7):L5 N x p m=some (yk a p.bu p.aM x):=by
 unfold L5 yk;rw[tX,Rb N h,UH N p _ b c,re,re,H0,agA N h p];cases bL x.dc==[]<;>cases (ep p.bu p.aM x.dc).2.2<;>cases (ep p.bu p.aM x.dc).1.bA !=3<;>cases x.cP.length==(ep p.bu p.aM x.dc).2.1.length<;>rfl
def Ak(a:I so)(P:I fm)(D:I bZ)(e:ay):Int:=bif (ep P D e.aC).2.2 then bif e.xIdx.length==(ep P D e.aC).2.1.length then gY (yk a P D) e.xIdx else 11 else 9
def Ay(t:aL)(x:Int):aL×Int:=(bif x !=0 then dX else t,x)
def agr(N:Nat){m:I (so×Int)}{a:I so}(h:VN m a)(p:bo)(b:mu p.bu)(c:hX p.aM)(q:aL×I bD×Bool):∀(l:I c7)(k:Nat),MO N q p m l k=some (Ay q.1 (gY (yk a p.bu p.aM) l))
 |[],_=>rfl
 |x::l,k=>by
  rw[MO,ajQ N h p b c,re,gY,agr N h p b c q l];unfold Ay;cases e:yk a p.bu p.aM x !=0 with
  |true=>simp only[V1];rw[e];rfl
  |false=>rfl
def aiV(N:Nat){m:I (so×Int)}{a:I so}(h:VN m a)(p:bo)(b:mu p.bu)(c:hX p.aM)(e:ay):Nu N e p m=some (Ay (ep p.bu p.aM e.aC).1 (Ak a p.bu p.aM e)):=by
 unfold Nu Ak;rw[UH N p _ b c,re,H0,agr N h p b c];cases (ep p.bu p.aM e.aC).2.2<;>cases e.xIdx.length==(ep p.bu p.aM e.aC).2.1.length<;>rfl
def ab5(N:Nat)(a:I so)(p:bo):∀(l:I bD)(k:Nat),Oy N a p l k=some (gY (pY (a++p.bG)) l)
 |[],_=>rfl
 |x::l,k=>by
  rw[Oy,S7,re,gY,ab5 N a p l];unfold pY;cases zd (a++p.bG) x<;>rfl
def QX(N:Nat)(a:I so)(p:bo)(l:I bD):NA N p a l=some (gY (pY (a++p.bG)) l):=ab5 N a p l 0
def aef(N:Nat)(a:I so)(p:bo)(b:hX p.aM)(q:aL×I bD×Bool):∀(l:I c7)(k:Nat),Jy N q a p l k=some (Ay q.1 (gY (yk (a++p.bG) p.bu p.aM) l))
 |[],_=>rfl
 |x::l,k=>by
  rw[Jy,tX,S7,FK N p _ b,re,re,H0,QX,re,gY,aef N a p b q l];unfold Ay yk pY;rw[show(x.cP.length==(ep p.bu p.aM x.dc).2.1.length)=((ep p.bu p.aM x.dc).2.1.length==x.cP.length)from Bool.eq_iff_iff.2 (by rw[Ve,Ve];exact eq_comm)];cases bL x.dc==[]with
  |true=>cases zd (a++p.bG) x.bO<;>rfl
  |false=>
   cases (ep p.bu p.aM x.dc).2.2 with
   |false=>rfl
   |true=>
    cases (ep p.bu p.aM x.dc).1.bA !=3 with
    |true=>rfl
    |false=>
     cases (ep p.bu p.aM x.dc).2.1.length==x.cP.length with
     |false=>rfl
     |true=>
      simp only[V1,UQ,Wh];cases e:gY (λl=>bif zd (a++p.bG) l then 0 else 9) x.cP !=0 with
      |true=>simp only[V1];first|rw[e];rfl|simp [e]
      |false=>rfl
def acH(N:Nat)(a:I so)(p:bo)(b:hX p.aM)(e:ay):Mw N p a e=some (Ay (ep p.bu p.aM e.aC).1 (Ak (a++p.bG) p.bu p.aM e)):=by
 unfold Mw Ak;rw[FK N p _ b,re,H0,aef N a p b,show((ep p.bu p.aM e.aC).2.1.length==e.xIdx.length)=(e.xIdx.length==(ep p.bu p.aM e.aC).2.1.length)from Bool.eq_iff_iff.2 (by rw[Ve,Ve];exact eq_comm)];cases (ep p.bu p.aM e.aC).2.2<;>cases e.xIdx.length==(ep p.bu p.aM e.aC).2.1.length<;>rfl
end Go.Proofs.YtnnapanbbbcalaaGreatDoor
