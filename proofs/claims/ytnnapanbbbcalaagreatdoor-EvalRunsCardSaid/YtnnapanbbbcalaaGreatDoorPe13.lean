/-
  Part 13 of the proof: PE7, PE8, PE9, PAll, ValNames, ValNode, LinP, ValTree, ValTree2, ValidLaw, InVal1.
-/
import Derived.Test.YtnnapanbbbcalaaGreatDoorPe12
set_option linter.defProp false
namespace Go.Proofs.YtnnapanbbbcalaaGreatDoor
open IntKind (u64 i64)
open Tryz
open Go.RowKit
set_option maxRecDepth 100000
set_option maxHeartbeats 0
set_option linter.unusedVariables false
def yA:cE:=⟨(0:Int),(0:Int),(0:Int),(0:Int),(0:Int),(0:Int)⟩
def JY:I AV:=[bx 0,bx 0,Y 0,Y 0,Y 0,Y 0,Y 0,Y 0]
def vo(N:Nat)(u:I aJ):I dX->Nat->Int->Int->Int->Int->Int->Int->Int->Int->Int->Int->Int->Int->U (Int64×Int)
 |[],_,a,b,k,l,c,n,o,p,d,q,e,f=>(EZ N (⟨a,b,k,l,c,n⟩:cE) (⟨o,p,d,q,e,f⟩:cE)).bind λQ=>bif Q then(AS N (⟨o,p,d,q,e,f⟩:cE) (⟨a,b,k,l,c,n⟩:cE)).bind λi=>(bif (i.dp !=0)then some true else(bif (i.di !=0)then some true else(bif (i.dd !=0)then some true else(bif (i.c7 !=0)then some true else some (decide ((u64.wrap (i.cH+(u64.wrap (i.cY*(4294967296:Int)))))>9223372036854775808)))))).bind λR=>bif R then some ((0:Int64),(3:Int))else some ((-(Int64.ofInt (u64.wrap ((u64.wrap (i.cH+(u64.wrap (i.cY*(4294967296:Int)))))-(1:Int)))))-(1:Int64),(0:Int))else(AS N (⟨a,b,k,l,c,n⟩:cE) (⟨o,p,d,q,e,f⟩:cE)).bind λj=>(bif (j.dp !=0)then some true else(bif (j.di !=0)then some true else(bif (j.dd !=0)then some true else(bif (j.c7 !=0)then some true else some (decide ((u64.wrap (j.cH+(u64.wrap (j.cY*(4294967296:Int)))))>9223372036854775807)))))).bind λW=>bif W then some ((0:Int64),(3:Int))else some (Int64.ofInt (u64.wrap (j.cH+(u64.wrap (j.cY*(4294967296:Int))))),(0:Int))
 |t::M,P,a,b,k,l,c,n,o,p,d,q,e,f=>(Ti N u t.ay).bind λh=>bif h.2 then bif ((decide (h.1.toInt<0))==(decide (t.eW.toInt<0)))then(tM N h.1).bind λv=>(tM N t.eW).bind λw=>(yV N (⟨a,b,k,l,c,n⟩:cE) v w).bind λg=>(λb2_0 x y z A B C E F G H J=>vo N u M (P+1) b2_0 x y z A B C E F G H J) g.cH g.cY g.dp g.di g.dd g.c7 o p d q e f else(tM N h.1).bind λK=>(tM N t.eW).bind λL=>(yV N (⟨o,p,d,q,e,f⟩:cE) K L).bind λr=>(λb2_0 x y z A B C E F G H J=>vo N u M (P+1) b2_0 x y z A B C E F G H J) a b k l c n r.cH r.cY r.dp r.di r.dd r.c7 else some ((0:Int64),(9:Int))
def N9(N:Nat)(d:I aJ)(e:bE)(f:Int)(g:Int)(h:Int)(i:Int)(j:Int)(k:Int)(a:Int)(b:Int)(c:Int)(l:Int)(n:Int)(o:Int):U (Int64×Int):=vo N d e.xL 0 f g h i j k a b c l n o
def vm(N:Nat)(a:bE)(f:I aJ):U (Int64×Int):=(L9 N a).bind λg=>bif (g !=0)then some ((0:Int64),(1:Int))else bif (decide (a.xK.toInt<0))then(tM N a.xK).bind λd=>(yV N yA d (1:Int)).bind λb=>N9 N f a (0:Int) (0:Int) (0:Int) (0:Int) (0:Int) (0:Int) b.cH b.cY b.dp b.di b.dd b.c7 else(tM N a.xK).bind λe=>(yV N yA e (1:Int)).bind λc=>N9 N f a c.cH c.cY c.dp c.di c.dd c.c7 (0:Int) (0:Int) (0:Int) (0:Int) (0:Int) (0:Int)
def O2(e:bE)(f:Int)(g:Int)(h:Int)(i:Int)(j:Int)(k:Int)(a:Int)(b:Int)(c:Int)(n:Int)(o:Int)(p:Int)(l:I ar):I ar:= .cells (dY e).cells:: .cells [X f,X g,X h,X i,X j,X k]:: .cells [X a,X b,X c,X n,X o,X p]::l
def Hg{N k E r}(J:vm N k E=some r):KF 81 [dY k,O (aS E)] (.bq [bx r.1,Y r.2]):=by
 rw[vm]at J;refine IB func81 ?_;obtain⟨v3,h1,J⟩:=bz J;refine gp bC [[],[(4,cK aoW h1)]] ?_;apply bc J<;>intro h2 J;{cases J;exact wr bC [[(0,bT h2)],[]]}
 refine Fp bC 1 [[(0,bF h2)],[],[]] [1,2,6,7] 3 (λ((K,L,M,P,Q,R,l,o,p,W,aE,aO):Int×Int×Int×Int×Int×Int×Int×Int×Int×Int×Int×Int)=>⟨155,[(1,O (aS E)),(2,A0),(6,Ac),(7,CL)],O2 k K L M P Q R l o p W aE aO []⟩) (λ((K,L,M,P,Q,R,l,o,p,W,aE,aO):Int×Int×Int×Int×Int×Int×Int×Int×Int×Int×Int×Int)=>N9 N E k K L M P Q R l o p W aE aO=some r) ?_ ?_
 ·intro f1 aI;apply bc J<;>intro o9 J
  ·obtain⟨v44,J6,F,RD,J⟩:=jy J;exact mu bC aI ((0:Int),(0:Int),(0:Int),(0:Int),(0:Int),(0:Int),F.cH,F.cY,F.dp,F.di,F.dd,F.c7) [[(0,bT o9)],[(10,cK AT J6),(13,cK Kz RD)]] J
  obtain⟨v46,h34,G,h35,J⟩:=jy J;exact mu bC aI (G.cH,G.cY,G.dp,G.di,G.dd,G.c7,(0:Int),(0:Int),(0:Int),(0:Int),(0:Int),(0:Int)) [[(0,bF o9)],[(10,cK AT h34),(13,cK Kz h35)]] J
 rintro⟨K,L,M,P,Q,R,l,o,p,W,aE,aO⟩ J
 try dsimp only at J
 rw[N9]at J;refine gp bC [[]] ?_;refine afO vQ 0 1 k.xL λh4=> ?_;refine H9 bC 2 [] [1,2,6,7,8] 3 (λ((t,B,a,b,u,v,c,w,x,y,e,A,f,g):Nat×(I dX)×Int×Int×Int×Int×Int×Int×Int×Int×Int×Int×Int×Int)=>⟨155,[(1,O (aS E)),(2,A0),(6,Ac),(7,CL),(8,Y t)],O2 k a b u v c w x y e A f g []⟩) (λ((t,B,a,b,u,v,c,w,x,y,e,A,f,g):Nat×(I dX)×Int×Int×Int×Int×Int×Int×Int×Int×Int×Int×Int×Int)=>k.xL.drop t=B/\vo N E B t a b u v c w x y e A f g=some r) (λ((t,B,a,b,u,v,c,w,x,y,e,A,f,g):Nat×(I dX)×Int×Int×Int×Int×Int×Int×Int×Int×Int×Int×Int×Int)=>B.length) (0,k.xL,K,L,M,P,Q,R,l,o,p,W,aE,aO) ⟨rfl,J⟩ ?_;rintro⟨t,B,a,b,u,v,c,w,x,y,e,A,f,g⟩ ⟨q,J⟩ f2 dE;cases B with
 |nil=>
  rw[vo]at J;obtain⟨CW,h6,J⟩:=bz J;refine gp bC [[(10,oL k.xL jx)],[(0,bF (bG q))],[(7,cL (alQ h6))]] ?_;apply bc J<;>intro h7 J
  ·obtain⟨C,h8,J⟩:=bz J;refine gp bC [[(0,bT h7)],[(7,cL (atU h8))],[(1,⟨_,_,.lt (z:=0) (n:=6) (by decide) (by decide)⟩),(7,⟨_,_,.lt (z:=1) (n:=6) (by decide) (by decide)⟩)]] ?_;obtain⟨Ri,h,J⟩:=bz J;refine xw bC [(116,aA Ri)] (O2 k a b u v c w x y e A f g [.cells (fp C).cells]) ?_ ?_
   ·apply bc h<;>intro h9 h
    ·cases h;exact gk [(3,bT h9),(8,bT rfl),(13,bT rfl),(18,bT rfl)] [(1,⟨_,_,.lt (z:=2) (n:=6) (by decide) (by decide)⟩)]
    apply bc h<;>intro aU h;{cases h;exact gk [(3,bF h9),(8,bT aU),(13,bT rfl),(18,bT rfl)] [(1,⟨_,_,.lt (z:=2) (n:=6) (by decide) (by decide)⟩),(13,⟨_,_,.lt (z:=3) (n:=6) (by decide) (by decide)⟩)]}
    apply bc h<;>intro bj h;{cases h;exact gk [(3,bF h9),(8,bF aU),(13,bT bj),(18,bT rfl)] [(1,⟨_,_,.lt (z:=2) (n:=6) (by decide) (by decide)⟩),(13,⟨_,_,.lt (z:=3) (n:=6) (by decide) (by decide)⟩),(28,⟨_,_,.lt (z:=4) (n:=6) (by decide) (by decide)⟩)]}
    apply bc h<;>intro aT h;{cases h;exact gk [(3,bF h9),(8,bF aU),(13,bF bj),(18,bT aT)] [(1,⟨_,_,.lt (z:=2) (n:=6) (by decide) (by decide)⟩),(13,⟨_,_,.lt (z:=3) (n:=6) (by decide) (by decide)⟩),(28,⟨_,_,.lt (z:=4) (n:=6) (by decide) (by decide)⟩),(43,⟨_,_,.lt (z:=5) (n:=6) (by decide) (by decide)⟩)]}
    cases h;exact gk [(3,bF h9),(8,bF aU),(13,bF bj),(18,bF aT)] [(1,⟨_,_,.lt (z:=2) (n:=6) (by decide) (by decide)⟩),(13,⟨_,_,.lt (z:=3) (n:=6) (by decide) (by decide)⟩),(28,⟨_,_,.lt (z:=4) (n:=6) (by decide) (by decide)⟩),(43,⟨_,_,.lt (z:=5) (n:=6) (by decide) (by decide)⟩)]
   apply bc J<;>intro bV J;{cases J;exact wr bC [[(0,bT bV)],[]]}
   cases J;exact wr bC [[(0,bF bV)],[(8,oq (iF (u64.wrap ((u64.wrap (C.cH+(u64.wrap (C.cY*(4294967296:Int)))))-(1:Int))))),(11,oq (lT (Int64.ofInt (u64.wrap ((u64.wrap (C.cH+(u64.wrap (C.cY*(4294967296:Int)))))-(1:Int)))))),(14,oq (mm (-(Int64.ofInt (u64.wrap ((u64.wrap (C.cH+(u64.wrap (C.cY*(4294967296:Int)))))-(1:Int))))) (1:Int64)))]]
  obtain⟨pP,bA,J⟩:=bz J;refine gp bC [[(0,bF h7)],[(7,cL (atU bA))],[(1,⟨_,_,.lt (z:=0) (n:=6) (by decide) (by decide)⟩),(7,⟨_,_,.lt (z:=1) (n:=6) (by decide) (by decide)⟩)]] ?_;obtain⟨QC,i,J⟩:=bz J;refine xw bC [(152,aA QC)] (O2 k a b u v c w x y e A f g [.cells (fp pP).cells]) ?_ ?_
  ·apply bc i<;>intro cd i
   ·cases i;exact gk [(3,bT cd),(8,bT rfl),(13,bT rfl),(18,bT rfl)] [(1,⟨_,_,.lt (z:=2) (n:=6) (by decide) (by decide)⟩)]
   apply bc i<;>intro dc i;{cases i;exact gk [(3,bF cd),(8,bT dc),(13,bT rfl),(18,bT rfl)] [(1,⟨_,_,.lt (z:=2) (n:=6) (by decide) (by decide)⟩),(13,⟨_,_,.lt (z:=3) (n:=6) (by decide) (by decide)⟩)]}
   apply bc i<;>intro dT i;{cases i;exact gk [(3,bF cd),(8,bF dc),(13,bT dT),(18,bT rfl)] [(1,⟨_,_,.lt (z:=2) (n:=6) (by decide) (by decide)⟩),(13,⟨_,_,.lt (z:=3) (n:=6) (by decide) (by decide)⟩),(28,⟨_,_,.lt (z:=4) (n:=6) (by decide) (by decide)⟩)]}
   apply bc i<;>intro eK i;{cases i;exact gk [(3,bF cd),(8,bF dc),(13,bF dT),(18,bT eK)] [(1,⟨_,_,.lt (z:=2) (n:=6) (by decide) (by decide)⟩),(13,⟨_,_,.lt (z:=3) (n:=6) (by decide) (by decide)⟩),(28,⟨_,_,.lt (z:=4) (n:=6) (by decide) (by decide)⟩),(43,⟨_,_,.lt (z:=5) (n:=6) (by decide) (by decide)⟩)]}
   cases i;exact gk [(3,bF cd),(8,bF dc),(13,bF dT),(18,bF eK)] [(1,⟨_,_,.lt (z:=2) (n:=6) (by decide) (by decide)⟩),(13,⟨_,_,.lt (z:=3) (n:=6) (by decide) (by decide)⟩),(28,⟨_,_,.lt (z:=4) (n:=6) (by decide) (by decide)⟩),(43,⟨_,_,.lt (z:=5) (n:=6) (by decide) (by decide)⟩)]
  apply bc J<;>intro fK J;{cases J;exact wr bC [[(0,bT fK)],[]]}
  cases J;exact wr bC [[(0,bF fK)],[(5,oq (iF (u64.wrap (pP.cH+(u64.wrap (pP.cY*(4294967296:Int)))))))]]
 |cons bK cn=>
  rw[vo]at J;obtain⟨v37,gz,J⟩:=bz J;refine gp bC [[(10,oL k.xL jx)],[(0,bT (bD q))],[(13,oE (lM (aX q))),(22,cK aiE gz)],[]] ?_;apply bc J<;>intro fj J
  ·refine gp bC [[(0,bF (cx fj))],[(16,oE (lM (aX q)))]] ?_;apply bc J<;>intro fB J
   ·obtain⟨v38,kF,v39,kA,J⟩:=jy J;obtain⟨j,fZ,J⟩:=bz J;exact CM bC dE (t+1,cn,j.cH,j.cY,j.dp,j.di,j.dd,j.c7,x,y,e,A,f,g) [[(0,bF (cx fB))],[(7,cK AT kF),(19,oE (lM (aX q))),(28,cK AT kA),(31,cK Kz fZ)],[(5,oq (bU q rfl h4))]] ⟨kM q,J⟩
   obtain⟨v41,j4,v42,l6,J⟩:=jy J;obtain⟨H,mj,J⟩:=bz J;exact CM bC dE (t+1,cn,a,b,u,v,c,w,H.cH,H.cY,H.dp,H.di,H.dd,H.c7) [[(0,bT (dq fB))],[(7,cK AT j4),(19,oE (lM (aX q))),(28,cK AT l6),(31,cK Kz mj)],[(5,oq (bU q rfl h4))]] ⟨kM q,J⟩
  cases J;exact wr bC [[(0,bT (dq fj))],[]]
def NL(N:Nat)(a:so):I aL->Nat->U (bk×Bool)
 |[],_=>some (jd,false)
 |b::c,d=>bif (bL b.ay==bL a)then some (b.xTensor,true)else(NL N a c (d+1))
def Ag(N:Nat)(a:I aL)(b:so):U (bk×Bool):=NL N b a 0
def Mb{N b c}:KO 49 [O (bm b),dk c] (λr=>.bq [gF r.1,aA r.2]) (Ag N b c):=
 fw func49 (V [[],[]] (gT sy 0 b λg=>gx0 1 [] [0,1,4,6] 1 [] [(0,5),(0,6)] (λe=>⟨26,[(0,O (bm b)),(1,dk c),(4,A0),(6,Y e)],[.cells NY]⟩) (λe a h=>gR [[(7,oL b oG)],[f0 (bG a)],[]]) (λe j k a h i=>V [[(7,oL b oG)],[t0 (bD a)],[(7,oE (pV (aX a)))]] (ax (λf=>gR [[t0 f],[(7,oE (pV (aX a)))]]) λf=>gbX i () [[f0 f],[(5,oq (bU a rfl g))]] a))))
def M0(N:Nat):I Int->Nat->Int->U Int
 |[],_,_=>some (0:Int)
 |b::c,d,a=>bif (a !=0)then bif (decide (b>(i64.wrap (((4096:Int)).tdiv a))))then some (2:Int)else(λb2_0=>M0 N c (d+1) b2_0) (aF (a*b))else none
def Gm(N:Nat)(a:I Int):I Int->Nat->U Int
 |[],_=>M0 N a 0 (1:Int)
 |v4::b,c=>bif (decide (v4<1))then some (1:Int)else(Gm N a b (c+1))
def Ou(N:Nat)(a:I Int):U Int:=bif (decide ((a.length:Int)>6))then some (2:Int)else Gm N a a 0
def anj{N a}:KO 225 [O (bH a)] Y (Ou N a):=
 fw func225 (V [[],[(4,oL a fG)]] (eY λ_=>gT lY 0 a λi=>dN 1 [] [0,3] 0 (λg=>⟨39,[(0,O (bH a)),(3,Y g)],[]⟩) (λg f j=>V [[(7,oL a fG)],[f0 (bG f)],[],[]] (gT lY 0 a λk=>fa 2 [] [0,4,5] 0 (λh(c:Int)=>⟨39,[(0,O (bH a)),(4,Y c),(5,Y h)],[]⟩) (λh c e l=>gR [[(7,oL a fG)],[f0 (bG e)],[]]) (λh n u c e l o=>cF λp=>V [[(7,oL a fG)],[t0 (bD e)],[(7,oE (gY (aX e))),(16,⟨_,_,.nz (b:=c) (Ue.1 p)⟩)]] (aY λq=>gb o (aF (c*n)) [[f0 q],[(10,oE (gY (aX e)))],[(5,oq (bU e rfl k))]] e)))) (λg v w f j r=>V [[(7,oL a fG)],[t0 (bD f)],[(7,oE (gY (aX f)))]] (aY λt=>gb r () [[f0 t],[(5,oq (bU f rfl i))]] f))))
def M8(N:Nat):I Int->Nat->Int->U Int
 |[],_,a=>some a
 |v4::b,c,a=>(λd=>M8 N b (c+1) d) (aF (a*v4))
def OS(N:Nat)(a:I Int):U Int:=M8 N a 0 (1:Int)
def akA{N a}:KO 226 [O (bH a)] Y (OS N a):=
 fw func226 (V [[],[],[]] (gT lY 0 a λf=>fa 1 [] [0,3,4] 0 (λe(c:Int)=>⟨18,[(0,O (bH a)),(3,Y c),(4,Y e)],[]⟩) (λe c b g=>gR [[(7,oL a fG)],[f0 (bG b)],[]]) (λe h j c b g i=>gb i (aF (c*h)) [[(7,oL a fG)],[t0 (bD b)],[(10,oE (gY (aX b)))],[(5,oq (bU b rfl f))]] b)))
def K6(N:Nat)(a:bk):I aB->Nat->U Int
 |[],_=>some (0:Int)
 |b::c,d=>(nH N a.aH b).bind λe=>bif e then(K6 N a c (d+1))else some (1:Int)
def Gj(N:Nat)(a:bk):U Int:=(nq N a.aH).bind λc=>bif c then(Ou N a.aR).bind λb=>bif (b !=0)then some b else(OS N a.aR).bind λd=>bif ((a.eD.length:Int) !=d)then some (1:Int)else K6 N a a.eD 0 else some (10:Int)
def aa2{N a}:KO 147 [gF a] Y (Gj N a):=
 fw func147 (au λo d=>V [[],[(7,cK ph d)]] (fi λe=>au λp f=>V [[f0 (cx e)],[(7,cK anj f)],[]] (aY λg=>au λq h=>V [[f0 g],[(7,oL a.eD jC),(16,cK akA h)]] (eY λ_=>gB tq 0 6 a.eD λi=>dN 1 [] [1,4] 1 (λc=>⟨38,[(1,A0),(4,Y c)],QP a⟩) (λc b j=>gR [[(10,oL a.eD jC)],[f0 (bG b)],[]]) (λc r t b j k=>au λu l=>V [[(10,oL a.eD jC)],[t0 (bD b)],[(16,oE (mh (aX b))),(22,cK vh l)]] (fi λn=>gb k () [[f0 (cx n)],[(5,oq (bU b rfl i))]] b))))))
def HB(N:Nat)(b:I aL)(c:so):U (bk×Int):=(Ag N b c).bind λa=>bif a.2 then(Gj N a.1).bind λd=>bif (d !=0)then some (jd,(1:Int))else some (a.1,(0:Int))else some (jd,(9:Int))
def acL{N a b}:KO 170 [O (bm a),dk b] (λr=>.bq [gF r.1,Y r.2]) (HB N a b):=
 fw func170 (au λh c=>V [[],[(7,cK Mb c)],[]] (fi λe=>au λi f=>V [[f0 (cx e)],[(4,cK aa2 f)]] (aY λg=>gR [[f0 g],[]])))
def HV(N:Nat)(e:bk×Int)(b:Int)(h:I aJ):I bE->Nat->Int->U (Int64×Int)
 |[],_,c=>bif (decide ((0:Int)<=c))then(e.1.eD[(c).toNat]?).bind λa=>bif (aF (if(if a.xN.toInt<(aF (b-(1:Int)))then a.xN.toInt else(aF (b-(1:Int))))>0then(if a.xN.toInt<(aF (b-(1:Int)))then a.xN.toInt else(aF (b-(1:Int))))else(0:Int))==(if(if a.xN.toInt<(aF (b-(1:Int)))then a.xN.toInt else(aF (b-(1:Int))))>0then(if a.xN.toInt<(aF (b-(1:Int)))then a.xN.toInt else(aF (b-(1:Int))))else(0:Int)))then some ((Int64.ofInt (if(if a.xN.toInt<(aF (b-(1:Int)))then a.xN.toInt else(aF (b-(1:Int))))>0then(if a.xN.toInt<(aF (b-(1:Int)))then a.xN.toInt else(aF (b-(1:Int))))else(0:Int))),(0:Int))else none else none
 |i::f,g,c=>(vm N i h).bind λd=>bif (d.2 !=0)then some ((0:Int64),d.2)else(bif (decide (d.1.toInt<0))then some true else (e.1.aR[((g:Int)).toNat]?).bind λj=>some (decide (d.1.toInt>=j))).bind λk=>bif k then some ((0:Int64),(12:Int))else(e.1.aR[((g:Int)).toNat]?).bind λl=>(λn=>HV N e b h f (g+1) n) (aF ((aF (c*l))+d.1.toInt))
def OG(N:Nat)(e:I aL)(c:I aJ)(a:c8)(f:Int):U (Int64×Int):=bif (bL a.de==bL (bs []))then(vm N a.bN c).bind λd=>some (d.1,d.2)else(HB N e a.de).bind λb=>bif (b.2 !=0)then some ((0:Int64),b.2)else bif (b.1.aH.bB !=3)then some ((0:Int64),(10:Int))else bif ((a.cQ.length:Int) !=(b.1.aR.length:Int))then some ((0:Int64),(11:Int))else HV N b f c a.cQ 0 (0:Int)
def akL{N l f b g}:KO 245 [O (bm l),O (aS f),ij b,Y g] (λr=>.bq [bx r.1,Y r.2]) (OG N l f b g):=
 fw func245 (V [[],[]] (ax (λh=>au λL o=>gR [[t0 h],[(10,cL (Hg o))]]) λh=>au λe p=>V [[f0 h],[(10,cK acL p)],[]] (eY λ_=>aY λq=>V [[f0 q],[(7,oL b.cQ fW),(16,oL e.1.aR fG)]] (aY λt=>V [[f0 t],[],[]] (gB mZ 0 3 b.cQ λu=>fa 1 [] [1,3,6,10,12,13] 2 (λj(a:Int)=>⟨96,[(1,O (aS f)),(3,Y g),(6,A0),(10,Ac),(12,Y a),(13,Y j)],[.cells (ij b).cells,.cells (gF e.1).cells]⟩) (λj a c v=>cF λw=>au λx y=>cF λz=>gR [[(10,oL b.cQ fW)],[f0 (bG c)],[(16,⟨_,_,.el (xs:=eC e.1.eD) (i:=a) (U0 w) (mh y)⟩),(32,oq (Ci (Ua.1 z)))]]) (λj M A a c v B=>au λC E=>V [[(10,oL b.cQ fW)],[t0 (bD c)],[(10,oE (o8 (aX c))),(19,cL (Hg E))],[]] (aY λF=>V [[f0 F]] (gG (λn=>[(76,aA n)]) (λ_=>[.cells (ij b).cells,.cells (gF e.1).cells]) (ax (λk=>gE [(2,bT k)] []) λk=>au λP G=>gE [(2,bF k)] [(22,oE (gY G))]) λn=>aY λH=>au λJ K=>gb B (aF ((aF (a*J))+C.1.toInt)) [[f0 H],[(13,oE (gY K))],[(5,oq (bU c rfl u))]] c))))))))
def EM(N:Nat)(e:bk)(f:I aL)(g:I aJ):I c8->Nat->Int->U (Int×Int)
 |[],_,c=>some (c,(0:Int))
 |i::j,h,c=>(e.aR[((h:Int)).toNat]?).bind λb=>(OG N f g i b).bind λa=>bif (a.2 !=0)then some ((0:Int),a.2)else(bif (decide (a.1.toInt<0))then some true else some (decide (a.1.toInt>=b))).bind λd=>bif d then some ((0:Int),(12:Int))else(λk=>EM N e f g j (h+1) k) (aF ((aF (c*b))+a.1.toInt))
def Ql(N:Nat)(c:I aL)(d:I aJ)(a:bk)(b:I c8):U (Int×Int):=bif ((b.length:Int) !=(a.aR.length:Int))then some ((0:Int),(11:Int))else EM N a c d b 0 (0:Int)
def anP{N g h c a}:KO 171 [O (bm g),O (aS h),gF c,O (fc a)] (λr=>.bq [Y r.1,Y r.2]) (Ql N g h c a):=
 fw func171 (V [[],[(4,oL a gq),(13,oL c.aR fG)]] (aY λo=>V [[f0 o],[],[]] (gT sc 3 a λp=>fa 1 [] [0,1,3,6,10,11] 1 (λi(f:Int)=>⟨65,[(0,O (bm g)),(1,O (aS h)),(3,O (fc a)),(6,A0),(10,Y f),(11,Y i)],QP c⟩) (λi f b q=>gR [[(7,oL a gq)],[f0 (bG b)],[]]) (λi x y f b q t=>au λj k=>au λl u=>V [[(7,oL a gq)],[t0 (bD b)],[(13,oE (jk (aX b))),(28,oE (gY k)),(34,cK akL u)],[]] (aY λv=>V [[f0 v]] (gG (λe=>[(54,aA e)]) (λ_=>(QP c)) (ax (λn=>gE [(2,bT n)] []) λn=>gE [(2,bF n)] [(22,oE (gY k))]) λe=>aY λw=>gb t (aF ((aF (f*j))+l.1.toInt)) [[f0 w],[(13,oE (gY k))],[(5,oq (bU b rfl p))]] b))))))
def MG(N:Nat)(b:Int64×Int)(a:Int):U gi:=bif (a !=0)then some (⟨cf,dZ,a⟩:gi)else some (⟨(⟨b.1,1⟩:aB),(⟨3,0,0,0,0⟩:aM),0⟩:gi)
def JA(N:Nat)(e:I aL)(f:I aJ)(a:az):U gi:=bif (a.aD==1)then some (⟨a.dP,a.aH,0⟩:gi)else bif (a.aD==2)then(vm N a.bN f).bind λb=>(bif (b.2==0)then(bif (decide (b.1.toInt>2147483647))then some true else some (decide (b.1.toInt<(-2147483647:Int))))else some false).bind λg=>bif g then MG N b (3:Int)else MG N b b.2 else(HB N e a.ay).bind λc=>bif (c.2 !=0)then some (⟨cf,dZ,c.2⟩:gi)else(Ql N e f c.1 a.xIdx).bind λd=>bif (d.2 !=0)then some (⟨cf,dZ,d.2⟩:gi)else bif (decide ((0:Int)<=d.1))then(c.1.eD[(d.1).toNat]?).bind λh=>some (⟨h,c.1.aH,0⟩:gi)else none
def akQ{N h j b}:KO 101 [O (bm h),O (aS j),aK b] pW (JA N h j b):=
 fw func101 (V [[],[],[]] (eY λ_=>ax (λc=>au λe o=>V [[t0 c],[(10,cL (Hg o))]] (gG (λk=>[(40,aA k)]) (λ_=>[.cells (aK b).cells,.cells JY]) (ax (λf=>cm (2,bT f) (ax (λa=>gE [(5,bT a)] [(25,bT a)]) λa=>gE [(5,bF a)] [(25,bF a)])) λf=>gE [(2,bF f),(5,uN)] []) λk=>kW 1 [] [6,7,8] 2 (λ(l:Int)=>⟨81,[(6,Ac),(7,bx e.1),(8,Y l)],[.cells (aK b).cells,.cells JY]⟩) (MG N e) (λz n=>ax (λg=>gm n (3:Int) [[t0 g],[]]) λg=>gm n e.2 [[f0 g]]) (λl=>V [[]] (aY λp=>gR [[f0 p],[]])))) λc=>au λq r=>V [[f0 c],[(10,cK acL r)],[]] (aY λt=>au λu v=>V [[f0 t],[(16,cK anP v)],[]] (aY λw=>cF λx=>au λA y=>gR [[f0 w],[(10,⟨_,_,.el (xs:=eC q.1.eD) (i:=u.1) (U0 x) (mh y)⟩)]]))))
def JP(N:Nat)(a:aM)(b:aB):U Bool:=(nq N a).bind λc=>(bif c then (nH N a b).bind λd=>some d else some false).bind λe=>some e
def atT{N a b}:KO 184 [bY a,bp b] aA (JP N a b):=
 fw func184 (V [[]] (au λg e=>gG (λd=>[(4,aA d)]) (λ_=>(PD a b)) (cG (4,cK ph e) (ax (λc=>au λh f=>gE [(2,bT c)] [(16,cK vh f)]) λc=>gE [(2,bF c)] [])) λd=>gR []))
def oC(N:Nat)(a:aB):U Bool:=(nH N (⟨1,0,0,0,0⟩:aM) a).bind λb=>some b
def ru{N a}:KO 247 [bp a] aA (oC N a):=
 fw func247 (au λc b=>gR [[],[(7,cK vh b)]])
def Dw(N:Nat)(a:Int64)(b:Int64):U Int:=bif (decide (a.toInt<b.toInt))then some (-1:Int)else bif (decide (a.toInt>b.toInt))then some (1:Int)else some (0:Int)
def Vq{N a b}:KO 248 [bx a,bx b] Y (Dw N a b):=
 fw func248 (V [[],[]] (eY λ_=>aY λc=>gR [[f0 c],[]]))
def Sw(N:Nat)(a:aB)(b:aB):U Int:=(oC N a).bind λc=>(bif c then (oC N b).bind λd=>some d else some false).bind λe=>bif e then(Dw N (a.xN*b.xD) (b.xN*a.xD)).bind λf=>some f else bif (a.xN.toInt !=b.xN.toInt)then(Dw N a.xN b.xN).bind λg=>some g else(Dw N a.xD b.xD).bind λh=>some h
def amf{N a b}:KO 185 [bp a,bp b] Y (Sw N a b):=
 fw func185 (V [[]] (au λl g=>gG (λf=>[(10,aA f)]) (λ_=>[.cells (bp a).cells,.cells (bp b).cells]) (cG (4,cK ru g) (ax (λc=>au λn h=>gE [(2,bT c)] [(13,cK ru h)]) λc=>gE [(2,bF c)] [])) λf=>ax (λd=>au λo i=>gR [[t0 d],[(14,oq (gu a.xN b.xD)),(29,oq (gu b.xN a.xD)),(31,cK Vq i)]]) λd=>V [[f0 d],[]] (ax (λe=>au λp j=>gR [[t0 e],[(13,cK Vq j)]]) λe=>au λq k=>gR [[f0 e],[(13,cK Vq k)]])))
def Ij(N:Nat)(a:aM)(b:aB)(c:aB):U Int:=(JP N a b).bind λd=>(bif d then (JP N a c).bind λe=>some (!e)else some true).bind λf=>bif f then some (0:Int)else(Sw N b c).bind λg=>some g
def atS{N a b c}:KO 104 [bY a,bp b,bp c] Y (Ij N a b c):=
 fw func104 (V [[]] (au λj f=>gG (λe=>[(16,aA e)]) (λ_=>(RG a b c)) (cG (7,cK atT f) (ax (λd=>au λk g=>gE [(4,bF (cx d))] [(22,cK atT g)]) λd=>gE [(4,bT (dq d))] [])) λe=>aY λh=>au λl i=>gR [[f0 h],[(7,cK amf i)]]))
def vT(N:Nat)(a:aM):U Int64:=bif (decide ((0:Int)<=(u64.wrap a.ck)))then some (Int64.ofInt ((1:Int)*2^(min (u64.wrap a.ck).toNat (IntKind.bits .i64))))else none
def HQ{N a}:KO 176 [bY a] bx (vT N a):=
 fw func176 (cF λc=>gR [[],[(10,⟨_,_,.nn (b:=(u64.wrap a.ck)) (U0 c)⟩),(11,oq (iF ((1:Int)*2^(min (u64.wrap a.ck).toNat (IntKind.bits .i64)))))]])
def IG(N:Nat)(a:Int64):U Int:=bif (decide (a.toInt<0))then some (u64.wrap ((u64.wrap (-(a+(1:Int64))).toInt)+(1:Int)))else some (u64.wrap a.toInt)
def ad0{N a}:KO 283 [bx a] (λr=>.d (.v (.int .u64 r))) (IG N a):=
 fw func283 (V [[],[]] (jz λb=>gR [[t0 b],[(5,oq (oF a (1:Int64))),(8,oq (lT (a+(1:Int64))))]]))
def Jv(N:Nat):Nat->Int->Int->U Int
 |0,_,_=>none
 |c+1,b,a=>bif (a !=0)then(λd e=>Jv N c d e) a ((b).tmod a)else some b
def S1(N:Nat)(a:Int)(b:Int):U Int:=Jv N N a b
def asm{N e f}:KO 306 [X e,X f] (λr=>.d (.v (.int .u64 r))) (S1 N e f):=
 fw func306 (Nf 1 [[]] [0,1] 0 (λ(c:Int)(a:Int)=>⟨12,[(0,X c),(1,X a)],[]⟩) (Jv N) (λi c a j h=>V [[]] (jz λg=>uK h (a,(c).tmod a) [[t0 g],[(10,⟨_,_,.nz (b:=a) (Ue.1 g)⟩)]])))
def Tc(N:Nat)(d:Bool)(b:Int)(c:Int):U (aB×Int):=(S1 N b c).bind λa=>bif (a !=0)then(bif (decide ((u64.wrap ((b).tdiv a))>2147483647))then some true else some (decide ((u64.wrap ((c).tdiv a))>2147483647))).bind λe=>bif e then some (cf,(3:Int))else bif d then some ((⟨(-(Int64.ofInt (u64.wrap ((b).tdiv a)))),Int64.ofInt (u64.wrap ((c).tdiv a))⟩:aB),(0:Int))else some ((⟨Int64.ofInt (u64.wrap ((b).tdiv a)),Int64.ofInt (u64.wrap ((c).tdiv a))⟩:aB),(0:Int))else none
def akN{N h c e}:KO 282 [aA h,X c,X e] (λr=>.bq [bp r.1,Y r.2]) (Tc N h c e):=
 fw func282 (au λa k=>cF λi=>V [[],[(7,cK asm k)],[(7,⟨_,_,.nz (b:=a) (Ue.1 i)⟩)],[(7,⟨_,_,.nz (b:=a) (Ue.1 i)⟩)]] (gG (λj=>[(23,aA j)]) (λ_=>[.cells gg]) (ax (λf=>gE [(2,bT f)] []) λf=>gE [(2,bF f)] []) λj=>eY λ_=>ax (λg=>gR [[t0 g],[(5,oq (iF (u64.wrap ((c).tdiv a)))),(8,oq (lT (Int64.ofInt (u64.wrap ((c).tdiv a))))),(14,oq (iF (u64.wrap ((e).tdiv a))))]]) λg=>gR [[f0 g],[(5,oq (iF (u64.wrap ((c).tdiv a)))),(11,oq (iF (u64.wrap ((e).tdiv a))))]]))
def wu(N:Nat)(b:Int64)(a:Int64):U (aB×Int):=bif (a.toInt==0)then some (cf,(4:Int))else(IG N b).bind λd=>(IG N a).bind λe=>(Tc N (!((decide (b.toInt<0))==(decide (a.toInt<0)))) d e).bind λc=>some (c.1,c.2)
def HM{N a b}:KO 246 [bx a,bx b] (λr=>.bq [bp r.1,Y r.2]) (wu N a b):=
 fw func246 (V [[],[]] (aY λc=>au λg d=>au λh e=>au λi f=>gR [[f0 c],[(19,cK ad0 d),(25,cK ad0 e),(28,cK akN f)]]))
def KQ(N:Nat)(a:Int64)(b:Int64):U aB:=some (⟨a,b⟩:aB)
def P5(N:Nat)(b:aM)(a:aB):U aB:=bif (b.bB==2)then(vT N b).bind λd=>(wu N a.xN d).bind λc=>KQ N c.1.xN c.1.xD else KQ N a.xN a.xD
def ajV{N b a}:KO 172 [bY b,bp a] bp (P5 N b a):=
 fw func172 (Sj 1 [[],[]] [3,4] 3 (λ(d:Int64)(e:Int64)=>⟨17,[(3,Ac),(4,CL)],[.cells (bY b).cells,.cells [bx d,bx e],.cells gg]⟩) (KQ N) (λj f=>ax (λc=>au λk h=>au λg i=>gm f (g.1.xN,g.1.xD) [[t0 c],[(10,cK HQ h),(13,cK HM i)]]) λc=>gm f (a.xN,a.xD) [[f0 c]]) (λd e=>gR [[]]))
def zQ(N:Nat)(b:Int64)(a:Int64):U Int64:=bif (a.toInt !=0)then bif (decide (((Int64.ofInt ((b.toInt).tdiv a.toInt))*a).toInt>b.toInt))then some ((Int64.ofInt ((b.toInt).tdiv a.toInt))-(1:Int64))else some (Int64.ofInt ((b.toInt).tdiv a.toInt))else none
def LZ{N c a}:KO 173 [bx c,bx a] bx (zQ N c a):=
 fw func173 (cF λd=>V [[],[(7,⟨_,_,.nz (b:=a.toInt) (Ue.1 d)⟩),(8,oq (iF ((c.toInt).tdiv a.toInt)))],[(8,oq (gu (Int64.ofInt ((c.toInt).tdiv a.toInt)) a))]] (jz λe=>gR [[t0 e],[(5,oq (mm (Int64.ofInt ((c.toInt).tdiv a.toInt)) (1:Int64)))]]))
def CI(N:Nat)(c:Int64)(b:Int64)(d:Int):U Int64:=(zQ N c b).bind λa=>(bif ((c-(a*b)).toInt==0)then some true else some (d==1)).bind λe=>bif e then some a else bif (d==2)then some (a+(1:Int64))else bif (d==3)then bif (decide (c.toInt<0))then some (a+(1:Int64))else some a else(bif (decide ((c-(a*b)).toInt>(b-(c-(a*b))).toInt))then some true else(bif ((c-(a*b)).toInt==(b-(c-(a*b))).toInt)then some ((Int64.ofInt ((a.toInt).tmod (2:Int))).toInt !=0)else some false)).bind λf=>bif f then some (a+(1:Int64))else some a
def UZ{N d a j}:KO 175 [bx d,bx a,Y j] bx (CI N d a j):=
 fw func175 (au λc n=>V [[],[(7,cK LZ n)],[(11,oq (gu c a)),(14,oq (mm d (c*a)))]] (gG (λk=>[(22,aA k)]) (λ_=>[]) (ax (λf=>gE [(2,bT f)] []) λf=>gE [(2,bF f)] []) λk=>eY λ_=>ax (λg=>gR [[t0 g],[(5,oq (oF c (1:Int64)))]]) λg=>V [[f0 g],[]] (ax (λh=>V [[t0 h],[]] (jz λo=>gR [[t0 o],[(5,oq (oF c (1:Int64)))]])) λh=>V [[f0 h]] (gG (λl=>[(51,aA l)]) (λ_=>[]) (cG (11,oq (mm a (d-(c*a)))) (ax (λi=>gE [(5,bT i),(11,uN)] []) λi=>cm (5,bF i) (cG (29,oq (mm a (d-(c*a)))) (ax (λe=>gE [(11,bT e)] [(40,⟨_,_,.nz (b:=2) (by decide)⟩),(41,oq (MA c (2:Int))),(46,bT e)]) λe=>gE [(11,bF e)] [(46,bF e)])))) λl=>jz λp=>gR [[t0 p],[(5,oq (oF c (1:Int64)))]]))))
def Gu(N:Nat)(a:aM)(b:Int64):U aB:=some (⟨rj (-(Int64.ofInt ((1:Int)*2^(min (u64.wrap (aF (a.bW-(1:Int)))).toNat (IntKind.bits .i64))))) (sC ((Int64.ofInt ((1:Int)*2^(min (u64.wrap (aF (a.bW-(1:Int)))).toNat (IntKind.bits .i64))))-(1:Int64)) b),1⟩:aB)
def uT(N:Nat)(a:aM)(b:Int64):U aB:=bif (decide ((0:Int)<=(u64.wrap (aF (a.bW-(1:Int))))))then bif (a.cC==2)then(zQ N (b+(Int64.ofInt ((1:Int)*2^(min (u64.wrap (aF (a.bW-(1:Int)))).toNat (IntKind.bits .i64))))) ((2:Int64)*(Int64.ofInt ((1:Int)*2^(min (u64.wrap (aF (a.bW-(1:Int)))).toNat (IntKind.bits .i64)))))).bind λc=>Gu N a (b-((c*(2:Int64))*(Int64.ofInt ((1:Int)*2^(min (u64.wrap (aF (a.bW-(1:Int)))).toNat (IntKind.bits .i64))))))else Gu N a b else none
def DC{N a c}:KO 174 [bY a,bx c] bp (uT N a c):=
 fw func174 (cF λh=>kW 1 [[],[(13,⟨_,_,.nn (b:=(u64.wrap (aF (a.bW-(1:Int))))) (U0 h)⟩),(14,oq (iF ((1:Int)*2^(min (u64.wrap (aF (a.bW-(1:Int)))).toNat (IntKind.bits .i64)))))],[]] [1,4,5] 2 (λ(d:Int64)=>⟨33,[(1,bx d),(4,Ac),(5,bx (Int64.ofInt ((1:Int)*2^(min (u64.wrap (aF (a.bW-(1:Int)))).toNat (IntKind.bits .i64)))))],QV a⟩) (Gu N a) (λj g=>ax (λf=>au λe i=>gm g (c-((e*(2:Int64))*(Int64.ofInt ((1:Int)*2^(min (u64.wrap (aF (a.bW-(1:Int)))).toNat (IntKind.bits .i64)))))) [[t0 f],[(11,oq (oF c (Int64.ofInt ((1:Int)*2^(min (u64.wrap (aF (a.bW-(1:Int)))).toNat (IntKind.bits .i64)))))),(17,oq (gu (2:Int64) (Int64.ofInt ((1:Int)*2^(min (u64.wrap (aF (a.bW-(1:Int)))).toNat (IntKind.bits .i64)))))),(19,cK LZ i),(23,oq (gu e (2:Int64))),(29,oq (gu (e*(2:Int64)) (Int64.ofInt ((1:Int)*2^(min (u64.wrap (aF (a.bW-(1:Int)))).toNat (IntKind.bits .i64)))))),(32,oq (mm c ((e*(2:Int64))*(Int64.ofInt ((1:Int)*2^(min (u64.wrap (aF (a.bW-(1:Int)))).toNat (IntKind.bits .i64)))))))]]) λf=>gm g c [[f0 f]]) (λd=>gR [[(5,oq (lT (Int64.ofInt ((1:Int)*2^(min (u64.wrap (aF (a.bW-(1:Int)))).toNat (IntKind.bits .i64)))))),(11,oq (mm (Int64.ofInt ((1:Int)*2^(min (u64.wrap (aF (a.bW-(1:Int)))).toNat (IntKind.bits .i64)))) (1:Int64))),(17,oq (agy ((Int64.ofInt ((1:Int)*2^(min (u64.wrap (aF (a.bW-(1:Int)))).toNat (IntKind.bits .i64))))-(1:Int64)) d)),(20,oq (RO (-(Int64.ofInt ((1:Int)*2^(min (u64.wrap (aF (a.bW-(1:Int)))).toNat (IntKind.bits .i64))))) (sC ((Int64.ofInt ((1:Int)*2^(min (u64.wrap (aF (a.bW-(1:Int)))).toNat (IntKind.bits .i64))))-(1:Int64)) d)))]]))
def Ld(N:Nat)(c:aM)(a:aM)(g:aB):U (aB×Int):=(nq N c).bind λh=>(bif h then (nq N a).bind λi=>some (!i)else some true).bind λj=>bif j then some (cf,(10:Int))else(nH N c g).bind λk=>bif k then(P5 N c g).bind λb=>bif (a.bB==3)then(zQ N b.xN b.xD).bind λl=>some ((⟨l,1⟩:aB),(0:Int))else bif (a.bB==2)then(vT N a).bind λd=>(CI N (b.xN*d) b.xD a.ct).bind λe=>(uT N a e).bind λf=>some (f,(0:Int))else some (b,(0:Int))else some (cf,(1:Int))
def am5{N a b c}:KO 102 [bY a,bY b,bp c] (λr=>.bq [bp r.1,Y r.2]) (Ld N a b c):=
 fw func102 (V [[]] (au λy h=>gG (λg=>[(16,aA g)]) (λ_=>(R3 a b c)) (cG (4,cK ph h) (ax (λd=>au λz i=>gE [(3,bF (cx d))] [(16,cK ph i)]) λd=>gE [(3,bT (dq d))] [])) λg=>aY λj=>au λA k=>V [[f0 j],[(7,cK vh k)]] (fi λl=>au λn o=>V [[f0 (cx l)],[(7,cK ajV o)],[]] (ax (λe=>au λB p=>gR [[t0 e],[(13,cK LZ p)]]) λe=>V [[f0 e],[]] (jz λq=>au λf t=>au λu v=>au λw x=>gR [[t0 q],[(13,cK HQ t),(17,oq (gu n.xN f)),(31,cK UZ v),(34,cK DC x)]])))))
def EJ(N:Nat)(a:aM)(b:Int64)(c:Int64):U (aB×Int):=(vT N a).bind λd=>(CI N (b*d) c a.ct).bind λe=>(uT N a e).bind λf=>some (f,(0:Int))
def Oe(N:Nat)(d:Int)(a:aM)(c:Int64)(b:Int64):U (aB×Int):=bif (d==4)then(uT N a (c+b)).bind λf=>some (f,(0:Int))else bif (d==5)then(uT N a (c-b)).bind λg=>some (g,(0:Int))else bif (d==6)then(vT N a).bind λh=>(CI N (c*b) h a.ct).bind λi=>(uT N a i).bind λj=>some (j,(0:Int))else bif (d==8)then(uT N a (-c)).bind λe=>some (e,(0:Int))else bif (b.toInt==0)then some (cf,(4:Int))else bif (decide (b.toInt<0))then EJ N a (-c) (-b)else EJ N a c b
def ajl{N k e a b}:KO 177 [Y k,bY e,bx a,bx b] (λr=>.bq [bp r.1,Y r.2]) (Oe N k e a b):=
 fw func177 (V [[],[],[]] (ax (λf=>au λB n=>gR [[t0 f],[(11,oq (oF a b)),(13,cK DC n)]]) λf=>V [[f0 f],[]] (ax (λg=>au λC o=>gR [[t0 g],[(11,oq (mm a b)),(13,cK DC o)]]) λg=>V [[f0 g],[]] (ax (λh=>au λE p=>au λF q=>au λG t=>gR [[t0 h],[(11,oq (gu a b)),(16,cK HQ p),(25,cK UZ q),(28,cK DC t)]]) λh=>V [[f0 h],[]] (ax (λi=>au λu v=>gR [[t0 i],[(8,oq (lT a)),(10,cK DC v)]]) λi=>V [[f0 i],[]] (aY λw=>Sj 1 [[f0 w],[]] [2,3,5,8] 2 (λ(c:Int64)(d:Int64)=>⟨62,[(2,bx c),(3,bx d),(5,A0),(8,Ac)],QV e⟩) (EJ N e) (λH l=>ax (λj=>gm l ((-a),(-b)) [[t0 j],[(5,oq (lT a))],[(5,oq (lT b))]]) λj=>gm l (a,b) [[f0 j]]) (λc d=>au λx y=>au λJ z=>au λK A=>gR [[(10,cK HQ y),(14,oq (gu c x)),(25,cK UZ z),(28,cK DC A)]])))))))
def FP(N:Nat)(c:Int64)(d:Int64):U (aB×Int):=(zQ N c d).bind λa=>(bif (decide (a.toInt>2147483647))then some true else some (decide (a.toInt<(-2147483647:Int)))).bind λb=>bif b then some (cf,(3:Int))else some ((⟨a,1⟩:aB),(0:Int))
def Lm(N:Nat)(c:Int)(a:Int64)(b:Int64):U (aB×Int):=bif (c==4)then(bif (decide ((a+b).toInt>2147483647))then some true else some (decide ((a+b).toInt<(-2147483647:Int)))).bind λe=>bif e then some (cf,(3:Int))else some ((⟨a+b,1⟩:aB),(0:Int))else bif (c==5)then(bif (decide ((a-b).toInt>2147483647))then some true else some (decide ((a-b).toInt<(-2147483647:Int)))).bind λf=>bif f then some (cf,(3:Int))else some ((⟨a-b,1⟩:aB),(0:Int))else bif (c==6)then(bif (decide ((a*b).toInt>2147483647))then some true else some (decide ((a*b).toInt<(-2147483647:Int)))).bind λg=>bif g then some (cf,(3:Int))else some ((⟨a*b,1⟩:aB),(0:Int))else bif (c==7)then bif (b.toInt==0)then some (cf,(4:Int))else bif (decide (b.toInt<0))then FP N (-a) (-b)else FP N a b else(bif (decide ((-a).toInt>2147483647))then some true else some (decide ((-a).toInt<(-2147483647:Int)))).bind λd=>bif d then some (cf,(3:Int))else some ((⟨(-a),1⟩:aB),(0:Int))
def Cv(l:I ar):I ar:= .cells gg::l
def arH{N p a b}:KO 178 [Y p,bx a,bx b] (λr=>.bq [bp r.1,Y r.2]) (Lm N p a b):=
 fw func178 (V [[],[(5,oq (lT a))],[],[]] (ax (λe=>V [[t0 e],[(8,oq (oF a b))]] (gG (λq=>[(46,aA q)]) (λ_=>(Cv [])) (ax (λf=>gE [(2,bT f)] []) λf=>gE [(2,bF f)] []) λq=>aY λy=>gR [[f0 y],[]])) λe=>V [[f0 e],[]] (ax (λg=>V [[t0 g],[(8,oq (mm a b))]] (gG (λt=>[(46,aA t)]) (λ_=>(Cv [])) (ax (λh=>gE [(2,bT h)] []) λh=>gE [(2,bF h)] []) λt=>aY λz=>gR [[f0 z],[]])) λg=>V [[f0 g],[]] (ax (λi=>V [[t0 i],[(8,oq (gu a b))]] (gG (λu=>[(46,aA u)]) (λ_=>(Cv [])) (ax (λj=>gE [(2,bT j)] []) λj=>gE [(2,bF j)] []) λu=>aY λA=>gR [[f0 A],[]])) λi=>V [[f0 i],[]] (ax (λk=>V [[t0 k],[]] (aY λB=>Sj 1 [[f0 B],[]] [1,2,6] 1 (λ(v:Int64)(w:Int64)=>⟨50,[(1,bx v),(2,bx w),(6,A0)],Cv []⟩) (FP N) (λG x=>ax (λl=>gm x ((-a),(-b)) [[t0 l],[(5,oq (lT a))],[(5,oq (lT b))]]) λl=>gm x (a,b) [[f0 l]]) (λv w=>au λH C=>V [[(7,cK LZ C)]] (gG (λc=>[(46,aA c)]) (λ_=>(Cv [])) (ax (λn=>gE [(2,bT n)] []) λn=>gE [(2,bF n)] []) λc=>aY λE=>gR [[f0 E],[]])))) λk=>V [[f0 k]] (gG (λd=>[(46,aA d)]) (λ_=>(Cv [])) (ax (λo=>gE [(2,bT o)] []) λo=>gE [(2,bF o)] []) λd=>aY λF=>gR [[f0 F],[]]))))))
def JX(N:Nat)(a:aB)(b:aB):U (aB×Int):=(oC N a).bind λd=>(bif d then (oC N b).bind λe=>some (!e)else some true).bind λf=>bif f then some (cf,(1:Int))else(wu N ((a.xN*b.xD)+(b.xN*a.xD)) (a.xD*b.xD)).bind λc=>some (c.1,c.2)
def aop{N a b}:KO 179 [bp a,bp b] (λr=>.bq [bp r.1,Y r.2]) (JX N a b):=
 fw func179 (V [[]] (au λi e=>gG (λd=>[(13,aA d)]) (λ_=>(K2 a b)) (cG (4,cK ru e) (ax (λc=>au λj f=>gE [(3,bF (cx c))] [(16,cK ru f)]) λc=>gE [(3,bT (dq c))] [])) λd=>aY λg=>au λk h=>gR [[f0 g],[(14,oq (gu a.xN b.xD)),(29,oq (gu b.xN a.xD)),(32,oq (oF (a.xN*b.xD) (b.xN*a.xD))),(47,oq (gu a.xD b.xD)),(49,cK HM h)]]))
def LL(N:Nat)(a:aB)(b:aB):U (aB×Int):=(oC N a).bind λd=>(bif d then (oC N b).bind λe=>some (!e)else some true).bind λf=>bif f then some (cf,(1:Int))else(wu N ((a.xN*b.xD)-(b.xN*a.xD)) (a.xD*b.xD)).bind λc=>some (c.1,c.2)
def apb{N a b}:KO 180 [bp a,bp b] (λr=>.bq [bp r.1,Y r.2]) (LL N a b):=
 fw func180 (V [[]] (au λi e=>gG (λd=>[(13,aA d)]) (λ_=>(K2 a b)) (cG (4,cK ru e) (ax (λc=>au λj f=>gE [(3,bF (cx c))] [(16,cK ru f)]) λc=>gE [(3,bT (dq c))] [])) λd=>aY λg=>au λk h=>gR [[f0 g],[(14,oq (gu a.xN b.xD)),(29,oq (gu b.xN a.xD)),(32,oq (mm (a.xN*b.xD) (b.xN*a.xD))),(47,oq (gu a.xD b.xD)),(49,cK HM h)]]))
def J3(N:Nat)(a:aB)(b:aB):U (aB×Int):=(oC N a).bind λd=>(bif d then (oC N b).bind λe=>some (!e)else some true).bind λf=>bif f then some (cf,(1:Int))else(wu N (a.xN*b.xN) (a.xD*b.xD)).bind λc=>some (c.1,c.2)
def ajM{N a b}:KO 181 [bp a,bp b] (λr=>.bq [bp r.1,Y r.2]) (J3 N a b):=
 fw func181 (V [[]] (au λi e=>gG (λd=>[(13,aA d)]) (λ_=>(K2 a b)) (cG (4,cK ru e) (ax (λc=>au λj f=>gE [(3,bF (cx c))] [(16,cK ru f)]) λc=>gE [(3,bT (dq c))] [])) λd=>aY λg=>au λk h=>gR [[f0 g],[(14,oq (gu a.xN b.xN)),(29,oq (gu a.xD b.xD)),(31,cK HM h)]]))
def OH(N:Nat)(a:aB)(b:aB):U (aB×Int):=(oC N a).bind λd=>(bif d then (oC N b).bind λe=>some (!e)else some true).bind λf=>bif f then some (cf,(1:Int))else(wu N (a.xN*b.xD) (a.xD*b.xN)).bind λc=>some (c.1,c.2)
def aqz{N a b}:KO 182 [bp a,bp b] (λr=>.bq [bp r.1,Y r.2]) (OH N a b):=
 fw func182 (V [[]] (au λi e=>gG (λd=>[(13,aA d)]) (λ_=>(K2 a b)) (cG (4,cK ru e) (ax (λc=>au λj f=>gE [(3,bF (cx c))] [(16,cK ru f)]) λc=>gE [(3,bT (dq c))] [])) λd=>aY λg=>au λk h=>gR [[f0 g],[(14,oq (gu a.xN b.xD)),(29,oq (gu a.xD b.xN)),(31,cK HM h)]]))
def PS(N:Nat)(a:aB):U aB:=(oC N a).bind λb=>bif b then some (⟨(-a.xN),a.xD⟩:aB)else some cf
def ani{N a}:KO 183 [bp a] bp (PS N a):=
 fw func183 (au λd b=>V [[],[(4,cK ru b)]] (fi λc=>gR [[f0 (cx c)],[(8,oq (lT a.xN))]]))
def Dz(N:Nat)(a:Int)(d:aM)(b:aB)(c:aB):U (aB×Int):=(bif (decide (a<4))then some true else some (decide (a>10))).bind λn=>bif n then some (cf,(1:Int))else(nq N d).bind λo=>bif o then(nH N d b).bind λp=>(bif p then(bif (a !=8)then (nH N d c).bind λq=>some (!q)else some false)else some true).bind λr=>bif r then some (cf,(1:Int))else(bif (a==9)then some true else some (a==10)).bind λf=>bif f then(Ij N d b c).bind λg=>bif ((decide (g>0))==(a==9))then some (c,(0:Int))else some (b,(0:Int))else bif (d.bB==2)then(Oe N a d b.xN c.xN).bind λe=>some (e.1,e.2)else bif (d.bB==3)then(Lm N a b.xN c.xN).bind λh=>some (h.1,h.2)else bif (a==4)then(JX N b c).bind λi=>some (i.1,i.2)else bif (a==5)then(LL N b c).bind λj=>some (j.1,j.2)else bif (a==6)then(J3 N b c).bind λk=>some (k.1,k.2)else bif (a==7)then(OH N b c).bind λl=>some (l.1,l.2)else(PS N b).bind λt=>some (t,(0:Int))else some (cf,(10:Int))
def Rr(a:aM)(b:aB)(c:aB)(l:I ar):I ar:= .cells (bY a).cells:: .cells (bp b).cells:: .cells (bp c).cells:: .cells gg::l
def ads{N q a b c}:KO 103 [Y q,bY a,bp b,bp c] (λr=>.bq [bp r.1,Y r.2]) (Dz N q a b c):=
 fw func103 (V [[]] (gG (λt=>[(15,aA t)]) (λ_=>(Rr a b c [])) (ax (λf=>gE [(2,bT f)] []) λf=>gE [(2,bF f)] []) λt=>aY λv=>au λQ w=>V [[f0 v],[(4,cK ph w)]] (fi λx=>V [[f0 (cx x)]] (au λR y=>gG (λu=>[(34,aA u)]) (λ_=>(Rr a b c [])) (cG (7,cK vh y) (ax (λg=>cm (4,bF (cx g)) (ax (λd=>au λW z=>gE [(7,bT d)] [(31,cK vh z),(37,bT d)]) λd=>gE [(7,bF d)] [(37,bF d)])) λg=>gE [(4,bT (dq g)),(7,uN)] [])) λu=>aY λA=>V [[f0 A]] (gG (λe=>[(41,aA e)]) (λ_=>(Rr a b c [])) (ax (λh=>gE [(2,bT h)] []) λh=>gE [(2,bF h)] []) λe=>ax (λi=>au λB C=>V [[t0 i],[(10,cK atS C)]] (aY λE=>gR [[f0 E],[]])) λi=>V [[f0 i],[]] (ax (λj=>au λF G=>gR [[t0 j],[(19,cK ajl G)]]) λj=>V [[f0 j],[]] (ax (λk=>au λaG H=>gR [[t0 k],[(16,cK arH H)]]) λk=>V [[f0 k],[],[]] (ax (λl=>au λaE J=>gR [[t0 l],[(7,cK aop J)]]) λl=>V [[f0 l],[]] (ax (λn=>au λaO K=>gR [[t0 n],[(7,cK apb K)]]) λn=>V [[f0 n],[]] (ax (λo=>au λbw L=>gR [[t0 o],[(7,cK ajM L)]]) λo=>V [[f0 o],[]] (ax (λp=>au λbX M=>gR [[t0 p],[(7,cK aqz M)]]) λp=>au λbK P=>gR [[f0 p],[(4,cK ani P)]])))))))))))
def H7(N:Nat)(a:gi)(d:az)(b:gi):U gi:=bif (b.xE !=0)then some b else bif ((a.xT.bB==b.xT.bB)&&((a.xT.bW==b.xT.bW)&&((a.xT.ck==b.xT.ck)&&((a.xT.ct==b.xT.ct)&&((a.xT.cC==b.xT.cC)&&true)))))then(Dz N d.aD a.xT a.xV b.xV).bind λc=>bif (c.2 !=0)then some (⟨cf,dZ,c.2⟩:gi)else some (⟨c.1,a.xT,0⟩:gi)else some (⟨cf,dZ,10⟩:gi)
mutual
def qG(N:Nat):Nat->(I aL)->(I aJ)->az->U gi
 |0,_,_,_=>none
 |d+1,v1,v2,v3=>bif (decide (v3.aD<=3))then(JA N v1 v2 v3).bind λv4=>some v4 else bif (v3.aD==11)then(v3.bS[0]?).bind λv5=>((wY N d) v1 v2 v5).bind λv6=>bif (v6.2 !=0)then some (⟨cf,dZ,v6.2⟩:gi)else bif v6.1 then(v3.bS[1]?).bind λv7=>((qG N d) v1 v2 v7).bind λv8=>some v8 else(v3.bS[2]?).bind λv9=>((qG N d) v1 v2 v9).bind λv10=>some v10 else(v3.bS[0]?).bind λv11=>((qG N d) v1 v2 v11).bind λv12=>bif (v12.xE !=0)then some v12 else bif (v3.aD==12)then(Ld N v12.xT v3.aH v12.xV).bind λaG=>bif (aG.2 !=0)then some (⟨cf,dZ,aG.2⟩:gi)else some (⟨aG.1,v3.aH,0⟩:gi)else bif (v3.aD !=8)then(v3.bS[1]?).bind λbw=>((qG N d) v1 v2 bw).bind λbX=>H7 N v12 v3 bX else H7 N v12 v3 v12
def wY(N:Nat):Nat->(I aL)->(I aJ)->az->U (Bool×Int)
 |0,_,_,_=>none
 |d+1,v1,v2,v3=>bif (decide (v3.aD>=16))then(v3.bS[0]?).bind λv4=>((wY N d) v1 v2 v4).bind λv5=>(bif (v5.2 !=0)then some true else some (v3.aD==18)).bind λv6=>bif v6 then(bif (v5.2==0)then some (!v5.1)else some false).bind λv7=>some (v7,v5.2)else(v3.bS[1]?).bind λv8=>((wY N d) v1 v2 v8).bind λv9=>bif (v9.2 !=0)then some (false,v9.2)else(bif (v3.aD==16)then(bif v5.1 then(bif v9.1 then some true else(bif (v3.aD==17)then some true else some false))else(bif (v3.aD==17)then some v9.1 else some false))else(bif (v3.aD==17)then(bif v5.1 then some true else some v9.1)else some false)).bind λv10=>some (v10,(0:Int))else(v3.bS[0]?).bind λv11=>((qG N d) v1 v2 v11).bind λv12=>bif (v12.xE !=0)then some (false,v12.xE)else(v3.bS[1]?).bind λaG=>((qG N d) v1 v2 aG).bind λaE=>bif (aE.xE !=0)then some (false,aE.xE)else bif ((v12.xT.bB==aE.xT.bB)&&((v12.xT.bW==aE.xT.bW)&&((v12.xT.ck==aE.xT.ck)&&((v12.xT.ct==aE.xT.ct)&&((v12.xT.cC==aE.xT.cC)&&true)))))then(Ij N v12.xT v12.xV aE.xV).bind λaO=>(bif (decide (aO<0))then(bif (v3.aD !=15)then some true else(bif (aO==0)then some (v3.aD !=13)else some false))else(bif (aO==0)then some (v3.aD !=13)else some false)).bind λbw=>some (bw,(0:Int))else some (false,(10:Int))
end
def WA(N:Nat)(a:I aL)(b:I aJ)(c:az):U gi:=qG N N a b c
def alK(N:Nat):∀d:Nat,(∀{c:I aL}{e:I aJ}{a:az},KO 57 [O (bm c),O (aS e),aK a] pW (qG N d c e a))/\(∀{c:I aL}{e:I aJ}{a:az},KO 58 [O (bm c),O (aS e),aK a] (λr=>.bq [aA r.1,Y r.2]) (wY N d c e a)):=by
 intro d
 induction d with
 |zero=>exact⟨(by intro c e a r J;rw[qG]at J;cases J),(by intro c e a r J;rw[wY]at J;cases J)⟩
 |succ d ih=>
  have o:= @ih.1;have z:= @ih.2;refine⟨?_,?_⟩;{intro c e a;rw[qG];exact fw func57 (V [[],[]] (ax (λh=>au λv4 A=>gR [[(0,bT h)],[(10,cK akQ A)]]) λh=>V [[(0,bF h)],[]] (ax (λp=>au λv5 q=>au λB h5=>V [[(0,bT p)],[(13,oE (k:=0) (gy q)),(19,cK z h5)],[]] (eY λ_=>ax (λi=>au λC h8=>au λv8 E=>gR [[(0,bT i)],[(13,oE (k:=1) (gy h8)),(19,cK o E)]]) λi=>au λv9 F=>au λj G=>gR [[(0,bF i)],[(13,oE (k:=2) (gy F)),(19,cK o G)]])) λp=>au λH t=>au λb f=>V [[(0,bF p)],[(13,oE (k:=0) (gy t)),(19,cK o f)],[]] (eY λ_=>ax (λg=>au λaG l=>V [[(0,bT g)],[(19,cK am5 l)],[]] (aY λn=>gR [[(0,bF n)],[]])) λg=>kW 1 [[(0,bF g)],[],[]] [5,6,9,12] 4 (λ(y:gi)=>⟨129,[(5,A0),(6,Ac),(9,CL),(12,Aj)],[.cells (aK a).cells,.cells JY,.cells (pW b).cells,.cells (pW y).cells]⟩) (H7 N b a) (λf1 aI=>ax (λu=>au λK L=>au λbX M=>gm aI bX [[(0,bT u)],[(13,oE (k:=1) (gy L)),(19,cK o M)]]) λu=>gm aI b [[(0,bF u)]]) (λy=>V [[]] (eY λ_=>fi λeK=>au λaO P=>V [[(0,bF (cx eK))],[(25,cK ads P)],[]] (aY λQ=>gR [[(0,bF Q)],[]])))))))}
  intro c e a;rw[wY];exact fw func58 (V [[],[]] (ax (λh=>au λv4 A=>au λv5 p=>V [[(0,bT h)],[(13,oE (k:=0) (gy A)),(19,cK z p)]] (gG (λB=>[(34,aA B)]) (λ_=>(G4 a)) (ax (λq=>gE [(2,bT q)] []) λq=>gE [(2,bF q)] []) λB=>ax (λR=>V [[(0,bT R)]] (gG (λC=>[(6,aA C),(7,Y v5.2)]) (λ_=>(G4 a)) (ax (λi=>gE [(2,bT i)] []) λi=>gE [(2,bF i)] []) λC=>gR [])) λR=>au λv8 E=>au λv9 F=>V [[(0,bF R)],[(13,oE (k:=1) (gy E)),(19,cK z F)],[]] (aY λG=>V [[(0,bF G)]] (gG (λj=>[(6,aA j),(7,Y 0)]) (λ_=>(G4 a)) (ax (λt=>cm (3,bT t) (ax (λf=>cm (6,bT f) (ax (λW=>gE [(9,bT W),(13,uN),(15,uN)] []) λW=>cm (9,bF W) (ax (λg=>gE [(13,bT g),(15,bT f)] [(52,bT f),(55,bT g)]) λg=>gE [(13,bF g),(15,uN)] [(55,bF g)]))) λf=>cm (6,bF f) (cm (9,bF rfl) (ax (λl=>gE [(13,bT l),(15,bF f)] [(52,bF f),(55,bT l)]) λl=>gE [(13,bF l),(15,uN)] [(55,bF l)])))) λt=>cm (3,bF t) (cm (6,bF rfl) (cm (9,bF rfl) (ax (λn=>cm (13,bT n) (cG (55,bT n) (ax (λv=>gE [(15,bT v)] [(52,bT v)]) λv=>gE [(15,bF v)] [(52,bF v)]))) λn=>gE [(13,bF n),(15,uN)] [(55,bF n)])))) λj=>gR [])))) λh=>au λH P=>au λb Q=>V [[(0,bF h)],[(13,oE (k:=0) (gy P)),(19,cK o Q)],[]] (aY λu=>au λaG L=>au λy M=>V [[(0,bF u)],[(13,oE (k:=1) (gy L)),(19,cK o M)],[]] (eY λ_=>fi λkA=>au λaO fZ=>V [[(0,bF (cx kA))],[(19,cK atS fZ)]] (gG (λK=>[(6,aA K),(7,Y 0)]) (λ_=>[.cells (aK a).cells,.cells (pW b).cells,.cells (pW y).cells]) (ax (λj4=>cm (2,bT j4) (ax (λl6=>gE [(7,bT l6),(10,uN)] []) λl6=>cm (7,bF l6) (ax (λw=>gE [(10,bT w)] [(43,bT w)]) λw=>gE [(10,bF w)] [(43,bF w)]))) λj4=>cm (2,bF j4) (cm (7,bF rfl) (ax (λx=>gE [(10,bT x)] [(43,bT x)]) λx=>gE [(10,bF x)] [(43,bF x)]))) λK=>gR [])))))
def ajw{N a b c}:KO 57 [O (bm a),O (aS b),aK c] pW (WA N a b c):=(alK N N).1
def PF(N:Nat):I bE->Nat->U Bool
 |[],_=>some false
 |v4::a,b=>bif (decide ((v4.xL.length:Int)>20))then some true else(PF N a (b+1))
def U5(N:Nat)(a:I bE):U Bool:=PF N a 0
def asw{N a}:KO 36 [O (fz a)] aA (U5 N a):=
 fw func36 (V [[],[]] (gT mZ 0 a λe=>dN 1 [] [0,3] 0 (λc=>⟨17,[(0,O (fz a)),(3,Y c)],[]⟩) (λc b f=>gR [[(7,oL a fW)],[f0 (bG b)],[]]) (λc g j b f h=>V [[(7,oL a fW)],[t0 (bD b)],[(7,oE (o8 (aX b))),(16,oL g.xL jx)]] (aY λi=>gb h () [[f0 i],[(5,oq (bU b rfl e))]] b))))
def EW(N:Nat)(a:bZ)(b:U Bool):Nat->Int->U Bool
 |0,_=>none
 |e+1,c=>bif (decide (c<(aF ((a.aR.length:Int)+(a.cl.length:Int)))))then bif (Nat.ble ((0+a.aR.length)*48) 140737488355328)then bif (Nat.ble ((a.aR.length+a.cl.length)*48) 140737488355328)then bif (decide ((0:Int)<=c))then((a.aR++a.cl)[(c).toNat]?).bind λd=>bif (decide ((d.eu.xL.length:Int)>20))then some true else(λf=>EW N a b e f) (aF (c+(1:Int)))else none else none else none else b
def GO(N:Nat)(b:Int):I bZ->Nat->U Bool
 |[],_=>some false
 |a::d,c=>(bif (decide ((a.aR.length:Int)>12))then some true else(bif (decide ((a.cl.length:Int)>12))then some true else (Vu N a.cw b).bind λe=>some (decide (e>b)))).bind λf=>bif f then some true else EW N a (GO N b d (c+1)) N (0:Int)
def KZ(N:Nat)(c:Int)(d:bo):I eX->Nat->U Bool
 |[],_=>GO N c d.aP 0
 |v10::a,e=>(bif (decide ((v10.aR.length:Int)>12))then some true else (U5 N v10.aR).bind λb=>some b).bind λf=>bif f then some true else(KZ N c d a (e+1))
def K4(N:Nat)(b:Int)(a:bo):I ik->Nat->U Bool
 |[],_=>KZ N b a a.bn 0
 |v6::c,d=>bif (decide ((v6.bN.xL.length:Int)>20))then some true else(K4 N b a c (d+1))
def Jy(N:Nat)(a:bo)(b:Int):U Bool:=(bif (decide ((a.bJ.length:Int)>12))then some true else(bif (decide ((a.dR.length:Int)>12))then some true else(bif (decide ((a.bn.length:Int)>12))then some true else(bif (decide ((a.aP.length:Int)>12))then some true else some (decide ((a.dC.length:Int)>12)))))).bind λc=>bif c then some true else K4 N b a a.dR 0
def wq(a:bo)(l:I ar):I ar:= .cells (c6 a).cells::l
def aiB{N a d}:KO 13 [c6 a,Y d] aA (Jy N a d):=
 fw func13 (V [[]] (gG (λx=>[(38,aA x)]) (λ_=>(wq a [])) (cG (7,oL a.bJ ft) (ax (λk=>gE [(4,bT k),(10,bT rfl),(16,bT rfl),(22,bT rfl)] []) λk=>cm (4,bF k) (cG (22,oL a.dR pZ) (ax (λl=>gE [(10,bT l),(16,bT rfl),(22,bT rfl)] []) λl=>cm (10,bF l) (cG (40,oL a.bn k9) (ax (λn=>gE [(16,bT n),(22,bT rfl)] []) λn=>cm (16,bF n) (cG (58,oL a.aP jM) (ax (λo=>gE [(22,bT o)] []) λo=>gE [(22,bF o)] [(76,oL a.dC ft)])))))))) λx=>eY λ_=>gB FB 0 1 a.dR λA=>dN 1 [] [1,2,5] 1 (λp=>⟨135,[(1,Y d),(2,A0),(5,Y p)],wq a []⟩) (λp f B=>V [[(10,oL a.dR pZ)],[f0 (bG f)],[]] (gB yN 0 2 a.bn λC=>dN 2 [] [1,2,6] 1 (λq=>⟨135,[(1,Y d),(2,A0),(6,Y q)],wq a []⟩) (λq e E=>V [[(10,oL a.bn k9)],[f0 (bG e)],[]] (gB uj 0 3 a.aP λF=>dN 3 [] [1,2,7] 1 (λc=>⟨135,[(1,Y d),(2,A0),(7,Y c)],wq a []⟩) (λc g G=>gR [[(10,oL a.aP jM)],[f0 (bG g)],[]]) (λc b H g G J=>V [[(10,oL a.aP jM)],[t0 (bD g)],[(10,oE (jn (aX g)))]] (gG (λy=>[(108,aA y)]) (λ_=>(wq a (Qk b))) (cG (7,oL b.aR gv) (ax (λr=>gE [(4,bT r),(10,bT rfl)] []) λr=>cm (4,bF r) (cG (22,oL b.cl gv) (ax (λt=>gE [(10,bT t)] []) λt=>au λbw K=>gE [(10,bF t)] [(43,cK aiu K)])))) λy=>aY λL=>Mj 4 [[f0 L],[]] [1,2,7,8,9] 2 (λ(j:Int)=>⟨135,[(1,Y d),(2,A0),(7,Y c),(8,Ac),(9,Y j)],wq a (Qk b)⟩) (EW N b (GO N d H (c+1))) (λbK j f4 M=>V [[(10,oL b.aR gv),(19,oL b.cl gv)]] (ax (λu=>V [[t0 u]] (cF λP=>cF λQ=>cF λR=>au λh W=>li (λ_=>(Lr 3 bC [(10,Aj)] (wq a [.cells (fg b).cells,.front 80 3 (b.aR++b.cl).length,.cells (TU h).cells]) ⟨[(10,oZ nJ b.aR P),(19,oA nJ b.aR b.cl Q),(25,⟨_,_,.el (xs:=gZ (b.aR++b.cl)) (i:=j) (U0 R) (mW W)⟩)],by kernel_rfl⟩ ·)) (V [[(10,oL h.eu.xL jx)]] (aY λkA=>uK M (aF (j+(1:Int))) [[f0 kA],[]])))) λu=>gb J () [[f0 u],[(5,oq (bU g rfl F))]] g)))))) (λq v v11 e E dE=>V [[(10,oL a.bn k9)],[t0 (bD e)]] (gG (λz=>[(78,aA z)]) (λ_=>(wq a [])) (cG (10,oE (oD (aX e))) (cG (19,oL v.aR fW) (ax (λw=>gE [(8,bT w)] []) λw=>au λv21 j4=>gE [(8,bF w)] [(37,oE (oD (aX e))),(46,cK asw j4)]))) λz=>aY λmj=>gb dE () [[f0 mj],[(5,oq (bU e rfl C))]] e)))) (λp v6 v7 f B aI=>V [[(10,oL a.dR pZ)],[t0 (bD f)],[(10,oE (Jc (aX f))),(22,oL v6.bN.xL jx)]] (aY λo9=>gb aI () [[f0 o9],[(5,oq (bU f rfl A))]] f))))
def yv(N:Nat)(a:so)(b:I so):U Int:=(Ah N a).bind λc=>bif c then(vX N b a).bind λd=>bif d then some (8:Int)else some (0:Int)else some (7:Int)
def Om{N a b}:KO 208 [dk a,O (cD b)] Y (yv N a b):=
 fw func208 (au λh c=>V [[],[(4,cK PJ c)]] (fi λe=>au λi f=>V [[f0 (cx e)],[(7,cK Gp f)]] (aY λg=>gR [[f0 g],[]])))
def Ng(N:Nat)(a:bo):I so->Nat->U Int
 |[],_=>some (0:Int)
 |d::e,b=>bif (decide (((b:Int)).toNat<=a.bJ.length))then(yv N d ((a.bJ.take ((b:Int)).toNat).drop 0)).bind λc=>bif (c !=0)then some c else(Ng N a e (b+1))else none
def Gs(N:Nat)(a:bo):U Int:=(bif (decide ((a.bJ.length:Int)>64))then some true else(bif (decide ((a.bn.length:Int)>64))then some true else(bif (decide ((a.aP.length:Int)>64))then some true else(bif (decide ((a.dC.length:Int)>64))then some true else some (decide ((a.dR.length:Int)>256)))))).bind λb=>bif b then some (2:Int)else Ng N a a.bJ 0
def arG{N a}:KO 121 [c6 a] Y (Gs N a):=
 fw func121 (V [[]] (gG (λh=>[(32,aA h)]) (λ_=>(Mr a)) (cG (7,oL a.bJ ft) (ax (λd=>gE [(4,bT d),(10,bT rfl),(16,bT rfl),(22,bT rfl)] []) λd=>cm (4,bF d) (cG (22,oL a.bn k9) (ax (λe=>gE [(10,bT e),(16,bT rfl),(22,bT rfl)] []) λe=>cm (10,bF e) (cG (40,oL a.aP jM) (ax (λf=>gE [(16,bT f),(22,bT rfl)] []) λf=>cm (16,bF f) (cG (58,oL a.dC ft) (ax (λg=>gE [(22,bT g)] []) λg=>gE [(22,bF g)] [(76,oL a.dR pZ)])))))))) λh=>eY λ_=>gB iy 0 0 a.bJ λi=>dN 1 [] [1,3] 1 (λc=>⟨53,[(1,A0),(3,Y c)],Mr a⟩) (λc b j=>gR [[(10,oL a.bJ ft)],[f0 (bG b)],[]]) (λc p q b j k=>cF λl=>au λr n=>V [[(10,oL a.bJ ft)],[t0 (bD b)],[(10,oE (kp (aX b))),(25,⟨_,_,.sub (xs:=cD a.bJ) (lo:=0) (hi:=(c:Int)) (by decide) (Wv _) (U0 (dO (Int.natCast_nonneg _))) (by rw[ft];exact(U0 l)) sS Ed⟩),(28,cK Om n)],[]] (aY λo=>gb k () [[f0 o],[(5,oq (bU b rfl i))]] b))))
def LI(N:Nat)(b:I so)(c:I so):I dX->Nat->U Bool
 |[],_=>some true
 |v6::d,e=>(vX N b v6.ay).bind λf=>(bif f then some false else (vX N c v6.ay).bind λg=>some (!g)).bind λa=>bif a then some false else(LI N b c d (e+1))
def GR(N:Nat)(a:bE)(b:I so)(c:I so):U Bool:=LI N b c a.xL 0
def QW{N a e f}:KO 210 [dY a,O (cD e),O (cD f)] aA (GR N a e f):=
 fw func210 (V [[],[]] (gB vQ 0 1 a.xL λi=>dN 1 [] [1,2,3,7] 1 (λg=>⟨35,[(1,O (cD e)),(2,O (cD f)),(3,A0),(7,Y g)],Pb a⟩) (λg b j=>gR [[(10,oL a.xL jx)],[f0 (bG b)],[]]) (λg p q b j k=>V [[(10,oL a.xL jx)],[t0 (bD b)]] (au λr l=>gG (λc=>[(34,aA c)]) (λ_=>(Pb a)) (cG (13,oE (lM (aX b))) (cG (22,cK Gp l) (ax (λh=>gE [(9,bF (cx h))] []) λh=>au λt n=>gE [(9,bT (dq h))] [(43,oE (lM (aX b))),(52,cK Gp n)]))) λc=>aY λo=>gb k () [[f0 o],[(5,oq (bU b rfl i))]] b))))
def A6(N:Nat)(a:bE)(b:I so):U Int:=(xn N a).bind λc=>bif c then(GR N a [] b).bind λd=>bif d then some (0:Int)else some (9:Int)else some (1:Int)
def SB{N a b}:KO 122 [dY a,O (cD b)] Y (A6 N a b):=
 fw func122 (au λh c=>V [[],[(4,cK BK c)]] (fi λe=>au λi f=>V [[f0 (cx e)],[(7,cK QW f)]] (nb λg=>gR [[t0 (dq g)],[]])))
def alp:gi:=⟨cf,dZ,(0:Int)⟩
def Nv(N:Nat)(b:I so):I bE->Nat->U Int
 |[],_=>some (0:Int)
 |c::d,e=>(A6 N c b).bind λa=>bif (a !=0)then some a else(Nv N b d (e+1))
def NR(N:Nat)(a:eX)(c:I so)(d:I so):U Int:=(yv N a.ay d).bind λb=>bif (b !=0)then some b else(nq N a.aH).bind λe=>bif e then bif (decide ((a.aR.length:Int)>6))then some (11:Int)else Nv N c a.aR 0 else some (10:Int)
def aqJ{N a c f}:KO 123 [pE a,O (cD c),O (cD f)] Y (NR N a c f):=
 fw func123 (au λr g=>V [[],[(10,cK Om g)],[]] (aY λh=>au λt i=>V [[f0 h],[(7,cK ph i)]] (fi λj=>V [[f0 (cx j)],[(7,oL a.aR fW)]] (eY λ_=>gB mZ 0 6 a.aR λk=>dN 1 [] [1,3,8] 1 (λe=>⟨42,[(1,O (cD c)),(3,A0),(8,Y e)],[.cells (pE a).cells]⟩) (λe b l=>gR [[(10,oL a.aR fW)],[f0 (bG b)],[]]) (λe u v b l n=>au λo p=>V [[(10,oL a.aR fW)],[t0 (bD b)],[(10,oE (o8 (aX b))),(19,cK SB p)],[]] (aY λq=>gb n () [[f0 q],[(5,oq (bU b rfl k))]] b))))))
def KA(N:Nat)(c:I so):I dH->Nat->(I so)->U Int
 |[],_,_=>some (0:Int)
 |a::f,g,b=>(yv N a.ay b).bind λd=>bif (d !=0)then some d else(A6 N a.eu c).bind λe=>bif (e !=0)then some e else bif (Nat.ble ((b.length+1)*16) 140737488355328)then(λh=>KA N c f (g+1) h) (b++[a.ay])else none
def Ky(N:Nat)(b:I dH)(a:I so):U Int:=bif (Nat.ble ((0+a.length)*16) 140737488355328)then KA N a b 0 a else none
def aof{N b e}:KO 211 [O (gZ b),O (cD e)] Y (Ky N b e):=
 fw func211 (cF λh=>V [[],[(7,oZ iy e h)],[]] (gT nJ 0 b λi=>fa 1 [] [0,1,5,6] 1 (λf(c:I so)=>⟨46,[(0,O (gZ b)),(1,O (cD e)),(5,.own 0 (cD c)),(6,Y f)],[.front 9 1 c.length]⟩) (λf c a j=>gR [[(7,oL b gv)],[f0 (bG a)],[]]) (λf g r c a j k=>au λt l=>V [[(7,oL b gv)],[t0 (bD a)],[(7,oE (mW (aX a))),(19,cK Om l)],[]] (aY λn=>au λu o=>V [[f0 n],[(7,oE (mW (aX a))),(19,cK SB o)],[]] (aY λp=>cF λq=>gb k (c++[g.ay]) [[f0 p],[(10,oE (mW (aX a))),(22,oA iy c ([g.ay]) q)],[(5,oq (bU a rfl i))]] a)))))
def PL(N:Nat)(a:bZ):U Int:=(bif (decide (a.dF<0))then some true else some (decide (a.dF>5))).bind λb=>bif b then some (1:Int)else(bif (a.dF==0)then some true else some (a.dF==5)).bind λc=>(bif (c==((a.cl.length:Int)==0))then(bif (a.dF==5)then some ((a.aR.length:Int)==0)else some false)else some true).bind λd=>bif d then some (11:Int)else some (0:Int)
def aks{N a}:KO 212 [fg a] Y (PL N a):=
 fw func212 (V [[]] (gG (λf=>[(11,aA f)]) (λ_=>(Qk a)) (ax (λc=>gE [(3,bT c)] []) λc=>gE [(3,bF c)] []) λf=>aY λi=>V [[f0 i]] (gG (λg=>[(3,aA g)]) (λ_=>(Qk a)) (ax (λd=>gE [(3,bT d)] []) λd=>gE [(3,bF d)] []) λg=>gG (λh=>[(36,aA h)]) (λ_=>(Qk a)) (cG (10,oL a.cl gv) (ax (λe=>cm (6,bF (cx e)) (ax (λb=>gE [(10,bT b)] [(40,oL a.aR gv),(46,bT b)]) λb=>gE [(10,bF b)] [(46,bF b)])) λe=>gE [(6,bT (dq e)),(10,uN)] [])) λh=>aY λj=>gR [[f0 j],[]])))
def GQ(N:Nat):I dH->Nat->(I so)->U (I so)
 |[],_,a=>some a
 |c::b,d,a=>bif (Nat.ble ((a.length+1)*16) 140737488355328)then(λb2_0=>GQ N b (d+1) b2_0) (a++[c.ay])else none
def Hr(N:Nat)(b:bZ):I dH->Nat->(I so)->U (I so)
 |[],_,a=>GQ N b.cl 0 a
 |v4::c,d,a=>bif (Nat.ble ((a.length+1)*16) 140737488355328)then(λe=>Hr N b c (d+1) e) (a++[v4.ay])else none
def Lz(N:Nat)(a:bZ):U (I so):=Hr N a a.aR 0 []
def arj{N b}:KO 214 [fg b] (λr=>.d (.sl (cD r))) (Lz N b):=
 fw func214 (V [[],[],[]] (li (λ_=>(lQ 3 9 1 [] (.inr (by kernel_rfl)) ·)) (gB nJ 0 6 b.aR λk=>fa 1 [] [1,3,4] 2 (λg(c:I so)=>⟨39,[(1,A0),(3,.own 1 (cD c)),(4,Y g)],Sh b c.length⟩) (λg c e l=>V [[(10,oL b.aR gv)],[f0 (bG e)],[]] (gB nJ 0 7 b.cl λn=>fa 2 [] [1,3,5] 2 (λh(a:I so)=>⟨39,[(1,A0),(3,.own 1 (cD a)),(5,Y h)],Sh b a.length⟩) (λh a f o=>gR [[(10,oL b.cl gv)],[f0 (bG f)],[]]) (λh i p a f o q=>cF λt=>gb q (a++[i.ay]) [[(10,oL b.cl gv)],[t0 (bD f)],[(13,oE (mW (aX f))),(25,oA iy a ([i.ay]) t)],[(5,oq (bU f rfl n))]] f))) (λg j w c e l u=>cF λv=>gb u (c++[j.ay]) [[(10,oL b.aR gv)],[t0 (bD e)],[(13,oE (mW (aX e))),(25,oA iy c ([j.ay]) v)],[(5,oq (bU e rfl k))]] e))))
def Lk(N:Nat)(a:I so)(b:bo):I bE->Nat->U Int
 |[],_=>some (0:Int)
 |v6::c,d=>(GR N v6 a b.bJ).bind λe=>bif e then(Lk N a b c (d+1))else some (9:Int)
def KS(N:Nat)(a:bo)(b:I so)(c:I bE):U Int:=Lk N b a c 0
def adP{N c e a}:KO 301 [c6 c,O (cD e),O (fz a)] Y (KS N c e a):=
 fw func301 (V [[],[]] (gT mZ 2 a λg=>dN 1 [] [1,2,3,7] 1 (λf=>⟨23,[(1,O (cD e)),(2,O (fz a)),(3,A0),(7,Y f)],Mr c⟩) (λf b h=>gR [[(7,oL a fW)],[f0 (bG b)],[]]) (λf l n b h i=>au λo j=>V [[(7,oL a fW)],[t0 (bD b)],[(7,oE (o8 (aX b))),(22,cK QW j)]] (fi λk=>gb i () [[f0 (cx k)],[(5,oq (bU b rfl g))]] b))))
def FO(N:Nat)(c:bZ):I dH->Nat->(I bE)->U (aM×(I bE)×Bool)
 |[],_,a=>some (c.aH,a,true)
 |d::e,b,a=>bif (Nat.ble ((a.length+1)*32) 140737488355328)then(λf=>FO N c e (b+1) f) (a++[d.eu])else none
def NN(N:Nat)(c:so):I bZ->Nat->U (aM×(I bE)×Bool)
 |[],_=>some (dZ,[],false)
 |a::b,d=>bif (bL a.ay==bL c)then FO N a a.aR 0 []else(NN N c b (d+1))
def ED(N:Nat)(a:so)(c:bo):I eX->Nat->U (aM×(I bE)×Bool)
 |[],_=>NN N a c.aP 0
 |b::d,e=>bif (bL b.ay==bL a)then some (b.aH,b.aR,true)else(ED N a c d (e+1))
def Fs(N:Nat)(a:bo)(b:so):U (aM×(I bE)×Bool):=ED N b a a.bn 0
def Vk(a:bo)(l:I ar):I ar:= .cells (c6 a).cells:: .cells pO::l
def SX{N a h}:KO 125 [c6 a,dk h] (λr=>.bq [bY r.1,O (fz r.2.1),aA r.2.2]) (Fs N a h):=
 fw func125 (V [[],[]] (gB yN 0 2 a.bn λt=>dN 1 [] [1,2,4,7] 2 (λk=>⟨85,[(1,dk h),(2,A0),(4,Ac),(7,Y k)],Vk a []⟩) (λk c u=>V [[(10,oL a.bn k9)],[f0 (bG c)],[]] (gB uj 0 3 a.aP λv=>dN 2 [] [1,2,4,8] 2 (λi=>⟨85,[(1,dk h),(2,A0),(4,Ac),(8,Y i)],Vk a []⟩) (λi b w=>gR [[(10,oL a.aP jM)],[f0 (bG b)],[]]) (λi l x b w y=>V [[(10,oL a.aP jM)],[t0 (bD b)],[(10,oE (jn (aX b)))]] (ax (λn=>V [[t0 n],[],[]] (li (λ_=>(lQ 9 48 2 [] (.inr (by kernel_rfl)) ·)) (F7 (λ_=>(HR 0 3 (iC a.aP) (by kernel_rfl) ·)) λz=>have A:=tv gv (HZ (j:=6) (d:= .sl (gZ l.aR)) z (jn (aX b)) rfl);fa 3 [] [2,4,8,9,10] 3 (λe(f:I bE)=>⟨85,[(2,A0),(4,Ac),(8,Y i),(9,.own 2 (fz f)),(10,Y e)],Vk a [.front 48 2 f.length]⟩) (λe f g B=>gR [[(13,oE (jn (aX b))),(22,oL l.aR gv)],[f0 (bG g)],[(10,oE (jn (aX b)))]]) (λe p G f g B C=>cF λE=>gb C (f++[p.eu]) [[(13,oE (jn (aX b))),(22,oL l.aR gv)],[t0 (bD g)],[(13,oE (jn (aX b))),(25,oE (mW (aX g))),(37,oA mZ f ([p.eu]) E)],[(5,oq (bU g rfl A))]] g)))) λn=>gb y () [[f0 n],[(5,oq (bU b rfl v))]] b)))) (λk q H c u F=>V [[(10,oL a.bn k9)],[t0 (bD c)],[(10,oE (oD (aX c)))]] (ax (λo=>V [[t0 o]] (li (λ_=>(Lr 3 bC [(5,O (fz q.aR)),(6,aA true)] [.cells (c6 a).cells,.cells (bY q.aH).cells] ⟨[(10,oE (oD (aX c))),(28,oE (oD (aX c)))],by kernel_rfl⟩ ·)) (gR []))) λo=>gb F () [[f0 o],[(5,oq (bU c rfl t))]] c))))
def IX(N:Nat)(f:aM×(I bE)×Bool)(e:I so)(b:bo):I c8->Nat->U (aM×Int)
 |[],_=>some (f.1,(0:Int))
 |c::g,h=>bif (bL c.de==bL (bs []))then(GR N c.bN e b.bJ).bind λi=>bif i then(IX N f e b g (h+1))else some (dZ,(9:Int))else(Fs N b c.de).bind λa=>bif a.2.2 then bif (a.1.bB !=3)then some (dZ,(10:Int))else bif ((a.2.1.length:Int) !=(c.cQ.length:Int))then some (dZ,(11:Int))else(KS N b e c.cQ).bind λd=>bif (d !=0)then some (dZ,d)else(IX N f e b g (h+1))else some (dZ,(9:Int))
def Pk(N:Nat)(c:bo)(d:I so)(a:az):U (aM×Int):=(Fs N c a.ay).bind λb=>bif b.2.2 then bif ((b.2.1.length:Int) !=(a.xIdx.length:Int))then some (dZ,(11:Int))else IX N b d c a.xIdx 0 else some (dZ,(9:Int))
def aqh{N c e b}:KO 302 [c6 c,O (cD e),aK b] (λr=>.bq [bY r.1,Y r.2]) (Pk N c e b):=
 fw func302 (au λi l=>V [[],[(10,cK SX l)],[]] (fi λn=>V [[f0 (cx n)],[(4,oL i.2.1 fW),(13,oL b.xIdx gq)]] (eY λ_=>gB sc 1 11 b.xIdx λj=>dN 1 [] [1,3,5,6,8,11] 4 (λf=>⟨90,[(1,O (cD e)),(3,A0),(5,Ac),(6,CL),(8,Aj),(11,Y f)],[.cells (c6 c).cells,.cells (aK b).cells,.cells pO,.cells (bY i.1).cells]⟩) (λf a o=>gR [[(10,oL b.xIdx gq)],[f0 (bG a)],[]]) (λf p B a o k=>V [[(10,oL b.xIdx gq)],[t0 (bD a)],[(10,oE (jk (aX a)))],[]] (ax (λg=>au λC q=>V [[t0 g],[(16,cK QW q)]] (fi λt=>gb k () [[f0 (cx t)],[(5,oq (bU a rfl j))]] a)) λg=>au λh u=>V [[f0 g],[(10,cK SX u)],[]] (fi λv=>V [[f0 (cx v)],[]] (aY λw=>V [[f0 w],[(4,oL h.2.1 fW),(13,oL p.cQ fW)]] (aY λx=>au λy z=>V [[f0 x],[(13,cK adP z)],[]] (aY λA=>gb k () [[f0 A],[(5,oq (bU a rfl j))]] a)))))))))
def qK(N:Nat)(b:az)(i:bo)(j:I so)(e:bo->(I so)->az->U (aM×Int)):I az->Nat->(I aM)->U (aM×Int)
 |[],_,c=>(bif (b.aD==1)then some true else some (b.aD==12)).bind λn=>bif n then some (b.aH,(0:Int))else bif (b.aD==2)then(KS N i j [b.bN]).bind λk=>some ((⟨3,0,0,0,0⟩:aM),k)else bif (b.aD==3)then(Pk N i j b).bind λf=>some (f.1,f.2)else bif (b.aD==11)then(c[1]?).bind λa=>(c[2]?).bind λg=>bif ((a.bB==g.bB)&&((a.bW==g.bW)&&((a.ck==g.ck)&&((a.ct==g.ct)&&((a.cC==g.cC)&&true)))))then some (a,(0:Int))else some (dZ,(10:Int))else bif (b.aD==8)then(c[0]?).bind λo=>some (o,(0:Int))else bif (decide (b.aD>=16))then some (dZ,(0:Int))else(c[0]?).bind λd=>(c[1]?).bind λh=>bif ((d.bB==h.bB)&&((d.bW==h.bW)&&((d.ck==h.ck)&&((d.ct==h.ct)&&((d.cC==h.cC)&&true)))))then bif (decide (b.aD>=13))then some (dZ,(0:Int))else some (d,(0:Int))else some (dZ,(10:Int))
 |v6::p,q,c=>(e i j v6).bind λl=>bif (l.2 !=0)then some (dZ,l.2)else bif (Nat.ble ((c.length+1)*40) 140737488355328)then(λr=>qK N b i j e p (q+1) r) (c++[l.1])else none
def tT(N:Nat):Nat->bo->(I so)->az->U (aM×Int)
 |0,_,_,_=>none
 |d+1,b,c,a=>qK N a b c (tT N d) a.bS 0 []
def IU(N:Nat)(a:bo)(b:I so)(c:az):U (aM×Int):=tT N N a b c
abbrev Rv:=λa b c=>([.cells (c6 a).cells,.cells (aK b).cells,.cells pO,.front 34 5 c]:List ar)
def apx(N:Nat):∀d:Nat,(∀{c:bo}{f:I so}{a:az},KO 274 [c6 c,O (cD f),aK a] (λr=>.bq [bY r.1,Y r.2]) (tT N d c f a)):=by
 intro d
 induction d with
 |zero=>intro c f a r J;rw[tT]at J;cases J
 |succ d ih=>
  have g:= @ih;intro c f a;rw[tT];exact fw func274 (V [[],[],[]] (li (λ_=>(lQ 8 34 5 [] (.inr (by kernel_rfl)) ·)) (gB oT 1 12 a.bS λv=>fa 1 [] [1,3,5,6,8,9] 4 (λh(b:I aM)=>⟨112,[(1,O (cD f)),(3,A0),(5,Ac),(6,CL),(8,.own 3 (pz b)),(9,Y h)],Rv c a b.length⟩) (λh b e w=>V [[(10,oL a.bS jm)],[(0,bF (bG e))]] (gG (λp=>[(38,aA p)]) (λ_=>(Rv c a b.length)) (ax (λi=>gE [(3,bT i)] []) λi=>gE [(3,bF i)] []) λp=>eY λ_=>ax (λj=>au λx y=>gR [[(0,bT j)],[(19,cK adP y)]]) λj=>V [[(0,bF j)],[]] (ax (λl=>au λz A=>gR [[(0,bT l)],[(10,cK aqh A)]]) λl=>V [[(0,bF l)],[]] (ax (λn=>au λB q=>au λW C=>V [[(0,bT n)],[(4,oE (k:=1) (mO q)),(13,oE (k:=2) (mO C))]] (fi λE=>gR [[(0,bF (cx E))],[(4,oE (k:=1) (mO q))]])) λn=>V [[(0,bF n)],[]] (ax (λo=>au λaE F=>gR [[(0,bT o)],[(4,oE (k:=0) (mO F))]]) λo=>V [[(0,bF o)],[]] (aY λG=>au λaO t=>au λbw H=>V [[(0,bF G)],[(4,oE (k:=0) (mO t)),(13,oE (k:=1) (mO H))]] (fi λK=>V [[(0,bF (cx K))],[]] (aY λL=>gR [[(0,bF L)],[(4,oE (k:=0) (mO t))]])))))))) (λh v6 v7 b e w M=>au λu P=>V [[(10,oL a.bS jm)],[(0,bT (bD e))],[(16,oE (gy (aX e))),(22,cK g P)],[]] (aY λQ=>cF λR=>gb M (b++[u.1]) [[(0,bF Q)],[(10,oA aur b ([u.1]) R)],[(5,oq (bU e rfl v))]] e)))))
def ap3{N a b c}:KO 274 [c6 a,O (cD b),aK c] (λr=>.bq [bY r.1,Y r.2]) (IU N a b c):=(apx N N)
def vR(N:Nat)(d:bo)(e:I so)(a:az):U (aM×Int):=(Hx N a).bind λc=>bif (c !=0)then some (dZ,c)else(IV N a).bind λf=>bif f then some (dZ,(10:Int))else(IU N d e a).bind λb=>bif (b.2 !=0)then some (dZ,b.2)else some (b.1,(0:Int))
def apK{N a b c}:KO 213 [c6 a,O (cD b),aK c] (λr=>.bq [bY r.1,Y r.2]) (vR N a b c):=
 fw func213 (au λk e=>V [[],[(4,cK aoO e)],[]] (aY λf=>au λl g=>V [[f0 f],[(4,cK atZ g)]] (aY λh=>au λn i=>V [[f0 h],[(10,cK ap3 i)],[]] (aY λj=>gR [[f0 j],[]]))))
def xk(N:Nat)(c:bo)(d:Int)(i:I so):U Int:=bif (decide ((0:Int)<=d))then(c.aP[(d).toNat]?).bind λa=>(yv N a.ay i).bind λf=>bif (f !=0)then some f else(nq N a.aH).bind λj=>bif j then(bif (decide ((a.aR.length:Int)>6))then some true else some (decide ((a.cl.length:Int)>6))).bind λk=>bif k then some (11:Int)else bif (Nat.ble ((0+a.aR.length)*48) 140737488355328)then bif (Nat.ble ((a.aR.length+a.cl.length)*48) 140737488355328)then(Ky N (a.aR++a.cl) c.bJ).bind λg=>bif (g !=0)then some g else(PL N a).bind λh=>bif (h !=0)then some h else bif (decide ((d).toNat<=c.aP.length))then(Lz N a).bind λe=>(vR N (⟨c.bJ,[],c.bn,(c.aP.take (d).toNat).drop 0,[]⟩:bo) e a.cw).bind λb=>bif (b.2 !=0)then some b.2 else bif ((b.1.bB==a.aH.bB)&&((b.1.bW==a.aH.bW)&&((b.1.ck==a.aH.ck)&&((b.1.ct==a.aH.ct)&&((b.1.cC==a.aH.cC)&&true)))))then some (0:Int)else some (10:Int)else none else none else none else some (10:Int)else none
def ato{N b c f}:KO 124 [c6 b,Y c,O (cD f)] Y (xk N b c f):=
 fw func124 (cF λg=>au λa j=>au λE k=>V [[],[(10,⟨_,_,.el (xs:=iC b.aP) (i:=c) (U0 g) (jn j)⟩)],[(10,cK Om k)],[]] (aY λl=>au λF n=>V [[f0 l],[(7,cK ph n)]] (fi λo=>V [[f0 (cx o)]] (gG (λh=>[(38,aA h)]) (λ_=>[.cells (c6 b).cells,.cells (fg a).cells]) (cG (7,oL a.aR gv) (ax (λe=>gE [(4,bT e)] []) λe=>gE [(4,bF e)] [(22,oL a.cl gv)])) λh=>aY λp=>cF λq=>cF λr=>au λG t=>V [[f0 p],[(10,oZ nJ a.aR q),(19,oA nJ a.aR a.cl r),(28,cK aof t)],[]] (aY λu=>au λH v=>V [[f0 u],[(4,cK aks v)],[]] (aY λw=>cF λx=>au λy z=>au λA B=>V [[f0 w],[(22,⟨_,_,.sub (xs:=iC b.aP) (lo:=0) (hi:=c) (by decide) (Wv _) (U0 g) (by rw[jM];exact(U0 x)) Sy abG⟩),(31,cK arj z),(40,cK apK B)],[]] (eY λ_=>nb λC=>gR [[t0 (dq C)],[]])))))))
def rD(N:Nat)(b:bo):I so->Nat->Int->U (Int×Int)
 |[],_,_=>some ((0:Int),(0:Int))
 |a::f,c,d=>(Fs N b a).bind λe=>bif e.2.2 then bif (decide (((c:Int)).toNat<=b.dC.length))then(vX N ((b.dC.take ((c:Int)).toNat).drop 0) a).bind λg=>bif g then some (d,(8:Int))else(λh=>rD N b f (c+1) h) (aF (d+(1:Int)))else none else some (d,(9:Int))
def qL(N:Nat)(a:bo):I bZ->Nat->(I so)->Int->U (Int×Int)
 |[],_,_,b=>rD N a a.dC 0 b
 |f::g,d,c,b=>(xk N a (d:Int) c).bind λe=>bif (e !=0)then some (b,e)else bif (Nat.ble ((c.length+1)*16) 140737488355328)then(λh i=>qL N a g (d+1) h i) (c++[f.ay]) (aF (b+(1:Int)))else none
def uZ(N:Nat)(c:bo):I eX->Nat->(I so)->Int->U (Int×Int)
 |[],_,a,b=>qL N c c.aP 0 a b
 |e::d,g,a,b=>(NR N e c.bJ a).bind λf=>bif (f !=0)then some (b,f)else bif (Nat.ble ((a.length+1)*16) 140737488355328)then(λb2_0 h=>uZ N c d (g+1) b2_0 h) (a++[e.ay]) (aF (b+(1:Int)))else none
def IQ(N:Nat)(a:bo):I ik->Nat->U (Int×Int)
 |[],_=>bif (Nat.ble ((0+a.bJ.length)*16) 140737488355328)then uZ N a a.bn 0 a.bJ (2:Int)else none
 |c::d,e=>(A6 N c.bN a.bJ).bind λb=>bif (b !=0)then some ((1:Int),b)else(IQ N a d (e+1))
def vP(N:Nat)(a:bo):U (Int×Int):=(Gs N a).bind λb=>bif (b !=0)then some ((0:Int),b)else IQ N a a.dR 0
abbrev Su:=λa b=>([.cells (c6 a).cells,.front 9 1 b]:List ar)
def asQ{N a}:KO 70 [c6 a] (λr=>.bq [Y r.1,Y r.2]) (vP N a):=
 fw func70 (au λv2 t=>V [[],[(4,cK arG t)],[]] (eY λ_=>gB FB 0 1 a.dR λu=>dN 1 [] [1,5] 1 (λl=>⟨136,[(1,A0),(5,Y l)],Mr a⟩) (λl g v=>cF λw=>V [[(10,oL a.dR pZ)],[f0 (bG g)],[(10,oZ iy a.bJ w)],[],[]] (gB yN 0 2 a.bn λx=>CQ 2 [] [1,7,8,9] 2 (λn(b:I so)(c:Int)=>⟨136,[(1,A0),(7,.own 1 (cD b)),(8,Y c),(9,Y n)],Su a b.length⟩) (λn b c d y=>V [[(10,oL a.bn k9)],[f0 (bG d)],[]] (gB uj 0 3 a.aP λz=>CQ 3 [] [1,7,8,11] 2 (λo(e:I so)(i:Int)=>⟨136,[(1,A0),(7,.own 1 (cD e)),(8,Y i),(11,Y o)],Su a e.length⟩) (λo e i h A=>V [[(10,oL a.aP jM)],[f0 (bG h)],[]] (gB iy 0 4 a.dC λB=>fa 4 [] [1,8,13] 2 (λj(k:Int)=>⟨136,[(1,A0),(8,Y k),(13,Y j)],Su a e.length⟩) (λj k f C=>gR [[(10,oL a.dC ft)],[f0 (bG f)],[]]) (λj E fD k f C F=>au λG H=>V [[(10,oL a.dC ft)],[t0 (bD f)],[(13,oE (kp (aX f))),(19,cK SX H)],[]] (fi λJ=>cF λK=>au λgn L=>V [[f0 (cx J)],[(10,⟨_,_,.sub (xs:=cD a.dC) (lo:=0) (hi:=(j:Int)) (by decide) (Wv _) (U0 (dO (Int.natCast_nonneg _))) (by rw[ft];exact(U0 K)) sS Ed⟩),(22,oE (kp (aX f))),(28,cK Gp L)]] (aY λM=>gb F (aF (k+(1:Int))) [[f0 M],[],[(5,oq (bU f rfl B))]] f))))) (λo p bw e i h A P=>au λfF Q=>V [[(10,oL a.aP jM)],[t0 (bD h)],[(10,cK ato Q)],[]] (aY λR=>cF λW=>gb P (e++[p.ay],aF (i+(1:Int))) [[f0 R],[(13,oE (jn (aX h))),(25,oA iy e ([p.ay]) W)],[],[(5,oq (bU h rfl z))]] h)))) (λn q v10 b c d y dE=>au λiL fB=>V [[(10,oL a.bn k9)],[t0 (bD d)],[(10,oE (oD (aX d))),(25,cK aqJ fB)],[]] (aY λkF=>cF λkA=>gb dE (b++[q.ay],aF (c+(1:Int))) [[f0 kF],[(13,oE (oD (aX d))),(25,oA iy b ([q.ay]) kA)],[],[(5,oq (bU d rfl x))]] d)))) (λl v5 v6 g v aI=>au λv28 fZ=>V [[(10,oL a.dR pZ)],[t0 (bD g)],[(10,oE (Jc (aX g))),(25,cK SB fZ)],[]] (aY λj4=>gb aI () [[f0 j4],[(5,oq (bU g rfl u))]] g))))
def KD(N:Nat)(a:so):I aJ->Nat->U (Int64×Bool)
 |[],_=>some ((0:Int64),false)
 |b::c,d=>bif (bL b.ay==bL a)then some (b.dP,true)else(KD N a c (d+1))
def U9(N:Nat)(a:I aJ)(b:so):U (Int64×Bool):=KD N b a 0
def akC{N b c}:KO 43 [O (aS b),dk c] (λr=>.bq [bx r.1,aA r.2]) (U9 N b c):=
 fw func43 (V [[],[]] (gT uY 0 b λg=>dN 1 [] [0,1,6] 0 (λe=>⟨25,[(0,O (aS b)),(1,dk c),(6,Y e)],[]⟩) (λe a h=>gR [[(7,oL b m6)],[f0 (bG a)],[]]) (λe j k a h i=>V [[(7,oL b m6)],[t0 (bD a)],[(7,oE (n8 (aX a)))]] (ax (λf=>gR [[t0 f],[(7,oE (n8 (aX a)))]]) λf=>gb i () [[f0 f],[(5,oq (bU a rfl g))]] a))))
def Ma(N:Nat)(b:ik)(c:I aJ):U (Bool×Int):=(vm N b.bN c).bind λa=>bif (a.2 !=0)then some (false,a.2)else(bif (a.1.toInt==0)then some true else(bif (decide (a.1.toInt>0))then some (!b.Hk)else some false)).bind λd=>some (d,(0:Int))
def alZ{N b e}:KO 44 [uc b,O (aS e)] (λr=>.bq [aA r.1,Y r.2]) (Ma N b e):=
 fw func44 (au λi g=>V [[],[(10,cL (Hg g))],[]] (aY λh=>V [[f0 h]] (gG (λf=>[(4,aA f),(5,Y 0)]) (λ_=>[.cells (uc b).cells]) (ax (λc=>gE [(2,bT c),(5,uN)] []) λc=>cm (2,bF c) (ax (λa=>gE [(5,bT a)] [(28,bT a)]) λa=>gE [(5,bF a)] [(28,bF a)])) λf=>gR [])))
def NZ(N:Nat)(c:I aJ):I ik->Nat->U Int
 |[],_=>some (0:Int)
 |d::b,e=>(Ma N d c).bind λa=>bif (a.2 !=0)then some a.2 else bif a.1 then(NZ N c b (e+1))else some (16:Int)
def Mu(N:Nat)(b:I aJ)(c:bo):I so->Nat->U Int
 |[],_=>NZ N b c.dR 0
 |d::e,f=>(U9 N b d).bind λa=>(bif a.2 then(bif (decide (a.1.toInt<1))then some true else some (decide (a.1.toInt>4096)))else some true).bind λg=>bif g then some (15:Int)else(Mu N b c e (f+1))
def N5(N:Nat)(a:bo)(b:I aJ):U Int:=bif ((b.length:Int) !=(a.bJ.length:Int))then some (15:Int)else Mu N b a a.bJ 0
def ajJ{N a e}:KO 18 [c6 a,O (aS e)] Y (N5 N a e):=
 fw func18 (V [[],[(4,oL e m6),(13,oL a.bJ ft)]] (eY λ_=>gB iy 0 0 a.bJ λk=>dN 1 [] [1,2,5] 1 (λf=>⟨66,[(1,O (aS e)),(2,A0),(5,Y f)],Mr a⟩) (λf b l=>V [[(10,oL a.bJ ft)],[f0 (bG b)],[]] (gB FB 0 1 a.dR λn=>dN 2 [] [1,2,8] 1 (λg=>⟨66,[(1,O (aS e)),(2,A0),(8,Y g)],Mr a⟩) (λg c o=>gR [[(10,oL a.dR pZ)],[f0 (bG c)],[]]) (λg z p c o q=>au λr t=>V [[(10,oL a.dR pZ)],[t0 (bD c)],[(10,oE (Jc (aX c))),(19,cK alZ t)],[]] (eY λ_=>fi λu=>gb q () [[f0 (cx u)],[(5,oq (bU c rfl n))]] c)))) (λf A B b l v=>au λw x=>V [[(10,oL a.bJ ft)],[t0 (bD b)],[(13,oE (kp (aX b))),(19,cK akC x)]] (gG (λj=>[(43,aA j)]) (λ_=>(Mr a)) (ax (λh=>cm (2,bF (cx h)) (ax (λi=>gE [(6,bT i)] []) λi=>gE [(6,bF i)] [])) λh=>gE [(2,bT (dq h)),(6,bT rfl)] []) λj=>aY λy=>gb v () [[f0 y],[(5,oq (bU b rfl k))]] b))))
def N8(N:Nat)(a:bo)(c:I aJ):U Int:=(vP N a).bind λb=>bif (b.2 !=0)then some b.2 else(N5 N a c).bind λd=>some d
def anv{N a b}:KO 34 [c6 a,O (aS b)] Y (N8 N a b):=
 fw func34 (au λg c=>V [[],[(4,cK asQ c)],[]] (aY λe=>au λh f=>gR [[f0 e],[(7,cK ajJ f)]]))
def FD(N:Nat)(c:bZ):I dH->Nat->(I bE)->U ((I bE)×aM×Bool)
 |[],_,a=>some (a,c.aH,true)
 |d::e,b,a=>bif (Nat.ble ((a.length+1)*32) 140737488355328)then(λf=>FD N c e (b+1) f) (a++[d.eu])else none
def OU(N:Nat)(c:so):I bZ->Nat->U ((I bE)×aM×Bool)
 |[],_=>some ([],dZ,false)
 |a::b,d=>bif (bL a.ay==bL c)then FD N a a.aR 0 []else(OU N c b (d+1))
def Gb(N:Nat)(a:so)(c:bo):I eX->Nat->U ((I bE)×aM×Bool)
 |[],_=>OU N a c.aP 0
 |b::d,e=>bif (bL b.ay==bL a)then some (b.aR,b.aH,true)else(Gb N a c d (e+1))
def P2(N:Nat)(a:bo)(b:so):U ((I bE)×aM×Bool):=Gb N b a a.bn 0
def TA(a:bo)(l:I ar):I ar:= .cells (c6 a).cells:: .cells pO::l
def atQ{N a h}:KO 79 [c6 a,dk h] (λr=>.bq [O (fz r.1),bY r.2.1,aA r.2.2]) (P2 N a h):=
 fw func79 (V [[],[]] (gB yN 0 2 a.bn λq=>dN 1 [] [1,2,5,7] 2 (λk=>⟨85,[(1,dk h),(2,A0),(5,Ac),(7,Y k)],TA a []⟩) (λk c t=>V [[(10,oL a.bn k9)],[f0 (bG c)],[]] (gB uj 0 3 a.aP λu=>dN 2 [] [1,2,5,8] 2 (λi=>⟨85,[(1,dk h),(2,A0),(5,Ac),(8,Y i)],TA a []⟩) (λi b v=>gR [[(10,oL a.aP jM)],[f0 (bG b)],[]]) (λi l w b v x=>V [[(10,oL a.aP jM)],[t0 (bD b)],[(10,oE (jn (aX b)))]] (ax (λn=>V [[t0 n],[],[]] (li (λ_=>(lQ 9 48 2 [] (.inr (by kernel_rfl)) ·)) (F7 (λ_=>(HR 0 3 (iC a.aP) (by kernel_rfl) ·)) λy=>have z:=tv gv (HZ (j:=6) (d:= .sl (gZ l.aR)) y (jn (aX b)) rfl);fa 3 [] [2,5,8,9,10] 3 (λe(f:I bE)=>⟨85,[(2,A0),(5,Ac),(8,Y i),(9,.own 2 (fz f)),(10,Y e)],TA a [.front 48 2 f.length]⟩) (λe f g A=>gR [[(13,oE (jn (aX b))),(22,oL l.aR gv)],[f0 (bG g)],[(13,oE (jn (aX b)))]]) (λe p F f g A B=>cF λC=>gb B (f++[p.eu]) [[(13,oE (jn (aX b))),(22,oL l.aR gv)],[t0 (bD g)],[(13,oE (jn (aX b))),(25,oE (mW (aX g))),(37,oA mZ f ([p.eu]) C)],[(5,oq (bU g rfl z))]] g)))) λn=>gb x () [[f0 n],[(5,oq (bU b rfl u))]] b)))) (λk G H c t E=>V [[(10,oL a.bn k9)],[t0 (bD c)],[(10,oE (oD (aX c)))]] (ax (λo=>gR [[t0 o],[(10,oE (oD (aX c))),(28,oE (oD (aX c)))]]) λo=>gb E () [[f0 o],[(5,oq (bU c rfl q))]] c))))
def Nu(N:Nat)(c:I aJ):I bE->Nat->(I Int)->U ((I Int)×Int)
 |[],_,b=>some (b,(0:Int))
 |d::e,f,b=>(vm N d c).bind λa=>bif (a.2 !=0)then some ([],a.2)else(bif (decide (a.1.toInt<1))then some true else some (decide (a.1.toInt>4096))).bind λg=>bif g then some ([],(15:Int))else bif (Nat.ble ((b.length+1)*8) 140737488355328)then(λh=>Nu N c e (f+1) h) (b++[a.1.toInt])else none
def Hc(N:Nat)(a:I bE)(b:I aJ):U ((I Int)×Int):=Nu N b a 0 []
def aaP{N b e}:KO 72 [O (fz b),O (aS e)] (λr=>.bq [O (bH r.1),Y r.2]) (Hc N b e):=
 fw func72 (V [[],[],[]] (li (λ_=>(lQ 6 3 1 [] (.inr (by kernel_rfl)) ·)) (gT mZ 0 b λj=>fa 1 [] [0,1,6,7] 1 (λf(a:I Int)=>⟨39,[(0,O (fz b)),(1,O (aS e)),(6,.own 0 (bH a)),(7,Y f)],[.front 3 1 a.length]⟩) (λf a c k=>gR [[(7,oL b fW)],[f0 (bG c)],[]]) (λf t u a c k l=>au λh n=>V [[(7,oL b fW)],[t0 (bD c)],[(7,oE (o8 (aX c))),(16,cL (Hg n))],[]] (aY λo=>V [[f0 o]] (gG (λi=>[(33,aA i)]) (λ_=>[.front 3 1 a.length]) (ax (λg=>gE [(2,bT g)] []) λg=>gE [(2,bF g)] []) λi=>aY λp=>cF λq=>gb l (a++[h.1.toInt]) [[f0 p],[(10,oA lY a ([h.1.toInt]) q)],[(5,oq (bU c rfl j))]] c))))))
def Jk(N:Nat):I Int->Nat->Int->U Int
 |[],_,a=>some a
 |v4::b,c,a=>(λd=>Jk N b (c+1) d) (if(65537:Int)<(aF (a*v4))then(65537:Int)else(aF (a*v4)))
def zu(N:Nat)(a:I Int):U Int:=Jk N a 0 (1:Int)
def FQ{N a}:KO 73 [O (bH a)] Y (zu N a):=
 fw func73 (V [[],[],[]] (gT lY 0 a λg=>fa 1 [] [0,3,4] 0 (λe(c:Int)=>⟨19,[(0,O (bH a)),(3,Y c),(4,Y e)],[]⟩) (λe c b h=>gR [[(7,oL a fG)],[f0 (bG b)],[]]) (λe f j c b h i=>gb i (if(65537:Int)<(aF (c*f))then(65537:Int)else(aF (c*f))) [[(7,oL a fG)],[t0 (bD b)],[(10,oE (gY (aX b)))],[(5,oq (bU b rfl g))]] b)))
def Cz(N:Nat)(c:bo)(d:I aJ)(e:so):U ((I Int)×Int):=(P2 N c e).bind λb=>bif b.2.2 then(Hc N b.1 d).bind λa=>(bif (a.2==0)then (zu N a.1).bind λf=>some (decide (f>4096))else some false).bind λg=>bif g then some ([],(15:Int))else some (a.1,a.2)else some ([],(9:Int))
def RC{N a c e}:KO 39 [c6 a,O (aS c),dk e] (λr=>.bq [O (bH r.1),Y r.2]) (Cz N a c e):=
 fw func39 (au λg h=>V [[],[(7,cK atQ h)],[]] (fi λi=>au λn j=>V [[f0 (cx i)],[(7,cK aaP j)]] (gG (λf=>[(34,aA f)]) (λ_=>[.cells (c6 a).cells,.cells (bY g.2.1).cells]) (ax (λb=>au λo k=>gE [(2,bT b)] [(13,cK FQ k)]) λb=>gE [(2,bF b)] []) λf=>aY λl=>gR [[f0 l],[]])))
def xG(N:Nat)(a:I Int):I Int->Nat->U Bool
 |[],_=>some true
 |c::d,b=>(a[((b:Int)).toNat]?).bind λe=>bif (c !=e)then some false else(xG N a d (b+1))
def vb(N:Nat)(a:I Int)(b:I Int):U Bool:=bif ((a.length:Int) !=(b.length:Int))then some false else xG N b a 0
def afj{N a c}:KO 19 [O (bH a),O (bH c)] aA (vb N a c):=
 fw func19 (V [[],[(4,oL a fG),(10,oL c fG)]] (eY λ_=>gT lY 0 a λf=>dN 1 [] [0,1,5] 0 (λe=>⟨26,[(0,O (bH a)),(1,O (bH c)),(5,Y e)],[]⟩) (λe b g=>gR [[(7,oL a fG)],[f0 (bG b)],[]]) (λe k l b g h=>au λn i=>V [[(7,oL a fG)],[t0 (bD b)],[(7,oE (gY (aX b))),(19,oE (gY i))]] (aY λj=>gb h () [[f0 j],[(5,oq (bU b rfl f))]] b))))
def Nx(N:Nat)(b:Int64->U Int)(c:Int64)(d:dX):I aJ->Nat->U Int
 |[],_=>b c
 |a::f,e=>(bif (bL a.ay==bL d.ay)then some (decide (a.dP.toInt>(-1000:Int)))else some false).bind λg=>bif g then b (c+(d.eW*a.dP))else(Nx N b c d f (e+1))
def Ha(N:Nat)(b:I aJ):I dX->Nat->Int64->U Int
 |[],_,a=>some (rj (1:Int64) (sC a (3001:Int64))).toInt
 |v6::c,d,a=>(bif (decide (v6.eW.toInt>100))then some true else some (decide (v6.eW.toInt<(-100:Int)))).bind λe=>bif e then some (3001:Int)else Nx N (λf=>Ha N b c (d+1) f) a v6 b 0
def P6(N:Nat)(a:bE)(b:I aJ):U Int:=(bif (decide (a.xK.toInt>3000))then some true else some (decide (a.xK.toInt<(-3000:Int)))).bind λc=>bif c then some (3001:Int)else Ha N b a.xL 0 a.xK
def aqo{N b f}:KO 59 [dY b,O (aS f)] Y (P6 N b f):=
 fw func59 (V [[]] (gG (λp=>[(15,aA p)]) (λ_=>(Pb b)) (ax (λj=>gE [(3,bT j)] []) λj=>gE [(3,bF j)] []) λp=>aY λv=>V [[f0 v],[],[]] (gB vQ 0 1 b.xL λq=>fa 1 [] [1,2,5,6] 1 (λi(c:Int64)=>⟨84,[(1,O (aS f)),(2,A0),(5,bx c),(6,Y i)],Pb b⟩) (λi c a w=>gR [[(10,oL b.xL jx)],[f0 (bG a)],[(5,oq (agy c (3001:Int64))),(8,oq (RO (1:Int64) (sC c (3001:Int64))))]]) (λi k A c a w r=>V [[(10,oL b.xL jx)],[t0 (bD a)]] (gG (λt=>[(40,aA t)]) (λ_=>(Pb b)) (cG (10,oE (lM (aX a))) (ax (λl=>gE [(7,bT l)] []) λl=>gE [(7,bF l)] [(34,oE (lM (aX a)))])) λt=>eY λ_=>gT uY 1 f λx=>dN 2 [] [1,2,5,6,7] 1 (λg=>⟨84,[(1,O (aS f)),(2,A0),(5,bx c),(6,Y i),(7,Y g)],Pb b⟩) (λg e y=>gb r c [[(7,oL f m6)],[f0 (bG e)],[(5,oq (bU a rfl q))]] a) (λg h B e y z=>V [[(7,oL f m6)],[t0 (bD e)]] (gG (λu=>[(66,aA u)]) (λ_=>(Pb b)) (cG (7,oE (n8 (aX e))) (cG (25,oE (lM (aX a))) (ax (λn=>gE [(12,bT n)] [(46,oE (n8 (aX e)))]) λn=>gE [(12,bF n)] []))) λu=>ax (λo=>gb r (c+(k.eW*h.dP)) [[t0 o],[(13,oE (lM (aX a))),(28,oE (n8 (aX e))),(38,oq (gu k.eW h.dP)),(41,oq (oF c (k.eW*h.dP)))],[(5,oq (bU a rfl q))]] a) λo=>gb z () [[f0 o],[(5,oq (bU e rfl x))]] e)))))))
def LQ(N:Nat)(b:I aJ):I dH->Nat->Int->U Int
 |[],_,a=>some a
 |d::e,f,a=>(P6 N d.eu b).bind λc=>(λg=>LQ N b e (f+1) g) (if(aF (a*c))<3001then(aF (a*c))else(3001:Int))
def LA(N:Nat)(a:I dH)(b:I aJ):U Int:=LQ N b a 0 (1:Int)
def af1{N a e}:KO 30 [O (gZ a),O (aS e)] Y (LA N a e):=
 fw func30 (V [[],[],[]] (gT nJ 0 a λh=>fa 1 [] [0,1,5,6] 0 (λf(c:Int)=>⟨24,[(0,O (gZ a)),(1,O (aS e)),(5,Y c),(6,Y f)],[]⟩) (λf c b i=>gR [[(7,oL a gv)],[f0 (bG b)],[]]) (λf l n c b i j=>au λg k=>gb j (if(aF (c*g))<3001then(aF (c*g))else(3001:Int)) [[(7,oL a gv)],[t0 (bD b)],[(10,oE (mW (aX b))),(22,cK aqo k)],[(5,oq (bU b rfl h))]] b)))
def KG(N:Nat)(a:I aJ):I bZ->Nat->U Bool
 |[],_=>some true
 |c::d,b=>(LA N c.aR a).bind λe=>(LA N c.cl a).bind λf=>bif (decide ((aF (e*f))>3000))then some false else(KG N a d (b+1))
def L3(N:Nat)(b:I aJ)(c:bo)(d:Int64):I aJ->Nat->U Bool
 |[],_=>KG N b c.aP 0
 |e::a,f=>bif (decide (e.dP.toInt>d.toInt))then some false else(L3 N b c d a (f+1))
def NC(N:Nat)(a:bo)(b:I aJ)(c:Int64):U Bool:=(Jy N a (400:Int)).bind λd=>(bif d then some true else(bif (decide ((a.aP.length:Int)>12))then some true else (Qx N b (20:Int)).bind λe=>some (!e))).bind λf=>bif f then some false else L3 N b a c b 0
def arN{N a b g}:KO 7 [c6 a,O (aS b),bx g] aA (NC N a b g):=
 fw func7 (V [[]] (au λA l=>gG (λk=>[(21,aA k)]) (λ_=>(Mr a)) (cG (4,cK aiB l) (ax (λh=>gE [(2,bT h),(8,bT rfl)] []) λh=>cm (2,bF h) (cG (16,oL a.aP jM) (ax (λi=>gE [(8,bT i)] []) λi=>au λB n=>gE [(8,bF i)] [(31,cK ak1 n)])))) λk=>eY λ_=>gT uY 1 b λo=>dN 1 [] [1,2,3,7] 1 (λj=>⟨60,[(1,O (aS b)),(2,bx g),(3,A0),(7,Y j)],Mr a⟩) (λj f p=>V [[(7,oL b m6)],[f0 (bG f)],[]] (gB uj 0 3 a.aP λq=>dN 2 [] [1,3,8] 1 (λc=>⟨60,[(1,O (aS b)),(3,A0),(8,Y c)],Mr a⟩) (λc e r=>gR [[(10,oL a.aP jM)],[f0 (bG e)],[]]) (λc C E e r t=>au λF u=>au λG v=>V [[(10,oL a.aP jM)],[t0 (bD e)],[(10,oE (jn (aX e))),(22,cK af1 u),(34,oE (jn (aX e))),(46,cK af1 v)]] (aY λw=>gb t () [[f0 w],[(5,oq (bU e rfl q))]] e)))) (λj H x f p y=>V [[(7,oL b m6)],[t0 (bD f)],[(7,oE (n8 (aX f)))]] (aY λz=>gb y () [[f0 z],[(5,oq (bU f rfl o))]] f))))
def GC(N:Nat):I dH->Nat->(I so)->(I bE)->U ((I so)×(I bE))
 |[],_,a,b=>some (a,b)
 |v4::c,d,a,b=>bif (Nat.ble ((a.length+1)*16) 140737488355328)then bif (Nat.ble ((b.length+1)*32) 140737488355328)then(λe f=>GC N c (d+1) e f) (a++[v4.ay]) (b++[v4.eu])else none else none
def La(N:Nat)(a:I dH):U ((I so)×(I bE)):=GC N a 0 [] []
def atP{N b}:KO 71 [O (gZ b)] (λr=>.bq [O (cD r.1),O (fz r.2)]) (La N b):=
 fw func71 (V [[],[],[],[]] (li (λ_=>(lQ 5 48 2 [] (.inr (by kernel_rfl)) ·)) (li (λ_=>(lQ 4 9 1 [] (.inr (by kernel_rfl)) ·)) (gT nJ 0 b λh=>CQ 1 [] [0,4,5,6] 2 (λg(c:I so)(e:I bE)=>⟨31,[(0,O (gZ b)),(4,.own 1 (cD c)),(5,.own 0 (fz e)),(6,Y g)],[.front 48 2 e.length,.front 9 1 c.length]⟩) (λg c e a i=>gR [[(7,oL b gv)],[f0 (bG a)],[]]) (λg f n c e a i j=>cF λk=>cF λl=>gb j (c++[f.ay],e++[f.eu]) [[(7,oL b gv)],[t0 (bD a)],[(10,oE (mW (aX a))),(22,oA iy c ([f.ay]) k)],[(10,oE (mW (aX a))),(22,oA mZ e ([f.eu]) l)],[(5,oq (bU a rfl h))]] a)))))
def FR(N:Nat)(a:az->U (I az)):I az->Nat->(I az)->U (I az)
 |[],_,b=>some b
 |v4::d,e,b=>(a v4).bind λc=>bif (Nat.ble ((b.length+c.length)*160) 140737488355328)then(λf=>FR N a d (e+1) f) (b++c)else none
def xB(N:Nat):Nat->az->U (I az)
 |0,_=>none
 |d+1,a=>FR N (xB N d) a.bS 0 [a]
def US(N:Nat)(a:az):U (I az):=xB N N a
def aqs(N:Nat):∀d:Nat,(∀{a:az},KO 215 [aK a] (λr=>.d (.sl (hO r))) (xB N d a)):=by
 intro d
 induction d with
 |zero=>intro a r J;rw[xB]at J;cases J
 |succ d ih=>
  have e:= @ih;intro a;rw[xB];exact fw func215 (V [[],[(5,oq (congrArg AV.full (qq [a]).symm))],[]] (li (λ_=>(lQ 3 52 13 (hO [a]) (.inl (by kernel_rfl)) ·)) (gB oT 0 12 a.bS λh=>fa 1 [] [1,3,4] 2 (λf(b:I az)=>⟨23,[(1,A0),(3,.own 1 (hO b)),(4,Y f)],[.cells (aK a).cells,.front 52 13 b.length]⟩) (λf b c i=>gR [[(10,oL a.bS jm)],[(0,bF (bG c))],[]]) (λf n o b c i j=>au λg k=>cF λl=>gb j (b++g) [[(10,oL a.bS jm)],[(0,bT (bD c))],[(13,oE (gy (aX c))),(19,cK e k),(22,oA oT b g l)],[(5,oq (bU c rfl h))]] c))))
def aiQ{N a}:KO 215 [aK a] (λr=>.d (.sl (hO r))) (US N a):=(aqs N N)
def HY(N:Nat)(b:I so)(c:so):I so->Nat->U (I so)
 |[],a=>bif (decide ((0:Int)<=(a:Int)))then bif (decide (((a:Int)).toNat<=b.length))then bif (Nat.ble ((0+((b.take ((a:Int)).toNat).drop 0).length)*16) 140737488355328)then bif (Nat.ble ((((b.take ((a:Int)).toNat).drop 0).length+1)*16) 140737488355328)then bif (Nat.ble (((((b.take ((a:Int)).toNat).drop 0)++[c]).length+(b.drop ((a:Int)).toNat).length)*16) 140737488355328)then some ((((b.take ((a:Int)).toNat).drop 0)++[c])++(b.drop ((a:Int)).toNat))else none else none else none else none else none
 |d::e,a=>bif (Op.bytesLess (bL d) (bL c))then(HY N b c e (a+1))else bif (bL d==bL c)then some b else bif (decide (((a:Int)).toNat<=b.length))then bif (Nat.ble ((0+((b.take ((a:Int)).toNat).drop 0).length)*16) 140737488355328)then bif (Nat.ble ((((b.take ((a:Int)).toNat).drop 0).length+1)*16) 140737488355328)then bif (Nat.ble (((((b.take ((a:Int)).toNat).drop 0)++[c]).length+(b.drop ((a:Int)).toNat).length)*16) 140737488355328)then some ((((b.take ((a:Int)).toNat).drop 0)++[c])++(b.drop ((a:Int)).toNat))else none else none else none else none
def EF(N:Nat)(a:I so)(b:so):U (I so):=HY N a b a 0
def atO{N b e}:KO 216 [O (cD b),dk e] (λr=>.d (.sl (cD r))) (EF N b e):=
 fw func216 (V [[],[]] (gT iy 0 b λj=>dN 1 [] [0,1,5] 0 (λc=>⟨48,[(0,O (cD b)),(1,dk e),(5,Y c)],[]⟩) (λc a k=>cF λg=>cF λh=>cF λl=>cF λn=>cF λo=>gR [[(7,oL b ft),(15,bF (bG a)),(18,bF (bG a)),(21,bF (bG a)),(24,bF (bG a)),(27,bF (bG a)),(30,bF (bG a)),(34,bF (bG a))],[f0 rfl],[(7,oL b ft),(15,bF (bG a)),(18,bF (bG a)),(21,bF (bG a)),(24,bF (bG a)),(27,bF (bG a)),(30,bF (bG a)),(34,bF (bG a))],[f0 rfl],[],[(10,⟨_,_,.sub (xs:=cD b) (lo:=0) (hi:=(c:Int)) (by decide) (Wv _) (U0 g) (by rw[ft];exact(U0 h)) sS Ed⟩),(13,oZ iy ((b.take ((c:Int)).toNat).drop 0) l)],[(10,oA iy ((b.take ((c:Int)).toNat).drop 0) ([e]) n)],[(10,⟨_,_,.Dx (xs:=cD b) (lo:=(c:Int)) (U0 g) (by rw[ft];exact(U0 h)) sS aaH⟩),(13,oA iy (((b.take ((c:Int)).toNat).drop 0)++[e]) (b.drop ((c:Int)).toNat) o)]]) (λc w x a k p=>V [[(7,oL b ft),(15,bT (bD a)),(18,bT (bD a)),(21,bT (bD a)),(22,oE (kp (aX a))),(24,bT (bD a)),(27,bT (bD a)),(30,bT (bD a)),(34,bT (bD a))]] (ax (λf=>gb p () [[t0 f],[(5,oq (bU a rfl j))]] a) λf=>V [[f0 f],[(7,oL b ft),(15,bT (bD a)),(18,bT (bD a)),(21,bT (bD a)),(22,oE (kp (aX a))),(24,bT (bD a)),(27,bT (bD a)),(30,bT (bD a)),(34,bT (bD a))]] (aY λq=>cF λi=>cF λt=>cF λu=>cF λv=>gR [[f0 q],[],[(10,⟨_,_,.sub (xs:=cD b) (lo:=0) (hi:=(c:Int)) (by decide) (Wv _) (U0 (dO (Int.natCast_nonneg _))) (by rw[ft];exact(U0 i)) sS Ed⟩),(13,oZ iy ((b.take ((c:Int)).toNat).drop 0) t)],[(10,oA iy ((b.take ((c:Int)).toNat).drop 0) ([e]) u)],[(10,⟨_,_,.Dx (xs:=cD b) (lo:=(c:Int)) (U0 (dO (Int.natCast_nonneg _))) (by rw[ft];exact(U0 i)) sS aaH⟩),(13,oA iy (((b.take ((c:Int)).toNat).drop 0)++[e]) (b.drop ((c:Int)).toNat) v)]])))))
def Gk(N:Nat)(c:(I so)->U (I so)):I c8->Nat->(I so)->U (I so)
 |[],_,b=>c b
 |v11::a,e,b=>bif (bL v11.de==bL (bs []))then(λd=>Gk N c a (e+1) d) b else(EF N b v11.de).bind λf=>(λd=>Gk N c a (e+1) d) f
def Fg(N:Nat)(a:(I so)->U (I so))(b:az)(c:I so):U (I so):=Gk N a b.xIdx 0 c
def wZ(N:Nat):I az->Nat->(I so)->U (I so)
 |[],_,a=>some a
 |b::d,e,a=>bif (b.aD==3)then(EF N a b.ay).bind λf=>Fg N (λc=>wZ N d (e+1) c) b f else Fg N (λc=>wZ N d (e+1) c) b a
def MO(N:Nat)(a:az):U (I so):=(US N a).bind λb=>wZ N b 0 []
def anH{N f}:KO 127 [aK f] (λr=>.d (.sl (cD r))) (MO N f):=
 fw func127 (au λc u=>V [[],[],[(4,cK aiQ u)],[]] (gT oT 4 c λv=>fa 1 [] [3,4,5] 1 (λe(h:I so)=>⟨60,[(3,O (cD h)),(4,O (hO c)),(5,Y e)],G4 f⟩) (λe h a w=>gR [[(7,oL c jm)],[f0 (bG a)],[]]) (λe i x h a w y=>kW 2 [[(7,oL c jm)],[t0 (bD a)],[(7,oE (gy (aX a)))]] [3,4,5] 1 (λ(o:I so)=>⟨60,[(3,O (cD o)),(4,O (hO c)),(5,Y e)],G4 f⟩) (Fg N (λz=>wZ N x (e+1) z) i) (λK p=>ax (λk=>au λA B=>gm p A [[t0 k],[(10,oE (gy (aX a))),(19,cK atO B)]]) λk=>gm p h [[f0 k]]) (λo=>V [[]] (F7 (λ_=>(unD 4 (hO c) (by kernel_rfl) ·)) λC=>have q:=tv gq (HZ (j:=11) (d:= .sl (fc i.xIdx)) C (gy (aX a)) rfl);fa 3 [] [3,4,5,6] 1 (λl(g:I so)=>⟨60,[(3,O (cD g)),(4,O (hO c)),(5,Y e),(6,Y l)],G4 f⟩) (λl g b E=>gb y g [[(10,oE (gy (aX a))),(19,oL i.xIdx gq)],[f0 (bG b)],[(5,oq (bU a rfl v))]] a) (λl F G g b E t=>V [[(10,oE (gy (aX a))),(19,oL i.xIdx gq)],[t0 (bD b)],[(7,oE (gy (aX a))),(19,oE (jk (aX b)))]] (ax (λn=>gb t g [[f0 (cx n)],[(5,oq (bU b rfl q))]] b) λn=>au λH J=>gb t H [[t0 (dq n)],[(10,oE (gy (aX a))),(22,oE (jk (aX b))),(31,cK atO J)],[(5,oq (bU b rfl q))]] b)))))))
def Ho(N:Nat)(c:I aL)(d:so)(b:aM)(e:I Int):U Int:=(Ag N c d).bind λa=>bif a.2 then(Gj N a.1).bind λf=>bif (f !=0)then some (1:Int)else bif ((a.1.aH.bB==b.bB)&&((a.1.aH.bW==b.bW)&&((a.1.aH.ck==b.ck)&&((a.1.aH.ct==b.ct)&&((a.1.aH.cC==b.cC)&&true)))))then(vb N a.1.aR e).bind λg=>bif g then some (0:Int)else some (15:Int)else some (10:Int)else some (9:Int)
def agP{N a b c e}:KO 83 [O (bm a),dk b,bY c,O (bH e)] Y (Ho N a b c e):=
 fw func83 (au λl f=>V [[],[(7,cK Mb f)],[]] (fi λg=>au λn h=>V [[f0 (cx g)],[(4,cK aa2 h)]] (eY λ_=>fi λi=>au λo j=>V [[f0 (cx i)],[(10,cK afj j)]] (nb λk=>gR [[t0 (dq k)],[]]))))
def O1(N:Nat)(c:bo)(f:I aJ)(g:I aL):I so->Nat->U Int
 |[],_=>some (0:Int)
 |d::h,i=>(Cz N c f d).bind λa=>bif (a.2 !=0)then some a.2 else(P2 N c d).bind λe=>(Ho N g d e.2.1 a.1).bind λb=>bif (b !=0)then some b else(O1 N c f g h (i+1))
def Nl(N:Nat)(a:bo)(b:I aJ)(c:I aL)(d:bZ):U Int:=(MO N d.cw).bind λe=>O1 N a b c e 0
def an7{N c e f g}:KO 74 [c6 c,O (aS e),O (bm f),fg g] Y (Nl N c e f g):=
 fw func74 (au λb i=>V [[],[(7,cK anH i)],[]] (gT iy 9 b λj=>dN 1 [] [1,2,4,9,10] 2 (λh=>⟨60,[(1,O (aS e)),(2,O (bm f)),(4,A0),(9,O (cD b)),(10,Y h)],[.cells (c6 c).cells,.cells (fg g).cells]⟩) (λh a k=>gR [[(7,oL b ft)],[f0 (bG a)],[]]) (λh w x a k l=>au λn o=>V [[(7,oL b ft)],[t0 (bD a)],[(13,oE (kp (aX a))),(19,cK RC o)],[]] (aY λp=>au λq r=>au λt u=>V [[f0 p],[(10,oE (kp (aX a))),(16,cK atQ r)],[(10,oE (kp (aX a))),(22,cK agP u)],[]] (aY λv=>gb l () [[f0 v],[(5,oq (bU a rfl j))]] a)))))
def wM(N:Nat)(c:I so)(g:I Int)(e:I aJ):Nat->Int->Int->(I aJ)->U (I aJ)
 |0,_,_,_=>none
 |h+1,f,b,d=>bif (decide (b>=0))then bif (decide ((0:Int)<=b))then(c[(b).toNat]?).bind λi=>(g[(b).toNat]?).bind λa=>bif (a !=0)then bif (aF ((f).tmod a)==((f).tmod a))then bif (Nat.beq d.length c.length)then bif (decide (b<(c.length:Int)))then(d[(b).toNat]?).bind λj=>(λk l n=>wM N c g e h k l n) (i64.wrap ((f).tdiv a)) (aF (b-(1:Int))) (d.set ((b).toNat) (⟨i,Int64.ofInt ((f).tmod a)⟩:aJ))else none else none else none else none else none else bif (Nat.beq d.length c.length)then bif (Nat.ble ((c.length+e.length)*24) 140737488355328)then bif (Nat.beq (d++e).length (c.length+e.length))then some (d++e)else none else none else none
def Dt(N:Nat)(a:I so)(b:I Int)(c:Int)(d:I aJ):U (I aJ):=bif (Nat.ble (a.length*24) 140737488355328)then wM N a b d N c (aF ((a.length:Int)-(1:Int))) (List.replicate a.length (⟨bs [],0⟩:aJ))else none
def Uf(b:I aJ)(c:Int)(d:so)(e:Int)(a:Int)(l:I ar):I ar:= .vec 75 2 (cg ((b.set ((c).toNat) (⟨d,Int64.ofInt ((e).tmod a)⟩:aJ)).map jG))::l
def agE(a:I so)(l:I ar):I ar:= .vec 75 2 (cg ((List.replicate a.length (⟨bs [],0⟩:aJ)).map jG))::l
def aen{N e q x n r}(J:Dt N e q x n=some r):KF 76 [O (cD e),O (bH q),Y x,O (aS n)] (O (aS r)):=by
 rw[Dt]at J;refine mU func76 rfl (by kernel_rfl) ?_;refine gr [0,1,2,3] 0 (Zv _) (s':=⟨44,[(0,O (cD e)),(1,O (bH q)),(2,Y x),(3,O (aS n))],[]⟩) (by kernel_rfl) ?_;refine aw (Cy [] [] [] ?_);refine aw ?_;have F:=j0 J;replace J:=(dh F).symm.trans J;refine Cy [(4,oL e ft),(7,⟨_,_,.pr (.mk (cg ((List.replicate e.length (⟨bs [],0⟩:aJ)).map jG)) e.length e.length) (aay (f:=jG) (d0:=(⟨bs [],0⟩:aJ)) (dy:=24) rfl rfl (mB F (by decide)))⟩)] [(9,.vec 0 0 e.length e.length 2)] (agE e []) ?_;refine aw (aw ?_);refine Cy [(4,oL e ft)] [(10,Y (aF ((e.length:Int)-(1:Int))))] (agE e []) ?_;refine dL ?_;refine Kr [0,1,2,3,9,10] 1 [] [] (λ((u,o,g,l):Nat×Int×Int×(I aJ))=>⟨44,[(0,O (cD e)),(1,O (bH q)),(2,Y o),(3,O (aS n)),(9,.vec 0 0 e.length e.length 2),(10,Y g)],[.vec 75 2 (cg (l.map jG))]⟩) (λ((u,o,g,l):Nat×Int×Int×(I aJ))=>wM N e q n u o g l=some r) (λ((u,o,g,l):Nat×Int×Int×(I aJ))=>u) (N,x,aF ((e.length:Int)-(1:Int)),List.replicate e.length (⟨bs [],0⟩:aJ)) (Zi rfl) ⟨(lW (xs:=((List.replicate e.length (⟨bs [],0⟩:aJ)).map jG)) jP),by kernel_rfl⟩ J ?_
 rintro⟨u,o,g,l⟩ J
 try dsimp only at J
 cases u with
 |zero=>
  rw[wM]at J;cases J
 |succ u=>
  rw[wM]at J;refine aw (aw ?_);refine Cy [] [(18,(aA (decide (g>=0))))] [.vec 75 2 (cg (l.map jG))] ?_;rcases eo (decide (g>=0))with v|v
  ·replace J:=(dh v).symm.trans J;refine Bo (t:=(decide (g>=0))) v ?_;refine cN ?_;refine aW ?_;refine aw (dL ?_);refine aw ?_;have w:=j0 J;replace J:=(dh w).symm.trans J;obtain⟨p,Q,a,G,J⟩:=jy J;have A:=j0 J;replace J:=(dh A).symm.trans J;have H:=j0 J;replace J:=(dh H).symm.trans J;have B:=j0 J;replace J:=(dh B).symm.trans J;have K:=j0 J;replace J:=(dh K).symm.trans J;obtain⟨C,R,J⟩:=bz J;refine rd bC (by kernel_rfl) [(13,⟨_,_,.el (xs:=cD e) (i:=g) (U0 w) (kp Q)⟩),(28,⟨_,_,.el (xs:=bH q) (i:=g) (U0 w) (gY G)⟩),(34,⟨_,_,.nz (b:=a) (Ue.1 A)⟩),(38,oq (congrArg (λz=>AV.agg [dk p,z]) (Ci (Ua.1 H)))),(40,⟨_,_,.pr (.ix ((g).toNat)) (TT (yk (f:=jG) (Yw B)) (U0 w) (U0 K) rfl)⟩),(43,⟨_,_,.pr (.st ((jG C).map AV.d) (cg ((l.set ((g).toNat) (⟨p,Int64.ofInt ((o).tmod a)⟩:aJ)).map jG))) (Yi (f:=jG) (j:=0) (y:=(⟨p,Int64.ofInt ((o).tmod a)⟩:aJ)) (zs:=[dk p,bx (Int64.ofInt ((o).tmod a))]) (Yw B) R rfl)⟩)] [] (Uf l g p o a []) (by kernel_rfl) ?_
   refine Cm [(10,⟨_,_,.el (xs:=bH q) (i:=g) (U0 w) (gY G)⟩),(16,⟨_,_,.nz (b:=a) (Ue.1 A)⟩)] [(2,Y (i64.wrap ((o).tdiv a))),(40,Y (i64.wrap ((o).tdiv a))),(39,Y a),(38,.bM [fk a] 0 0),(37,Y g),(36,O (bH q)),(35,Y o)] (Uf l g p o a []) ?_;refine eV ?_;refine aW ?_;refine Cm [] [(10,Y (aF (g-(1:Int)))),(20,Y (aF (g-(1:Int)))),(19,Y g)] (Uf l g p o a []) ?_;refine aW ?_;exact⟨(u,i64.wrap ((o).tdiv a),aF (g-(1:Int)),l.set ((g).toNat) (⟨p,Int64.ofInt ((o).tmod a)⟩:aJ)),⟨(lW (xs:=((l.set ((g).toNat) (⟨p,Int64.ofInt ((o).tmod a)⟩:aJ)).map jG)) jP),by kernel_rfl⟩,J,Z0 _⟩
  replace J:=(ep v).symm.trans J;refine AO (t:=(decide (g>=0))) v ?_;refine ma (iE (iE (m7 rfl ?_)));refine aW ?_;refine aw ?_;have M:=j0 J;replace J:=(dh M).symm.trans J;have E:=j0 J;replace J:=(dh E).symm.trans J;refine Cy [(7,⟨_,_,.pr (.ap (cg ((l++n).map jG)) (cg (n.map jG)) (e.length+n.length) (e.length+n.length)) (GA (f:=jG) (h:=[.vec 75 2 (cg (l.map jG))]) (y:=(O (aS n))) (k:=2) (Yw M) (by rw[<-sk];rfl) (λc W=>aeu c (by rw[sk];exact W)) rfl rfl (mB E (by decide)).1 (mB E (by decide)).2)⟩)] [(8,.vec 0 0 (e.length+n.length) (e.length+n.length) 2)] [.vec 75 2 (cg ((l++n).map jG))] ?_;have P:=j0 J;replace J:=(dh P).symm.trans J;refine akm [8] 0 ((l++n).map jG) (aS (l++n)) (L:=(e.length+n.length)) [.vec 75 2 (cg ((l++n).map jG))] 1 rfl (WT (λ_=>rfl) _) (WS (Yw P)) (sk _) (by kernel_rfl) (.Ay .nil) ?_;refine nh (s':=⟨44,[(8,O (aS (l++n)))],[.gone]⟩) (by kernel_rfl) ?_;refine dm ?_;have hr:=Zw J;subst hr;exact fI (by kernel_rfl)
def aaA(N:Nat)(a:aM):U aB:=(nq N a).bind λb=>bif b then some (⟨0,1⟩:aB)else some cf
def ajF{N a}:KO 218 [bY a] bp (aaA N a):=
 fw func218 (au λd b=>V [[],[(4,cK ph b)]] (nb λc=>gR [[t0 (dq c)],[]]))
def QN(N:Nat)(b:aM)(a:Int64):U (aB×Int):=(nH N b (⟨a,1⟩:aB)).bind λc=>bif c then some ((⟨a,1⟩:aB),(0:Int))else some (cf,(3:Int))
def atN(N:Nat)(a:aM):U (aB×Int):=(nq N a).bind λb=>bif b then bif (a.bB==2)then(vT N a).bind λc=>QN N a c else QN N a (1:Int64)else some (cf,(10:Int))
def ah6{N a}:KO 219 [bY a] (λr=>.bq [bp r.1,Y r.2]) (atN N a):=
 fw func219 (au λk e=>V [[],[(4,cK ph e)]] (fi λf=>kW 1 [[f0 (cx f)],[],[]] [1,2,4] 3 (λ(c:Int64)=>⟨22,[(1,A0),(2,Ac),(4,CL)],[.cells (bY a).cells,.cells gg,.cells [bx c,bx 1]]⟩) (QN N a) (λl d=>ax (λb=>au λg h=>gm d g [[t0 b],[(4,cK HQ h)]]) λb=>gm d (1:Int64) [[f0 b]]) (λc=>au λn i=>V [[(7,cK vh i)]] (nb λj=>gR [[t0 (dq j)],[]]))))
def atM(N:Nat)(a:Int)(b:aM):U (aB×Bool):=(nq N b).bind λd=>(bif d then(bif (a==1)then some true else some (a==5))else some false).bind λe=>bif e then(aaA N b).bind λf=>some (f,true)else bif (a==2)then(atN N b).bind λc=>some (c.1,(c.2==0))else some (cf,false)
def ah3{N e b}:KO 130 [Y e,bY b] (λr=>.bq [bp r.1,aA r.2]) (atM N e b):=
 fw func130 (V [[]] (au λk g=>gG (λf=>[(17,aA f)]) (λ_=>(QV b)) (cG (4,cK ph g) (ax (λc=>cm (2,bT c) (ax (λa=>gE [(5,bT a)] [(25,bT a)]) λa=>gE [(5,bF a)] [(25,bF a)])) λc=>gE [(2,bF c),(5,uN)] [])) λf=>ax (λd=>au λl h=>gR [[t0 d],[(4,cK ajF h)]]) λd=>V [[f0 d],[]] (jz λi=>au λn j=>gR [[t0 i],[(4,cK ah6 j)],[]])))
def E0(N:Nat)(a:Int):U Int:=bif (a==2)then some (6:Int)else bif (a==3)then some (9:Int)else bif (a==4)then some (10:Int)else some (4:Int)
def aih{N a}:KO 131 [Y a] Y (E0 N a):=
 fw func131 (V [[],[],[]] (eY λ_=>eY λ_=>aY λb=>gR [[f0 b],[]]))
def Ei(N:Nat)(f:Int)(g:aM):I aB->Nat->Int->Int64->Int64->U (aB×Int)
 |[],_,b,c,d=>some ((⟨c,d⟩:aB),b)
 |h::i,e,b,c,d=>bif (b==0)then(E0 N f).bind λj=>(Dz N j g (⟨c,d⟩:aB) h).bind λa=>(λb2_0 k l=>Ei N f g i (e+1) b2_0 k l) a.2 a.1.xN a.1.xD else some ((⟨c,d⟩:aB),b)
def It(N:Nat)(c:I aB)(e:Int)(d:aM):I aB->Nat->U (aB×Int)
 |[],_=>bif ((c.length:Int)==0)then(atM N e d).bind λa=>bif a.2 then some (a.1,(0:Int))else some (cf,(1:Int))else(c[0]?).bind λb=>Ei N e d (c.drop 1) 1 (0:Int) b.xN b.xD
 |g::h,i=>(nH N d g).bind λf=>bif f then(It N c e d h (i+1))else some (cf,(1:Int))
def Bh(N:Nat)(a:Int)(b:aM)(c:I aB):U (aB×Int):=(bif (decide (a<1))then some true else some (decide (a>5))).bind λd=>bif d then some (cf,(1:Int))else(nq N b).bind λe=>bif e then It N c a b c 0 else some (cf,(10:Int))
def Rb(a:aM)(l:I ar):I ar:= .cells (bY a).cells:: .cells gg::l
def atL{N h e a r}(J:Bh N h e a=some r):KF 77 [Y h,bY e,O (eC a)] (.bq [bp r.1,Y r.2]):=by
 rw[Bh]at J;refine IB func77 ?_;refine gp bC [[]] ?_;obtain⟨A,p,J⟩:=bz J;refine xw bC [(19,aA A)] (Rb e []) ?_ ?_
 ·apply bc p<;>intro t p
  ·cases p;exact gk [(2,bT t)] []
  cases p;exact gk [(2,bF t)] []
 apply bc J<;>intro u J;{cases J;exact wr bC [[(0,bT u)],[]]}
 obtain⟨v5,B,J⟩:=bz J;refine gp bC [[(0,bF u)],[(4,cK ph B)]] ?_;apply bc J<;>intro v J
 ·refine gp bC [[(0,bF (cx v))],[]] ?_;refine Ds tq 2 a λC=> ?_;refine auu bC 1 [] [0,2,4,6,8] 2 a (λq=>⟨79,[(0,Y h),(2,O (eC a)),(4,A0),(6,Ac),(8,Y q)],Rb e []⟩) (It N a h e) J ?_ ?_
  ·intro q i J E;rw[It]at J;refine gp bC [[(7,oL a jC)],[(0,bF (bG i))],[(4,oL a jC)]] ?_;apply bc J<;>intro w J
   ·obtain⟨F,G,J⟩:=bz J;refine gp bC [[(0,bT w)],[(7,cK ah3 G)],[]] ?_;apply bc J<;>intro x J
    ·cases J;exact wr bC [[(0,bF (cx x))],[]]
    cases J;exact wr bC [[(0,bT (dq x))],[]]
   obtain⟨j,H,J⟩:=bz J;refine gp bC [[(0,bF w)],[(4,oE (k:=0) (mh H))],[]] ?_;refine Ds tq 2 a λK=> ?_;refine H9 bC 2 [] [0,2,4,6,11,12,13] 3 (λ((b,f,l,n,o):Nat×(I aB)×Int×Int64×Int64)=>⟨79,[(0,Y h),(2,O (eC a)),(4,A0),(6,Ac),(11,CL),(12,Y l),(13,Y b)],Rb e [.cells [bx n,bx o]]⟩) (λ((b,f,l,n,o):Nat×(I aB)×Int×Int64×Int64)=>a.drop b=f/\Ei N h e f b l n o=some r) (λ((b,f,l,n,o):Nat×(I aB)×Int×Int64×Int64)=>f.length) (1,a.drop 1,(0:Int),j.xN,j.xD) ⟨rfl,J⟩ ?_;rintro⟨b,f,l,n,o⟩ ⟨c,J⟩ f2 L;cases f with
   |nil=>
    rw[Ei]at J;cases J;exact wr bC [[(7,oL a jC),(15,bF (bG c)),(18,bF (bG c)),(22,bF (bG c))],[(0,bF rfl)],[]]
   |cons aE M=>
    rw[Ei]at J;refine gp bC [[(7,oL a jC),(15,bT (bD c)),(18,bT (bD c)),(22,bT (bD c))]] ?_;apply bc J<;>intro y J;{obtain⟨cn,P,g,Q,J⟩:=jy J;exact CM bC L (b+1,M,g.2,g.1.xN,g.1.xD) [[(0,bT y)],[(4,cK aih P),(19,oE (mh (aX c))),(25,cK ads Q)],[(5,oq (bU c rfl K))]] ⟨kM c,J⟩}
    cases J;exact wr bC [[(0,bF y)],[]]
  intro q v8 v9 i J E R;rw[It]at J;obtain⟨W,eK,J⟩:=bz J;refine gp bC [[(7,oL a jC)],[(0,bT (bD i))],[(10,oE (mh (aX i))),(16,cK vh eK)]] ?_;apply bc J<;>intro z J;{exact wb bC R () [[(0,bF (cx z))],[(5,oq (bU i rfl C))]] i J}
  cases J;exact wr bC [[(0,bT (dq z))],[]]
 cases J;exact wr bC [[(0,bT (dq v))],[]]
def zV(N:Nat)(e:I Int)(g:I so)(h:I aJ)(i:I aL)(c:bZ):Nat->Int->gi->U gi
 |0,_,_=>none
 |v6+1,d,f=>(zu N e).bind λn=>bif (decide (d<n))then(Dt N g e d h).bind λj=>(WA N i j c.cw).bind λa=>bif (a.xE !=0)then some a else bif (d==0)then(λk l=>zV N e g h i c v6 k l) (aF (d+(1:Int))) a else(Bh N c.dF c.aH ([f.xV,a.xV])).bind λb=>bif (b.2 !=0)then some (⟨cf,dZ,b.2⟩:gi)else(λk l=>zV N e g h i c v6 k l) (aF (d+(1:Int))) (⟨b.1,f.xT,f.xE⟩:gi)else some f
def Ls(N:Nat)(a:I aL)(b:I aJ)(c:bZ)(d:I so)(e:I Int):U gi:=zV N e d b a c N (0:Int) alp
def ajL{N a b c e f}:KO 75 [O (bm a),O (aS b),fg c,O (cD e),O (bH f)] pW (Ls N a b c e f):=
 fw func75 (Nf 1 [[],[],[]] [0,1,3,4,7,10,11,12] 3 (λ(g:Int)(h:gi)=>⟨59,[(0,O (bm a)),(1,O (aS b)),(3,O (cD e)),(4,O (bH f)),(7,A0),(10,Ac),(11,CL),(12,Y g)],[.cells (fg c).cells,.cells JY,.cells (pW h).cells]⟩) (zV N f e b a c) (λv g h w l=>au λx n=>V [[(7,cK FQ n)]] (jz λo=>au λp q=>au λi r=>V [[t0 o],[(16,cL (aen q)),(25,cK ajw r)],[]] (eY λ_=>ax (λj=>uK l (aF (g+(1:Int)),i) [[t0 j],[],[]]) λj=>au λk t=>V [[f0 j],[(28,cL (atL t))],[]] (aY λu=>uK l (aF (g+(1:Int)),(⟨k.1,h.xT,h.xE⟩:gi)) [[f0 u],[],[]])))))
def zX(N:Nat)(b:I aB)(c:Int->(I aB)->U (bk×Int))(d:Int)(a:gi):U (bk×Int):=bif (a.xE !=0)then some (jd,a.xE)else bif (Nat.ble ((b.length+1)*16) 140737488355328)then c (aF (d+(1:Int))) (b++[a.xV])else none
def vN(N:Nat)(a:(I Int)×Int)(f:(I so)×(I bE))(g:I aJ)(h:I aL)(c:bZ)(i:(I so)×(I bE))(j:(I Int)×Int):Nat->Int->(I aB)->U (bk×Int)
 |0,_,_=>none
 |o+1,b,d=>(zu N a.1).bind λr=>bif (decide (b<r))then(Dt N f.1 a.1 b g).bind λt=>(Ls N h t c i.1 j.1).bind λe=>(bif (c.dF==5)then(bif (e.xE==0)then bif (decide ((0:Int)<=(aF ((a.1.length:Int)-(1:Int)))))then(a.1[(aF ((a.1.length:Int)-(1:Int))).toNat]?).bind λp=>bif (p !=0)then some (decide (((b).tmod p)>0))else none else none else some false)else some false).bind λk=>bif k then bif (decide ((0:Int)<=(aF (b-(1:Int)))))then(d[(aF (b-(1:Int))).toNat]?).bind λu=>(Bh N (1:Int) c.aH ([u,e.xV])).bind λq=>zX N d (λl n=>vN N a f g h c i j o l n) b (⟨q.1,e.xT,q.2⟩:gi)else none else zX N d (λl n=>vN N a f g h c i j o l n) b e else some ((⟨c.aH,a.1,d⟩:bk),(0:Int))
def EY(N:Nat)(f:bo)(c:I aJ)(i:I aL)(j:Int):U (bk×Int):=bif (decide ((0:Int)<=j))then(f.aP[(j).toNat]?).bind λa=>(Cz N f c a.ay).bind λd=>bif (d.2 !=0)then some (jd,d.2)else(La N a.aR).bind λl=>(La N a.cl).bind λk=>(Hc N k.2 c).bind λe=>bif (e.2 !=0)then some (jd,e.2)else(zu N d.1).bind λg=>(zu N e.1).bind λh=>bif (decide ((aF (g*h))>65536))then some (jd,(2:Int))else(Nl N f c i a).bind λb=>bif (b !=0)then some (jd,b)else vN N d l c i a k e N (0:Int) []else none
def PV(c:bo)(a:bZ)(e:(I Int)×Int)(b:I aB)(l:I ar):I ar:= .cells (c6 c).cells:: .cells NY:: .cells (fg a).cells:: .cells [Y a.aH.bB,Y a.aH.bW,Y a.aH.ck,Y a.aH.ct,Y a.aH.cC,O (bH e.1),.own 4 (eC b)]:: .front 45 2 b.length::l
def asF{N f g h q}:KO 35 [c6 f,O (aS g),O (bm h),Y q] (λr=>.bq [gF r.1,Y r.2]) (EY N f g h q):=
 fw func35 (cF λA=>au λj B=>au λc C=>V [[],[(10,⟨_,_,.el (xs:=iC f.aP) (i:=q) (U0 A) (jn B)⟩)],[(13,cK RC C)],[]] (aY λE=>au λn F=>au λo G=>au λp H=>V [[f0 E],[(7,cK atP F)],[(7,cK atP G)],[(7,cK aaP H)],[]] (aY λJ=>au λK L=>au λM P=>V [[f0 J],[(4,cK FQ L),(10,cK FQ P)]] (aY λQ=>au λR W=>V [[f0 Q],[(13,cK an7 W)],[]] (aY λbI=>V [[f0 bI],[],[]] (li (λ_=>(aq4 3 6 45 2 [] (.inr (by kernel_rfl)) ·)) (apm 1 [] [1,2,8,10,11,13,15,17,20,21] 5 [] [(1,5),(1,6)] (λ(k:Int)(e:(I aB))=>⟨152,[(1,O (aS g)),(2,O (bm h)),(8,Ac),(10,CL),(11,O (bH c.1)),(13,O (cD n.1)),(15,O (cD o.1)),(17,O (bH p.1)),(20,Aj),(21,Y k)],PV f j c e []⟩) (vN N c n g h j o p) (λaG k e f1 aI=>au λbw bV=>V [[(7,cK FQ bV)]] (jz λbA=>au λbX cd=>au λt dc=>V [[t0 bA],[(16,cL (aen cd)),(28,cK ajL dc)]] (gG (λl=>[(118,aA l)]) (λ_=>(PV f j c e [.cells (pW t).cells])) (ax (λu=>cm (3,bT u) (ax (λv=>cF λfK=>au λcn du=>cF λgz=>gE [(8,bT v)] [(37,oL c.1 fG),(43,⟨_,_,.el (xs:=bH c.1) (i:=(aF ((c.1.length:Int)-(1:Int)))) (U0 fK) (gY du)⟩),(49,⟨_,_,.nz (b:=cn) (Ue.1 gz)⟩)]) λv=>gE [(8,bF v)] [])) λu=>gE [(3,bF u),(8,bF rfl)] []) λl=>apn 2 [] [1,2,8,10,11,13,15,17,20,21,22] 6 [] [(1,5),(1,6)] (λ(a:gi)=>⟨152,[(1,O (aS g)),(2,O (bm h)),(8,Ac),(10,CL),(11,O (bH c.1)),(13,O (cD n.1)),(15,O (cD o.1)),(17,O (bH p.1)),(20,Aj),(21,Y k),(22,DM)],PV f j c e [.cells (pW a).cells]⟩) (zX N e (λbO eN=>vN N c n g h j o p aG bO eN) k) (λf2 y=>ax (λw=>cF λj4=>au λfD fZ=>au λz l6=>gmX y (⟨z.1,t.xT,z.2⟩:gi) [[t0 w],[(19,⟨_,_,.el (xs:=eC e) (i:=(aF (k-(1:Int)))) (U0 j4) (mh fZ)⟩),(34,cL (atL l6))],[],[]]) λw=>gmX y t [[f0 w]]) (λa=>V [[]] (ax (λx=>V [[t0 x]] (li (λ_=>(Lr 2 bC [(9,Y a.xE)] (PV f j c e [.cells (pW a).cells]) ⟨[],by kernel_rfl⟩ ·)) (gR []))) λx=>cF λkF=>aeN aI (aF (k+(1:Int)),e++[a.xV]) [[f0 x],[(16,oA tq e ([a.xV]) kF)],[]]))))))))))))
def ME(N:Nat)(a:bk)(b:bk):U Bool:=(bif ((a.aH.bB==b.aH.bB)&&((a.aH.bW==b.aH.bW)&&((a.aH.ck==b.aH.ck)&&((a.aH.ct==b.aH.ct)&&((a.aH.cC==b.aH.cC)&&true)))))then (vb N a.aR b.aR).bind λc=>(bif c then (H8 N a.eD b.eD).bind λd=>some d else some false)else some false).bind λe=>some e
def amv{N a b}:KO 12 [gF a,gF b] aA (ME N a b):=
 fw func12 (V [[]] (gG (λe=>[(4,aA e)]) (λ_=>[.cells (gF a).cells,.cells (gF b).cells]) (ax (λc=>au λh f=>cm (5,bT c) (cG (31,cK afj f) (ax (λd=>au λi g=>gE [(12,bT d)] [(52,cK auB g)]) λd=>gE [(12,bF d)] []))) λc=>gE [(5,bF c),(12,bF rfl)] []) λe=>gR []))
def J8(N:Nat)(a:bo)(c:I aJ)(d:I aL):U ((I aL)×Int):=(GH N a c d).bind λb=>bif (b.2 !=0)then some ([],b.2)else bif (decide ((0:Int)<=(a.bn.length:Int)))then bif (decide (((a.bn.length:Int)).toNat<=b.1.length))then some (b.1.drop ((a.bn.length:Int)).toNat,(0:Int))else none else none
def aj0{N a b c}:KO 20 [c6 a,O (aS b),O (bm c)] (λr=>.bq [O (bm r.1),Y r.2]) (J8 N a b c):=
 fw func20 (au λe f=>V [[],[(10,cK afw f)],[]] (aY λg=>cF λh=>cF λi=>gR [[f0 g],[(10,oL a.bn k9),(13,⟨_,_,.Dx (xs:=bm e.1) (lo:=(a.bn.length:Int)) (U0 h) (by rw[oG];exact(U0 i)) Wa af0⟩)]]))
def Hm(N:Nat)(e:bo)(f:I aJ):I bZ->Nat->(I aL)->U ((I aL)×Int)
 |[],_,a=>some (a,(0:Int))
 |c::g,b,a=>(EY N e f a (b:Int)).bind λd=>bif (d.2 !=0)then some ([],d.2)else bif (Nat.ble ((a.length+1)*104) 140737488355328)then(λb2_0=>Hm N e f g (b+1) b2_0) (a++[(⟨c.ay,d.1⟩:aL)])else none
def IN(N:Nat)(b:bo)(d:I aJ)(e:I aL):I eX->Nat->(I aL)->U ((I aL)×Int)
 |[],_,c=>Hm N b d b.aP 0 c
 |a::h,i,c=>(Cz N b d a.ay).bind λf=>bif (f.2 !=0)then some ([],f.2)else(Ho N e a.ay a.aH f.1).bind λg=>bif (g !=0)then some ([],g)else(Ag N e a.ay).bind λj=>bif (Nat.ble ((c.length+1)*104) 140737488355328)then(λk=>IN N b d e h (i+1) k) (c++[(⟨a.ay,j.1⟩:aL)])else none
def GX(N:Nat)(a:bo)(b:I aJ)(d:I aL):U ((I aL)×Int):=(N8 N a b).bind λc=>bif (c !=0)then some ([],c)else IN N a b d a.bn 0 []
def agM{N a i j}:KO 46 [c6 a,O (aS i),O (bm j)] (λr=>.bq [O (bm r.1),Y r.2]) (GX N a i j):=
 fw func46 (au λK p=>V [[],[(7,cK anv p)],[]] (aY λq=>V [[f0 q],[],[]] (li (λ_=>(lQ 9 56 8 [] (.inr (by kernel_rfl)) ·)) (gB yN 0 2 a.bn λt=>fa 1 [] [1,2,3,9,10] 2 (λk(c:I aL)=>⟨103,[(1,O (aS i)),(2,O (bm j)),(3,A0),(9,.own 1 (bm c)),(10,Y k)],Q8 a c.length⟩) (λk c e u=>V [[(10,oL a.bn k9)],[f0 (bG e)],[]] (gB uj 0 3 a.aP λv=>fa 2 [] [1,3,9,17] 2 (λb(f:I aL)=>⟨103,[(1,O (aS i)),(3,A0),(9,.own 1 (bm f)),(17,Y b)],Q8 a f.length⟩) (λb f g w=>gR [[(10,oL a.aP jM)],[f0 (bG g)],[]]) (λb h L f g w x=>au λl y=>V [[(10,oL a.aP jM)],[t0 (bD g)],[(13,cK asF y)],[]] (aY λz=>cF λA=>gb x (f++[(⟨h.ay,l.1⟩:aL)]) [[f0 z],[(13,oE (jn (aX g))),(31,oA sy f ([(⟨h.ay,l.1⟩:aL)]) A)],[(5,oq (bU g rfl v))]] g)))) (λk n M c e u B=>au λP C=>V [[(10,oL a.bn k9)],[t0 (bD e)],[(10,oE (oD (aX e)))],[(13,cK RC C)],[]] (aY λE=>au λQ F=>V [[f0 E],[(19,cK agP F)],[]] (aY λG=>au λo H=>cF λJ=>gb B (c++[(⟨n.ay,o.1⟩:aL)]) [[f0 G],[(10,cK Mb H)],[(19,oA sy c ([(⟨n.ay,o.1⟩:aL)]) J)],[(5,oq (bU e rfl t))]] e)))))))
def M6(N:Nat)(a:bo)(c:I aJ)(d:I aL):U ((I aL)×Int):=(GX N a c d).bind λb=>bif (b.2 !=0)then some ([],b.2)else bif (decide ((0:Int)<=(a.bn.length:Int)))then bif (decide (((a.bn.length:Int)).toNat<=b.1.length))then some (b.1.drop ((a.bn.length:Int)).toNat,(0:Int))else none else none
def ap1{N a b c}:KO 21 [c6 a,O (aS b),O (bm c)] (λr=>.bq [O (bm r.1),Y r.2]) (M6 N a b c):=
 fw func21 (au λe f=>V [[],[(10,cK agM f)],[]] (aY λg=>cF λh=>cF λi=>gR [[f0 g],[(10,oL a.bn k9),(13,⟨_,_,.Dx (xs:=bm e.1) (lo:=(a.bn.length:Int)) (U0 h) (by rw[oG];exact(U0 i)) Wa af0⟩)]]))
def Mh(N:Nat)(c:(I aL)×Int):I so->Nat->(I aL)->U ((I aL)×Int)
 |[],_,a=>some (a,(0:Int))
 |d::e,f,a=>(Ag N c.1 d).bind λb=>bif (Nat.ble ((a.length+1)*104) 140737488355328)then(λg=>Mh N c e (f+1) g) (a++[(⟨d,b.1⟩:aL)])else none
def Ov(N:Nat)(b:bo)(c:I aJ)(d:I aL):U ((I aL)×Int):=(GX N b c d).bind λa=>bif (a.2 !=0)then some ([],a.2)else Mh N a b.dC 0 []
def ahL{N b g h}:KO 23 [c6 b,O (aS g),O (bm h)] (λr=>.bq [O (bm r.1),Y r.2]) (Ov N b g h):=
 fw func23 (au λj k=>V [[],[(10,cK agM k)],[]] (aY λl=>V [[f0 l],[],[]] (li (λ_=>(lQ 10 56 8 [] (.inr (by kernel_rfl)) ·)) (gB iy 0 4 b.dC λn=>fa 1 [] [3,8,10,11] 2 (λf(c:I aL)=>⟨52,[(3,A0),(8,O (bm j.1)),(10,.own 1 (bm c)),(11,Y f)],Q8 b c.length⟩) (λf c a o=>gR [[(10,oL b.dC ft)],[f0 (bG a)],[]]) (λf i u c a o p=>au λe q=>cF λt=>gb p (c++[(⟨i,e.1⟩:aL)]) [[(10,oL b.dC ft)],[t0 (bD a)],[(13,oE (kp (aX a))),(19,cK Mb q)],[(13,oE (kp (aX a))),(28,oA sy c ([(⟨i,e.1⟩:aL)]) t)],[(5,oq (bU a rfl n))]] a)))))
def Kg(N:Nat)(a:I aL):I aL->Nat->U Bool
 |[],_=>some true
 |b::e,c=>(a[((c:Int)).toNat]?).bind λd=>(bif (bL b.ay==bL d.ay)then (ME N b.xTensor d.xTensor).bind λf=>some (!f)else some true).bind λg=>bif g then some false else(Kg N a e (c+1))
def II(N:Nat)(a:I aL)(b:I aL):U Bool:=bif ((a.length:Int) !=(b.length:Int))then some false else Kg N b a 0
def aaI{N a c}:KO 24 [O (bm a),O (bm c)] aA (II N a c):=
 fw func24 (V [[],[(4,oL a oG),(10,oL c oG)]] (eY λ_=>gT sy 0 a λi=>dN 1 [] [0,1,5] 0 (λe=>⟨42,[(0,O (bm a)),(1,O (bm c)),(5,Y e)],[]⟩) (λe b j=>gR [[(7,oL a oG)],[f0 (bG b)],[]]) (λe o p b j k=>V [[(7,oL a oG)],[t0 (bD b)]] (au λq g=>gG (λh=>[(41,aA h)]) (λ_=>[]) (cG (7,oE (pV (aX b))) (cG (22,oE (pV g)) (ax (λf=>au λr l=>gE [(11,bF (cx f))] [(43,oE (pV (aX b))),(58,oE (pV g)),(67,cK amv l)]) λf=>gE [(11,bT (dq f))] []))) λh=>aY λn=>gb k () [[f0 n],[(5,oq (bU b rfl i))]] b))))
def UK(N:Nat)(a:bo)(b:I aJ)(c:I aL):U Bool:=(NC N a b (8:Int64)).bind λi=>(bif i then (Ur N c).bind λj=>some (!j)else some true).bind λk=>bif k then(JD N).bind λl=>some l else(J8 N a b c).bind λg=>(M6 N a b c).bind λh=>(Fk N a b c).bind λd=>(Ov N a b c).bind λe=>(II N g.1 h.1).bind λf=>(bif f then(bif (g.2==h.2)then (II N d.1 e.1).bind λn=>(bif n then(bif (d.2==e.2)then (JD N).bind λo=>some o else some false)else some false)else some false)else some false).bind λp=>some p
def apr{N a i j}:KO 5 [c6 a,O (aS i),O (bm j)] aA (UK N a i j):=
 fw func5 (V [[]] (au λB n=>gG (λk=>[(23,aA k)]) (λ_=>(Mr a)) (cG (7,cK arN n) (ax (λb=>au λC o=>gE [(4,bF (cx b))] [(19,cK atp o)]) λb=>gE [(4,bT (dq b))] [])) λk=>ax (λc=>au λE p=>gR [[t0 c],[(1,cK atz p)]]) λc=>au λF q=>au λG r=>au λt u=>au λv w=>V [[f0 c],[(10,cK aj0 q)],[(10,cK ap1 r)],[(10,cK afk u)],[(10,cK ahL w)]] (au λx y=>gG (λl=>[(6,aA l)]) (λ_=>(Mr a)) (cG (7,cK aaI y) (ax (λe=>cm (3,bT e) (ax (λf=>au λH z=>cm (8,bT f) (cG (34,cK aaI z) (ax (λg=>cm (13,bT g) (ax (λh=>au λJ A=>gE [(18,bT h)] [(58,cK atz A)]) λh=>gE [(18,bF h)] [])) λg=>gE [(13,bF g),(18,bF rfl)] []))) λf=>gE [(8,bF f),(13,bF rfl),(18,bF rfl)] [])) λe=>gE [(3,bF e),(8,bF rfl),(13,bF rfl),(18,bF rfl)] [])) λl=>gR [])))
def Jj(b:so)(i:Nat):b[i]?=(bL b)[i]?:=by
 unfold bL;rw[ZP];by_cases h:i<b.size;{rw[getElem?_pos b i h,ZM (xs:=b.data) (by exact h)];rfl};{rw[getElem?_neg b i h,Array.getElem?_eq_none (xs:=b.data) (by exact Nat.le_of_not_lt h)]}
def uw(b:so):b.size=(bL b).length:=by unfold bL;rw[ZB];rfl
def K9{i:Nat}(h:i<9223372036854775807):aF ((i:Int)+1)=((i+1:Nat):Int):=by
 unfold aF;rw[br]<;>omega
def pJ(c:UInt8):Bool:=decide (97<=c.toNat)&&decide (c.toNat<=122)
def kS(c:UInt8):Bool:=pJ c||(decide (48<=c.toNat)&&decide (c.toNat<=57))||c.toNat==95
def wA(l:I UInt8):Bool:=pC.any λw=>bL w==l
def OW(l:I UInt8):Bool:=decide (1<=l.length)&&(decide (l.length<=16)&&(!wA l&&((l.take 1).all pJ&&l.all kS)))
def iI(s:so):Bool:=OW (bL s)
def ael(c:UInt8):IntKind.i32.wrap (c.toNat:Int)=(c.toNat:Int):=by
 have:=c.toNat_lt;rw[IntKind.wrap_i32]<;>omega
def ov{p q:Prop} [Decidable p] [Decidable q](h:p↔q):decide p=decide q:=decide_eq_decide.2 h
def iq(a b:Bool):(bif a then some b else some false)=some (a&&b):=by cases a<;>rfl
def kO(a b:Bool):(bif a then some true else some b)=some (a||b):=by cases a<;>rfl
def atK(N:Nat)(c:UInt8):GB N (c.toNat:Int)=some (pJ c):=by
 unfold GB pJ;rw[iq,re,ov (q:=97<=c.toNat) (by omega),ov (p:=(c.toNat:Int)<=122) (q:=c.toNat<=122) (by omega)]
def apZ(N:Nat)(c:UInt8):ML N (c.toNat:Int)=some (decide (48<=c.toNat)&&decide (c.toNat<=57)):=by
 unfold ML;rw[iq,re,ov (q:=48<=c.toNat) (by omega),ov (p:=(c.toNat:Int)<=57) (q:=c.toNat<=57) (by omega)]
def tG(n k:Nat):((n:Int)==(k:Int))=(n==k):=by
 rw[Bool.eq_iff_iff,Ua,Ua];omega
def alT(N:Nat)(c:UInt8):Pl N (c.toNat:Int)=some (kS c):=by
 unfold Pl kS;rw[atK,re,apZ,re];have:=tG c.toNat 95;rw[show(((c.toNat:Int)==95))=(c.toNat==95)from this,kO,kO,re,Bool.or_assoc]
def aeC(N:Nat)(s:so)(c:s.size<9223372036854775807):∀(k i:Nat),i<=s.size->s.size-i<k->Fy N s k (i:Int)=some ((i+(((bL s).drop i).takeWhile kS).length:Nat):Int)
 |0,i,_,d=>absurd d (ZG _)
 |k+1,i,h,d=>by
  rw[Fy];by_cases a:i<s.size
  ·have b:decide ((i:Int)<(s.size:Int))=true:=dO (by omega);have g:decide ((0:Int)<=(i:Int))=true:=dO (by omega);rw[b,g];simp only[Tq,ZK];have e:i<(bL s).length:=by rw[<-uw];exact a
   rw[Jj,Ze e,List.drop_eq_getElem_cons e,re,ael,alT,re,re];cases f:kS (bL s)[i]with
   |true=>
    simp only[Tq];rw[K9 (Nat.lt_trans a c),aeC N s c k (i+1) a (by omega),List.takeWhile_cons_of_pos f,Zl]
    congr 2;omega
   |false=>
    simp only[T6];rw[List.takeWhile_cons_of_neg (by rw[f];simp)];rfl
  ·have b:decide ((i:Int)<(s.size:Int))=false:=Zx (by omega);rw[b];simp only[T6,re];rw[List.drop_eq_nil_of_le (by rw[<-uw];omega)];rfl
def ak0(N:Nat)(s:so)(a:s.size<9223372036854775807)(b:s.size<N):OF N s=some ((((bL s).takeWhile kS).length:Nat):Int):=by
 unfold OF;have:=aeC N s a N 0 (Wv _) (by omega);rw[Yz,ZQ]at this;exact this
def atJ{α:Type}(p:α->Bool):∀l:I α,((l.takeWhile p).length==l.length)=l.all p
 |[]=>rfl
 |x::l=>by
  cases h:p x with
  |true=>
   rw[List.takeWhile_cons_of_pos h,ZE,h,Zt,<-atJ p l];simp
  |false=>rw[List.takeWhile_cons_of_neg (by rw[h];simp),ZE,h];simp
def Se(N:Nat)(v:so):∀(l:I so)(k:Nat),∃z:Int,MU N v l k=some z/\decide (z>=0)=l.any λw=>bL w==bL v
 |[],k=>⟨-1,rfl,rfl⟩
 |w::l,k=>by
  rw[MU,Ys];have a:(bL v==bL w)=(bL w==bL v):=by rw[Bool.eq_iff_iff,Ua,Ua];exact eq_comm
  cases h:bL v==bL w with
  |true=>rw[a]at h;exact⟨k,rfl,by rw[h,Bool.true_or];exact dO (by omega)⟩
  |false=>
   obtain⟨z,b,c⟩:=Se N v l (k+1);rw[a]at h;exact⟨z,b,by rw[h,b7];exact c⟩
def amP(N:Nat)(v:so):Ke N v=some (wA (bL v)):=by
 unfold Ke TM Bu Ki;obtain⟨z,a,b⟩:=Se N v pC 0;rw[re,a,re,re,b];rfl
def Qe{α:Type}{l:I α}(h:0<l.length):l.take 1=[l[0]]:=by
 cases l with
 |nil=>cases h
 |cons x l=>rfl
def vr:bL (bs [])=[]:=rfl
def Pn(N:Nat)(s:so)(g:16<N):AI N s=some (iI s):=by
 unfold AI iI OW;have d:=uw s;by_cases a:(bL s).length=0;{have:bL s=[]:=List.length_eq_zero_iff.1 a;rw[this];rfl}
 have e:(bL s==bL (bs []))=false:=by
  rw[vr,Tv];intro h;rw[h]at a;exact a rfl
 rw[e,dO (show 1<=(bL s).length by omega),Zt];simp only[T6];by_cases b:(bL s).length<=16
 ·rw[dO (show(s.size:Int)<=16 by omega),dO b,Zt];simp only[Tq];have c:0<(bL s).length:=by omega
  rw[Jj,Ze c,re,ael,atK,re,ak0 N s (by omega) (by omega),re,amP,re,d,tG,atJ];have f:(bL s).take 1=[(bL s)[0]]:=Qe c;rw[f,ZE,List.all_nil,Bool.and_true,iq,iq,re]
  congr 1
  cases wA (bL s)<;>cases pJ (bL s)[0]<;>cases (bL s).all kS<;>rfl
 ·rw[Zx (show ¬(s.size:Int)<=16 by omega),Zx b];rfl
def ajO(N:Nat)(b:Bool):jH N b=some b:=by cases b<;>rfl
def amF(a b:Bool):(bif a then some a else some b)=some (a||b):=by cases a<;>rfl
def aqw(a b:I UInt8):(a==b)=(b==a):=by rw[Bool.eq_iff_iff,Ua,Ua];exact eq_comm
def ao9(N:Nat)(v:so):KY N v=some (wA (bL v)):=by
 simp only[KY,ajO,amF,wA,pC,Ys,List.any_nil,Bool.or_false,aqw (bL v)]
def IZ(n k:Nat):decide ((n:Int)<(k:Int))= !decide (k<=n):=by
 by_cases h:k<=n;{rw[dO h,Zx (by omega)];rfl};{rw[Zx h,dO (by omega)];rfl}
def l9(n k:Nat):decide ((n:Int)>(k:Int))= !decide (n<=k):=by
 by_cases h:n<=k;{rw[dO h,Zx (by omega)];rfl};{rw[Zx h,dO (by omega)];rfl}
def aeV(n k:Nat):decide ((n:Int)>=(k:Int))=decide (k<=n):=ov (by omega)
def xU(n k:Nat):decide ((n:Int)<=(k:Int))=decide (n<=k):=ov (by omega)
def abi(n k:Nat):((n:Int) !=(k:Int))= !(n==k):=by unfold bne;rw[tG]
def ajA(c:UInt8):(bif (decide ((c.toNat:Int)<97))then(bif (decide ((c.toNat:Int)<48))then some ((c.toNat:Int) !=95)else(bif (decide ((c.toNat:Int)>57))then some ((c.toNat:Int) !=95)else some false))else(bif (decide ((c.toNat:Int)>122))then(bif (decide ((c.toNat:Int)<48))then some ((c.toNat:Int) !=95)else(bif (decide ((c.toNat:Int)>57))then some ((c.toNat:Int) !=95)else some false))else some false))=some (!kS c):=by
 have a:=IZ c.toNat 97;have b:=IZ c.toNat 48;have d:=l9 c.toNat 57;have e:=l9 c.toNat 122;have f:=abi c.toNat 95;simp only[Int.cast_ofNat_Int]at a b d e f;rw[a,b,d,e,f];unfold kS pJ;cases decide (97<=c.toNat)<;>cases decide (48<=c.toNat)<;>cases decide (c.toNat<=57)<;>cases decide (c.toNat<=122)<;>cases (c.toNat==95)<;>rfl
def abB(N:Nat)(s:so)(c:s.size<9223372036854775807):∀(k i:Nat),i<=s.size->s.size-i<k->DU N s k (i:Int)=some (((bL s).drop i).all kS)
 |0,i,_,d=>absurd d (ZG _)
 |k+1,i,g,d=>by
  rw[DU];by_cases a:i<s.size
  ·have b:decide ((i:Int)<(s.size:Int))=true:=dO (by omega);have f:decide ((0:Int)<=(i:Int))=true:=dO (by omega);rw[b,f];simp only[Tq,ZK];have e:i<(bL s).length:=by rw[<-uw];exact a
   rw[Jj,Ze e,List.drop_eq_getElem_cons e,re,ajA,re,ZE];cases h:kS (bL s)[i]with
   |true=>
    simp only[W1,T6,Zt];rw[K9 (Nat.lt_trans a c),abB N s c k (i+1) a (by omega)]
   |false=>rfl
  ·have b:decide ((i:Int)<(s.size:Int))=false:=Zx (by omega);rw[b];simp only[T6];rw[List.drop_eq_nil_of_le (by rw[<-uw];omega)];rfl
def ajz(N:Nat)(s:so)(j:16<N):KW N s=some (iI s):=by
 unfold KW iI OW;have f:=uw s;have a:=IZ s.size 1;have b:=l9 s.size 16;simp only[Int.cast_ofNat_Int]at a b;rw[a,b,f];cases g:decide (1<=(bL s).length)with
 |false=>rfl
 |true=>
  cases h:decide ((bL s).length<=16)with
  |false=>rfl
  |true=>
   have k:=U0 g;have i:=U0 h;have c:0<(bL s).length:=by omega
   simp only[W1,T6,Zt];rw[ao9,re,Jj,Ze c,re];have d:=IZ (bL s)[0].toNat 97;have e:=l9 (bL s)[0].toNat 122;simp only[Int.cast_ofNat_Int]at d e;rw[d,e,kO,kO,re,Qe c];have:=abB N s (by omega) N 0 (Wv _) (by omega);rw[Yz]at this;rw[show DU N s N 0=_ from this,ZE,List.all_nil,Bool.and_true];unfold pJ;cases wA (bL s)<;>cases decide (97<=(bL s)[0].toNat)<;>cases decide ((bL s)[0].toNat<=122)<;>rfl
def WQ(N:Nat)(v:so):∀(l:I so)(k:Nat),Pf N v l k=some (l.any λw=>bL w==bL v)
 |[],_=>rfl
 |w::l,k=>by
  rw[Pf,Ys,WQ N v l (k+1)];cases bL w==bL v<;>rfl
def ar8(c:UInt8)(z:Bool):(bif (decide ((c.toNat:Int)>=97))then(bif (decide ((c.toNat:Int)<=122))then some (!true)else(bif z then(bif (decide ((c.toNat:Int)>=48))then(bif (decide ((c.toNat:Int)<=57))then some (!true)else some (!((c.toNat:Int)==95)))else some (!((c.toNat:Int)==95)))else some (!false)))else(bif z then(bif (decide ((c.toNat:Int)>=48))then(bif (decide ((c.toNat:Int)<=57))then some (!true)else some (!((c.toNat:Int)==95)))else some (!((c.toNat:Int)==95)))else some (!false)))=some (!(bif z then kS c else pJ c)):=by
 have a:=aeV c.toNat 97;have b:=aeV c.toNat 48;have d:=xU c.toNat 57;have e:=xU c.toNat 122;have f:=tG c.toNat 95;simp only[Int.cast_ofNat_Int]at a b d e f;rw[a,b,d,e,f];unfold kS pJ;cases decide (97<=c.toNat)<;>cases decide (48<=c.toNat)<;>cases decide (c.toNat<=57)<;>cases decide (c.toNat<=122)<;>cases (c.toNat==95)<;>cases z<;>rfl
def atI(N:Nat)(s:so)(f:s.size<9223372036854775807):∀(k i:Nat),i<=s.size->s.size-i<k->Dm N s k (i:Int)=some (bif decide (i>0)then((bL s).drop i).all kS else((bL s).take 1).all pJ&&((bL s).drop 1).all kS)
 |0,i,_,g=>absurd g (ZG _)
 |k+1,i,j,g=>by
  rw[Dm];by_cases a:i<s.size
  ·have b:decide ((i:Int)<(s.size:Int))=true:=dO (by omega);have h:decide ((0:Int)<=(i:Int))=true:=dO (by omega);rw[b,h];simp only[Tq,ZK];have c:i<(bL s).length:=by rw[<-uw];exact a
   rw[Jj,Ze c,re,ar8,re,K9 (Nat.lt_trans a f),atI N s f k (i+1) a (by omega),dO (show i+1>0 by omega)];simp only[Tq];by_cases d:i=0;{subst d;rw[Zx (show ¬((0:Nat):Int)>0 by omega),Zx (show ¬0>0 by omega)];simp only[T6];rw[Qe c,ZE,List.all_nil,Bool.and_true];cases pJ (bL s)[0]<;>rfl};{rw[dO (show(i:Int)>0 by omega),dO (show i>0 by omega)];simp only[Tq];rw[List.drop_eq_getElem_cons c,ZE];cases kS (bL s)[i]<;>rfl}
  ·have b:decide ((i:Int)<(s.size:Int))=false:=Zx (by omega);rw[b];simp only[T6];have e:(bL s).drop i=[]:=List.drop_eq_nil_of_le (by rw[<-uw];omega);by_cases d:i=0
   ·subst d;rw[Yz]at e;rw[e];rfl
   ·rw[dO (show i>0 by omega),e];rfl
def JT(N:Nat)(s:so)(k:16<N):Ah N s=some (iI s):=by
 unfold Ah iI OW;have d:=uw s;have a:=IZ s.size 1;have b:=l9 s.size 16;simp only[Int.cast_ofNat_Int]at a b;rw[a,b,d];cases e:decide (1<=(bL s).length)with
 |false=>rfl
 |true=>
  cases f:decide ((bL s).length<=16)with
  |false=>rfl
  |true=>
   have n:=U0 e;have g:=U0 f;have c:0<(bL s).length:=by omega
   simp only[W1,T6,Zt];have h:∀l,vX N l s=some (l.any λw=>bL w==bL s):=λl=>WQ N s l 0;unfold QS;rw[re,h,re,re];have:=atI N s (by omega) N 0 (Wv _) (by omega);rw[show Dm N s N 0=_ from this];show(bif wA (bL s)then some false else some (((bL s).take 1).all pJ&&((bL s).drop 1).all kS))=_;have i:(bL s).all kS=(kS (bL s)[0]&&((bL s).drop 1).all kS):=by
    have j:bL s=(bL s)[0]::(bL s).drop 1:=by
     have:=List.drop_eq_getElem_cons c
     rwa [Yz]at this
    rw[<-ZE,<-j]
   rw[i,Qe c,ZE,List.all_nil,Bool.and_true];unfold kS;cases wA (bL s)<;>cases pJ (bL s)[0]<;>simp
def dz(t:aM):Bool:=bif t.bB==1||t.bB==3 then t.bW==0&&(t.ck==0&&(t.ct==0&&t.cC==0))else t.bB==2&&(decide (2<=t.bW)&&(decide (t.bW<=31)&&(decide (0<=t.ck)&&(decide (t.ck<=30)&&(decide (1<=t.ct)&&(decide (t.ct<=4)&&(t.cC==1||t.cC==2)))))))
def amj(a:Bool):(bif a then some true else some false)=some a:=by cases a<;>rfl
def Ut(a b:Int):decide (a<b)= !decide (b<=a):=by
 by_cases h:b<=a;{rw[dO h,Zx (by omega)];rfl};{rw[Zx h,dO (by omega)];rfl}
def Lo(a b:Int):decide (a>b)= !decide (a<=b):=Ut b a
def nD(a b:Int):decide (a>=b)=decide (b<=a):=rfl
def Ai(a b:Int):(a !=b)= !(a==b):=rfl
def sV(N:Nat)(t:aM):nq N t=some (dz t):=by
 unfold nq dz;simp only[kO,iq,re,nD];cases (t.bB==1||t.bB==3)<;>rfl
def Um(N:Nat)(t:aM)(h:(t.bB==2)=true):xH N t=some (bif (decide (2<=t.bW)&&(decide (t.bW<=31)&&(decide (0<=t.ck)&&(decide (t.ck<=30)&&(decide (1<=t.ct)&&(decide (t.ct<=4)&&(t.cC==1||t.cC==2)))))))then 0 else 10):=by
 unfold xH;simp only[kO,iq,re,nD,Lo,Ai,h,W1,b7];cases decide (2<=t.bW)<;>cases decide (t.bW<=31)<;>cases decide (0<=t.ck)<;>cases decide (t.ck<=30)<;>cases decide (1<=t.ct)<;>cases decide (t.ct<=4)<;>cases t.cC==1<;>cases t.cC==2<;>rfl
def rf(N:Nat)(t:aM):nF N t=some (bif dz t then 0 else 10):=by
 unfold nF KT dz QE;cases b:t.bB==1 with
 |true=>
  simp only[Tq,re,Z7,Zt,Bool.true_or,Bool.and_true];cases (t.bW==0&&(t.ck==0&&(t.ct==0&&t.cC==0)))<;>rfl
 |false=>
  cases c:t.bB==3 with
  |true=>
   simp only[Tq,T6,re,Z7,Zt,Bool.or_true,Bool.and_true];cases (t.bW==0&&(t.ck==0&&(t.ct==0&&t.cC==0)))<;>rfl
  |false=>
   cases a:t.bB==2 with
   |true=>
    rw[Um N t a];simp only[Tq,T6,re,Zt,Bool.or_false];cases (decide (2<=t.bW)&&(decide (t.bW<=31)&&(decide (0<=t.ck)&&(decide (t.ck<=30)&&(decide (1<=t.ct)&&(decide (t.ct<=4)&&(t.cC==1||t.cC==2)))))))<;>rfl
   |false=>rfl
def w9:U so->I dX->Bool
 |_,[]=>true
 |p,m::l=>iI m.ay&&(!(m.eW.toInt==0)&&((match p with|none=>true|some q=>Op.bytesLess (bL q) (bL m.ay))&&w9 (some m.ay) l))
def aeZ(p:U so)(m:dX)(l:I dX):w9 p (m::l)=(iI m.ay&&(!(m.eW.toInt==0)&&((match p with|none=>true|some q=>Op.bytesLess (bL q) (bL m.ay))&&w9 (some m.ay) l))):=by cases p<;>rfl
def jO(x:bE):Bool:=w9 none x.xL
def vj(x:bE)(k:Nat):U so:=bif k==0 then none else(x.xL[k-1]?).map (·.ay)
def as1{k:Nat}(a:0<k)(h:k<=maxLen):aF ((k:Int)-1)=((k-1:Nat):Int):=by
 unfold aF;have:(k:Int)-1=((k-1:Nat):Int):=by omega
 rw[this];unfold maxLen at h;rw[br]<;>omega
def ab7{x:bE}{k:Nat}{m:dX}{l:I dX}(a:x.xL.drop k=m::l):vj x (k+1)=some m.ay:=by
 have:=aX a;unfold vj;simp [this]
def aeO{x:bE}{k:Nat}{m:dX}{l:I dX}(b:x.xL.drop k=m::l)(e:x.xL.length<=maxLen):
 (bif (decide ((k:Int)>0))then bif (decide ((0:Int)<=(aF ((k:Int)-(1:Int)))))then
 (x.xL[(aF ((k:Int)-(1:Int))).toNat]?).bind λc=>
 some (!(Op.bytesLess (bL c.ay) (bL m.ay)))
 else none else some false)=some (!(match vj x k with|none=>true|some q=>Op.bytesLess (bL q) (bL m.ay))):=by
 have f:k<x.xL.length:=(Zo.1 (aX b)).1;by_cases a:k=0;{subst a;rfl}
 ·rw[dO (show(k:Int)>0 by omega),as1 (by omega) (by omega),dO (show(0:Int)<=((k-1:Nat):Int) by omega)];simp only[Tq,ZK];have d:vj x k=(x.xL[k-1]?).map (·.ay):=by
    unfold vj;rw[WB a];rfl
  rw[d,Ze (show k-1<x.xL.length by omega)];rfl
def agd(N:Nat)(c:16<N)(x:bE)(d:x.xL.length<=maxLen):∀(l:I dX)(k:Nat),x.xL.drop k=l->PH N x l k=some (bif w9 (vj x k) l then 0 else 1)
 |[],k,_=>rfl
 |m::l,k,a=>by
  rw[PH,ajz N m.ay c,re,aeZ,aeO a d,agd N c x d l (k+1) (kM a),ab7 a];generalize (match vj x k with|none=>true|some q=>Op.bytesLess (bL q) (bL m.ay))=b;cases iI m.ay<;>cases (m.eW.toInt==0)<;>cases b<;>cases w9 (some m.ay) l<;>rfl
def Pd(N:Nat)(a:16<N)(x:bE)(b:x.xL.length<=maxLen):Du N x=some (bif jO x then 0 else 1):=agd N a x b x.xL 0 rfl
def afm(N:Nat)(c:16<N)(x:bE)(d:x.xL.length<=maxLen):∀(l:I dX)(k:Nat),x.xL.drop k=l->J4 N x l k=some (w9 (vj x k) l)
 |[],k,_=>rfl
 |m::l,k,a=>by
  rw[J4,JT N m.ay c,re,aeZ,aeO a d,afm N c x d l (k+1) (kM a),ab7 a];generalize (match vj x k with|none=>true|some q=>Op.bytesLess (bL q) (bL m.ay))=b;cases iI m.ay<;>cases (m.eW.toInt==0)<;>cases b<;>cases w9 (some m.ay) l<;>rfl
def E9(N:Nat)(a:16<N)(x:bE)(b:x.xL.length<=maxLen):xn N x=some (jO x):=afm N a x b x.xL 0 rfl
def dI(t:aM)(v:aB):Bool:=bif t.bB==2 then v.xD.toInt==1&&(decide (-(2^(t.bW-1).toNat)<=v.xN.toInt)&&decide (v.xN.toInt<2^(t.bW-1).toNat))else decide (v.xN.toInt<=2147483647)&&(decide (-2147483647<=v.xN.toInt)&&(decide (1<=v.xD.toInt)&&(decide (v.xD.toInt<=2147483647)&& (bif t.bB==3 then v.xD.toInt==1 else Nat.gcd v.xN.toInt.natAbs v.xD.toInt.toNat==1))))
def amt:∀n:Fin 30,(decide ((0:Int)<=(u64.wrap (aF (((n.val+2:Nat):Int)-(1:Int))))))=true/\(decide ((0:Int)<=(aF (((n.val+2:Nat):Int)-(1:Int)))))=true/\
 (-(Int64.ofInt ((1:Int)*2^(min (u64.wrap (aF (((n.val+2:Nat):Int)-(1:Int)))).toNat (IntKind.bits .i64))))).toInt= -(2^(n.val+1))/\
 ((Int64.ofInt ((1:Int)*2^(min (u64.wrap (aF (((n.val+2:Nat):Int)-(1:Int)))).toNat (IntKind.bits .i64))))-(1:Int64)).toInt=2^(n.val+1)-1/\
 (-(Int64.ofInt ((1:Int)*2^(min (aF (((n.val+2:Nat):Int)-(1:Int))).toNat (IntKind.bits .i64))))).toInt= -(2^(n.val+1))/\
 (Int64.ofInt ((1:Int)*2^(min (aF (((n.val+2:Nat):Int)-(1:Int))).toNat (IntKind.bits .i64)))).toInt=2^(n.val+1):=by decide+kernel
def Km{b:Int}(h1:2<=b)(a:b<=31):(decide ((0:Int)<=(u64.wrap (aF (b-(1:Int))))))=true/\(decide ((0:Int)<=(aF (b-(1:Int)))))=true/\
 (-(Int64.ofInt ((1:Int)*2^(min (u64.wrap (aF (b-(1:Int)))).toNat (IntKind.bits .i64))))).toInt= -(2^(b-1).toNat)/\
 ((Int64.ofInt ((1:Int)*2^(min (u64.wrap (aF (b-(1:Int)))).toNat (IntKind.bits .i64))))-(1:Int64)).toInt=2^(b-1).toNat-1/\
 (-(Int64.ofInt ((1:Int)*2^(min (aF (b-(1:Int))).toNat (IntKind.bits .i64))))).toInt= -(2^(b-1).toNat)/\
 (Int64.ofInt ((1:Int)*2^(min (aF (b-(1:Int))).toNat (IntKind.bits .i64)))).toInt=2^(b-1).toNat:=by
 obtain⟨n,rfl⟩:∃n:Nat,b=n:=⟨b.toNat,by omega⟩;have:=amt ⟨n-2,by omega⟩;simp only[show n-2+2=n by omega,show n-2+1=n-1 by omega]at this;rw[show((n:Int)-1).toNat=n-1 by omega];exact this
def MQ(N:Nat):∀(k a b:Nat),b<k->Jw N k (a:Int) (b:Int)=some ((Nat.gcd a b:Nat):Int)
 |0,a,b,h=>absurd h (ZG _)
 |k+1,a,b,h=>by
  rw[Jw];by_cases c:b=0;{subst c;simp};{rw[show(((b:Nat):Int) !=0)=true by rw[Ue];omega];simp only[Tq];rw[<-Int.ofNat_tmod,MQ N k b (a%b) (by have:=Nat.mod_lt a (Nat.pos_of_ne_zero c);omega),Nat.gcd_comm a b,Nat.gcd_rec b a,Nat.gcd_comm]}
def afi(N:Nat):∀(k:Nat)(a b:Int64),0<=a.toInt->0<=b.toInt->b.toInt.toNat<k->∃g:Int64,Gz N k a b=some g/\g.toInt=((Nat.gcd a.toInt.toNat b.toInt.toNat:Nat):Int)
 |0,a,b,_,_,h=>absurd h (ZG _)
 |k+1,a,b,p,i,h=>by
  rw[Gz];by_cases e:b.toInt=0;{rw[e];refine⟨a,rfl,?_⟩;show a.toInt=((Nat.gcd a.toInt.toNat 0:Nat):Int);rw[Nat.gcd_zero_right];omega}
  ·rw[show(b.toInt !=0)=true by rw[Ue];exact e];simp only[Tq];obtain⟨x,j⟩:∃x:Nat,a.toInt=x:=⟨a.toInt.toNat,by omega⟩;obtain⟨y,f⟩:∃y:Nat,b.toInt=y:=⟨b.toInt.toNat,by omega⟩;rw[j,f];have c:0<y:=by omega
   have l:(x:Int).tmod (y:Int)=((x%y:Nat):Int):=(Int.ofNat_tmod x y).symm;have q:=Nat.mod_lt x c;have r:b.toInt<2^63:=Int64.toInt_lt b;have d:(Int64.ofInt ((x%y:Nat):Int)).toInt=((x%y:Nat):Int):=by
    rw[Int64.toInt_ofInt_of_le];{omega};{omega}
   rw[l];obtain⟨g,n,o⟩:=afi N k b (Int64.ofInt ((x%y:Nat):Int)) i (by rw[d];omega) (by rw[d];omega);refine⟨g,n,?_⟩;rw[o,d,f];simp only[ZK];rw[Nat.gcd_comm x y,Nat.gcd_rec y x,Nat.gcd_comm]
def mg(z:Int):u64.wrap z=z%18446744073709551616:=rfl
def Ih(N:Nat)(v:Int64):DJ N v=some ((v.toInt.natAbs:Nat):Int):=by
 unfold DJ;have a:v.toInt<2^63:=Int64.toInt_lt v;have b: -2^63<=v.toInt:=Int64.le_toInt v;by_cases h:v.toInt<0
 ·rw[dO h];simp only[Tq,mg]
  congr 1
  omega
 ·rw[Zx h];simp only[T6,mg]
  congr 1
  omega
def rE(N:Nat)(o:2147483648<N)(t:aM)(v:aB)(a:dz t=true):nM N t v=some (dI t v):=by
 unfold nM;rw[rf,a,re];unfold dI;cases c:t.bB==2 with
 |true=>
  simp only[Tq];show Option.bind (tO N t v) _=_;unfold dz at a;have g:t.bB=2:=by simpa using c
  rw[g]at a;have b:(decide (2<=t.bW)&&(decide (t.bW<=31)&&(decide (0<=t.ck)&&(decide (t.ck<=30)&&(decide (1<=t.ct)&&(decide (t.ct<=4)&&(t.cC==1||t.cC==2)))))))=true:=a;unfold tO;rw[Um N t c,b,re];simp only[Zr,UR]at b;obtain⟨d,e,_⟩:=b;obtain⟨h,r,i,j,u,w⟩:=Km d e;unfold FU GV Cb;rw[iq,re,re,nD,dO d,dO e];simp only[Bool.and_self,Tq];rw[h];simp only[Tq,re];rw[i,j,nD,iq,ov (p:=v.xN.toInt<=2^(t.bW-1).toNat-1) (q:=v.xN.toInt<2^(t.bW-1).toNat) (by omega)];cases (v.xD.toInt==1)<;>rfl
 |false=>
  simp only[T6];show(bif t.bB==3 then _ else _)=_;cases x:t.bB==3 with
  |true=>
   simp only[Tq];unfold qY;rw[nD,iq,re,re];by_cases f:v.xD.toInt=1;{rw[f];simp only[Z7,Tq,re,show decide ((1:Int)<=1)=true from rfl,show decide ((1:Int)<=2147483647)=true from rfl,Bool.and_true];rw[Bool.and_comm]};{rw[WB f];simp only[T6,re,Bool.and_false]}
  |false=>
   simp only[T6];unfold lI Rt;rw[nD,nD,iq,re,re,Ih,re];cases k:decide (1<=v.xD.toInt)with
   |false=>cases decide (v.xN.toInt<=2147483647)<;>cases decide (-2147483647<=v.xN.toInt)<;>rfl
   |true=>
    cases l:decide (v.xD.toInt<=2147483647)with
    |false=>cases decide (v.xN.toInt<=2147483647)<;>cases decide (-2147483647<=v.xN.toInt)<;>rfl
    |true=>
     have y:=U0 k;have z:=U0 l;have n:u64.wrap v.xD.toInt=((v.xD.toInt.toNat:Nat):Int):=by rw[mg];omega
     simp only[Tq,Zt];rw[n];unfold DA;rw[MQ N N v.xN.toInt.natAbs v.xD.toInt.toNat (by omega),re,show((((Nat.gcd v.xN.toInt.natAbs v.xD.toInt.toNat:Nat):Int))==1)=(Nat.gcd v.xN.toInt.natAbs v.xD.toInt.toNat==1)from tG _ 1,iq,re];cases decide (v.xN.toInt<=2147483647)<;>cases decide (-2147483647<=v.xN.toInt)<;>rfl
def su(N:Nat)(w:2147483648<N)(t:aM)(v:aB)(a:dz t=true):nH N t v=some (dI t v):=by
 unfold nH dI;cases d:t.bB==2 with
 |true=>
  simp only[Tq];unfold dz at a;have e:t.bB=2:=by simpa using d
  rw[e]at a;have b:(decide (2<=t.bW)&&(decide (t.bW<=31)&&(decide (0<=t.ck)&&(decide (t.ck<=30)&&(decide (1<=t.ct)&&(decide (t.ct<=4)&&(t.cC==1||t.cC==2)))))))=true:=a;simp only[Zr,UR]at b;obtain⟨f,h,_⟩:=b;obtain⟨x,i,y,z,j,k⟩:=Km f h;rw[i];simp only[Tq];rw[j,k,nD,iq,iq,re]
 |false=>
  simp only[T6,Lo,kO,re];cases l:decide (v.xN.toInt<=2147483647)with
  |false=>rfl
  |true=>
   cases n:decide (-2147483647<=v.xN.toInt)with
   |false=>rfl
   |true=>
    cases o:decide (1<=v.xD.toInt)with
    |false=>rfl
    |true=>
     cases p:decide (v.xD.toInt<=2147483647)with
     |false=>rfl
     |true=>
      have A:=U0 l;have B:=U0 n;have C:=U0 o;have E:=U0 p;simp only[W1,Bool.or_false,T6,Zt];cases F:t.bB==3 with
      |true=>rfl
      |false=>
       simp only[T6];have q:(-v.xN).toInt= -v.xN.toInt:=by
        rw[Int64.toInt_neg];rw[Int.bmod_eq_of_le]<;>omega
       have c:(rj v.xN (-v.xN)).toInt=((v.xN.toInt.natAbs:Nat):Int):=by
        rw[<-adL,q];split<;>omega
       unfold SV;obtain⟨g,r,u⟩:=afi N N (rj v.xN (-v.xN)) v.xD (by rw[c];omega) (by omega) (by omega);rw[r,re,u,c,ZK,show((((Nat.gcd v.xN.toInt.natAbs v.xD.toInt.toNat:Nat):Int))==1)=(Nat.gcd v.xN.toInt.natAbs v.xD.toInt.toNat==1)from tG _ 1]
def tJ(n:Int):Bool:=decide (-9223372036854775808<=n)&&decide (n<=9223372036854775807)
def qa{n:Int}:tJ n=true↔-9223372036854775808<=n/\n<=9223372036854775807:=by
 unfold tJ;rw[Zr,decide_eq_true_iff,decide_eq_true_iff]
def amT(n:Int64):tJ n.toInt=true:=by
 rw[qa];have a:=n.le_toInt;have b:=n.toInt_lt;omega
def same(a b:so):Bool:=bL a==bL b
def lt(a b:so):Bool:=Op.bytesLess (bL a) (bL b)
def agX{a b:so}(h:(bL a)=(bL b)):a=b:=by
 unfold bL at h;have:a.data=b.data:=Array.toList_inj.mp h;cases a;cases b;simp_all
def R5{a b:so}:same a b=true↔a=b:=by
 unfold same;rw[Ua];exact⟨agX,λh=>by rw[h]⟩
def alD{a b:so}:same a b=false↔a≠b:=by
 rw[<-Uq,R5]
def aes:∀(x y:I UInt8),Op.bytesLess x y=decide (x<y)
 |[],[]=>by simp [Op.bytesLess]
 |_::_,[]=>by simp [Op.bytesLess]
 |[],_::_=>by simp [Op.bytesLess]
 |a::x,b::y=>by
  rw[Op.bytesLess,aes x y];simp only[List.cons_lt_cons_iff];by_cases h:a<b<;>by_cases c:a=b<;>simp_all
def Qb{a b:so}:lt a b=true↔(bL a)<(bL b):=by unfold lt;rw[aes];simp
def WM(a:so):lt a a=false:=by
 rw[<-Uq,Qb];exact List.lt_irrefl (bL a)
def ag0{a b c:so}(h1:lt a b=true)(d:lt b c=true):lt a c=true:=by
 rw[Qb]at*;exact List.lt_trans h1 d
def aqS{a b:so}(h1:lt a b=false)(c:lt b a=false):a=b:=by
 rw[<-Uq,Qb]at*;exact agX (List.le_antisymm (List.not_lt.mp c) (List.not_lt.mp h1))
def bub:I so->so->I so
 |[],s=>[s]
 |x::l,s=>if lt s x then x::bub l s else s::x::l
def j6(l:I so)(s:so):I so:=if l.any (same · s)then l else(bub l.reverse s).reverse
set_option linter.unusedSimpArgs false
def lg(l:bE):Prop:=l.xL.length<=maxLen
structure atH(x:c8):Prop where
 nT:lg x.bN
 at_:∀l∈x.cQ,lg l
structure DX(e:az):Prop where
 nT:lg e.bN
 idx:∀x∈e.xIdx,atH x
 args:e.bS.length<=maxLen
def oz(e:az):Prop:=∀x∈dQ e,DX x
def yj(l:bE):Bool:=l.xK.toInt==0&&l.xL.length==0
def sA(x:c8):Bool:=bif bL x.de==[]then x.cQ.length==0 else yj x.bN
def Lq(v:aB):Bool:=v.xN.toInt==0&&v.xD.toInt==0
def L5(t:aM):Bool:=t.bB==0&&(t.bW==0&&(t.ck==0&&(t.ct==0&&t.cC==0)))
def qE(e:az):Bool:=decide (1<=e.aD)&&(decide (e.aD<=18)&&((e.aD==1||Lq e.dP)&&((e.aD==1||(e.aD==12||L5 e.aH))&&((e.aD==2||yj e.bN)&&((e.aD==3||(bL e.ay==[]&&e.xIdx.length==0))&&e.xIdx.all sA)))))
def tK(e:az):Bool:=(!(e.aD==3)||iI e.ay)&&e.xIdx.all λx=>bL x.de==[]||iI x.de
def py(op:Int):Int:=bif op==1||(op==2||op==3)then 0 else bif op==8||(op==12||op==18)then 1 else bif op==11 then 3 else 2
def qI(e:az):Bool:=(e.bS.length:Int)==py e.aD&&(decide (e.xIdx.length<=6)&&e.xIdx.all λx=>decide (x.cQ.length<=6))
def fq(e:az):Bool:=decide (13<=e.aD)&&decide (e.aD<=18)
def jT(op:Int)(i:Nat):Bool:=(op==11&&i==0)||(op==16||(op==17||op==18))
def xd(b:Int):Nat->I az->Bool
 |_,[]=>true
 |i,a::l=>fq a==jT b i&&xd b (i+1) l
def pg(e:az):Bool:=(!(e.aD==1||e.aD==12)||dz e.aH)&&xd e.aD 0 e.bS
def wL(e:az):Bool:=(!(e.aD==1)||dI e.aH e.dP)&&(qp e).all jO
def oI(e:az):Int:=bif qE e then bif tK e then bif qI e then bif pg e then bif wL e then 0 else 1 else 10 else 11 else 7 else 5
def xc(n:Nat):((n:Int)==0)=(n==0):=tG n 0
def PB(n:Nat):decide ((n:Int)>0)= !(n==0):=by
 by_cases h:n=0;{subst h;rfl};{rw[dO (show(n:Int)>0 by omega),WB h];rfl}
def atG(N:Nat)(l:bE):Jx N l=some (yj l):=by
 unfold Jx yj;rw[iq,re,xc]
def aoI(N:Nat)(x:c8):Ko N x=some (sA x):=by
 unfold Ko sA;rw[atG,re,xc,vr];cases bL x.de==[]<;>rfl
def Tu{α:Type}(f:α->Bool)(l:I α):(l.any λx=> !f x)= !l.all f:=by
 induction l with
 |nil=>rfl
 |cons x l a=>rw[Ys,ZE,a];cases f x<;>rfl
def aev(N:Nat):∀(l:I c8)(k:Nat),∃z:Int,OJ N l k=some z/\decide (z>=0)=l.any λx=> !sA x
 |[],k=>⟨-1,rfl,rfl⟩
 |x::l,k=>by
  rw[OJ,Ys];unfold S3;rw[aoI,re,re];cases h: !sA x with
  |true=>exact⟨k,rfl,dO (by omega)⟩
  |false=>exact aev N l (k+1)
def ajD(N:Nat)(l:I c8):LY N l=some (!l.all sA):=by
 unfold LY S7;obtain⟨z,a,b⟩:=aev N l 0;rw[a,re,b,Tu]
def atF(v:aB):((v.xN.toInt==(0:Int64).toInt)&&((v.xD.toInt==(0:Int64).toInt)&&true))=Lq v:=by rw[Bool.and_true];rfl
def at7(t:aM):((t.bB==0)&&((t.bW==0)&&((t.ck==0)&&((t.ct==0)&&((t.cC==0)&&true)))))=L5 t:=by rw[Bool.and_true];rfl
def uJ(a b:Bool):(bif a then some false else some b)=some (!a&&b):=by cases a<;>rfl
def at6(a b:Bool):(bif a then some b else some true)=some (!a||b):=by cases a<;>rfl
def ahb(N:Nat)(e:az):JS N e=some (qE e):=by
 unfold JS qE;simp only[PB];simp only[kO,iq,uJ,at6,re,Lo,Ut,atG,ajD,atF,at7,vr];cases decide (1<=e.aD)<;>cases decide (e.aD<=18)<;>cases e.aD==1<;>cases Lq e.dP<;>cases e.aD==12<;>cases L5 e.aH<;>cases e.aD==2<;>cases yj e.bN<;>cases e.aD==3<;>cases bL e.ay==[]<;>cases e.xIdx.length==0<;>cases e.xIdx.all sA<;>rfl
def aed(N:Nat):∀(l:I c8)(k:Nat),Nh N l k=some (l.all sA)
 |[],_=>rfl
 |x::l,k=>by
  rw[Nh,ZE,aed N l (k+1)];unfold sA yj;simp only[kO,amj,iq,re,PB,Ai,vr];cases bL x.de==[]<;>cases x.cQ.length==0<;>cases x.bN.xK.toInt==0<;>cases x.bN.xL.length==0<;>rfl
def alm(N:Nat)(e:az):NJ N e=some (qE e):=by
 unfold NJ qE;simp only[PB];simp only[kO,iq,uJ,at6,re,Lo,Ut,Ai,aed,atF,at7,vr];unfold yj;cases decide (1<=e.aD)<;>cases decide (e.aD<=18)<;>cases e.aD==1<;>cases Lq e.dP<;>cases e.aD==12<;>cases L5 e.aH<;>cases e.aD==2<;>cases e.bN.xK.toInt==0<;>cases e.bN.xL.length==0<;>cases e.aD==3<;>cases bL e.ay==[]<;>cases e.xIdx.length==0<;>cases e.xIdx.all sA<;>rfl
def aku(N:Nat)(a:16<N)(x:c8):PN N x=some (!(bL x.de==[]||iI x.de)):=by
 unfold PN;rw[Pn N _ a,re,uJ,re,vr];cases bL x.de==[]<;>rfl
def at5(N:Nat)(a:16<N):∀(l:I c8)(k:Nat),∃z:Int,PO N l k=some z/\decide (z>=0)=l.any λx=> !(bL x.de==[]||iI x.de)
 |[],k=>⟨-1,rfl,rfl⟩
 |x::l,k=>by
  rw[PO,Ys,aku N a,re];cases h: !(bL x.de==[]||iI x.de)with
  |true=>exact⟨k,rfl,dO (by omega)⟩
  |false=>exact at5 N a l (k+1)
def alE(N:Nat)(a:16<N)(e:az):PK N e=some (tK e):=by
 unfold PK tK Q5 RT;obtain⟨z,b,c⟩:=at5 N a e.xIdx 0;rw[Pn N _ a,re,b];simp only[re,c,Tu,iq,uJ];cases e.aD==3<;>cases iI e.ay<;>cases (e.xIdx.all λx=>bL x.de==[]||iI x.de)<;>rfl
def at4(N:Nat)(a:16<N):∀(l:I c8)(k:Nat),KM N l k=some (l.all λx=>bL x.de==[]||iI x.de)
 |[],_=>rfl
 |x::l,k=>by
  rw[KM,ZE,at4 N a l (k+1),JT N _ a,re,uJ,re,uJ,vr];cases bL x.de==[]<;>cases iI x.de<;>rfl
def atc(N:Nat)(a:16<N)(e:az):OP N e=some (tK e):=by
 unfold OP tK;rw[JT N _ a,re,at4 N a];simp only[re,iq,uJ];cases e.aD==3<;>cases iI e.ay<;>rfl
def acG(N:Nat):∀(l:I c8)(k:Nat),∃z:Int,N7 N l k=some z/\decide (z>=0)=l.any λx=> !decide (x.cQ.length<=6)
 |[],k=>⟨-1,rfl,rfl⟩
 |x::l,k=>by
  rw[N7,Ys];unfold S9;rw[re,show decide ((x.cQ.length:Int)>6)= !decide (x.cQ.length<=6)from l9 _ 6];cases h: !decide (x.cQ.length<=6)with
  |true=>exact⟨k,rfl,dO (by omega)⟩
  |false=>exact acG N l (k+1)
def akS(N:Nat)(a:Int):Ly N a=some (py a):=by
 unfold Ly Iw Jr py;cases a==1<;>cases a==2<;>cases a==3<;>cases a==8<;>cases a==12<;>cases a==18<;>cases a==11<;>rfl
def ag8(N:Nat)(a:Int):NF N a=some (py a):=by
 unfold NF EG Ek py;cases a==1<;>cases a==2<;>cases a==3<;>cases a==8<;>cases a==12<;>cases a==18<;>cases a==11<;>rfl
def am6(N:Nat)(e:az):MI N e=some (qI e):=by
 unfold MI qI VU Q4;obtain⟨z,a,b⟩:=acG N e.xIdx 0;rw[akS,re,a,show decide ((e.xIdx.length:Int)>6)= !decide (e.xIdx.length<=6)from l9 _ 6];simp only[re,b,Tu,kO,uJ,Ai];cases (e.bS.length:Int)==py e.aD<;>cases decide (e.xIdx.length<=6)<;>cases (e.xIdx.all λx=>decide (x.cQ.length<=6))<;>rfl
def aeq(N:Nat):∀(l:I c8)(k:Nat),Nb N l k=some (l.all λx=>decide (x.cQ.length<=6))
 |[],_=>rfl
 |x::l,k=>by
  rw[Nb,ZE,aeq N l (k+1),show decide ((x.cQ.length:Int)>6)= !decide (x.cQ.length<=6)from l9 _ 6];cases decide (x.cQ.length<=6)<;>rfl
def anN(N:Nat)(e:az):Lu N e=some (qI e):=by
 unfold Lu qI;rw[ag8,re,aeq,show decide ((e.xIdx.length:Int)>6)= !decide (e.xIdx.length<=6)from l9 _ 6];simp only[re,kO,uJ,Ai];cases (e.bS.length:Int)==py e.aD<;>cases decide (e.xIdx.length<=6)<;>rfl
def ab0(N:Nat)(e:az):DI N e=some (fq e):=by
 unfold DI fq;rw[iq,re]
def M1(N:Nat)(e:az):IV N e=some (fq e):=by
 unfold IV fq;rw[nD,iq,re]
def asJ(N:Nat)(a:Int)(i:Nat):M5 N a (i:Int)=some (jT a i):=by
 unfold M5 EI jT;rw[xc];cases a==16<;>cases a==17<;>cases a==18<;>cases a==11<;>cases i==0<;>rfl
def amM(N:Nat)(a:Int)(i:Nat):Po N a (i:Int)=some (jT a i):=by
 unfold Po jT;rw[xc];cases a==16<;>cases a==17<;>cases a==18<;>cases a==11<;>cases i==0<;>rfl
def at3(N:Nat)(e:az):∀(l:I az)(i:Nat),Ni N e l i=some (xd e.aD i l)
 |[],_=>rfl
 |a::l,i=>by
  rw[Ni,xd,ab0,re,asJ,re,at3 N e l (i+1)];cases fq a==jT e.aD i<;>rfl
def ab3(N:Nat)(e:az):∀(l:I az)(i:Nat),Mo N e l i=some (xd e.aD i l)
 |[],_=>rfl
 |a::l,i=>by
  rw[Mo,xd,M1,re,amM,re,ab3 N e l (i+1)];cases fq a==jT e.aD i<;>rfl
def as5(b:Bool):((bif b then(0:Int)else 10) !=0)= !b:=by cases b<;>rfl
def anW(N:Nat)(e:az):Mc N e=some (pg e):=by
 unfold Mc pg;rw[rf,re,at3];simp only[as5];cases e.aD==1<;>cases e.aD==12<;>cases dz e.aH<;>rfl
def ahj(N:Nat)(e:az):PZ N e=some (pg e):=by
 unfold PZ pg;rw[sV,re,ab3];cases e.aD==1<;>cases e.aD==12<;>cases dz e.aH<;>rfl
def aiX(b:Bool):((bif b then(0:Int)else 1) !=0)= !b:=by cases b<;>rfl
def abE(N:Nat)(a:16<N):∀l:I bE,(∀x∈l,lg x)->xM N l=some (bif l.all jO then 0 else 1)
 |[],_=>rfl
 |x::l,h=>by
  rw[xM,Pd N a x (h x Zq),re,aiX,abE N a l (λy b=>h y (Zg _ b)),ZE];cases jO x<;>rfl
def abT(N:Nat)(a:16<N)(c:Bool):∀(l:I bE)(k:Nat),(∀x∈l,lg x)->PY N (some c) l k=some (l.all jO&&c)
 |[],_,_=>rfl
 |x::l,k,h=>by
  rw[PY,E9 N a x (h x Zq),re,abT N a c l (k+1) (λy b=>h y (Zg _ b)),ZE];cases jO x<;>rfl
def afh(N:Nat)(a:16<N):∀(l:I c8)(k:Nat),(∀x∈l,atH x)->N3 N l k=some ((l.flatMap yr).all jO)
 |[],_,_=>rfl
 |x::l,k,h=>by
  have b:=h x Zq;rw[N3,E9 N a _ b.nT,re,afh N a l (k+1) (λy c=>h y (Zg _ c)),abT N a _ _ _ b.at_,List.flatMap_cons,yr,List.cons_append,ZE,List.all_append];cases jO x.bN<;>rfl
def ak9{e:az}(h:DX e):∀x∈qp e,lg x:=by
 intro x a;unfold qp at a;rcases Za.1 a with rfl|a
 ·exact h.nT
 ·obtain⟨y,b,a⟩:=List.mem_flatMap.1 a;unfold yr at a;rcases Za.1 a with rfl|a
  ·exact(h.idx y b).nT
  ·exact(h.idx y b).at_ x a
def apy(N:Nat)(b:2147483648<N)(e:az)(h:DX e)(a:pg e=true):JO N e=some (wL e):=by
 unfold JO wL qp;rw[ZE,E9 N (by omega) _ h.nT,re,afh N (by omega) _ _ h.idx];cases c:e.aD==1 with
 |true=>
  have d:dz e.aH=true:=by
   unfold pg at a;rw[c]at a;simp only[Bool.true_or,W1,b7,Zr]at a;exact a.1
  rw[su N b _ _ d,re];cases dI e.aH e.dP<;>cases jO e.bN<;>rfl
 |false=>cases jO e.bN<;>rfl
def apv(N:Nat)(b:2147483648<N)(e:az)(h:DX e):Ez N e=some (oI e):=by
 unfold Ez oI;rw[ahb,re];cases qE e with
 |false=>rfl
 |true=>
  simp only[Tq];rw[alE N (by omega),re];cases tK e with
  |false=>rfl
  |true=>
   simp only[Tq];rw[am6,re];cases qI e with
   |false=>rfl
   |true=>
    simp only[Tq];rw[anW,re];cases a:pg e with
    |false=>rfl
    |true=>
     simp only[Tq];have c:xM N (qp e)=_:=abE N (by omega) (qp e) (ak9 h);unfold wL Vl;rw[re,c];cases d:e.aD==1 with
     |true=>
      have f:dz e.aH=true:=by
       unfold pg at a;rw[d]at a;simp only[Bool.true_or,W1,b7,Zr]at a;exact a.1
      rw[rE N b _ _ f,re];cases dI e.aH e.dP<;>cases (qp e).all jO<;>rfl
     |false=>cases (qp e).all jO<;>rfl
def vq{e x:az}(h:x∈e.bS):SizeOf.sizeOf x<SizeOf.sizeOf e:=by
 have a:=List.sizeOf_lt_of_mem h;cases e
 simp only[az.mk.sizeOf_spec]at*;omega
def I5{e x y:az}(h:x∈e.bS)(b:y∈dQ x):y∈dQ e:=by
 have a:∀l:I az,x∈l->y∈lk l:=by
  intro l
  induction l with
  |nil=>intro h;cases h
  |cons z l c=>
   intro h;rw[wT];rcases Za.1 h with rfl|h
   ·exact ak _ b
   ·exact a8 _ (c h)
 exact Zg _ (a _ h)
def oz.node{e:az}(h:oz e):DX e:=h e Zq
def oz.arg{e x:az}(h:oz e)(a:x∈e.bS):oz x:=λy b=>h y (I5 a b)
def mw:I az->Int
 |[]=>0
 |x::l=>bif oI x !=0 then oI x else mw l
def afF:∀a b:I az,mw (a++b)=bif mw a !=0 then mw a else mw b
 |[],_=>rfl
 |x::a,b=>by
  rw[List.cons_append,mw,mw,afF a b];cases h:oI x !=0 with
  |true=>simp only[Tq,h]
  |false=>rfl
def ae9(N:Nat)(a:2147483648<N):∀l:I az,(∀x∈l,DX x)->zS N l=some (mw l)
 |[],_=>rfl
 |x::l,h=>by
  rw[zS,apv N a x (h x Zq),re,ae9 N a l (λy b=>h y (Zg _ b)),mw];cases oI x !=0<;>rfl
def acK(N:Nat)(rec:az->U Int):∀(l:I az)(k:Nat),(∀x∈l,rec x=some (mw (dQ x)))->KI N rec l k=some (mw (lk l))
 |[],_,_=>by rw[lk];rfl
 |x::l,k,h=>by
  rw[KI,h x Zq,re,acK N rec l (k+1) (λy a=>h y (Zg _ a)),wT,afF];cases mw (dQ x) !=0<;>rfl
def acE(N:Nat)(a:2147483648<N):∀(d:Nat)(e:az),SizeOf.sizeOf e<d->oz e->w8 N d e=some (mw (dQ e))
 |0,_,h,_=>absurd h (ZG _)
 |d+1,e,h,b=>by
  rw[w8];have f:=acK N (w8 N d) e.bS 0 λx c=>acE N a d x (by have:=vq c;omega) (b.arg c);unfold dQ;rw[mw];unfold oI;rw[alm,re];cases qE e with
  |false=>rfl
  |true=>
   simp only[Tq];rw[atc N (by omega),re];cases tK e with
   |false=>rfl
   |true=>
    simp only[Tq];rw[anN,re];cases qI e with
    |false=>rfl
    |true=>
     simp only[Tq];rw[ahj,re];cases g:pg e with
     |false=>rfl
     |true=>
      simp only[Tq];rw[apy N a e b.node g,re,f];cases wL e<;>rfl
def j5:Nat->az->Nat
 |0,_=>1
 |L+1,e=>e.bS.foldl (λm a=>max m (1+j5 L a)) 1
def acy{α:Type}(f:α->Nat)(b:Nat):∀(l:I α)(m:Nat),m<=b->(∀x∈l,f x<=b)->l.foldl (λm a=>max m (f a)) m<=b
 |[],_,h,_=>h
 |x::l,_,h,c=>acy f b l _ (Nat.max_le.2 ⟨h,c x Zq⟩) λy d=>c y (Zg _ d)
def RA:∀(L:Nat)(e:az),j5 L e<=L+1
 |0,_=>Zv _
 |L+1,e=>acy (λa=>1+j5 L a) (L+2) e.bS 1 (by omega) λx _=>by have:=RA L x;show 1+j5 L x<=L+2;omega
def iz{z:Int}(h1: -9223372036854775808<=z)(a:z<9223372036854775808):aF z=z:=by
 unfold aF;rw[br];omega
def OI(a b:Nat):(if((a:Nat):Int)>((b:Nat):Int)then((a:Nat):Int)else(b:Int))=((max b a:Nat):Int):=by
 split<;>omega
def aaf(N:Nat)(rec:az->Int->U Int)(L:Nat)(b:L<=100):∀(l:I az)(k m:Nat),(∀x∈l,rec x ((L:Int)+1)=some ((j5 L x:Nat):Int))->Oq N rec ((L:Int)+1+1) l k (m:Int)=some ((l.foldl (λm a=>max m (1+j5 L a)) m:Nat):Int)
 |[],_,_,_=>rfl
 |x::l,k,m,h=>by
  have d:=RA L x;rw[Oq,iz (by omega) (by omega),show(L:Int)+1+1-1=(L:Int)+1 by omega,h x Zq,re,iz (by omega) (by omega),show(1:Int)+((j5 L x:Nat):Int)=((1+j5 L x:Nat):Int) by omega,OI];exact aaf N rec L b l (k+1) _ λy c=>h y (Zg _ c)
def acQ(N:Nat):∀(L d:Nat)(e:az),L<d->L<=100->sU N d e ((L:Int)+1)=some ((j5 L e:Nat):Int)
 |L,0,_,h,_=>absurd h (ZG _)
 |0,d+1,e,_,_=>by rw[sU];rfl
 |L+1,d+1,e,h,a=>by
  rw[sU,Zx (by omega)];simp only[T6];exact aaf N (sU N d) L (by omega) e.bS 0 1 λx _=>acQ N L d x (by omega) (by omega)
def abw(N:Nat)(rec:az->Int->U Int)(L:Nat)(b:L<=100):∀(l:I az)(k m:Nat),(∀x∈l,rec x ((L:Int)+1)=some ((j5 L x:Nat):Int))->Dd N ((L:Int)+1+1) rec l k (m:Int)=some ((l.foldl (λm a=>max m (1+j5 L a)) m:Nat):Int)
 |[],_,_,_=>rfl
 |x::l,k,m,h=>by
  have d:=RA L x;rw[Dd,dO (show(L:Int)+1+1>1 by omega)];simp only[Tq];rw[iz (by omega) (by omega),show(L:Int)+1+1-1=(L:Int)+1 by omega,h x Zq,re,iz (by omega) (by omega),show(1:Int)+((j5 L x:Nat):Int)=((1+j5 L x:Nat):Int) by omega,OI];exact abw N rec L b l (k+1) _ λy c=>h y (Zg _ c)
def anZ(N:Nat)(rec:az->Int->U Int):∀l:I az,Dd N 1 rec l 0 1=some 1
 |[]=>rfl
 |x::l=>by rw[Dd];rfl
def aa7(N:Nat):∀(L d:Nat)(e:az),L<d->L<=100->td N d e ((L:Int)+1)=some ((j5 L e:Nat):Int)
 |L,0,_,h,_=>absurd h (ZG _)
 |0,d+1,e,_,_=>by rw[td];exact anZ N _ _
 |L+1,d+1,e,h,a=>by
  rw[td];exact abw N (td N d) L (by omega) e.bS 0 1 λx _=>aa7 N L d x (by omega) (by omega)
def aco(N:Nat):∀(l:I az)(v:Nat),v<=2000->wi N l (v:Int)=some ((min (v+l.length) 2001:Nat):Int)
 |[],v,h=>by rw[wi];congr 2;simp only[Zf];omega
 |x::l,v,h=>by
  rw[wi,iz (by omega) (by omega)];by_cases a:v+1>2000
  ·rw[dO (by omega)];simp only[Tq]
   congr 1
   simp only[Zl];omega
  ·rw[Zx (by omega)];simp only[T6];rw[show(v:Int)+1=((v+1:Nat):Int) by omega,aco N l (v+1) (by omega)]
   congr 3
   simp only[Zl];omega
def ajh(N:Nat)(e:az):E7 N e=some ((min (dQ e).length 2001:Nat):Int):=by
 unfold E7 Be;have:=aco N (dQ e) 0 (by omega);rw[ZQ]at this;exact this
def aeT(N:Nat)(rec:az->Int->U Int)(m:Nat)(a:m<=4000):∀(l:I az)(k n:Nat),n<=m+1->(∀x∈l,∀q:Nat,q<=m->rec x (q:Int)=some ((min (dQ x).length (q+1):Nat):Int))->G9 N (m:Int) rec l k (n:Int)=some ((min (n+(lk l).length) (m+1):Nat):Int)
 |[],k,n,b,_=>by rw[G9,lk];congr 2;simp only[Zf];omega
 |x::l,k,n,b,h=>by
  rw[G9];by_cases d:n<=m
  ·rw[dO (by omega)];simp only[Tq];rw[iz (by omega) (by omega),show(m:Int)-(n:Int)=((m-n:Nat):Int) by omega,h x Zq (m-n) (by omega),re,iz (by omega) (by omega),show(n:Int)+((min (dQ x).length (m-n+1):Nat):Int)=((n+min (dQ x).length (m-n+1):Nat):Int) by omega,aeT N rec m a l (k+1) _ (by omega) λy c=>h y (Zg _ c),wT,Zk]
   congr 2
   omega
  ·rw[Zx (by omega)];simp only[T6]
   congr 1
   omega
def at2(N:Nat):∀(d:Nat)(e:az)(m:Nat),SizeOf.sizeOf e<d->m<=4000->uo N d e (m:Int)=some ((min (dQ e).length (m+1):Nat):Int)
 |0,_,_,h,_=>absurd h (ZG _)
 |d+1,e,m,h,a=>by
  rw[uo];have:=aeT N (uo N d) m a e.bS 0 1 (by omega) λx b q c=>at2 N d x q (by have:=vq b;omega) (by omega);rw[show((1:Nat):Int)=1 from rfl]at this;rw[this]
  congr 2
  unfold dQ;simp only[Zl];omega
def nV(e:az):Int:=bif decide (40<j5 40 e)then 13 else bif decide (2000<(dQ e).length)then 2 else mw (dQ e)
def anT(N:Nat)(a:2147483648<N)(e:az)(h:oz e):BW N e=some (nV e):=by
 unfold BW S5 Tl nV;have b:sU N N e 41=_:=acQ N 40 N e (by omega) (by omega);rw[b,re,re,ajh,re,ov (p:=((j5 40 e:Nat):Int)>40) (q:=40<j5 40 e) (by omega),ov (p:=((min (dQ e).length 2001:Nat):Int)>2000) (q:=2000<(dQ e).length) (by omega)];cases decide (40<j5 40 e)<;>cases decide (2000<(dQ e).length)<;>try rfl
 simp only[T6];exact ae9 N a (dQ e) h
def ac7(N:Nat)(b:2147483648<N)(e:az)(a:SizeOf.sizeOf e<N)(h:oz e):Hx N e=some (nV e):=by
 unfold Hx RY Q2 Vt UL SO nV;have c:td N N e 41=_:=aa7 N 40 N e (by omega) (by omega);have d:uo N N e 2000=_:=at2 N N e 2000 a (by omega);rw[c,re,re,d,re,re,acE N b N e a h,re,ov (p:=((j5 40 e:Nat):Int)>40) (q:=40<j5 40 e) (by omega),show(if(2001:Int)<((min (dQ e).length 2001:Nat):Int)then(2001:Int)else((min (dQ e).length 2001:Nat):Int))=((min (dQ e).length 2001:Nat):Int) by split<;>omega,ov (p:=((min (dQ e).length 2001:Nat):Int)>2000) (q:=2000<(dQ e).length) (by omega)];cases decide (40<j5 40 e)<;>cases decide (2000<(dQ e).length)<;>rfl
def dw(l:I so)(s:so):Bool:=l.any λw=>bL w==bL s
def A8(N:Nat)(l:I so)(s:so):vX N l s=some (dw l s):=WQ N s l 0
def nm(a b:I so)(s:so):dw (a++b) s=(dw a s||dw b s):=List.any_append
def af2{s x:so}(h:(bL s==bL x)=true)(l:I so):dw l x=dw l s:=by
 unfold dw;rw[Ua.1 h]
def Gv(s x:so):dw [s] x=(bL s==bL x):=by unfold dw;rw[Ys,List.any_nil,Bool.or_false]
def aiD(N:Nat)(l:I so)(s:so):Bu N l s=some (dw l s):=by
 unfold Bu Ki;obtain⟨z,a,b⟩:=Se N s l 0;rw[a,re,b];rfl
def jh(t:I so)(s:so):Int:=bif iI s then bif dw t s then 8 else 0 else 7
def Cu(N:Nat)(a:16<N)(s:so)(t:I so):yv N s t=some (jh t s):=by
 unfold yv jh;rw[JT N s a,re,A8,re];cases iI s<;>cases dw t s<;>rfl
def Fj{t:I so}{s:so}(h:jh t s=0):iI s=true/\dw t s=false:=by
 unfold jh at h;cases a:iI s<;>cases b:dw t s<;>rw[a,b]at h<;>first|exact⟨rfl,rfl⟩|(exact absurd h (by decide))
structure KN(m:List (ByteArray×Int))(S T:List ByteArray):Prop where
 val:∀s,ib m s 0=bif dw S s then 1 else bif dw T s then 2 else 0
 len:m.length<=S.length+T.length
 dis:∀s,dw T s=true->dw S s=false
section
variable {m:I (so×Int)} {S T:I so}
def KN.ne0(h:KN m S T)(s:so):(ib m s 0 !=0)=dw (S++T) s:=by
 rw[h.val,nm];cases dw S s<;>cases dw T s<;>rfl
def KN.ne1(h:KN m S T)(s:so):(ib m s 0 !=1)= !dw S s:=by
 rw[h.val];cases dw S s<;>cases dw T s<;>rfl
def KN.Jh(h:KN m S T)(s:so):(ib m s 0==1)=dw S s:=by
 rw[h.val];cases dw S s<;>cases dw T s<;>rfl
def KN.ne2(h:KN m S T)(s:so):(ib m s 0 !=2)= !dw T s:=by
 have:=h.dis s;rw[h.val];cases a:dw S s<;>cases b:dw T s<;>first|rfl|(rw[a]at this;exact absurd (this b) (by decide))
def Ml{a:Type}(k:so)(v:a)(m:I (so×a))(s:so)(d:a):ib ((k,v)::m) s d=bif bL k==bL s then v else ib m s d:=rfl
def KN.Xz(h:KN m S T){s:so}(a:dw (S++T) s=false):KN ((s,2)::m) S (T++[s]):=by
 rw[nm,Yt]at a;refine⟨λx=> ?_,by have:=h.len;simp only[Zl,Zk,Zf];omega,λx b=> ?_⟩
 rotate_left
 ·rw[nm,Gv]at b;cases e:bL s==bL x with
  |true=>rw[af2 e];exact a.1
  |false=>rw[e,Bool.or_false]at b;exact h.dis x b
 rw[Ml,h.val,nm,Gv];cases e:bL s==bL x with
 |true=>rw[af2 e,a.1];cases dw T x<;>rfl
 |false=>cases dw S x<;>cases dw T x<;>rfl
def KN.rz(h:KN m S [])(s:so):KN ((s,1)::m) (S++[s]) []:=by
 refine⟨λx=> ?_,by have:=h.len;simp only[Zl,Zk,Zf]at*;omega,λx a=>by cases a⟩;rw[Ml,h.val,nm,Gv];cases e:bL s==bL x<;>cases dw S x<;>rfl
def KN.nil:KN [] [] []:=⟨λ_=>rfl,Zv _,λ_ h=>by cases h⟩
def VT(N:Nat)(a:16<N)(s:so)(k:Int)(p:bo)(h:KN m S T)(b:S.length+T.length<9223372036854775807):
 C0 N s k p m=some (jh (S++T) s,bif jh (S++T) s==0 then(s,k)::m else m):=by
 unfold C0 jh;rw[Pn N s a,re,h.ne0,show Nat.blt m.length 9223372036854775807=true from WX (by have:=h.len;omega)];cases iI s<;>cases dw (S++T) s<;>rfl
def yM(a:I so)(l:bE):Bool:=l.xL.all λm=>dw a m.ay
def iT(S:I so)(l:bE):Int:=bif jO l then bif yM S l then 0 else 9 else 1
def at1(N:Nat)(h:KN m S T):∀(l:I dX)(k:Nat),KL N m l k=some (bif l.all (λm=>dw S m.ay)then 0 else 9)
 |[],_=>rfl
 |x::l,k=>by
  rw[KL,h.ne1,ZE,at1 N h l];cases dw S x.ay<;>rfl
def SZ(N:Nat)(a:16<N)(l:bE)(p:bo)(b:lg l)(h:KN m S T):DK N l p m=some (iT S l):=by
 unfold DK iT;rw[Pd N a l b,re,at1 N h];cases jO l<;>rfl
def aaB(N:Nat)(a W:I so):∀(l:I dX)(k:Nat),LI N a W l k=some (l.all λm=>dw (a++W) m.ay)
 |[],_=>rfl
 |x::l,k=>by
  rw[LI,A8,A8,ZE,aaB N a W l,nm];cases dw a x.ay<;>cases dw W x.ay<;>rfl
def QB(N:Nat)(a W:I so)(l:bE):GR N l a W=some (yM (a++W) l):=aaB N a W l.xL 0
def TN(N:Nat)(a:16<N)(l:bE)(b:lg l)(S:I so):A6 N l S=some (iT S l):=by
 unfold A6 iT;rw[E9 N a l b,re,QB,re,W2];cases jO l<;>cases yM S l<;>rfl
def yq(n:Nat):decide ((n:Int)>6)= !decide (n<=6):=l9 n 6
def akt(N:Nat)(t:aM)(n:Nat):yH N t [(n:Int)]=some (bif dz t then bif decide (n<=6)then 0 else 11 else 10):=by
 unfold yH;rw[rf,re,show FC N [(n:Int)]=some (n:Int)from rfl,re,yq];cases dz t<;>cases decide (n<=6)<;>rfl
def ai4(N:Nat)(t:aM)(n k:Nat):yH N t [(n:Int),(k:Int)]=some (bif dz t then bif decide (n<=6)&&decide (k<=6)then 0 else 11 else 10):=by
 unfold yH;rw[rf,re,show FC N [(n:Int),(k:Int)]=some (if(k:Int)>(n:Int)then(k:Int)else(n:Int))from rfl,re,OI,yq];have:decide (max n k<=6)=(decide (n<=6)&&decide (k<=6)):=by
  rw[Bool.eq_iff_iff,Zr,decide_eq_true_iff,decide_eq_true_iff,decide_eq_true_iff];omega
 rw[this];cases dz t<;>cases (decide (n<=6)&&decide (k<=6))<;>rfl
def gM{α:Type}(f:α->Int):I α->Int
 |[]=>0
 |x::l=>bif f x !=0 then f x else gM f l
def uD(S T:I so)(x:eX):Int:=bif jh (S++T) x.ay !=0 then jh (S++T) x.ay else bif dz x.aH then bif decide (x.aR.length<=6)then gM (iT S) x.aR else 11 else 10
def adm(N:Nat)(a:16<N)(p:bo)(q:Int×I (so×Int))(h:KN q.2 S T):∀(l:I bE)(k:Nat),(∀x∈l,lg x)->JZ N q p l k=some (gM (iT S) l,q.2)
 |[],_,_=>rfl
 |x::l,k,b=>by
  rw[JZ,SZ N a x p (b x Zq) h,re,gM];cases iT S x !=0 with
  |true=>rfl
  |false=>exact adm N a p q h l (k+1) λy c=>b y (Zg _ c)
def jQ{a:Int}(h:(a !=0)=false):a=0:=by
 rw[bne_eq_false_iff_eq]at h;exact h
def aoR(N:Nat)(b:16<N)(x:eX)(p:bo)(f:∀y∈x.aR,lg y)(h:KN m S T)(g:S.length+T.length<9223372036854775807):
 ∃c,L7 N x p m=some (uD S T x,c)/\(uD S T x=0->KN c S (T++[x.ay])):=by
 unfold L7 uD;rw[VT N b x.ay 2 p h g,re,akt];simp only[];cases e:jh (S++T) x.ay !=0 with
 |true=>exact⟨_,rfl,λa=>by rw[Tq]at a;rw[a]at e;cases e⟩
 |false=>
  have d:=jQ e;have k:=h.Xz (Fj d).2;rw[d];simp only[Z7,Tq,T6];cases dz x.aH with
  |false=>exact⟨_,rfl,λa=>by cases a⟩
  |true=>
   cases decide (x.aR.length<=6)with
   |false=>exact⟨_,rfl,λa=>by cases a⟩
   |true=>exact⟨_,adm N b p (0,(x.ay,2)::m) k x.aR 0 f,λ_=>k⟩
def aea(N:Nat)(a:16<N)(S:I so):∀(l:I bE)(k:Nat),(∀x∈l,lg x)->Nv N S l k=some (gM (iT S) l)
 |[],_,_=>rfl
 |x::l,k,b=>by
  rw[Nv,TN N a x (b x Zq),re,gM];cases iT S x !=0 with
  |true=>rfl
  |false=>exact aea N a S l (k+1) λy c=>b y (Zg _ c)
def agO(N:Nat)(a:16<N)(x:eX)(S T:I so)(b:∀y∈x.aR,lg y):NR N x S (S++T)=some (uD S T x):=by
 unfold NR uD;rw[Cu N a,re,sV,re,yq,aea N a S _ _ b];cases jh (S++T) x.ay !=0<;>cases dz x.aH<;>cases decide (x.aR.length<=6)<;>rfl
def sI(S:I so):I so->I dH->Int
 |_,[]=>0
 |O,a::l=>bif jh (S++O) a.ay !=0 then jh (S++O) a.ay else bif iT S a.eu !=0 then iT S a.eu else sI S (O++[a.ay]) l
structure ON(w:List (ByteArray×Bool))(O:List ByteArray):Prop where
 val:∀s,ib w s false=dw O s
 len:w.length<=O.length
def ON.add{w:I (so×Bool)}{a:I so}(h:ON w a)(s:so):ON ((s,true)::w) (a++[s]):=by
 refine⟨λx=> ?_,by have:=h.len;simp only[Zl,Zk,Zf];omega⟩;rw[Ml,h.val,nm,Gv];cases bL s==bL x<;>cases dw a x<;>rfl
def afs(N:Nat)(b:16<N)(p:bo)(h:KN m S T):∀(l:I dH)(k:Nat)(w:I (so×Bool))(O:I so),ON w O->(∀x∈l,lg x.eu)->O.length+l.length<9223372036854775807->
 JU N m p l k w=some (sI S O l)
 |[],_,_,_,_,_,_=>rfl
 |a::l,k,w,O,c,d,e=>by
  have i:O.length+l.length+1<9223372036854775807:=by simp only[Zl]at e;omega
  rw[JU,Pn N _ b,re,c.val,h.Jh,SZ N b _ p (d a Zq) h,re,sI,
    show Nat.blt w.length 9223372036854775807=true from WX (by have:=c.len;omega)]
  have f:=afs N b p h l (k+1) _ _ (c.add a.ay) (λy g=>d y (Zg _ g)) (by simp only[Zk,Zl,Zf];omega);unfold jh;dsimp only;rw[nm,f];cases iI a.ay<;>cases dw S a.ay<;>cases dw O a.ay<;>first|rfl|(cases iT S a.eu !=0<;>rfl)
def at0(N:Nat)(b:16<N)(S:I so):∀(l:I dH)(k:Nat)(O:I so),(∀x∈l,lg x.eu)->S.length+O.length+l.length<1000000000->
 KA N S l k (S++O)=some (sI S O l)
 |[],_,_,_,_=>rfl
 |a::l,k,O,c,e=>by
  have g:S.length+O.length+l.length+1<1000000000:=by simp only[Zl]at e;omega
  rw[KA,Cu N b,re,TN N b _ (c a Zq),re,sI,
    show Nat.ble (((S++O).length+1)*16) 140737488355328=true from WX (by rw[Zk];omega)]
  have d:=at0 N b S l (k+1) (O++[a.ay]) (λy f=>c y (Zg _ f)) (by simp only[Zk,Zl,Zf];omega);rw[<-ZR]at d;dsimp only;rw[d];cases jh (S++O) a.ay !=0<;>cases iT S a.eu !=0<;>rfl
def afX(N:Nat)(a:16<N)(S:I so)(l:I dH)(b:∀x∈l,lg x.eu)(c:S.length+l.length<1000000000):Ky N l S=some (sI S [] l):=by
 unfold Ky;have:=at0 N a S l 0 [] b (by simp only[Zf];omega);rw[ZV]at this;rw[this,show Nat.ble ((0+S.length)*16) 140737488355328=true from WX (by omega)];rfl
def P3{n:Nat}(h:n<=9223372036854775807):aF (n:Int)=(n:Int):=iz (by omega) (by omega)
def aeU(N:Nat)(a b:I dH)(h:a.length+b.length<1000000000):BC N [a,b]=some (a++b):=by
 unfold BC;rw[xl,show aF ((0:Int)+(a.length:Int))=((a.length:Nat):Int) by rw[Int.zero_add,P3 (by omega)],show decide ((a.length:Int)<0)=false from Zx (by omega)];simp only[T6];rw[xl,show aF ((a.length:Int)+(b.length:Int))=((a.length+b.length:Nat):Int) by rw[<-Int.natCast_add,P3 (by omega)],show decide (((a.length+b.length:Nat):Int)<0)=false from Zx (by omega)];simp only[T6];rw[xl];unfold R2;rw[show decide ((0:Int)<=((a.length+b.length:Nat):Int))=true from dO (by omega),ZK,show Nat.ble ((a.length+b.length)*48) 140737488355328=true from WX (by omega)];simp only[Bool.and_self,Tq,re];rw[Aa,show Nat.ble ((([]:I dH).length+a.length)*48) 140737488355328=true from WX (by simp only[Zf];omega)];simp only[Tq,W2];rw[Aa,show Nat.ble ((a.length+b.length)*48) 140737488355328=true from WX (by omega)];rfl
def anF(N:Nat)(a:16<N)(d:bZ)(p:bo)(h:KN m S T)(b:∀x∈d.aR++d.cl,lg x.eu)(c:d.aR.length+d.cl.length<1000000000):
 Ks N d p m=some (sI S [] (d.aR++d.cl)):=by
 unfold Ks;rw[aeU N _ _ c,re];exact afs N a p h _ 0 [] [] ⟨λ_=>rfl,Zv _⟩ b (by simp only[Zk,Zf];omega)
end
def xa(d:bZ):Int:=bif d.dF==0 then bif d.cl.length==0 then 0 else 11 else bif decide (1<=d.dF)&&decide (d.dF<=4)then bif d.cl.length==0 then 11 else 0 else bif d.dF==5 then bif d.cl.length==0&& !(d.aR.length==0)then 0 else 11 else 1
def ac4(f:Int):f=0\/f=1\/f=2\/f=3\/f=4\/f=5\/(f<0\/5<f):=by omega
def ahr(N:Nat)(d:bZ):MH N d=some (xa d):=by
 unfold MH xa CG;rw[PB,xc,xc];rcases ac4 d.dF with h|h|h|h|h|h|h
 ·rw[h];cases d.cl.length==0<;>rfl
 ·rw[h];cases d.cl.length==0<;>rfl
 ·rw[h];cases d.cl.length==0<;>rfl
 ·rw[h];cases d.cl.length==0<;>rfl
 ·rw[h];cases d.cl.length==0<;>rfl
 ·rw[h];cases d.cl.length==0<;>cases d.aR.length==0<;>rfl
 ·have e:∀k:Int,0<=k->k<=5->(d.dF==k)=false:=λk b c=>Tv.2 (by omega);have a:(decide (1<=d.dF)&&decide (d.dF<=4))=false:=by
   rw[Bool.and_eq_false_iff,UN,UN];omega
  rw[e 0 (by decide) (by decide),e 1 (by decide) (by decide),e 2 (by decide) (by decide),e 3 (by decide) (by decide),e 4 (by decide) (by decide),e 5 (by decide) (by decide),a];rfl
def afQ(N:Nat)(d:bZ):PL N d=some (xa d):=by
 unfold PL xa;rw[xc,xc];rcases ac4 d.dF with h|h|h|h|h|h|h
 ·rw[h];cases d.cl.length==0<;>rfl
 ·rw[h];cases d.cl.length==0<;>rfl
 ·rw[h];cases d.cl.length==0<;>rfl
 ·rw[h];cases d.cl.length==0<;>rfl
 ·rw[h];cases d.cl.length==0<;>rfl
 ·rw[h];cases d.cl.length==0<;>cases d.aR.length==0<;>rfl
 ·have e:∀k:Int,0<=k->k<=5->(d.dF==k)=false:=λk c f=>Tv.2 (by omega);have a:(decide (1<=d.dF)&&decide (d.dF<=4))=false:=by
   rw[Bool.and_eq_false_iff,UN,UN];omega
  have b:(bif decide (d.dF<0)then some true else some (decide (d.dF>5)))=some true:=by
   rcases h with h|h
   ·rw[dO h];rfl
   ·rw[show decide (d.dF>5)=true from dO h];cases decide (d.dF<0)<;>rfl
  rw[b,e 0 (by decide) (by decide),e 5 (by decide) (by decide),a];rfl
end Go.Proofs.YtnnapanbbbcalaaGreatDoor
