/-
  Part 13 of the proof: PQ4.
-/
import Derived.Test.YtdchibpnjpnkoaaGreatDoorPp12
namespace Go.Proofs.YtdchibpnjpnkoaaGreatDoor
open Go.RowKit
set_option maxRecDepth 100000
set_option maxHeartbeats 0
set_option linter.unusedVariables false
def L1:asn AV:=[(.d (.v (.slice none 0 0))),(.d (.v (.slice none 0 0))),(.d (.v (.slice none 0 0))),(.d (.v (.slice none 0 0))),(.d (.v (.slice none 0 0)))]
def qO:asn AV:=[(aw (0:Int)),(aw (0:Int)),(aw (0:Int)),(aw (0:Int)),(aw (0:Int))]
def ff(v:bp)(r:asn AV):asn AV:=(.d (.sl (cb v.bO)))::(.d (.sl (fa v.dj)))::(.d (.sl (fY v.bA)))::(.d (.sl (fO v.aU)))::(.d (.sl (cb v.dz)))::r
def CL(N:Nat)(v2:asn aZ):asn aZ->Nat->asp Bool
 |[],_=>
  some true
 |v5::v6,v3=>
  Option.bind (v2[((v3:Int)).toNat]?) λv7=>
  (CM N v5 v7).bind λv8=>
  bif v8 then
   (CL N v2 v6 (v3+1))
  else
   some false
def CB(N:Nat)(v1:asn aZ)(v2:asn aZ):asp Bool:=
 bif ((v1.length:Int) !=(v2.length:Int))then
  some false
 else
  CL N v2 v1 0
theorem akI{N v1 v2}:KO 33 [(.d (.sl (cU v1))),(.d (.sl (cU v2)))] az (CB N v1 v2):=
 fw Tryz.func33 (gA [[],[(4,oL v1 eD),(10,oL v2 eD)]] (dM λ_=>gT nf 0 v1 λh3=>dO 1 [] [0,1,5] 0 (λv3=>⟨27,[(0,(.d (.sl (cU v1)))),(1,(.d (.sl (cU v2)))),(5,(aw (v3:Int)))],[]⟩) (λv3 h4 f1=>gR [[(7,oL v1 eD)],[f0 (b5 h4)],[]]) (λv3 v5 v6 h4 f1 aD=>aq λv7 h5=>aq λv8 h7=>gA [[(7,oL v1 eD)],[t0 (bU h4)],[(7,oE (gX (ba h4))),(19,oE (gX h5)),(25,cK ajS h7)]] (eg λh8=>gb aD () [[f0 (bV h8)],[(5,oq (ca h4 rfl h3))]] h4))))
def AD(N:Nat)(v2:asn an)(V5:an->an->asp Bool):asn an->Nat->asp Bool
 |[],_=>
  some true
 |v5::v6,v3=>
  Option.bind (v2[((v3:Int)).toNat]?) λv7=>
  (V5 v5 v7).bind λv8=>
  bif v8 then
   (AD N v2 V5 v6 (v3+1))
  else
   some false
mutual
def tq(N:Nat):Nat->an->an->asp Bool
 |0,_,_=>none
 |d+1,v1,v2=>
  Option.bind (bif (v1.ar==v2.ar)then(bif (bL v1.aC==bL v2.aC)then(bif ((v1.bD.xN.toInt==v2.bD.xN.toInt)&&((v1.bD.xD.toInt==v2.bD.xD.toInt)&&true))then(bif ((v1.ay.aO==v2.ay.aO)&&((v1.ay.bo==v2.ay.bo)&&((v1.ay.bE==v2.ay.bE)&&((v1.ay.bN==v2.ay.bN)&&((v1.ay.bM==v2.ay.bM)&&true)))))then (rH N v1.aM v2.aM).bind λv3=>
  (bif v3 then (CB N v1.xIdx v2.xIdx).bind λv4=>
  (bif v4 then Option.bind ((xm N d) v1.ax v2.ax) λv5=>
  some v5 else some false)else some false)else some false)else some false)else some false)else some false) λv6=>
  some v6
def xm(N:Nat):Nat->(asn an)->(asn an)->asp Bool
 |0,_,_=>none
 |d+1,v1,v2=>
  bif ((v1.length:Int) !=(v2.length:Int))then
   some false
  else
   AD N v2 (tq N d) v1 0
end
def lJ(N:Nat)(v1:an)(v2:an):asp Bool:=tq N N v1 v2
theorem alk(N:Nat):∀d:Nat,(∀{v1:an}{v2:an},KO 15 [(aA v1),(aA v2)] az (tq N d v1 v2))/\(∀{v1:asn an}{v2:asn an},KO 34 [(.d (.sl (dn v1))),(.d (.sl (dn v2)))] az (xm N d v1 v2)):=by
 intro d
 induction d with
 |zero=>exact⟨(by intro v1 v2 r hF;rw[tq]at hF;cases hF),(by intro v1 v2 r hF;rw[xm]at hF;cases hF)⟩
 |succ d ih=>
  have ajO:= @ih.1;have aqN:= @ih.2;refine⟨?_,?_⟩
  ·intro v1 v2;rw[tq];exact fw Tryz.func15 (gA [[]] (gG (λv6=>[(4,(az v6))]) (λ_=>[.cells (aA v1).cells, .cells (aA v2).cells]) (au (λh1=>aY (5,bT h1) (au (λh2=>aY (12,bT h2) (au (λh3=>aY (19,bT h3) (au (λh4=>aq λv3 h5=>aY (26,bT h4) (bz (94,cK Dt h5) (au (λh6=>aq λv4 h7=>aY (33,bT h6) (bz (115,cK akI h7) (au (λh8=>aq λv5 h9=>gE [(40,bT h8)] [(136,cK aqN h9)]) λh8=>gE [(40,bF h8)] []))) λh6=>gE [(33,bF h6),(40,bF rfl)] []))) λh4=>gE [(26,bF h4),(33,bF rfl),(40,bF rfl)] [])) λh3=>gE [(19,bF h3),(26,bF rfl),(33,bF rfl),(40,bF rfl)] [])) λh2=>gE [(12,bF h2),(19,bF rfl),(26,bF rfl),(33,bF rfl),(40,bF rfl)] [])) λh1=>gE [(5,bF h1),(12,bF rfl),(19,bF rfl),(26,bF rfl),(33,bF rfl),(40,bF rfl)] []) λv6=>gR []))
  intro v1 v2;rw[xm];exact fw Tryz.func34 (gA [[],[(4,oL v1 dZ),(10,oL v2 dZ)]] (dM λ_=>gT lR 0 v1 λh3=>dO 1 [] [0,1,5] 0 (λv3=>⟨27,[(0,(.d (.sl (dn v1)))),(1,(.d (.sl (dn v2)))),(5,(aw (v3:Int)))],[]⟩) (λv3 h4 f1=>gR [[(7,oL v1 dZ)],[(0,bF (b5 h4))],[]]) (λv3 v5 v6 h4 f1 aD=>aq λv7 h5=>aq λv8 h7=>gA [[(7,oL v1 dZ)],[(0,bT (bU h4))],[(7,oE (bx (ba h4))),(19,oE (bx h5)),(25,cK ajO h7)]] (eg λh8=>gb aD () [[(0,bF (bV h8))],[(5,oq (ca h4 rfl h3))]] h4))))
theorem pZ{N v1 v2}:KO 15 [(aA v1),(aA v2)] az (lJ N v1 v2):=(alk N N).1
def Cl(N:Nat)(v1:aE):Nat->Int->an->asp (an×Int)
 |0,_,_=>none
 |v3+1,v4,v5=>
  (yr N v1 v5).bind λv6=>
  bif v6.2.2 then
   (λcD gy=>Cl N v1 v3 cD gy) (aI (v4+(1:Int))) v6.1
  else
   some (v6.1,v4)
def E9(N:Nat)(v1:aE)(v2:an):asp (an×Int):=
 Cl N v1 N (0:Int) v2
theorem abu{N v1 v2}:KO 20 [(bY v1),(aA v2)] (λr=> .aX [(aA r.1),(aw r.2)]) (E9 N v1 v2):=
 fw Tryz.func20 (ahe 1 [[],[]] [2,3,4,6] 3 [] [(2,10),(2,11),(2,12)] (λ(v4:Int)(v5:an)=>⟨24,[(2,(.ptr 0 0)),(3,(.ptr 1 0)),(4,(.ptr 2 0)),(6,(aw v4))],[.cells (bY v1).cells, .cells (aA v5).cells, .cells ft]⟩) (Cl N v1) (λv3 v4 v5 f1 aD=>aq λv6 h1=>gA [[(7,cK ZH h1)],[]] (eg λh2=>RJ aD ((aI (v4+(1:Int))),v6.1) [[f0 (bV h2)],[],[]])))
def DS(N:Nat)(v1:aE)(v2:an):asp an:=
 (E9 N v1 v2).bind λv3=>
 some v3.1
theorem MO{N v1 v2}:KO 16 [(bY v1),(aA v2)] aA (DS N v1 v2):=
 fw Tryz.func16 (aq λv3 h1=>gR [[],[(7,cK abu h1)],[]])
def Rz(N:Nat):asn aZ->Nat->Int->asp Int
 |[],_,v7=>
  some (aI ((1:Int)+v7))
 |v5::v6,v3,v7=>
  bif (bL v5.bS==bL (bs []))then
   (λiP=>Rz N v6 (v3+1) iP) v7
  else
   (λiP=>Rz N v6 (v3+1) iP) (aI (v7+(1:Int)))
def VV(N:Nat)(Ix:an->asp Int):asn an->Nat->Int->asp Int
 |[],_,v12=>
  some (aI ((1:Int)+v12))
 |v10::v11,v8,v12=>
  (Ix v10).bind λaF=>
  (λnQ=>VV N Ix v11 (v8+1) nQ) (aI (v12+aF))
def RE(N:Nat)(v1:an)(Ix:an->asp Int)(v2:Bool):asp Int:=
 bif v2 then
  some (0:Int)
 else
  bif (v1.ar==3)then
   Rz N v1.xIdx 0 (0:Int)
  else
   VV N Ix v1.ax 0 (0:Int)
def ze(N:Nat):Nat->an->asp Int
 |0,_=>none
 |d+1,v1=>
  bif (v1.ar==1)then
   RE N v1 (ze N d) (v1.ar==1)
  else
   RE N v1 (ze N d) (v1.ar==2)
def Xf(N:Nat)(v1:an):asp Int:=ze N N v1
theorem aku(N:Nat):∀d:Nat,(∀{v1:an},KO 17 [(aA v1)] aw (ze N d v1)):=by
 intro d
 induction d with
 |zero=>intro v1 r hF;rw[ze]at hF;cases hF
 |succ d ih=>
  have anM:= @ih;intro v1;rw[ze];exact fw Tryz.func17 (ir 1 [[],[],[],[]] [1,3,9,10] 1 (λ(v2:Bool)=>⟨44,[(1,(.ptr 0 0)),(3,(aw (0:Int))),(9,(aw v1.ar)),(10,(az v2))],[.cells (aA v1).cells]⟩) (RE N v1 (ze N d)) (λf1 aD=>au (λaL=>gm aD (v1.ar==1) [[(0,bT aL)]]) λaL=>gm aD (v1.ar==2) [[(0,bF aL)],[]]) (λv2=>dM λ_=>au (λh2=>gA [[(0,bT h2)],[(7,oL v1.xIdx eD)]] (gT nf 16 v1.xIdx λh4=>iy 2 [] [3,16,17,18] 1 (λv3(v7:Int)=>⟨44,[(3,(aw v7)),(16,(.d (.sl (cU v1.xIdx)))),(17,(aw (v1.xIdx.length:Int))),(18,(aw (v3:Int)))],[.cells (aA v1).cells]⟩) (λv3 v7 h5 f2=>gR [[],[(0,bF (b5 h5))],[]]) (λv3 v5 v6 v7 h5 f2 dI=>gA [[],[(0,bT (bU h5))],[(1,oE (gX (ba h5)))],[]] (au (λh6=>gb dI v7 [[(0,bF (bV h6))],[(2,oq (ca h5 rfl h4))]] h5) λh6=>gb dI (aI (v7+(1:Int))) [[(0,bT (cx h6))],[],[(2,oq (ca h5 rfl h4))]] h5)))) λh2=>gA [[(0,bF h2)],[(7,oL v1.ax dZ)]] (gT lR 31 v1.ax λh8=>iy 3 [] [3,31,32,33] 1 (λv8(v12:Int)=>⟨44,[(3,(aw v12)),(31,(.d (.sl (dn v1.ax)))),(32,(aw (v1.ax.length:Int))),(33,(aw (v8:Int)))],[.cells (aA v1).cells]⟩) (λv8 v12 h9 f3=>gR [[],[(0,bF (b5 h9))],[]]) (λv8 v10 v11 v12 h9 f3 iI=>aq λaF aK=>gb iI (aI (v12+aF)) [[],[(0,bT (bU h9))],[(1,oE (bx (ba h9)))],[(7,cK anM aK)],[(2,oq (ca h9 rfl h8))]] h9))))
theorem agf{N v1}:KO 17 [(aA v1)] aw (Xf N v1):=(aku N N)
def Gv(N:Nat):asp Bool:=
 Option.bind (Kc N (bs [105])) λv1=>
 Option.bind (Ee N (⟨(1:Int),(0:Int),(0:Int),(0:Int),(0:Int)⟩:aE) (1:Int64)) λv2=>
 Option.bind (FO N (6:Int) (⟨(3:Int),(bs [97]),bW,cY,dq,[(⟨v1,(bs []),[]⟩:aZ)],[]⟩:an) v2) λv3=>
 Option.bind (Ee N (⟨(1:Int),(0:Int),(0:Int),(0:Int),(0:Int)⟩:aE) (0:Int64)) λv4=>
 Option.bind (FO N (4:Int) v3 v4) λv5=>
 Option.bind (yr N (⟨(1:Int),(0:Int),(0:Int),(0:Int),(0:Int)⟩:aE) v5) λv6=>
 Option.bind (Kc N (bs [105])) λv7=>
 Option.bind (Kc N (bs [105])) λv8=>
 Option.bind (bif v6.2.2 then(bif (bL v6.2.1==bL (bs [122,101,114,111]))then (lJ N v6.1 v3).bind λv9=>
 (bif v9 then Option.bind (Ee N (⟨(1:Int),(0:Int),(0:Int),(0:Int),(0:Int)⟩:aE) (0:Int64)) λv10=>
 Option.bind (FO N (4:Int) v3 v10) λv11=>
 Option.bind (DS N (⟨(1:Int),(0:Int),(0:Int),(0:Int),(0:Int)⟩:aE) v11) λv12=>
 Option.bind (lJ N v12 (⟨(3:Int),(bs [97]),bW,cY,dq,[(⟨v1,(bs []),[]⟩:aZ)],[]⟩:an)) λaF=>
 (bif aF then Option.bind (DS N (⟨(2:Int),(8:Int),(4:Int),(4:Int),(1:Int)⟩:aE) (⟨(8:Int),(bs []),bW,cY,dq,[],[(⟨(8:Int),(bs []),bW,cY,dq,[],[(⟨(3:Int),(bs [97]),bW,cY,dq,[(⟨v1,(bs []),[]⟩:aZ)],[]⟩:an)]⟩:an)]⟩:an)) λaV=>
 Option.bind (lJ N aV (⟨(8:Int),(bs []),bW,cY,dq,[],[(⟨(8:Int),(bs []),bW,cY,dq,[],[(⟨(3:Int),(bs [97]),bW,cY,dq,[(⟨v1,(bs []),[]⟩:aZ)],[]⟩:an)]⟩:an)]⟩:an)) λbt=>
 (bif bt then Option.bind (DS N (⟨(1:Int),(0:Int),(0:Int),(0:Int),(0:Int)⟩:aE) (⟨(8:Int),(bs []),bW,cY,dq,[],[(⟨(8:Int),(bs []),bW,cY,dq,[],[(⟨(3:Int),(bs [97]),bW,cY,dq,[(⟨v1,(bs []),[]⟩:aZ)],[]⟩:an)]⟩:an)]⟩:an)) λbK=>
 Option.bind (lJ N bK (⟨(3:Int),(bs [97]),bW,cY,dq,[(⟨v1,(bs []),[]⟩:aZ)],[]⟩:an)) λbC=>
 (bif bC then Option.bind (Ee N (⟨(3:Int),(0:Int),(0:Int),(0:Int),(0:Int)⟩:aE) (2:Int64)) λaR=>
 Option.bind (FO N (4:Int) (⟨(2:Int),(bs []),bW,cY,v7,[],[]⟩:an) aR) λbX=>
 Option.bind (DS N (⟨(3:Int),(0:Int),(0:Int),(0:Int),(0:Int)⟩:aE) bX) λv20=>
 Option.bind (lJ N v20 (⟨(2:Int),(bs []),bW,cY,(⟨(2:Int64),v8.xL⟩:aH),[],[]⟩:an)) λv21=>
 (bif v21 then (Xf N v3).bind λcM=>
 some (cM==2)else some false)else some false)else some false)else some false)else some false)else some false)else some false) λcF=>
 some cF
theorem WV{N}:KO 5 [] az (Gv N):=
 fw Tryz.func5 (aq λv1 h1=>aq λv2 h2=>aq λv3 h3=>aq λv4 h4=>aq λv5 h5=>aq λv6 h6=>aq λv7 h7=>aq λv8 h8=>gA [[],[],[],[(1,cK Ri h1)],[(7,cK MV h2),(10,cK Mn h3)],[(10,cK MV h4),(13,cK Mn h5),(16,cK ZH h6)],[(5,⟨_,_, .eq (congrArg AV.full (gh [(⟨(3:Int),(bs [97]),bW,cY,dq,[(⟨v1,(bs []),[]⟩:aZ)],[]⟩:an)]).symm)⟩),(11,⟨_,_, .eq (congrArg AV.full (gh [(⟨(8:Int),(bs []),bW,cY,dq,[],[(⟨(3:Int),(bs [97]),bW,cY,dq,[(⟨v1,(bs []),[]⟩:aZ)],[]⟩:an)]⟩:an)]).symm)⟩)],[(1,cK Ri h7)],[(1,cK Ri h8)],[]] (gG (λcF=>[(0,(az cF))]) (λ_=>[.cells [(aw (1:Int)),(aw (0:Int)),(aw (0:Int)),(aw (0:Int)),(aw (0:Int))], .cells [(aw (3:Int)),(aw (0:Int)),(aw (0:Int)),(aw (0:Int)),(aw (0:Int))], .cells [(aw (2:Int)),(aw (8:Int)),(aw (4:Int)),(aw (4:Int)),(aw (1:Int))], .cells [(aw (3:Int)),(bq (bs [97])),(aW (0:Int64)),(aW (0:Int64)),(aw (0:Int)),(aw (0:Int)),(aw (0:Int)),(aw (0:Int)),(aw (0:Int)),(aW (0:Int64)),(.d (.v (.slice none 0 0))),(.full (cU [(⟨v1,(bs []),[]⟩:aZ)])),(.d (.v (.slice none 0 0)))], .cells (aA v3).cells, .cells (aA v6.1).cells, .cells [(aw (8:Int)),(bq (bs [])),(aW (0:Int64)),(aW (0:Int64)),(aw (0:Int)),(aw (0:Int)),(aw (0:Int)),(aw (0:Int)),(aw (0:Int)),(aW (0:Int64)),(.d (.v (.slice none 0 0))),(.d (.v (.slice none 0 0))),(.full (dn [(⟨(8:Int),(bs []),bW,cY,dq,[],[(⟨(3:Int),(bs [97]),bW,cY,dq,[(⟨v1,(bs []),[]⟩:aZ)],[]⟩:an)]⟩:an)]))], .cells [(aw (2:Int)),(bq (bs [])),(aW (0:Int64)),(aW (0:Int64)),(aw (0:Int)),(aw (0:Int)),(aw (0:Int)),(aw (0:Int)),(aw (0:Int)),(aW v7.xK),(.d (.sl (cz v7.xL))),(.d (.v (.slice none 0 0))),(.d (.v (.slice none 0 0)))], .cells [(aw (2:Int)),(.d (.sl (cz v8.xL)))]]) (au (λh9=>aY (1,bT h9) (au (λaK=>aq λv9 aL=>aY (5,bT aK) (bz (25,cK pZ aL) (au (λaT=>aq λv10 bu=>aq λv11 bf=>aq λv12 a7=>aq λaF bm=>aY (10,bT aT) (bz (43,cK MV bu) (bz (46,cK Mn bf) (bz (49,cK MO a7) (bz (55,cK pZ bm) (au (λbQ=>aq λaV cA=>aq λbt cv=>aY (20,bT bQ) (bz (70,cK MO cA) (bz (76,cK pZ cv) (au (λb8=>aq λbK cJ=>aq λbC cS=>aY (27,bT b8) (bz (91,cK MO cJ) (bz (97,cK pZ cS) (au (λdw=>aq λaR eC=>aq λbX fF=>aq λv20 im=>aq λv21 fu=>aY (34,bT dw) (bz (115,cK MV eC) (bz (118,cK Mn fF) (bz (121,cK MO im) (bz (130,cK pZ fu) (au (λgw=>aq λcM mD=>gE [(45,bT gw)] [(142,cK agf mD)]) λgw=>gE [(45,bF gw)] [])))))) λdw=>gE [(34,bF dw),(45,bF rfl)] [])))) λb8=>gE [(27,bF b8),(34,bF rfl),(45,bF rfl)] [])))) λbQ=>gE [(20,bF bQ),(27,bF rfl),(34,bF rfl),(45,bF rfl)] [])))))) λaT=>gE [(10,bF aT),(20,bF rfl),(27,bF rfl),(34,bF rfl),(45,bF rfl)] []))) λaK=>gE [(5,bF aK),(10,bF rfl),(20,bF rfl),(27,bF rfl),(34,bF rfl),(45,bF rfl)] [])) λh9=>gE [(1,bF h9),(5,bF rfl),(10,bF rfl),(20,bF rfl),(27,bF rfl),(34,bF rfl),(45,bF rfl)] []) λcF=>gR []))
def Nq(N:Nat)(v1:asn aso):asp (asn aso):=bif Nat.ble (v1.length*16) 140737488355328 then some v1 else none
theorem ZA{N v1 r}(hF:Nq N v1=some r):gD Tryz.prog 35 [(.d (.sl (cb v1)))] (·=(.d (.sl (cb r)))):=by
 obtain⟨hb,rfl⟩:=dT hF;have hc:=nv hb (by decide);exact apr CA (by rw[gC];exact hc.1) (by rw[gC];exact hc.2)
def xe(N:Nat)(v1:aH):asp aH:=
 (DP N v1.xL).bind λv2=>
 some (⟨v1.xK,v2⟩:aH)
theorem Jb{N v1}:KO 36 [(bZ v1)] bZ (xe N v1):=
 fw Tryz.func36 (aq λv2 h1=>gR [[],[(13,cL (Wz h1))]])
def C8(N:Nat):asn aH->Nat->(asn aH)->asp ((asn aH))
 |[],_,v6=>
  some v6
 |v4::v5,v2,v6=>
  (xe N v4).bind λv7=>
  bif (Nat.ble ((v6.length+1)*32) 140737488355328)then
  (λcD=>C8 N v5 (v2+1) cD) (v6++[v7])
  else none
def GQ(N:Nat)(v1:asn aH):asp ((asn aH)):=
 C8 N v1 0 []
theorem Yl{N v1}:KO 37 [(.d (.sl (dk v1)))] (λr=> .d (.sl (dk r))) (GQ N v1):=
 fw Tryz.func37 (gA [[],[],[(4,oL v1 dR)]] (li (λ_=>(vQ 3 36 2 [] (.inr (by kernel_rfl)) ·)) (gT od 0 v1 λh2=>iy 1 [] [3,6,7,8] 1 (λv2(v6:asn aH)=>⟨19,[(3,(.own 0 (dk v6))),(6,(.d (.sl (dk v1)))),(7,(aw (v1.length:Int))),(8,(aw (v2:Int)))],[.front 36 2 v6.length]⟩) (λv2 v6 h3 f1=>gR [[],[f0 (b5 h3)],[]]) (λv2 v4 v5 v6 h3 f1 aD=>aq λv7 h4=>cO λh5=>gb aD (v6++[v7]) [[],[t0 (bU h3)],[(1,oE (kT (ba h3)))],[(7,cK Jb h4),(13,oA od v6 ([v7]) h5)],[(2,oq (ca h3 rfl h2))]] h3))))
def EA(N:Nat):asn cT->Nat->(asn cT)->asp ((asn cT))
 |[],_,v6=>
  some v6
 |v4::v5,v2,v6=>
  (xe N v4.eZ).bind λv7=>
  bif (Nat.ble ((v6.length+1)*48) 140737488355328)then
  (λcD=>EA N v5 (v2+1) cD) (v6++[(⟨v4.aC,v7⟩:cT)])
  else none
def zL(N:Nat)(v1:asn cT):asp ((asn cT)):=
 EA N v1 0 []
theorem adL{N v1}:KO 38 [(.d (.sl (eV v1)))] (λr=> .d (.sl (eV r))) (zL N v1):=
 fw Tryz.func38 (gA [[],[],[(4,oL v1 fE)]] (li (λ_=>(vQ 3 56 3 [] (.inr (by kernel_rfl)) ·)) (gT m9 0 v1 λh2=>iy 1 [] [3,6,7,8] 1 (λv2(v6:asn cT)=>⟨23,[(3,(.own 0 (eV v6))),(6,(.d (.sl (eV v1)))),(7,(aw (v1.length:Int))),(8,(aw (v2:Int)))],[.front 56 3 v6.length]⟩) (λv2 v6 h3 f1=>gR [[],[f0 (b5 h3)],[]]) (λv2 v4 v5 v6 h3 f1 aD=>aq λv7 h4=>cO λh5=>gb aD (v6++[(⟨v4.aC,v7⟩:cT)]) [[],[t0 (bU h3)],[(1,oE (mK (ba h3)))],[(16,cK Jb h4),(25,oA m9 v6 ([(⟨v4.aC,v7⟩:cT)]) h5)],[(2,oq (ca h3 rfl h2))]] h3))))
def vG(N:Nat)(v2:asn aso)(v8:asn di)(aF:asn dh)(v3:asn aso):asn bR->Nat->Nat->(asn bR)->asp ((asn aso)×(asn di)×(asn dh)×Nat×(asn aso)×(asn bR))
 |[],_,aR,bX=>
  some (v2,v8,aF,aR,v3,bX)
 |bK::bC,aV,aR,bX=>
  (zL N bK.bI).bind λv20=>
  (zL N bK.cl).bind λv21=>
  (vY N bK.cr).bind λcM=>
  bif (Nat.beq bX.length aR)then
  bif (Nat.ble ((aR+1)*272) 140737488355328)then
  (λnQ GJ=>vG N v2 v8 aF v3 bC (aV+1) nQ GJ) (aR+1) (bX++[(⟨bK.aC,bK.ay,v20,v21,bK.dy,cM⟩:bR)])
  else none
  else none
def vJ(N:Nat)(v2:asn aso)(v8:asn di)(v3:asn aso)(v1:bp):asn dh->Nat->(asn dh)->asp ((asn aso)×(asn di)×(asn dh)×Nat×(asn aso)×(asn bR))
 |[],_,aF=>
  vG N v2 v8 aF v3 v1.aU 0 0 []
 |v11::v12,v9,aF=>
  (GQ N v11.bI).bind λcF=>
  bif (Nat.ble ((aF.length+1)*80) 140737488355328)then
  (λiP=>vJ N v2 v8 v3 v1 v12 (v9+1) iP) (aF++[(⟨v11.aC,v11.ay,cF⟩:dh)])
  else none
def vc(N:Nat)(v2:asn aso)(v3:asn aso)(v1:bp):asn di->Nat->(asn di)->asp ((asn aso)×(asn di)×(asn dh)×Nat×(asn aso)×(asn bR))
 |[],_,v8=>
  vJ N v2 v8 v3 v1 v1.bA 0 []
 |v6::v7,v4,v8=>
  (xe N v6.aM).bind λv24=>
  bif (Nat.ble ((v8.length+1)*40) 140737488355328)then
  (λcD=>vc N v2 v3 v1 v7 (v4+1) cD) (v8++[(⟨v24,v6.nP⟩:di)])
  else none
def Fz(N:Nat)(v1:bp):asp ((asn aso)×(asn di)×(asn dh)×Nat×(asn aso)×(asn bR)):=
 (Nq N v1.bO).bind λv2=>
 (Nq N v1.dz).bind λv3=>
 vc N v2 v3 v1 v1.dj 0 []
def vN(v1:bp)(l:asn ao):asn ao:= .cells (dH v1).cells:: .cells L1::l
def DG(v1:bp)(v2:asn aso)(v8:asn di)(aF:asn dh)(aR:Nat)(v3:asn aso)(bX:asn bR)(l:asn ao):asn ao:=vN v1 (.cells [(.d (.sl (cb v2))),(.own 3 (fa v8)),(.own 4 (fY aF)),(.vec 5 0 aR aR 22),(.d (.sl (cb v3)))]:: .front 38 3 v8.length:: .front 43 7 aF.length:: .vec 53 22 (bn (bX.map gq))::l)
def CE(v1:bp)(v2:asn aso)(v8:asn di)(aF:asn dh)(v3:asn aso)(l:asn ao):asn ao:=vN v1 (.cells [(.d (.sl (cb v2))),(.own 3 (fa v8)),(.own 4 (fY aF)),(.d (.v (.slice none 0 0))),(.d (.sl (cb v3)))]:: .front 38 3 v8.length:: .front 43 7 aF.length::l)
def XW(v1:bp)(v2:asn aso)(v8:asn di)(aF:asn dh)(aR:Nat)(v3:asn aso)(bX:asn bR)(bK:bR)(v20:(asn cT))(v21:(asn cT))(cM:an)(l:asn ao):asn ao:=vN v1 (.cells [(.d (.sl (cb v2))),(.own 3 (fa v8)),(.own 4 (fY aF)),(.vec 5 0 (aR+1) (aR+1) 22),(.d (.sl (cb v3)))]:: .front 38 3 v8.length:: .front 43 7 aF.length:: .vec 53 22 (bn ((bX++[(⟨bK.aC,bK.ay,v20,v21,bK.dy,cM⟩:bR)]).map gq)):: .cells ((bq bK.aC)::(aw bK.ay.aO)::(aw bK.ay.bo)::(aw bK.ay.bE)::(aw bK.ay.bN)::(aw bK.ay.bM)::(.d (.sl (eV v20)))::(.d (.sl (eV v21)))::(aw bK.dy)::LL cM [])::l)
def GD(v1:bp)(v2:asn aso)(v8:asn di)(v3:asn aso)(l:asn ao):asn ao:=vN v1 (.cells [(.d (.sl (cb v2))),(.own 3 (fa v8)),(.d (.v (.slice none 0 0))),(.d (.v (.slice none 0 0))),(.d (.sl (cb v3)))]:: .front 38 3 v8.length::l)
def Ye(v1:bp)(v2:asn aso)(v8:asn di)(aF:asn dh)(aR:Nat)(v3:asn aso)(bX:asn bR)(bK:bR)(v20:(asn cT))(v21:(asn cT))(cM:an)(l:asn ao):asn ao:=DG v1 v2 v8 aF aR v3 bX (.cells ((bq bK.aC)::(aw bK.ay.aO)::(aw bK.ay.bo)::(aw bK.ay.bE)::(aw bK.ay.bN)::(aw bK.ay.bM)::(.d (.sl (eV v20)))::(.d (.sl (eV v21)))::(aw bK.dy)::LL cM [])::l)
def aaQ(v1:bp)(v2:asn aso)(v8:asn di)(aF:asn dh)(v11:dh)(cF:(asn aH))(v3:asn aso)(l:asn ao):asn ao:=vN v1 (.cells [(.d (.sl (cb v2))),(.own 3 (fa v8)),(.own 4 (fY (aF++[(⟨v11.aC,v11.ay,cF⟩:dh)]))),(.d (.v (.slice none 0 0))),(.d (.sl (cb v3)))]:: .front 38 3 v8.length:: .front 43 7 (aF++[(⟨v11.aC,v11.ay,cF⟩:dh)]).length:: .cells [(bq v11.aC),(aw v11.ay.aO),(aw v11.ay.bo),(aw v11.ay.bE),(aw v11.ay.bN),(aw v11.ay.bM),(.d (.sl (dk cF)))]::l)
def ab2(v1:bp)(v2:asn aso)(v8:asn di)(v24:aH)(v6:di)(v3:asn aso)(l:asn ao):asn ao:=vN v1 (.cells [(.d (.sl (cb v2))),(.own 3 (fa (v8++[(⟨v24,v6.nP⟩:di)]))),(.d (.v (.slice none 0 0))),(.d (.v (.slice none 0 0))),(.d (.sl (cb v3)))]:: .front 38 3 (v8++[(⟨v24,v6.nP⟩:di)]).length:: .cells (pM v6).cells::l)
def Wc(v1:bp)(v2:asn aso)(v3:asn aso)(l:asn ao):asn ao:=vN v1 (.cells [(.d (.sl (cb v2))),(.d (.v (.slice none 0 0))),(.d (.v (.slice none 0 0))),(.d (.v (.slice none 0 0))),(.d (.sl (cb v3)))]::l)
theorem apR{N v1 r}(hF:Fz N v1=some r):KH 18 [(dH v1)] [] (.agg [(.d (.sl (cb r.1))),(.own 3 (fa r.2.1)),(.own 4 (fY r.2.2.1)),(.vec 5 0 r.2.2.2.1 r.2.2.2.1 22),(.d (.sl (cb r.2.2.2.2.1)))]) ([.gone, .cells [(.d (.sl (cb r.1))),(.own 3 (fa r.2.1)),(.own 4 (fY r.2.2.1)),(.vec 5 0 r.2.2.2.1 r.2.2.2.1 22),(.d (.sl (cb r.2.2.2.2.1)))], .gone, .front 38 3 r.2.1.length, .front 43 7 r.2.2.1.length, .vec 53 22 (bn (r.2.2.2.2.2.map gq))]):=by
 rw[Fz]at hF;refine Ao 6 Tryz.func18 rfl (by kernel_rfl) (arG rfl) ?_;refine zx (s':=⟨81,[(0,(dH v1))],[]⟩) (by kernel_rfl) ?_;refine bk ?_;refine rg [] [(1,(.ptr 0 0)),(2,(.ptr 1 0))] (vN v1 []) (by kernel_rfl) ?_;refine bk ?_;obtain⟨v2,h1,v3,h2,hF⟩:=k01 hF;refine rt 3 cn [(7,cL (ZA h1)),(16,cL (ZA h2))] [(3,(.ptr 2 0))] (Wc v1 v2 v3 []) (by kernel_rfl) ?_;refine bk ?_;refine bk ?_;refine rg [(7,oL v1.dj mE)] [(18,(.d (.sl (fa v1.dj)))),(19,(aw (v1.dj.length:Int))),(20,(aw (0:Int)))] (Wc v1 v2 v3 []) (by kernel_rfl) ?_;refine gP ?_;refine NA 2 1 38 3 [] rfl (.inr ⟨rfl,rfl⟩) ?_;refine tS 18 (fa v1.dj) (by kernel_rfl) λh3=> ?_;have h4:=sP mE h3;refine wE [1,2,3,18,19,20] 4 [] [(1,0),(1,1),(1,2),(1,3),(1,4),(2,2),(2,3)] (λ((v4,v5,v8):Nat×(asn di)×(asn di))=>⟨81,[(1,(.ptr 0 0)),(2,(.ptr 1 0)),(3,(.ptr 2 0)),(18,(.d (.sl (fa v1.dj)))),(19,(aw (v1.dj.length:Int))),(20,(aw (v4:Int)))],(GD v1 v2 v8 v3 [])⟩) (λ((v4,v5,v8):Nat×(asn di)×(asn di))=>v1.dj.drop v4=v5/\vc N v2 v3 v1 v5 v4 v8=some r) (λ((v4,v5,v8):Nat×(asn di)×(asn di))=>v5.length) (0,v1.dj,[]) (arG rfl) ⟨(fG trivial (fG trivial (fG trivial (fG trivial gJ)))),by kernel_rfl⟩ ⟨rfl,hF⟩ ?_
 rintro⟨v4,v5,v8⟩ ⟨h5,hF⟩;cases v5 with
 |nil=>
  rw[vc]at hF;refine bk ?_;refine rg [] [(21,(az (decide ((v4:Int)<(v1.dj.length:Int)))))] (GD v1 v2 v8 v3 []) (by kernel_rfl) ?_;refine bk ?_;refine jx (t:=(decide ((v4:Int)<(v1.dj.length:Int)))) (by kernel_rfl) (b5 h5) ?_;refine n4 (jB (jB (pR rfl ?_)));refine cy ?_;refine bk ?_;refine bk ?_;refine rg [(7,oL v1.bA kN)] [(37,(.d (.sl (fY v1.bA)))),(38,(aw (v1.bA.length:Int))),(39,(aw (0:Int)))] (GD v1 v2 v8 v3 []) (by kernel_rfl) ?_;refine gP ?_;refine NA 2 2 43 7 [] rfl (.inr ⟨rfl,rfl⟩) ?_;refine tS 37 (fY v1.bA) (by kernel_rfl) λh6=> ?_;have h7:=sP kN h6;refine wE [1,2,3,37,38,39] 5 [] [(1,0),(1,1),(1,2),(1,3),(1,4),(2,3)] (λ((v9,v10,aF):Nat×(asn dh)×(asn dh))=>⟨81,[(1,(.ptr 0 0)),(2,(.ptr 1 0)),(3,(.ptr 2 0)),(37,(.d (.sl (fY v1.bA)))),(38,(aw (v1.bA.length:Int))),(39,(aw (v9:Int)))],(CE v1 v2 v8 aF v3 [])⟩) (λ((v9,v10,aF):Nat×(asn dh)×(asn dh))=>v1.bA.drop v9=v10/\vJ N v2 v8 v3 v1 v10 v9 aF=some r) (λ((v9,v10,aF):Nat×(asn dh)×(asn dh))=>v10.length) (0,v1.bA,[]) (arG rfl) ⟨(fG trivial (fG trivial (fG trivial (fG trivial (fG trivial gJ))))),by kernel_rfl⟩ ⟨rfl,hF⟩ ?_;rintro⟨v9,v10,aF⟩ ⟨h8,hF⟩
  cases v10 with
  |nil=>
   rw[vJ]at hF;refine bk ?_;refine rg [] [(40,(az (decide ((v9:Int)<(v1.bA.length:Int)))))] (CE v1 v2 v8 aF v3 []) (by kernel_rfl) ?_;refine bk ?_;refine jx (t:=(decide ((v9:Int)<(v1.bA.length:Int)))) (by kernel_rfl) (b5 h8) ?_;refine n4 (jB (jB (pR rfl ?_)));refine cy ?_;refine bk ?_;refine bk ?_;refine rg [(7,oL v1.aU ji)] [(55,(.d (.sl (fO v1.aU)))),(56,(aw (v1.aU.length:Int))),(57,(aw (0:Int)))] (CE v1 v2 v8 aF v3 []) (by kernel_rfl) ?_;refine gP ?_;refine ahR 2 3 53 22 rfl rfl ?_;refine tS 55 (fO v1.aU) (by kernel_rfl) λh9=> ?_;have aK:=sP ji h9;refine wE [2,3,55,56,57] 6 [] [(1,0),(1,1),(1,2),(1,3),(1,4)] (λ((aV,bt,aR,bX):Nat×(asn bR)×Nat×(asn bR))=>⟨81,[(2,(.ptr 1 0)),(3,(.ptr 2 0)),(55,(.d (.sl (fO v1.aU)))),(56,(aw (v1.aU.length:Int))),(57,(aw (aV:Int)))],(DG v1 v2 v8 aF aR v3 bX [])⟩) (λ((aV,bt,aR,bX):Nat×(asn bR)×Nat×(asn bR))=>v1.aU.drop aV=bt/\vG N v2 v8 aF v3 bt aV aR bX=some r) (λ((aV,bt,aR,bX):Nat×(asn bR)×Nat×(asn bR))=>bt.length) (0,v1.aU,0,[]) (arG rfl) ⟨(fG trivial (fG trivial (fG trivial (fG trivial (fG trivial (jh (xs:=(([]:asn bR).map gq)) gJ)))))),by kernel_rfl⟩ ⟨rfl,hF⟩ ?_
   rintro⟨aV,bt,aR,bX⟩ ⟨aL,hF⟩;cases bt with
   |nil=>
    rw[vG]at hF;refine bk ?_;refine rg [] [(58,(az (decide ((aV:Int)<(v1.aU.length:Int)))))] (DG v1 v2 v8 aF aR v3 bX []) (by kernel_rfl) ?_;refine bk ?_;refine jx (t:=(decide ((aV:Int)<(v1.aU.length:Int)))) (by kernel_rfl) (b5 aL) ?_;refine n4 (jB (jB (pR rfl ?_)));refine cy ?_;refine bk ?_;refine rg [] [] [.cells (dH v1).cells, .cells [(.d (.sl (cb v2))),(.own 3 (fa v8)),(.own 4 (fY aF)),(.vec 5 0 aR aR 22),(.d (.sl (cb v3)))], .cells [(.d (.sl (cb v2))),(.own 3 (fa v8)),(.own 4 (fY aF)),(.vec 5 0 aR aR 22),(.d (.sl (cb v3)))], .front 38 3 v8.length, .front 43 7 aF.length, .vec 53 22 (bn (bX.map gq))] (by kernel_rfl) ?_;refine VH 0 ?_;refine VH 2 ?_;refine eG ?_;have hr:=arR hF;subst hr;exact qx (fG trivial (fG trivial (fG trivial (fG trivial (fG trivial (jh (xs:=(bX.map gq)) gJ)))))) (by kernel_rfl)
   |cons bK bC=>
    rw[vG]at hF;refine bk ?_;refine rg [] [(58,(az (decide ((aV:Int)<(v1.aU.length:Int)))))] (DG v1 v2 v8 aF aR v3 bX []) (by kernel_rfl) ?_;refine bk ?_;refine jJ (t:=(decide ((aV:Int)<(v1.aU.length:Int)))) (by kernel_rfl) (bU aL) ?_;refine fU ?_;refine cy ?_;refine bk ?_;refine gP ?_;refine bk ?_;refine rg [(1,oE (lf (ba aL)))] [(9,(.ptr 6 0))] (DG v1 v2 v8 aF aR v3 bX [.cells (gN bK).cells]) (by kernel_rfl) ?_;refine bk ?_;obtain⟨v20,aT,v21,bu,hF⟩:=k01 hF;obtain⟨cM,bf,hF⟩:=dC hF;refine rd cn (by kernel_rfl) [(7,cK adL aT),(16,cK adL bu),(25,cK Td bf)] [] (Ye v1 v2 v8 aF aR v3 bX bK v20 v21 cM []) (by kernel_rfl) ?_;have a7:=jl hF;replace hF:=(eR a7).symm.trans hF;have bm:=jl hF;replace hF:=(eR bm).symm.trans hF;refine re [(13,⟨_,_, .pr (.ap (bn ((bX++[(⟨bK.aC,bK.ay,v20,v21,bK.dy,cM⟩:bR)]).map gq)) (bn (([(⟨bK.aC,bK.ay,v20,v21,bK.dy,cM⟩:bR)]).map gq)) (aR+1) (aR+1)) (Wy (f:=gq) (h:=(Ye v1 v2 v8 aF aR v3 bX bK v20 v21 cM [])) (y:=(.full (fO [(⟨bK.aC,bK.ay,v20,v21,bK.dy,cM⟩:bR)]))) (k:=22) (arM a7) rfl (λc hc=>I3 c (by rw[o0];exact hc)) rfl rfl (nv bm (by decide)).1 (nv bm (by decide)).2)⟩)] [(78,(.ptr 2 3)),(77,(.vec 5 0 (aR+1) (aR+1) 22)),(76,(.full (fO [(⟨bK.aC,bK.ay,v20,v21,bK.dy,cM⟩:bR)]))),(75,(.agg [(bq bK.aC),(aw bK.ay.aO),(aw bK.ay.bo),(aw bK.ay.bE),(aw bK.ay.bN),(aw bK.ay.bM),(.d (.sl (eV v20))),(.d (.sl (eV v21))),(aw bK.dy),(aw cM.ar),(bq cM.aC),(aW cM.bD.xN),(aW cM.bD.xD),(aw cM.ay.aO),(aw cM.ay.bo),(aw cM.ay.bE),(aw cM.ay.bN),(aw cM.ay.bM),(aW cM.aM.xK),(.d (.sl (cz cM.aM.xL))),(.d (.sl (cU cM.xIdx))),(.d (.sl (dn cM.ax)))])),(74,(.vec 5 0 aR aR 22)),(73,(.ptr 2 3))] (XW v1 v2 v8 aF aR v3 bX bK v20 v21 cM []) (by kernel_rfl) ?_
    refine lC ?_;refine cy ?_;refine re [(2,oq (ca aL rfl aK))] [(57,(aw ((aV+1:Nat):Int))),(79,(aw ((aV+1:Nat):Int)))] (XW v1 v2 v8 aF aR v3 bX bK v20 v21 cM []) (by kernel_rfl) ?_;refine cy ?_;exact⟨(aV+1,bC,(aR+1),(bX++[(⟨bK.aC,bK.ay,v20,v21,bK.dy,cM⟩:bR)])),⟨(fG trivial (fG trivial (fG trivial (fG trivial (fG trivial (jh (xs:=((bX++[(⟨bK.aC,bK.ay,v20,v21,bK.dy,cM⟩:bR)]).map gq)) gJ)))))),by kernel_rfl⟩,⟨l6 aL,hF⟩,asl _⟩
  |cons v11 v12=>
   rw[vJ]at hF;refine bk ?_;refine rg [] [(40,(az (decide ((v9:Int)<(v1.bA.length:Int)))))] (CE v1 v2 v8 aF v3 []) (by kernel_rfl) ?_;refine bk ?_;refine jJ (t:=(decide ((v9:Int)<(v1.bA.length:Int)))) (by kernel_rfl) (bU h8) ?_;refine fU ?_;refine cy ?_;refine bk ?_;refine gP ?_;refine bk ?_;refine rg [(1,oE (lT (ba h8)))] [(7,(.ptr 5 0))] (CE v1 v2 v8 aF v3 [.cells (tp v11).cells]) (by kernel_rfl) ?_;refine bk ?_;obtain⟨cF,bQ,hF⟩:=dC hF;refine rg [(7,cK Yl bQ)] [] (CE v1 v2 v8 aF v3 [.cells [(bq v11.aC),(aw v11.ay.aO),(aw v11.ay.bo),(aw v11.ay.bE),(aw v11.ay.bN),(aw v11.ay.bM),(.d (.sl (dk cF)))]]) (by kernel_rfl) ?_;have cA:=jl hF;replace hF:=(eR cA).symm.trans hF;refine re [(13,oA xW aF ([(⟨v11.aC,v11.ay,cF⟩:dh)]) cA)] [(52,(.ptr 2 2)),(51,(.own 4 (fY (aF++[(⟨v11.aC,v11.ay,cF⟩:dh)])))),(50,(.full (fY [(⟨v11.aC,v11.ay,cF⟩:dh)]))),(49,(.agg [(bq v11.aC),(aw v11.ay.aO),(aw v11.ay.bo),(aw v11.ay.bE),(aw v11.ay.bN),(aw v11.ay.bM),(.d (.sl (dk cF)))])),(48,(.own 4 (fY aF))),(47,(.ptr 2 2))] (aaQ v1 v2 v8 aF v11 cF v3 []) (by kernel_rfl) ?_;refine lC ?_;refine cy ?_;refine re [(2,oq (ca h8 rfl h7))] [(39,(aw ((v9+1:Nat):Int))),(53,(aw ((v9+1:Nat):Int)))] (aaQ v1 v2 v8 aF v11 cF v3 []) (by kernel_rfl) ?_
   refine cy ?_;exact⟨(v9+1,v12,(aF++[(⟨v11.aC,v11.ay,cF⟩:dh)])),⟨(fG trivial (fG trivial (fG trivial (fG trivial (fG trivial gJ))))),by kernel_rfl⟩,⟨l6 h8,hF⟩,asl _⟩
 |cons v6 v7=>
  rw[vc]at hF;refine bk ?_;refine rg [] [(21,(az (decide ((v4:Int)<(v1.dj.length:Int)))))] (GD v1 v2 v8 v3 []) (by kernel_rfl) ?_;refine bk ?_;refine jJ (t:=(decide ((v4:Int)<(v1.dj.length:Int)))) (by kernel_rfl) (bU h5) ?_;refine fU ?_;refine cy ?_;refine bk ?_;refine gP ?_;refine bk ?_;refine rg [(1,oE (BD (ba h5)))] [(5,(.ptr 4 0))] (GD v1 v2 v8 v3 [.cells (pM v6).cells]) (by kernel_rfl) ?_;obtain⟨v24,cv,hF⟩:=dC hF;have b8:=jl hF;replace hF:=(eR b8).symm.trans hF;refine rde cn (by kernel_rfl) [(13,cK Jb cv),(28,oA EE v8 ([(⟨v24,v6.nP⟩:di)]) b8)] [(34,(.ptr 2 1)),(33,(.own 3 (fa (v8++[(⟨v24,v6.nP⟩:di)])))),(32,(.full (fa [(⟨v24,v6.nP⟩:di)]))),(31,(.agg [(aW v24.xK),(.d (.sl (cz v24.xL))),(az v6.nP)])),(30,(az v6.nP)),(29,(.ptr 4 2)),(28,(bZ v24)),(27,(bZ v6.aM)),(26,(.ptr 4 0)),(25,(.own 3 (fa v8))),(24,(.ptr 2 1))] (ab2 v1 v2 v8 v24 v6 v3 []) (by kernel_rfl) ?_;refine lC ?_;refine cy ?_;refine re [(2,oq (ca h5 rfl h4))] [(20,(aw ((v4+1:Nat):Int))),(35,(aw ((v4+1:Nat):Int)))] (ab2 v1 v2 v8 v24 v6 v3 []) (by kernel_rfl) ?_;refine cy ?_;exact⟨(v4+1,v7,(v8++[(⟨v24,v6.nP⟩:di)])),⟨(fG trivial (fG trivial (fG trivial (fG trivial gJ)))),by kernel_rfl⟩,⟨l6 h5,hF⟩,asl _⟩
def K5(N:Nat)(v1:bp):asp Bool:=
 Option.bind (bif (decide ((if(v1.dz.length:Int)>(if(v1.aU.length:Int)>(if(v1.bA.length:Int)>(v1.bO.length:Int)then(v1.bA.length:Int)else(v1.bO.length:Int))then(v1.aU.length:Int)else(if(v1.bA.length:Int)>(v1.bO.length:Int)then(v1.bA.length:Int)else(v1.bO.length:Int)))then(v1.dz.length:Int)else(if(v1.aU.length:Int)>(if(v1.bA.length:Int)>(v1.bO.length:Int)then(v1.bA.length:Int)else(v1.bO.length:Int))then(v1.aU.length:Int)else(if(v1.bA.length:Int)>(v1.bO.length:Int)then(v1.bA.length:Int)else(v1.bO.length:Int))))<=64))then some (decide ((v1.dj.length:Int)<=256))else some false) λv2=>
 some v2
theorem aom{N v1}:KO 39 [(dH v1)] az (K5 N v1):=
 fw Tryz.func39 (gA [[]] (gG (λv2=>[(2,(az v2))]) (λ_=>[.cells (dH v1).cells]) (bz (7,oL v1.bO gC) (bz (16,oL v1.bA kN) (bz (25,oL v1.aU ji) (bz (34,oL v1.dz gC) (au (λh1=>gE [(14,bT h1)] [(52,oL v1.dj mE)]) λh1=>gE [(14,bF h1)] []))))) λv2=>gR []))
def Bg(N:Nat)(v1:aso)(v2:Int)(v3:bp)(v4:asn (aso×Int)):asp (Int×(asn (aso×Int))):=
 (xd N v1).bind λv5=>
 bif v5 then
  bif ((hJ v4 v1 0) !=0)then
   some ((8:Int),v4)
  else
   bif (Nat.blt v4.length 9223372036854775807)then
   some ((0:Int),((v1,v2)::v4))
   else none
 else
  some ((7:Int),v4)
theorem QZ{N v1 v2 v3 v4}:KP 40 [(.ptr 0 0),(bq v1),(aw v2)] [.cells (ff v3 [(.mp 1)]), .map (eI v4)] (λr=>aw r.1) (λr=>[.cells (ff v3 [(.mp 1)]), .map (eI r.2)]) (Bg N v1 v2 v3 v4):=
 fh 2 Tryz.func40 (aq λv5 h1=>gA [[],[(4,cK MX h1)]] (au (λh2=>gA [[f0 (bV h2)],[(17,⟨_,_, .eq (FQ false v4 v1)⟩)]] (au (λh3=>gH [[t0 h3],[]]) λh3=>cO λh4=>gH [[f0 h3],[(19,⟨_,_, .sd (o:= .none) (R4 h4)⟩)],[]])) λh2=>gH [[t0 (cx h2)],[]]))
def TQ(N:Nat)(v1:di):asp Int:=
 (uu N v1.aM).bind λv2=>
 some v2
theorem amR{N v1}:KO 67 [(pM v1)] aw (TQ N v1):=
 fw Tryz.func67 (aq λv2 h1=>gR [[],[(7,cK z6 h1)]])
def K1(N:Nat)(v3:asn (aso×Int)):asn bB->Nat->asp Int
 |[],_=>
  some (0:Int)
 |v7::v8,v5=>
  bif ((hJ v3 v7.aC 0) !=1)then
   some (9:Int)
  else
   (K1 N v3 v8 (v5+1))
def AO(N:Nat)(v1:aH)(v2:bp)(v3:asn (aso×Int)):asp Int:=
 (uu N v1).bind λv4=>
 bif (v4 !=0)then
  some (1:Int)
 else
  K1 N v3 v1.xL 0
theorem Rh{N v1 v2 v3}:KP 68 [(.ptr 0 0),(bZ v1)] [.cells (ff v2 [(.mp 1)]), .map (eI v3)] aw (λ_=>[.cells (ff v2 [(.mp 1)]), .map (eI v3)]) (AO N v1 v2 v3):=
 fh 2 Tryz.func68 (aq λv4 h1=>gA [[],[(4,cK z6 h1)]] (au (λh2=>gH [[t0 h2],[]]) λh2=>gA [[f0 h2],[(7,oL v1.xL dL)]] (gT mV 11 v1.xL λh4=>dO 1 [] [0,11,12,13] 3 (λv5=>⟨26,[(0,(.ptr 0 0)),(11,(.d (.sl (cz v1.xL)))),(12,(aw (v1.xL.length:Int))),(13,(aw (v5:Int)))],[.cells (ff v2 [(.mp 1)]), .map (eI v3), .cells (bZ v1).cells]⟩) (λv5 h5 f1=>gH [[],[f0 (b5 h5)],[]]) (λv5 v7 v8 h5 f1 aD=>gA [[],[t0 (bU h5)],[(1,oE (ga (ba h5)))],[(20,⟨_,_, .eq (FQ false v3 v7.aC)⟩)]] (au (λh6=>gH [[t0 h6],[]]) λh6=>gb aD () [[f0 h6],[(2,oq (ca h5 rfl h4))]] h5)))))
def L2(N:Nat)(v1:di)(v2:bp)(v3:asn (aso×Int)):asp Int:=
 (TQ N v1).bind λv4=>
 bif (v4 !=0)then
  some (1:Int)
 else
  (AO N v1.aM v2 v3).bind λv5=>
  some v5
theorem aeU{N v1 v2 v3}:KP 41 [(.ptr 0 0),(pM v1)] [.cells (ff v2 [(.mp 1)]), .map (eI v3)] aw (λ_=>[.cells (ff v2 [(.mp 1)]), .map (eI v3)]) (L2 N v1 v2 v3):=
 fh 2 Tryz.func41 (aq λv4 h1=>gA [[],[(4,cK amR h1)]] (au (λh2=>gH [[t0 h2],[]]) λh2=>aq λv5 h3=>gH [[f0 h2],[(10,oQ [(.ptr 0 0),(bZ v1.aM)] [.cells (ff v2 [(.mp 1)]), .map (eI v3), .cells (pM v1).cells] [0,1] (Rh _ h3))]]))
def DU(N:Nat):asn Int->Nat->Int->asp Int
 |[],_,v7=>
  some v7
 |v5::v6,v3,v7=>
  (λiP=>DU N v6 (v3+1) iP) (if v5>v7 then v5 else v7)
def QU(N:Nat)(v1:asn Int):asp Int:=
 Option.bind (v1[0]?) λv2=>
 DU N (v1.drop 1) 1 v2
def Gd(N:Nat)(v1:asn Int):asp Int:=
 bif (decide ((v1.length:Int)<1))then
  none
 else
  QU N v1
theorem aqt{N v1 r}(hF:Gd N v1=some r):KF 117 [(.d (.sl (ng v1)))] (aw r):=by
 rw[Gd]at hF;refine OX Tryz.func117 ?_;refine Xm cn r 1 [[],[(4,oL v1 Ea)]] [0] 0 ⟨25,[(0,(.d (.sl (ng v1))))],[]⟩ (QU N v1) ?_ ?_
 ·intro f1 aD;apply bc hF<;>intro h5 hF
  ·cases hF
  exact NX cn aD () [[(0,bF h5)]] hF
 intro hF;rw[QU]at hF;obtain⟨v2,h1,hF⟩:=dC hF;refine kx cn [[(4,oE (k:=0) (Py h1))],[]] ?_;refine yV Xv 0 v1 λh3=> ?_;refine Jw cn 2 [] [0,3,4] 0 (λ((v3,v4,v7):Nat×(asn Int)×Int)=>⟨25,[(0,(.d (.sl (ng v1)))),(3,(aw v7)),(4,(aw (v3:Int)))],[]⟩) (λ((v3,v4,v7):Nat×(asn Int)×Int)=>v1.drop v3=v4/\DU N v4 v3 v7=some r) (λ((v3,v4,v7):Nat×(asn Int)×Int)=>v4.length) (1,(v1.drop 1),v2) ⟨rfl,hF⟩ ?_;rintro⟨v3,v4,v7⟩ ⟨h4,hF⟩ f2 dI;cases v4 with
 |nil=>
  rw[DU]at hF;cases hF;exact wr cn [[(7,oL v1 Ea)],[(0,bF (b5 h4))],[]]
 |cons v5 v6=>
  rw[DU]at hF;exact An cn dI (v3+1,v6,(if v5>v7 then v5 else v7)) [[(7,oL v1 Ea)],[(0,bT (bU h4))],[(10,oE (Py (ba h4)))],[(5,oq (ca h4 rfl h3))]] ⟨l6 h4,hF⟩
def yt(N:Nat)(v1:aE)(v2:asn Int):asp Int:=
 (nY N v1).bind λv3=>
 bif (v3 !=0)then
  some (10:Int)
 else
  (Gd N v2).bind λv4=>
  bif (decide (v4>6))then
   some (11:Int)
  else
   some (0:Int)
theorem Vs{N v1 v2}:KO 69 [(bY v1),(.d (.sl (ng v2)))] aw (yt N v1 v2):=
 fw Tryz.func69 (aq λv3 h1=>gA [[],[(4,cK rl h1)]] (aP λh2=>aq λv4 h3=>gA [[f0 h2],[(4,cL (aqt h3))]] (aP λh4=>gR [[f0 h4],[]])))
def Ic(N:Nat)(v4:Int×(asn (aso×Int)))(v2:bp):asn aH->Nat->asp (Int×(asn (aso×Int)))
 |[],_=>
  some ((0:Int),v4.2)
 |v8::v9,v6=>
  (AO N v8 v2 v4.2).bind λv10=>
  bif (v10 !=0)then
   some (v10,v4.2)
  else
   (Ic N v4 v2 v9 (v6+1))
def HZ(N:Nat)(v1:dh)(v2:bp)(v3:asn (aso×Int)):asp (Int×(asn (aso×Int))):=
 Option.bind (Bg N v1.aC (2:Int) v2 v3) λv4=>
 bif (v4.1 !=0)then
  some (v4.1,v4.2)
 else
  Option.bind (yt N v1.ay ([(v1.bI.length:Int)])) λv5=>
  bif (v5 !=0)then
   some (v5,v4.2)
  else
   Ic N v4 v2 v1.bI 0
def PA(v2:bp)(l:asn ao):asn ao:= .cells (ff v2 [(.mp 1)])::l
theorem aqV{N v1 v2 v3}:KP 42 [(.ptr 0 0),(tp v1)] [.cells (ff v2 [(.mp 1)]), .map (eI v3)] (λr=>aw r.1) (λr=>[.cells (ff v2 [(.mp 1)]), .map (eI r.2)]) (HZ N v1 v2 v3):=
 fh 2 Tryz.func42 (aq λv4 h1=>gA [[],[(10,oR [(.ptr 0 0),(bq v1.aC),(aw (2:Int))] (PA v2 [.map (eI v3), .cells (tp v1).cells]) [0,1] (QZ _ h1))],[]] (au (λh2=>gH [[t0 h2],[]]) λh2=>aq λv5 h3=>gA [[f0 h2],[(13,oL v1.bI dR),(19,cK Vs h3)],[]] (au (λh4=>gH [[t0 h4],[]]) λh4=>gA [[f0 h4],[(7,oL v1.bI dR)]] (gT od 28 v1.bI λh6=>dO 1 [] [0,28,29,30] 3 (λv6=>⟨41,[(0,(.ptr 0 0)),(28,(.d (.sl (dk v1.bI)))),(29,(aw (v1.bI.length:Int))),(30,(aw (v6:Int)))],(PA v2 [.map (eI v4.2), .cells (tp v1).cells])⟩) (λv6 h7 f1=>gH [[],[f0 (b5 h7)],[]]) (λv6 v8 v9 h7 f1 aD=>aq λv10 h8=>gA [[],[t0 (bU h7)],[(1,oE (kT (ba h7)))],[(7,oQ [(.ptr 0 0),(bZ v8)] (PA v2 [.map (eI v4.2), .cells (tp v1).cells, .cells (bZ v8).cells]) [0,1] (Rh _ h8))],[]] (au (λh9=>gH [[t0 h9],[]]) λh9=>gb aD () [[f0 h9],[(2,oq (ca h7 rfl h6))]] h7))))))
def T7(N:Nat)(v1:Int):asp Unit:=bif decide ((0:Int)<=v1)&&Nat.ble (v1.toNat*48) 140737488355328 then some ()else none
theorem anX{N v1 r}(hF:T7 N v1=some r):cG Tryz.prog 158 [.d (.v (.slice none 0 0)),(aw v1)] [] λr1 h1=>r1= .own 0 []/\h1=[.front 56 3 0]:=by
 obtain⟨hb,_⟩:=dT hF;rw[arA]at hb;have e:Int.ofNat v1.toNat=v1:=Int.toNat_of_nonneg (of_decide_eq_true hb.1);have h:=amP hb.2;rw[e]at h;exact h
def xS(N:Nat):asn (asn cT)->Nat->(asn cT)->asp ((asn cT))
 |[],_,v12=>
  some v12
 |v10::v11,v8,v12=>
  bif (Nat.ble ((v12.length+v10.length)*48) 140737488355328)then
  (λiP=>xS N v11 (v8+1) iP) (v12++v10)
  else none
def uj(N:Nat)(v1:asn (asn cT)):asn (asn cT)->Nat->Int->asp ((asn cT))
 |[],_,v6=>
  (T7 N v6).bind λv7=>
  xS N v1 0 []
 |v4::v5,v2,v6=>
  bif (decide ((aI (v6+(v4.length:Int)))<0))then
   none
  else
   (λcD=>uj N v1 v5 (v2+1) cD) (aI (v6+(v4.length:Int)))
def Cp(N:Nat)(v1:asn (asn cT)):asp ((asn cT)):=
 uj N v1 v1 0 (0:Int)
theorem UQ{N v1 r}(hF:Cp N v1=some r):KF 118 [(.d (.sl (oP v1)))] (.d (.sl (eV r))):=by
 rw[Cp]at hF;refine OX Tryz.func118 ?_;refine kx cn [[],[],[(4,oL v1 P5)]] ?_;refine yV abI 0 v1 λh2=> ?_;refine T0 cn 1 [] [0,3,9,10,11] 0 v1 (λv2(v6:Int)=>⟨36,[(0,(.d (.sl (oP v1)))),(3,(aw v6)),(9,(.d (.sl (oP v1)))),(10,(aw (v1.length:Int))),(11,(aw (v2:Int)))],[]⟩) (uj N v1) (0:Int) hF ?_ ?_
 ·intro v2 v6 h3 hF f1;rw[uj]at hF;obtain⟨v7,h4,hF⟩:=dC hF;refine kx cn [[],[(0,bF (b5 h3))],[(4,⟨_,_, .ku (anX h4)⟩)],[(4,oL v1 P5)]] ?_;refine yV abI 0 v1 λh6=> ?_;refine T0 cn 2 [] [6,25,26,27] 1 v1 (λv8(v12:asn cT)=>⟨36,[(6,(.own 0 (eV v12))),(25,(.d (.sl (oP v1)))),(26,(aw (v1.length:Int))),(27,(aw (v8:Int)))],[.front 56 3 v12.length]⟩) (xS N) [] hF ?_ ?_
  ·intro v8 v12 h7 hF f2;rw[xS]at hF;cases hF;exact wr cn [[],[(0,bF (b5 h7))],[]]
  intro v8 v10 v11 v12 h7 hF f2 dI;rw[xS]at hF;obtain⟨h8,hF⟩:=l5 hF;exact wb cn dI (v12++v10) [[],[(0,bT (bU h7))],[(1,oE (ZZ (ba h7)))],[(7,oA m9 v12 v10 h8)],[(2,oq (ca h7 rfl h6))]] h7 hF
 intro v2 v4 v5 v6 h3 hF f1 aD;rw[uj]at hF;refine kx cn [[],[(0,bT (bU h3))],[(1,oE (ZZ (ba h3)))],[(7,oL v4 fE)],[]] ?_;apply bc hF<;>intro h9 hF
 ·cases hF
 exact wb cn aD (aI (v6+(v4.length:Int))) [[(0,bF h9)],[(2,oq (ca h3 rfl h2))]] h3 hF
def NT(N:Nat)(v3:asn (aso×Int))(v2:bp):asn cT->Nat->(asn (aso×Bool))->asp Int
 |[],_,_=>
  some (0:Int)
 |v7::v8,v5,v9=>
  (xd N v7.aC).bind λv10=>
  bif v10 then
   Option.bind (bif (hJ v9 v7.aC false)then some true else some ((hJ v3 v7.aC 0)==1)) λv11=>
   bif v11 then
    some (8:Int)
   else
    bif (Nat.blt v9.length 9223372036854775807)then
    (AO N v7.eZ v2 v3).bind λv12=>
    bif (v12 !=0)then
     some v12
    else
     (λcD=>NT N v3 v2 v8 (v5+1) cD) ((v7.aC,true)::v9)
    else none
  else
   some (7:Int)
def Ja(N:Nat)(v1:bR)(v2:bp)(v3:asn (aso×Int)):asp Int:=
 Option.bind (Cp N ([v1.bI,v1.cl])) λv4=>
 NT N v3 v2 v4 0 []
def Qs(v2:bp)(v3:asn (aso×Int))(v1:bR)(l:asn ao):asn ao:= .cells (ff v2 [(.mp 1)]):: .map (eI v3):: .cells (gN v1).cells::l
theorem agI{N v1 v2 v3}:KP 70 [(.ptr 0 0),(gN v1)] [.cells (ff v2 [(.mp 1)]), .map (eI v3)] aw (λ_=>[.cells (ff v2 [(.mp 1)]), .map (eI v3)]) (Ja N v1 v2 v3):=
 fh 2 Tryz.func70 (aq λv4 h1=>gA [[],[],[(16,cL (UQ h1)),(19,oL v4 fE)]] (gT m9 15 v4 λh3=>iy 1 [] [0,5,15,16,17] 4 (λv5(v9:asn (aso×Bool))=>⟨52,[(0,(.ptr 0 0)),(5,(.mp 3)),(15,(.d (.sl (eV v4)))),(16,(aw (v4.length:Int))),(17,(aw (v5:Int)))],(Qs v2 v3 v1 [.map (Bp v9)])⟩) (λv5 v9 h4 f1=>gH [[],[f0 (b5 h4)],[]]) (λv5 v7 v8 v9 h4 f1 aD=>aq λv10 h5=>gA [[],[t0 (bU h4)],[(1,oE (mK (ba h4)))],[(7,cK MX h5)]] (au (λh6=>gA [[f0 (bV h6)]] (gG (λv11=>[(26,(az v11))]) (λ_=>(Qs v2 v3 v1 [.map (Bp v9), .cells (Sa v7).cells])) (bz (11,⟨_,_, .eq (afI false v9 v7.aC)⟩) (au (λh7=>gE [(4,bT h7)] []) λh7=>gE [(4,bF h7)] [(35,⟨_,_, .eq (FQ false v3 v7.aC)⟩)])) λv11=>au (λh9=>gH [[t0 h9],[]]) λh9=>cO λaK=>aq λv12 aL=>gA [[f0 h9],[(10,⟨_,_, .sd (o:= .none) (ao8 aK)⟩)],[(10,oQ [(.ptr 0 0),(bZ v7.eZ)] (Qs v2 v3 v1 [.map (Bp ((v7.aC,true)::v9)), .cells (Sa v7).cells]) [0,1] (Rh _ aL))],[]] (au (λaT=>gH [[t0 aT],[]]) λaT=>gb aD ((v7.aC,true)::v9) [[f0 aT],[(2,oq (ca h4 rfl h3))]] h4))) λh6=>gH [[t0 (cx h6)],[]]))))
def Av(N:Nat)(v1:bR)(v2:Bool):asp Int:=
 bif v2 then
  bif ((v1.cl.length:Int)==0)then
   some (11:Int)
  else
   some (0:Int)
 else
  bif (v1.dy==5)then
   Option.bind (bif (decide ((v1.cl.length:Int)>0))then some true else some ((v1.bI.length:Int)==0)) λv3=>
   bif v3 then
    some (11:Int)
   else
    some (0:Int)
  else
   some (1:Int)
def JN(N:Nat)(v1:bR):asp Int:=
 bif (v1.dy==0)then
  bif (decide ((v1.cl.length:Int)>0))then
   some (11:Int)
  else
   some (0:Int)
 else
  bif (v1.dy==1)then
   Av N v1 (v1.dy==1)
  else
   bif (v1.dy==2)then
    Av N v1 (v1.dy==2)
   else
    bif (v1.dy==3)then
     Av N v1 (v1.dy==3)
    else
     Av N v1 (v1.dy==4)
theorem aew{N v1}:KO 71 [(gN v1)] aw (JN N v1):=
 fw Tryz.func71 (gA [[],[],[]] (au (λh1=>gA [[t0 h1],[(7,oL v1.cl fE)]] (aP λh2=>gR [[f0 h2],[]])) λh1=>ir 1 [[f0 h1],[]] [1,4,11] 1 (λ(v2:Bool)=>⟨32,[(1,(.ptr 0 0)),(4,(aw v1.dy)),(11,(az v2))],[.cells (gN v1).cells]⟩) (Av N v1) (λf1 aD=>au (λh9=>gm aD (v1.dy==1) [[t0 h9]]) λh9=>gA [[f0 h9],[]] (au (λaK=>gm aD (v1.dy==2) [[t0 aK]]) λaK=>gA [[f0 aK],[]] (au (λaL=>gm aD (v1.dy==3) [[t0 aL]]) λaL=>gm aD (v1.dy==4) [[f0 aL],[]]))) (λv2=>au (λh3=>gA [[t0 h3],[(7,oL v1.cl fE)]] (aP λh4=>gR [[f0 h4],[]])) λh3=>gA [[f0 h3],[]] (fp λh5=>gA [[t0 h5]] (gG (λv3=>[(31,(az v3))]) (λ_=>[.cells (gN v1).cells]) (bz (7,oL v1.cl fE) (au (λh6=>gE [(4,bT h6)] []) λh6=>gE [(4,bF h6)] [(22,oL v1.bI fE)])) λv3=>aP λh8=>gR [[f0 h8],[]])))))
def Di(N:Nat):asn cT->Nat->(asn aso)->asp ((asn aso))
 |[],_,v7=>
  some v7
 |v5::v6,v3,v7=>
  bif (Nat.ble ((v7.length+1)*16) 140737488355328)then
  (λcD=>Di N v6 (v3+1) cD) (v7++[v5.aC])
  else none
def NF(N:Nat)(v1:bR):asp ((asn aso)):=
 Option.bind (Cp N ([v1.bI,v1.cl])) λv2=>
 Di N v2 0 []
theorem alN{N v1}:KO 73 [(gN v1)] (λr=> .d (.sl (cb r))) (NF N v1):=
 fw Tryz.func73 (aq λv2 h1=>gA [[],[],[(16,cL (UQ h1)),(19,oL v2 fE)]] (li (λ_=>(vQ 3 9 1 [] (.inr (by kernel_rfl)) ·)) (gT m9 11 v2 λh3=>iy 1 [] [3,11,12,13] 2 (λv3(v7:asn aso)=>⟨24,[(3,(.own 1 (cb v7))),(11,(.d (.sl (eV v2)))),(12,(aw (v2.length:Int))),(13,(aw (v3:Int)))],[.cells (gN v1).cells, .front 9 1 v7.length]⟩) (λv3 v7 h4 f1=>gR [[],[f0 (b5 h4)],[]]) (λv3 v5 v6 v7 h4 f1 aD=>cO λh5=>gb aD (v7++[v5.aC]) [[],[t0 (bU h4)],[(1,oE (mK (ba h4)))],[(13,oA kM v7 ([v5.aC]) h5)],[(2,oq (ca h4 rfl h3))]] h4))))
def NS(N:Nat)(v3:asn (aso×Int)):asn bB->Nat->asp Int
 |[],_=>
  some (0:Int)
 |v6::v7,v4=>
  bif ((hJ v3 v6.aC 0)==0)then
   some (9:Int)
  else
   (NS N v3 v7 (v4+1))
def Hk(N:Nat)(v1:aH)(v2:bp)(v3:asn (aso×Int)):asp Int:=
 NS N v3 v1.xL 0
theorem Ta{N v1 v2 v3}:KP 160 [(.ptr 0 0),(bZ v1)] [.cells (ff v2 [(.mp 1)]), .map (eI v3)] aw (λ_=>[.cells (ff v2 [(.mp 1)]), .map (eI v3)]) (Hk N v1 v2 v3):=
 fh 2 Tryz.func160 (gA [[],[(7,oL v1.xL dL)]] (gT mV 8 v1.xL λh2=>dO 1 [] [0,8,9,10] 3 (λv4=>⟨23,[(0,(.ptr 0 0)),(8,(.d (.sl (cz v1.xL)))),(9,(aw (v1.xL.length:Int))),(10,(aw (v4:Int)))],[.cells (ff v2 [(.mp 1)]), .map (eI v3), .cells (bZ v1).cells]⟩) (λv4 h3 f1=>gH [[],[f0 (b5 h3)],[]]) (λv4 v6 v7 h3 f1 aD=>gA [[],[t0 (bU h3)],[(1,oE (ga (ba h3)))],[(20,⟨_,_, .eq (FQ false v3 v6.aC)⟩)]] (au (λh4=>gH [[t0 h4],[]]) λh4=>gb aD () [[f0 h4],[(2,oq (ca h3 rfl h2))]] h3))))
def Uy(N:Nat)(v1:bR)(v2:aso):asp Bool:=
 some (bL v1.aC==bL v2)
theorem alZ{N v1 v2}:KP 302 [(gN v1),(.ptr 0 0)] [.cells [(bq v2)]] az (λ_=>[.cells [(bq v2)]]) (Uy N v1 v2):=
 fh 1 Tryz.func302 (gH [[],[]])
def Lv(N:Nat)(v2:aso):asn bR->Nat->asp Int
 |[],_=>
  some (-1:Int)
 |v5::v6,v3=>
  (Uy N v5 v2).bind λv7=>
  bif v7 then
   some (v3:Int)
  else
   (Lv N v2 v6 (v3+1))
def Od(N:Nat)(v1:asn bR)(v2:aso):asp Int:=
 Lv N v2 v1 0
theorem ajL{N v1 v2}:KP 301 [(.d (.sl (fO v1))),(.fn 302 [(.ptr 0 0)])] [.cells [(bq v2)]] aw (λ_=>[.cells [(bq v2)]]) (Od N v1 v2):=
 fh 1 Tryz.func301 (gA [[],[(4,oL v1 ji)]] (gT vM 0 v1 λh2=>dO 1 [] [0,1,7,8] 1 (λv3=>⟨19,[(0,(.d (.sl (fO v1)))),(1,(.fn 302 [(.ptr 0 0)])),(7,(aw (v1.length:Int))),(8,(aw (v3:Int)))],[.cells [(bq v2)]]⟩) (λv3 h3 f1=>gH [[],[f0 (b5 h3)],[]]) (λv3 v5 v6 h3 f1 aD=>aq λv7 h4=>gA [[],[t0 (bU h3)],[],[(10,oE (lf (ba h3))),(16,oQ [(gN v5),(.ptr 0 0)] [.cells [(bq v2)]] [0] (alZ _ h4))]] (au (λh5=>gH [[t0 h5],[]]) λh5=>gb aD () [[f0 h5],[(2,oq (ca h3 rfl h2))]] h3))))
def Nw(N:Nat)(v1:bp)(v2:aso):asp Int:=
 (Od N v1.aU v2).bind λv3=>
 some v3
theorem aiZ{N v1 v2}:KO 258 [(dH v1),(bq v2)] aw (Nw N v1 v2):=
 fw Tryz.func258 (aq λv3 h1=>gR [[],[(10,oQ [(.d (.sl (fO v1.aU))),(.fn 302 [(.ptr 1 0)])] [.cells (dH v1).cells, .cells [(bq v2)]] [1] (ajL _ h1))]])
def Du(N:Nat)(v8:bR):asn cT->Nat->(asn aH)->asp (aE×(asn aH)×Bool)
 |[],_,aF=>
  some (v8.ay,aF,true)
 |v11::v12,v9,aF=>
  (xe N v11.eZ).bind λaV=>
  bif (Nat.ble ((aF.length+1)*32) 140737488355328)then
  (λiP=>Du N v8 v12 (v9+1) iP) (aF++[aV])
  else none
def Ff(N:Nat)(v1:bp)(v2:aso):asn dh->Nat->asp (aE×(asn aH)×Bool)
 |[],_=>
  (Nw N v1 v2).bind λv7=>
  bif (decide (v7>=0))then
   bif (decide ((0:Int)<=v7))then
   Option.bind (v1.aU[(v7).toNat]?) λv8=>
   Du N v8 v8.bI 0 []
   else none
  else
   some (cY,[],false)
 |v5::v6,v3=>
  bif (bL v5.aC==bL v2)then
   (GQ N v5.bI).bind λbt=>
   some (v5.ay,bt,true)
  else
   (Ff N v1 v2 v6 (v3+1))
def MN(N:Nat)(v1:bp)(v2:aso):asp (aE×(asn aH)×Bool):=
 Ff N v1 v2 v1.bA 0
theorem Yt{N v1 v2}:KO 205 [(dH v1),(bq v2)] (λr=> .aX [(bY r.1),(.d (.sl (dk r.2.1))),(az r.2.2)]) (MN N v1 v2):=
 fw Tryz.func205 (gA [[],[(7,oL v1.bA kN)]] (gT xW 14 v1.bA λh2=>dO 1 [] [1,2,4,14,15,16] 2 (λv3=>⟨61,[(1,(bq v2)),(2,(.ptr 0 0)),(4,(.ptr 1 0)),(14,(.d (.sl (fY v1.bA)))),(15,(aw (v1.bA.length:Int))),(16,(aw (v3:Int)))],[.cells (dH v1).cells, .cells qO]⟩) (λv3 h3 f1=>aq λv7 h4=>gA [[],[f0 (b5 h3)],[(7,cK aiZ h4)],[]] (fp λh5=>cO λh7=>aq λv8 h6=>gA [[t0 h5],[],[(10,⟨_,_, .el (xs:=fO v1.aU) (i:=v7) (of_decide_eq_true h7) (lf h6)⟩),(19,oL v8.bI fE)]] (li (λ_=>(vQ 10 36 2 [] (.inr (by kernel_rfl)) ·)) (gT m9 40 v8.bI λh9=>iy 2 [] [2,4,9,10,40,41,42] 3 (λv9(aF:asn aH)=>⟨61,[(2,(.ptr 0 0)),(4,(.ptr 1 0)),(9,(aw v7)),(10,(.own 2 (dk aF))),(40,(.d (.sl (eV v8.bI)))),(41,(aw (v8.bI.length:Int))),(42,(aw (v9:Int)))],[.cells (dH v1).cells, .cells qO, .front 36 2 aF.length]⟩) (λv9 aF aK f2=>gR [[],[f0 (b5 aK)],[(10,⟨_,_, .el (xs:=fO v1.aU) (i:=v7) (of_decide_eq_true h7) (lf h6)⟩)]]) (λv9 v11 v12 aF aK f2 dI=>aq λaV aL=>cO λaT=>gb dI (aF++[aV]) [[],[t0 (bU aK)],[(1,oE (mK (ba aK)))],[(10,cK Jb aL),(16,oA od aF ([aV]) aT)],[(2,oq (ca aK rfl h9))]] aK))))) (λv3 v5 v6 h3 f1 aD=>gA [[],[t0 (bU h3)],[(1,oE (lT (ba h3)))],[]] (au (λbu=>aq λbt bf=>gR [[t0 bu],[(13,cK Yl bf)]]) λbu=>gb aD () [[f0 bu],[(2,oq (ca h3 rfl h2))]] h3))))
def MM(N:Nat)(v2:bp)(v3:asn (aso×Int)):asn aH->Nat->asp Int
 |[],_=>
  some (0:Int)
 |v8::v9,v6=>
  (Hk N v8 v2 v3).bind λv10=>
  bif (v10 !=0)then
   some v10
  else
   (MM N v2 v3 v9 (v6+1))
def Mj(N:Nat)(v1:aZ)(v2:bp)(v3:asn (aso×Int)):asp Int:=
 bif (bL v1.bS==bL (bs []))then
  (Hk N v1.aM v2 v3).bind λv4=>
  some v4
 else
  (MN N v2 v1.bS).bind λv5=>
  bif v5.2.2 then
   bif (v5.1.aO !=3)then
    some (10:Int)
   else
    bif ((v1.bH.length:Int) !=(v5.2.1.length:Int))then
     some (11:Int)
    else
     MM N v2 v3 v1.bH 0
  else
   some (9:Int)
def P2(v2:bp)(v3:asn (aso×Int))(v1:aZ)(l:asn ao):asn ao:= .cells (ff v2 [(.mp 1)]):: .map (eI v3):: .cells (aIndex v1).cells::l
theorem anr{N v1 v2 v3}:KP 206 [(.ptr 0 0),(aIndex v1)] [.cells (ff v2 [(.mp 1)]), .map (eI v3)] aw (λ_=>[.cells (ff v2 [(.mp 1)]), .map (eI v3)]) (Mj N v1 v2 v3):=
 fh 2 Tryz.func206 (gA [[],[]] (au (λh1=>aq λv4 h2=>gH [[t0 h1],[(10,oQ [(.ptr 0 0),(bZ v1.aM)] (P2 v2 v3 v1 []) [0,1] (Ta _ h2))]]) λh1=>aq λv5 h3=>gA [[f0 h1],[(19,cK Yt h3)],[]] (au (λh4=>gA [[f0 (bV h4)],[]] (au (λh5=>gH [[t0 h5],[]]) λh5=>gA [[f0 h5],[(7,oL v1.bH dR),(13,oL v5.2.1 dR)]] (au (λh6=>gH [[t0 h6],[]]) λh6=>gA [[f0 h6],[(7,oL v1.bH dR)]] (gT od 44 v1.bH λh8=>dO 1 [] [0,44,45,46] 4 (λv6=>⟨57,[(0,(.ptr 0 0)),(44,(.d (.sl (dk v1.bH)))),(45,(aw (v1.bH.length:Int))),(46,(aw (v6:Int)))],(P2 v2 v3 v1 [.cells (bY v5.1).cells])⟩) (λv6 h9 f1=>gH [[],[f0 (b5 h9)],[]]) (λv6 v8 v9 h9 f1 aD=>aq λv10 aK=>gA [[],[t0 (bU h9)],[(1,oE (kT (ba h9)))],[(7,oQ [(.ptr 0 0),(bZ v8)] (P2 v2 v3 v1 [.cells (bY v5.1).cells, .cells (bZ v8).cells]) [0,1] (Ta _ aK))],[]] (au (λaL=>gH [[t0 aL],[]]) λaL=>gb aD () [[f0 aL],[(2,oq (ca h9 rfl h8))]] h9)))))) λh4=>gH [[t0 (cx h4)],[]])))
def Kp(N:Nat)(v4:aE×(asn aH)×Bool)(v2:bp)(v3:asn (aso×Int)):asn aZ->Nat->asp (aE×Int)
 |[],_=>
  some (v4.1,(0:Int))
 |v7::v8,v5=>
  (Mj N v7 v2 v3).bind λv9=>
  bif (v9 !=0)then
   some (cY,v9)
  else
   (Kp N v4 v2 v3 v8 (v5+1))
def Nx(N:Nat)(v1:an)(v2:bp)(v3:asn (aso×Int)):asp (aE×Int):=
 (MN N v2 v1.aC).bind λv4=>
 bif v4.2.2 then
  bif ((v1.xIdx.length:Int) !=(v4.2.1.length:Int))then
   some (cY,(11:Int))
  else
   Kp N v4 v2 v3 v1.xIdx 0
 else
  some (cY,(9:Int))
theorem apX{N v1 v2 v3}:KP 161 [(.ptr 0 0),(aA v1)] [.cells (ff v2 [(.mp 1)]), .map (eI v3)] (λr=> .aX [(bY r.1),(aw r.2)]) (λ_=>[.cells (ff v2 [(.mp 1)]), .map (eI v3)]) (Nx N v1 v2 v3):=
 fh 2 Tryz.func161 (aq λv4 h1=>gA [[],[(19,cK Yt h1)],[]] (au (λh2=>gA [[f0 (bV h2)],[(7,oL v1.xIdx eD),(13,oL v4.2.1 dR)]] (au (λh3=>gH [[t0 h3],[]]) λh3=>gA [[f0 h3],[(7,oL v1.xIdx eD)]] (gT nf 34 v1.xIdx λh5=>dO 1 [] [0,4,6,34,35,36] 5 (λv5=>⟨49,[(0,(.ptr 0 0)),(4,(.ptr 3 0)),(6,(.ptr 4 0)),(34,(.d (.sl (cU v1.xIdx)))),(35,(aw (v1.xIdx.length:Int))),(36,(aw (v5:Int)))],[.cells (ff v2 [(.mp 1)]), .map (eI v3), .cells (aA v1).cells, .cells qO, .cells (bY v4.1).cells]⟩) (λv5 h6 f1=>gH [[],[f0 (b5 h6)],[]]) (λv5 v7 v8 h6 f1 aD=>aq λv9 h7=>gA [[],[t0 (bU h6)],[(1,oE (gX (ba h6)))],[(7,oQ [(.ptr 0 0),(aIndex v7)] [.cells (ff v2 [(.mp 1)]), .map (eI v3), .cells (aA v1).cells, .cells qO, .cells (bY v4.1).cells, .cells (aIndex v7).cells] [0,1] (anr _ h7))],[]] (au (λh8=>gH [[t0 h8],[]]) λh8=>gb aD () [[f0 h8],[(2,oq (ca h6 rfl h5))]] h6))))) λh2=>gH [[t0 (cx h2)],[]]))
def DT(N:Nat)(v1:aE)(v2:aE):asp Int:=
 bif ((v1.aO==v2.aO)&&((v1.bo==v2.bo)&&((v1.bE==v2.bE)&&((v1.bN==v2.bN)&&((v1.bM==v2.bM)&&true)))))then
  some (0:Int)
 else
  some (10:Int)
theorem Ut{N v1 v2}:KO 159 [(bY v1),(bY v2)] aw (DT N v1 v2):=
 fw Tryz.func159 (gA [[],[]] (m0 λh1=>gR [[t0 (cx h1)],[]]))
def GP(N:Nat)(v8:asn aE)(bC:Bool):asp (aE×Int):=
 bif bC then
  Option.bind (v8[0]?) λaR=>
  Option.bind (v8[1]?) λbX=>
  (DT N aR bX).bind λv20=>
  some (cY,v20)
 else
  Option.bind (v8[0]?) λv21=>
  Option.bind (v8[1]?) λcM=>
  (DT N v21 cM).bind λcF=>
  some (v21,cF)
def Fg(N:Nat)(v1:an)(v8:asn aE)(bK:Bool):asp (aE×Int):=
 bif bK then
  some (cY,(0:Int))
 else
  bif (v1.ar==13)then
   GP N v8 (v1.ar==13)
  else
   bif (v1.ar==14)then
    GP N v8 (v1.ar==14)
   else
    GP N v8 (v1.ar==15)
def KR(N:Nat)(v1:an)(v2:bp)(v3:asn (aso×Int))(v8:asn aE)(v9:Bool):asp (aE×Int):=
 bif v9 then
  some (v1.ay,(0:Int))
 else
  bif (v1.ar==2)then
   (Hk N v1.aM v2 v3).bind λv10=>
   some ((⟨(3:Int),(0:Int),(0:Int),(0:Int),(0:Int)⟩:aE),v10)
  else
   bif (v1.ar==3)then
    (Nx N v1 v2 v3).bind λv11=>
    some (v11.1,v11.2)
   else
    bif (v1.ar==8)then
     Option.bind (v8[0]?) λv12=>
     some (v12,(0:Int))
    else
     bif (v1.ar==11)then
      Option.bind (v8[1]?) λaF=>
      Option.bind (v8[2]?) λaV=>
      (DT N aF aV).bind λbt=>
      some (aF,bt)
     else
      bif (v1.ar==16)then
       Fg N v1 v8 (v1.ar==16)
      else
       bif (v1.ar==17)then
        Fg N v1 v8 (v1.ar==17)
       else
        Fg N v1 v8 (v1.ar==18)
def wU(N:Nat)(v1:an)(v2:bp)(v3:asn (aso×Int))(Ys:an->bp->(asn (aso×Int))->asp (aE×Int)):asn an->Nat->(asn aE)->asp (aE×Int)
 |[],_,v8=>
  bif (v1.ar==1)then
   KR N v1 v2 v3 v8 (v1.ar==1)
  else
   KR N v1 v2 v3 v8 (v1.ar==12)
 |v6::v7,v4,v8=>
  (Ys v6 v2 v3).bind λv24=>
  bif (v24.2 !=0)then
   some (cY,v24.2)
  else
   bif (Nat.ble ((v8.length+1)*40) 140737488355328)then
   (λcD=>wU N v1 v2 v3 Ys v7 (v4+1) cD) (v8++[v24.1])
   else none
def yC(N:Nat):Nat->an->bp->(asn (aso×Int))->asp (aE×Int)
 |0,_,_,_=>none
 |d+1,v1,v2,v3=>
  wU N v1 v2 v3 (yC N d) v1.ax 0 []
def QY(N:Nat)(v1:an)(v2:bp)(v3:asn (aso×Int)):asp (aE×Int):=yC N N v1 v2 v3
def wR(v2:bp)(v3:asn (aso×Int))(v1:an)(v8:asn aE)(l:asn ao):asn ao:= .cells (ff v2 [(.mp 1)]):: .map (eI v3):: .cells (aA v1).cells:: .cells qO:: .front 40 5 v8.length::l
theorem ahy(N:Nat):∀d:Nat,(∀{v1:an}{v2:bp}{v3:asn (aso×Int)},KP 119 [(.ptr 0 0),(aA v1)] [.cells (ff v2 [(.mp 1)]), .map (eI v3)] (λr=> .aX [(bY r.1),(aw r.2)]) (λ_=>[.cells (ff v2 [(.mp 1)]), .map (eI v3)]) (yC N d v1 v2 v3)):=by
 intro d
 induction d with
 |zero=>intro v1 v2 v3 r hF;rw[yC]at hF;cases hF
 |succ d ih=>
  have aeR:= @ih;intro v1 v2 v3;rw[yC];exact fh 2 Tryz.func119 (gA [[],[],[(7,oL v1.ax dZ)]] (li (λ_=>(vQ 6 40 5 [] (.inr (by kernel_rfl)) ·)) (gT lR 13 v1.ax λh2=>iy 1 [] [0,3,4,6,13,14,15] 5 (λv4(v8:asn aE)=>⟨102,[(0,(.ptr 0 0)),(3,(.ptr 2 0)),(4,(.ptr 3 0)),(6,(.own 4 (nE v8))),(13,(.d (.sl (dn v1.ax)))),(14,(aw (v1.ax.length:Int))),(15,(aw (v4:Int)))],(wR v2 v3 v1 v8 [])⟩) (λv4 v8 h3 f1=>ir 2 [[],[(0,bF (b5 h3))],[],[],[]] [0,3,4,6,11,35,36] 5 (λ(v9:Bool)=>⟨102,[(0,(.ptr 0 0)),(3,(.ptr 2 0)),(4,(.ptr 3 0)),(6,(.own 4 (nE v8))),(11,(.fn 159 [])),(35,(aw v1.ar)),(36,(az v9))],(wR v2 v3 v1 v8 [])⟩) (KR N v1 v2 v3 v8) (λf2 dI=>au (λfu=>gm dI (v1.ar==1) [[(0,bT fu)]]) λfu=>gm dI (v1.ar==12) [[(0,bF fu)],[]]) (λv9=>au (λh4=>gH [[(0,bT h4)],[]]) λh4=>gA [[(0,bF h4)],[]] (au (λh5=>aq λv10 h6=>gH [[(0,bT h5)],[(13,oQ [(.ptr 0 0),(bZ v1.aM)] (wR v2 v3 v1 v8 []) [0,1] (Ta _ h6))]]) λh5=>gA [[(0,bF h5)],[]] (au (λh7=>aq λv11 h8=>gH [[(0,bT h7)],[(7,oQ [(.ptr 0 0),(aA v1)] (wR v2 v3 v1 v8 []) [0,1] (apX _ h8))]]) λh7=>gA [[(0,bF h7)],[]] (au (λh9=>aq λv12 aK=>gH [[(0,bT h9)],[(4,oE (k:=0) (lF aK))]]) λh9=>gA [[(0,bF h9)],[]] (au (λaL=>aq λaF aT=>aq λaV bu=>aq λbt bf=>gH [[(0,bT aL)],[(4,oE (k:=1) (lF aT)),(16,oE (k:=1) (lF aT)),(25,oE (k:=2) (lF bu)),(31,cK Ut bf)]]) λaL=>ir 3 [[(0,bF aL)],[]] [4,6,11,35,73] 5 (λ(bK:Bool)=>⟨102,[(4,(.ptr 3 0)),(6,(.own 4 (nE v8))),(11,(.fn 159 [])),(35,(aw v1.ar)),(73,(az bK))],(wR v2 v3 v1 v8 [])⟩) (Fg N v1 v8) (λf3 iI=>au (λfF=>gm iI (v1.ar==16) [[(0,bT fF)]]) λfF=>gA [[(0,bF fF)],[]] (au (λim=>gm iI (v1.ar==17) [[(0,bT im)]]) λim=>gm iI (v1.ar==18) [[(0,bF im)],[]])) (λbK=>au (λa7=>gH [[(0,bT a7)],[]]) λa7=>ir 4 [[(0,bF a7)],[]] [4,6,11,78] 5 (λ(bC:Bool)=>⟨102,[(4,(.ptr 3 0)),(6,(.own 4 (nE v8))),(11,(.fn 159 [])),(78,(az bC))],(wR v2 v3 v1 v8 [])⟩) (GP N v8) (λf4 lY=>au (λdw=>gm lY (v1.ar==13) [[(0,bT dw)]]) λdw=>gA [[(0,bF dw)],[]] (au (λeC=>gm lY (v1.ar==14) [[(0,bT eC)]]) λeC=>gm lY (v1.ar==15) [[(0,bF eC)],[]])) (λbC=>au (λbm=>aq λaR bQ=>aq λbX cA=>aq λv20 cv=>gH [[(0,bT bm)],[(10,oE (k:=0) (lF bQ)),(19,oE (k:=1) (lF cA)),(25,cK Ut cv)]]) λbm=>aq λv21 b8=>aq λcM cJ=>aq λcF cS=>gH [[(0,bF bm)],[(4,oE (k:=0) (lF b8)),(16,oE (k:=0) (lF b8)),(25,oE (k:=1) (lF cJ)),(31,cK Ut cS)]])))))))) (λv4 v6 v7 v8 h3 f1 aD=>aq λv24 gw=>gA [[],[(0,bT (bU h3))],[(1,oE (bx (ba h3)))],[(7,oQ [(.ptr 0 0),(aA v6)] (wR v2 v3 v1 v8 [.cells (aA v6).cells]) [0,1] (aeR _ gw))],[]] (au (λmD=>gH [[(0,bT mD)],[]]) λmD=>cO λvu=>gb aD (v8++[v24.1]) [[(0,bF mD)],[(10,oA Vq v8 ([v24.1]) vu)],[(2,oq (ca h3 rfl h2))]] h3)))))
theorem aev{N v1 v2 v3}:KP 119 [(.ptr 0 0),(aA v1)] [.cells (ff v2 [(.mp 1)]), .map (eI v3)] (λr=> .aX [(bY r.1),(aw r.2)]) (λ_=>[.cells (ff v2 [(.mp 1)]), .map (eI v3)]) (QY N v1 v2 v3):=(ahy N N)
def w9(N:Nat)(v3:an)(v1:bp):asn aso->Nat->(asn (aso×Int))->asp (aE×Int)
 |[],_,bt=>
  (QY N v3 v1 bt).bind λbK=>
  bif (bK.2 !=0)then
   some (cY,bK.2)
  else
   some (bK.1,(0:Int))
 |aF::aV,v11,bt=>
  bif (Nat.blt bt.length 9223372036854775807)then
  (λiP=>w9 N v3 v1 aV (v11+1) iP) ((aF,(3:Int))::bt)
  else none
def J0(N:Nat)(v3:an)(v1:bp)(v2:asn aso):asn aso->Nat->(asn (aso×Int))->asp (aE×Int)
 |[],_,v10=>
  w9 N v3 v1 v2 0 v10
 |v8::v9,v6,v10=>
  bif (Nat.blt v10.length 9223372036854775807)then
  (λcD=>J0 N v3 v1 v2 v9 (v6+1) cD) ((v8,(1:Int))::v10)
  else none
def HK(N:Nat)(v1:bp)(v2:asn aso)(v3:an):asp (aE×Int):=
 (A4 N v3).bind λv4=>
 bif (v4 !=0)then
  some (cY,v4)
 else
  (Cd N v3).bind λv5=>
  bif v5 then
   some (cY,(10:Int))
  else
   J0 N v3 v1 v2 v1.bO 0 []
def Po(v1:bp)(v3:an)(v10:asn (aso×Int))(l:asn ao):asn ao:= .cells (dH v1).cells:: .cells (aA v3).cells:: .cells qO:: .map (eI v10):: .cells (ff v1 [(.mp 3)])::l
theorem amA{N v1 v2 v3}:KO 72 [(dH v1),(.d (.sl (cb v2))),(aA v3)] (λr=> .aX [(bY r.1),(aw r.2)]) (HK N v1 v2 v3):=
 fw Tryz.func72 (aq λv4 h1=>gA [[],[(4,cL (aam h1))],[]] (aP λh2=>aq λv5 h3=>gA [[f0 h2],[(4,cK PR h3)]] (aP λh4=>gA [[f0 h4],[],[(7,oL v1.bO gC)]] (gT kM 30 v1.bO λh6=>iy 1 [] [1,5,6,9,30,31,32] 5 (λv6(v10:asn (aso×Int))=>⟨65,[(1,(.d (.sl (cb v2)))),(5,(.ptr 1 0)),(6,(.ptr 2 0)),(9,(.ptr 4 0)),(30,(.d (.sl (cb v1.bO)))),(31,(aw (v1.bO.length:Int))),(32,(aw (v6:Int)))],(Po v1 v3 v10 [])⟩) (λv6 v10 h7 f1=>gA [[],[f0 (b5 h7)],[(4,oL v2 gC)]] (gT kM 1 v2 λh9=>iy 2 [] [5,6,9,42,43,44] 5 (λv11(bt:asn (aso×Int))=>⟨65,[(5,(.ptr 1 0)),(6,(.ptr 2 0)),(9,(.ptr 4 0)),(42,(.d (.sl (cb v2)))),(43,(aw (v2.length:Int))),(44,(aw (v11:Int)))],(Po v1 v3 bt [])⟩) (λv11 bt aK f2=>aq λbK aL=>gA [[],[f0 (b5 aK)],[(7,oQ [(.ptr 4 0),(aA v3)] (Po v1 v3 bt []) [4,3] (aev _ aL))],[]] (aP λaT=>gR [[f0 aT],[]])) (λv11 aF aV bt aK f2 dI=>cO λbu=>gb dI ((aF,(3:Int))::bt) [[],[t0 (bU aK)],[(1,oE (na (ba aK)))],[(16,⟨_,_, .sd (o:= .none) (R4 bu)⟩)],[(2,oq (ca aK rfl h9))]] aK))) (λv6 v8 v9 v10 h7 f1 aD=>cO λbf=>gb aD ((v8,(1:Int))::v10) [[],[t0 (bU h7)],[(1,oE (na (ba h7)))],[(16,⟨_,_, .sd (o:= .none) (R4 bf)⟩)],[(2,oq (ca h7 rfl h6))]] h7)))))
def I9(N:Nat)(v1:Int)(v2:bp)(v3:asn (aso×Int)):asp (Int×(asn (aso×Int))):=
 bif (decide ((0:Int)<=v1))then
 Option.bind (v2.aU[(v1).toNat]?) λv4=>
 Option.bind (Bg N v4.aC (2:Int) v2 v3) λv5=>
 bif (v5.1 !=0)then
  some (v5.1,v5.2)
 else
  Option.bind (yt N v4.ay ([(v4.bI.length:Int),(v4.cl.length:Int)])) λv6=>
  bif (v6 !=0)then
   some (v6,v5.2)
  else
   (Ja N v4 v2 v5.2).bind λv7=>
   bif (v7 !=0)then
    some (v7,v5.2)
   else
    (JN N v4).bind λv8=>
    bif (v8 !=0)then
     some (v8,v5.2)
    else
     bif (decide ((v1).toNat<=v2.aU.length))then
     (NF N v4).bind λv9=>
     Option.bind (HK N (⟨v2.bO,v2.dj,v2.bA,((v2.aU.take (v1).toNat).drop 0),v2.dz⟩:bp) v9 v4.cr) λv10=>
     bif (v10.2 !=0)then
      some (v10.2,v5.2)
     else
      bif ((v10.1.aO==v4.ay.aO)&&((v10.1.bo==v4.ay.bo)&&((v10.1.bE==v4.ay.bE)&&((v10.1.bN==v4.ay.bN)&&((v10.1.bM==v4.ay.bM)&&true)))))then
       some ((0:Int),v5.2)
      else
       some ((10:Int),v5.2)
     else none
 else none
theorem aop{N v1 v2 v3}:KP 43 [(.ptr 0 0),(aw v1)] [.cells (ff v2 [(.mp 1)]), .map (eI v3)] (λr=>aw r.1) (λr=>[.cells (ff v2 [(.mp 1)]), .map (eI r.2)]) (I9 N v1 v2 v3):=
 fh 2 Tryz.func43 (cO λh2=>aq λv4 h1=>aq λv5 h3=>gA [[],[(19,⟨_,_, .el (xs:=fO v2.aU) (i:=v1) (of_decide_eq_true h2) (lf h1)⟩)],[(10,oR [(.ptr 0 0),(bq v4.aC),(aw (2:Int))] [.cells (ff v2 [(.mp 1)]), .map (eI v3), .cells (gN v4).cells] [0,1] (QZ _ h3))],[]] (au (λh4=>gH [[t0 h4],[]]) λh4=>aq λv6 h5=>gA [[f0 h4],[(13,oL v4.bI fE),(22,oL v4.cl fE),(28,cK Vs h5)],[]] (au (λh6=>gH [[t0 h6],[]]) λh6=>aq λv7 h7=>gA [[f0 h6],[(7,oQ [(.ptr 0 0),(gN v4)] [.cells (ff v2 [(.mp 1)]), .map (eI v5.2), .cells (gN v4).cells] [0,1] (agI _ h7))],[]] (au (λh8=>gH [[t0 h8],[]]) λh8=>aq λv8 h9=>gA [[f0 h8],[(4,cK aew h9)],[]] (au (λaK=>gH [[t0 aK],[]]) λaK=>cO λaL=>aq λv9 aT=>aq λv10 bu=>gA [[f0 aK],[],[(19,⟨_,_, .sub (xs:=fO v2.aU) (lo:=0) (hi:=v1) (by decide) (Nat.zero_le _) (of_decide_eq_true h2) (by rw[ji];exact(of_decide_eq_true aL)) I3 Y0⟩)],[(7,cK alN aT),(16,cK amA bu)],[]] (au (λbf=>gH [[t0 bf],[]]) λbf=>gA [[f0 bf],[]] (au (λa7=>gH [[f0 (bV a7)],[]]) λa7=>gH [[t0 (cx a7)],[]])))))))
end Go.Proofs.YtdchibpnjpnkoaaGreatDoor
