/-
  Part 12 of the proof: PQ3.
-/
import Derived.Test.YtdchibpnjpnkoaaGreatDoorPp11
namespace Go.Proofs.YtdchibpnjpnkoaaGreatDoor
open Go.RowKit
set_option maxRecDepth 100000
set_option maxHeartbeats 0
set_option linter.unusedVariables false
def LL(v:an)(r:asn AV):asn AV:=(aw v.ar)::(bq v.aC)::(aW v.bD.xN)::(aW v.bD.xD)::(aw v.ay.aO)::(aw v.ay.bo)::(aw v.ay.bE)::(aw v.ay.bN)::(aw v.ay.bM)::(aW v.aM.xK)::(.d (.sl (cz v.aM.xL)))::(.d (.sl (cU v.xIdx)))::(.d (.sl (dn v.ax)))::r
def cf3(v:gS)(r:asn AV):asn AV:=(aw v.yT.aO)::(aw v.yT.bo)::(aw v.yT.bE)::(aw v.yT.bN)::(aw v.yT.bM)::(az v.dQ)::r
def JG(N:Nat)(v1:an):asp (an×Bool):=
 Option.bind (v1.ax[0]?) λv2=>
 (sw N v2).bind λv3=>
 Option.bind (v1.ax[1]?) λv4=>
 (sw N v4).bind λv5=>
 Option.bind (bif v3.2 then(bif v5.2 then(bif (v2.ar !=2)then some (v4.ar !=2)else some false)else some true)else some true) λv6=>
 bif v6 then
  some (fA,false)
 else
  bif (v1.ar==5)then
   (BY N v3.1 v5.1).bind λv7=>
   (Gq N v7.1).bind λv8=>
   some (v8,v7.2)
  else
   (yn N v3.1 v5.1).bind λv9=>
   (Gq N v9.1).bind λv10=>
   some (v10,(v9.2==0))
theorem ahL{N v1}:KO 145 [(aA v1)] (λr=> .aX [(aA r.1),(az r.2)]) (JG N v1):=
 fw Tryz.func145 (aq λv2 h1=>aq λv3 h2=>aq λv4 h3=>aq λv5 h4=>gA [[],[(7,oE (k:=0) (bx h1)),(13,cK IP h2)],[(7,oE (k:=1) (bx h3)),(13,cK IP h4)]] (gG (λv6=>[(49,(az v6))]) (λ_=>[.cells (aA v1).cells, .cells ft, .cells (bZ v3.1).cells, .cells (bZ v5.1).cells]) (au (λh5=>aY (2,bF (bV h5)) (au (λh6=>aY (6,bF (bV h6)) (bz (28,oE (k:=0) (bx h1)) (au (λh7=>gE [(13,bT h7)] [(49,oE (k:=1) (bx h3)),(61,bT h7)]) λh7=>gE [(13,bF h7)] [(61,bF h7)]))) λh6=>gE [(6,bT (cx h6)),(13,uN)] [])) λh5=>gE [(2,bT (cx h5)),(6,bT rfl),(13,uN)] []) λv6=>dM λ_=>au (λaK=>aq λv7 aL=>aq λv8 aT=>gR [[t0 aK],[(7,cK UL aL)],[(4,cK J8 aT)]]) λaK=>aq λv9 bu=>aq λv10 bf=>gR [[f0 aK],[(7,cK ZL bu)],[(4,cK J8 bf)]]))
def Hz(N:Nat)(v3:an)(v4:an):asp (an×Bool):=
 Option.bind (bif (v3.ar !=2)then some true else(bif (v4.ar !=1)then some true else some (v4.ay.aO !=3))) λv5=>
 bif v5 then
  some (fA,false)
 else
  (uW N v3.aM v4.bD.xN).bind λv6=>
  (Gq N v6.1).bind λv7=>
  some (v7,(v6.2==0))
def JQ(N:Nat)(v1:an)(v2:an):asp (an×Bool):=
 bif (v1.ar==1)then
  Hz N v2 v1
 else
  Hz N v1 v2
theorem alh{N v1 v2}:KO 146 [(aA v1),(aA v2)] (λr=> .aX [(aA r.1),(az r.2)]) (JQ N v1 v2):=
 fw Tryz.func146 (ah7 1 [[],[]] [2,3,4] 3 [] [(2,10),(2,11),(2,12)] (λ(v3:an)(v4:an)=>⟨41,[(2,(.ptr 0 0)),(3,(.ptr 1 0)),(4,(.ptr 2 0))],[.cells (aA v3).cells, .cells (aA v4).cells, .cells ft]⟩) (Hz N) (λf1 aD=>au (λh7=>nG aD (v2,v1) [[t0 h7],[]]) λh7=>nG aD (v1,v2) [[f0 h7]]) (λv3 v4=>gG (λv5=>[(26,(az v5))]) (λ_=>[.cells (aA v3).cells, .cells (aA v4).cells, .cells ft]) (au (λh1=>gE [(3,bT h1),(8,bT rfl)] []) λh1=>aY (3,bF h1) (au (λh2=>gE [(8,bT h2)] []) λh2=>gE [(8,bF h2)] [])) λv5=>aP λh4=>aq λv6 h5=>aq λv7 h6=>gR [[f0 h4],[(16,cK RN h5)],[(4,cK J8 h6)]]))
def Sr(N:Nat)(v1:fm)(v4:Bool):asp (an×Bool):=
 bif v4 then
  (JG N v1.yE).bind λv5=>
  some (v5.1,v5.2)
 else
  bif (v1.yE.ar==6)then
   Option.bind (v1.yE.ax[0]?) λv6=>
   Option.bind (v1.yE.ax[1]?) λv7=>
   (JQ N v6 v7).bind λv8=>
   some (v8.1,v8.2)
  else
   bif (v1.yE.ar==8)then
    Option.bind (v1.yE.ax[0]?) λv9=>
    bif (v9.ar==2)then
     Option.bind (uW N v9.aM (-1:Int64)) λv10=>
     (Gq N v10.1).bind λv11=>
     some (v11,(v10.2==0))
    else
     some (fA,false)
   else
    some (fA,false)
def Kg(N:Nat)(v1:fm):asp (an×Bool):=
 bif (v1.yE.ar==2)then
  Option.bind (sr N (⟨(3:Int),(0:Int),(0:Int),(0:Int),(0:Int)⟩:aE) (⟨v1.yE.aM.xK,(1:Int64)⟩:aG)) λv2=>
  Option.bind (bif ((v1.yE.aM.xL.length:Int)==0)then(bif (decide (v1.yE.aM.xK.toInt>=(-2147483647:Int)))then some (decide (v1.yE.aM.xK.toInt<=2147483647))else some false)else some false) λv3=>
  some (v2,v3)
 else
  bif (v1.yE.ar==4)then
   Sr N v1 (v1.yE.ar==4)
  else
   Sr N v1 (v1.yE.ar==5)
theorem apA{N v1}:KO 102 [(dm v1)] (λr=> .aX [(aA r.1),(az r.2)]) (Kg N v1):=
 fw Tryz.func102 (gA [[],[],[],[]] (au (λh1=>gA [[t0 h1],[]] (aq λv2 h2=>gG (λv3=>[(3,(az v3))]) (λ_=>[.cells (dm v1).cells, .cells (aA v2).cells, .cells (aA v1.yE).cells]) (bz (10,cK EB h2) (bz (22,oL v1.yE.aM.xL dL) (au (λh3=>aY (9,bT h3) (au (λh4=>gE [(13,bT h4)] []) λh4=>gE [(13,bF h4)] [])) λh3=>gE [(9,bF h3),(13,bF rfl)] []))) λv3=>gR [])) λh1=>OB 1 [[f0 h1],[]] [2,4,11,34] 3 [] [(1,10),(1,11),(1,12)] (λ(v4:Bool)=>⟨76,[(2,(.ptr 1 0)),(4,(.ptr 2 0)),(11,(aw v1.yE.ar)),(34,(az v4))],[.cells (dm v1).cells, .cells ft, .cells (aA v1.yE).cells]⟩) (Sr N v1) (λf1 aD=>au (λbQ=>nG aD (v1.yE.ar==4) [[t0 bQ]]) λbQ=>nG aD (v1.yE.ar==5) [[f0 bQ],[]]) (λv4=>au (λh6=>aq λv5 h7=>gR [[t0 h6],[(4,cK ahL h7)]]) λh6=>gA [[f0 h6],[]] (au (λh8=>aq λv6 h9=>aq λv7 aK=>aq λv8 aL=>gR [[t0 h8],[(7,oE (k:=0) (bx h9)),(19,oE (k:=1) (bx aK)),(25,cK alh aL)]]) λh8=>gA [[f0 h8],[]] (fp λaT=>aq λv9 bu=>gA [[t0 aT],[(7,oE (k:=0) (bx bu))]] (fp λbf=>aq λv10 a7=>aq λv11 bm=>gR [[t0 bf],[(7,oE (k:=0) (bx bu)),(16,cK RN a7)],[(4,cK J8 bm)]]))))))
def S1(N:Nat)(v5:an×Bool)(v6:aso)(v7:an):asp (Bool×aso×an):=
 some (v5.2,v6,v7)
def OO(N:Nat)(v1:fm)(v2:aso)(v3:aso)(v4:an):asp (Bool×aso×an):=
 (Kg N v1).bind λv5=>
 bif v5.2 then
  S1 N v5 v2 v5.1
 else
  S1 N v5 v3 v4
theorem aq8{N v1 v2 v3 v4}:KP 99 [(dm v1),(.fn 102 []),(bq v2),(.ptr 0 0),(.ptr 1 0)] [.cells [(bq v3)], .cells (aA v4).cells] (λr=>az r.1) (λr=>[.cells [(bq r.2.1)], .cells (aA r.2.2).cells]) (OO N v1 v2 v3 v4):=
 fh 2 Tryz.func99 (aq λv5 h1=>nF 1 [[],[(7,cK apA h1)],[]] [12] 4 (λ(v6:aso)(v7:an)=>⟨27,[(12,(az v5.2))],[.cells [(bq v6)], .cells (aA v7).cells, .cells (dm v1).cells, .cells (aA v5.1).cells]⟩) (S1 N v5) (λf1 aD=>au (λh2=>gm aD (v2,v5.1) [[t0 h2],[]]) λh2=>gm aD (v3,v4) [[f0 h2]]) (λv6 v7=>gH [[]]))
def zO(N:Nat)(v1:Int)(v2:Int):asp Bool:=
 bif (v1==13)then
  some (decide (v2<0))
 else
  bif (v1==14)then
   some (decide (v2<=0))
  else
   some (v2==0)
theorem K6{N v1 v2}:KO 246 [(aw v1),(aw v2)] az (zO N v1 v2):=
 fw Tryz.func246 (gA [[],[],[]] (dM λ_=>aP λh2=>gR [[f0 h2],[]]))
def M0(N:Nat)(v1:Int):asp Bool:=
 some (v1 !=v1)
theorem aau{N v1}:KO 291 [(aw v1)] az (M0 N v1):=
 fw Tryz.func291 (gR [[],[]])
def oI(N:Nat)(v1:Int)(v2:Int):asp Int:=
 (M0 N v1).bind λv3=>
 (M0 N v2).bind λv4=>
 bif v3 then
  bif v4 then
   some (0:Int)
  else
   some (-1:Int)
 else
  bif v4 then
   some (1:Int)
  else
   bif (decide (v1<v2))then
    some (-1:Int)
   else
    bif (decide (v1>v2))then
     some (1:Int)
    else
     some (0:Int)
theorem te{N v1 v2}:KO 248 [(aw v1),(aw v2)] aw (oI N v1 v2):=
 fw Tryz.func248 (aq λv3 h1=>aq λv4 h2=>gA [[],[(4,cK aau h1)],[(4,cK aau h2)],[]] (au (λh3=>gA [[t0 h3],[]] (aP λh4=>gR [[f0 h4],[]])) λh3=>gA [[f0 h3],[]] (dM λ_=>dM λ_=>aP λh7=>gR [[f0 h7],[]])))
def F0(N:Nat)(v1 v2:aso):asp Int:=some (NU v1 v2)
theorem Rc{N v1 v2 r}(hF:F0 N v1 v2=some r):gD Tryz.prog 249 [(bq v1),(bq v2)] (·=(aw r)):=by
 cases hF;exact aj5 v1 v2
def Jg(N:Nat)(v1:Int64):asp Bool:=
 some (v1.toInt !=v1.toInt)
theorem Xb{N v1}:KO 293 [(aW v1)] az (Jg N v1):=
 fw Tryz.func293 (gR [[],[]])
def GC(N:Nat)(v1:Int64)(v2:Int64):asp Int:=
 (Jg N v1).bind λv3=>
 (Jg N v2).bind λv4=>
 bif v3 then
  bif v4 then
   some (0:Int)
  else
   some (-1:Int)
 else
  bif v4 then
   some (1:Int)
  else
   bif (decide (v1.toInt<v2.toInt))then
    some (-1:Int)
   else
    bif (decide (v1.toInt>v2.toInt))then
     some (1:Int)
    else
     some (0:Int)
theorem Yw{N v1 v2}:KO 250 [(aW v1),(aW v2)] aw (GC N v1 v2):=
 fw Tryz.func250 (aq λv3 h1=>aq λv4 h2=>gA [[],[(4,cK Xb h1)],[(4,cK Xb h2)],[]] (au (λh3=>gA [[t0 h3],[]] (aP λh4=>gR [[f0 h4],[]])) λh3=>gA [[f0 h3],[]] (dM λ_=>dM λ_=>aP λh7=>gR [[f0 h7],[]])))
def Ks(N:Nat):asn Int->Nat->asp Int
 |[],_=>
  some (0:Int)
 |v4::v5,v2=>
  bif (v4 !=0)then
   some v4
  else
   (Ks N v5 (v2+1))
def Fq(N:Nat)(v1:asn Int):asp Int:=
 Ks N v1 0
theorem aaF{N v1}:KO 247 [(.d (.sl (ng v1)))] aw (Fq N v1):=
 fw Tryz.func247 (gA [[],[],[(4,oL v1 Ea)]] (gT Xv 0 v1 λh2=>dO 1 [] [3,6,7,8] 0 (λv2=>⟨18,[(3,(aw (0:Int))),(6,(.d (.sl (ng v1)))),(7,(aw (v1.length:Int))),(8,(aw (v2:Int)))],[]⟩) (λv2 h3 f1=>gR [[],[f0 (b5 h3)],[]]) (λv2 v4 v5 h3 f1 aD=>gA [[],[t0 (bU h3)],[(1,oE (Py (ba h3)))],[]] (aP λh4=>gb aD () [[f0 h4],[(2,oq (ca h3 rfl h2))]] h3))))
def Kq(N:Nat)(v1:aE)(v2:aE):asp Int:=
 (oI N v1.aO v2.aO).bind λv3=>
 (oI N v1.bo v2.bo).bind λv4=>
 (oI N v1.bE v2.bE).bind λv5=>
 (oI N v1.bN v2.bN).bind λv6=>
 (oI N v1.bM v2.bM).bind λv7=>
 Option.bind (Fq N ([v3,v4,v5,v6,v7])) λv8=>
 some v8
theorem akf{N v1 v2}:KO 251 [(bY v1),(bY v2)] aw (Kq N v1 v2):=
 fw Tryz.func251 (aq λv3 h1=>aq λv4 h2=>aq λv5 h3=>aq λv6 h4=>aq λv7 h5=>aq λv8 h6=>gR [[],[(13,cK te h1),(28,cK te h2),(43,cK te h3),(58,cK te h4),(73,cK te h5),(79,cK aaF h6)]])
def F1(N:Nat)(v1:Int64)(v2:Int64):asp Int:=
 bif (decide (v1.toInt<v2.toInt))then
  some (-1:Int)
 else
  bif (decide (v1.toInt>v2.toInt))then
   some (1:Int)
  else
   some (0:Int)
theorem ZD{N v1 v2}:KO 296 [(aW v1),(aW v2)] aw (F1 N v1 v2):=
 fw Tryz.func296 (gA [[],[]] (dM λ_=>aP λh2=>gR [[f0 h2],[]]))
def KX(N:Nat)(v1:bB)(v2:bB):asp Int:=
 bif (bL v1.aC==bL v2.aC)then
  (F1 N v1.dE v2.dE).bind λv3=>
  some v3
 else
  (F0 N v1.aC v2.aC).bind λv4=>
  some v4
theorem am9{N v1 v2}:KO 295 [(NI v1),(NI v2)] aw (KX N v1 v2):=
 fw Tryz.func295 (gA [[],[]] (au (λh1=>aq λv3 h2=>gR [[f0 (bV h1)],[(13,cK ZD h2)]]) λh1=>aq λv4 h3=>gR [[t0 (cx h1)],[(13,cL (Rc h3))]]))
def zM(N:Nat)(v1:asn bB)(v2:asn bB):asn bB->Nat->asp Int
 |[],_=>
  bif (decide ((v1.length:Int)<(v2.length:Int)))then
   some (-1:Int)
  else
   some (0:Int)
 |v5::v6,v3=>
  bif (decide ((v3:Int)>=(v2.length:Int)))then
   some (1:Int)
  else
   Option.bind (v2[((v3:Int)).toNat]?) λv7=>
   (KX N v5 v7).bind λv8=>
   bif (v8 !=0)then
    some v8
   else
    (zM N v1 v2 v6 (v3+1))
def QE(N:Nat)(v1:asn bB)(v2:asn bB):asp Int:=
 zM N v1 v2 v1 0
theorem aj9{N v1 v2}:KP 294 [(.d (.sl (cz v1))),(.d (.sl (cz v2))),(.fn 295 [])] [] aw (λ_=>[]) (QE N v1 v2):=
 fh 0 Tryz.func294 (gA [[],[(4,oL v1 dL)]] (gT mV 0 v1 λh2=>dO 1 [] [0,1,2,11,12,13] 0 (λv3=>⟨39,[(0,(.d (.sl (cz v1)))),(1,(.d (.sl (cz v2)))),(2,(.fn 295 [])),(11,(.d (.sl (cz v1)))),(12,(aw (v1.length:Int))),(13,(aw (v3:Int)))],[]⟩) (λv3 h3 f1=>gA [[],[f0 (b5 h3)],[(4,oL v1 dL),(10,oL v2 dL)]] (au (λh4=>gH [[t0 h4],[]]) λh4=>gH [[f0 h4],[]])) (λv3 v5 v6 h3 f1 aD=>gA [[],[t0 (bU h3)],[(4,oE (ga (ba h3)))],[(7,oL v2 dL)]] (au (λh5=>gH [[t0 h5],[]]) λh5=>aq λv7 h6=>aq λv8 h8=>gA [[f0 h5],[(7,oE (ga h6))],[(10,cK am9 h8)],[]] (au (λh9=>gH [[t0 h9],[]]) λh9=>gb aD () [[f0 h9],[(2,oq (ca h3 rfl h2))]] h3)))))
def Ap(N:Nat)(v1:aH)(v2:aH):asp Int:=
 (QE N v1.xL v2.xL).bind λv3=>
 bif (v3 !=0)then
  some v3
 else
  (F1 N v1.xK v2.xK).bind λv4=>
  some v4
theorem OT{N v1 v2}:KO 252 [(bZ v1),(bZ v2)] aw (Ap N v1 v2):=
 fw Tryz.func252 (aq λv3 h1=>gA [[],[(13,oQ [(.d (.sl (cz v1.xL))),(.d (.sl (cz v2.xL))),(.fn 295 [])] [.cells (bZ v1).cells, .cells (bZ v2).cells] [] (aj9 _ h1))],[]] (aP λh2=>aq λv4 h3=>gR [[f0 h2],[(13,cK ZD h3)]]))
def yL(N:Nat)(v1:asn aH)(v2:asn aH):asn aH->Nat->asp Int
 |[],_=>
  bif (decide ((v1.length:Int)<(v2.length:Int)))then
   some (-1:Int)
  else
   some (0:Int)
 |v5::v6,v3=>
  bif (decide ((v3:Int)>=(v2.length:Int)))then
   some (1:Int)
  else
   Option.bind (v2[((v3:Int)).toNat]?) λv7=>
   (Ap N v5 v7).bind λv8=>
   bif (v8 !=0)then
    some v8
   else
    (yL N v1 v2 v6 (v3+1))
def Pr(N:Nat)(v1:asn aH)(v2:asn aH):asp Int:=
 yL N v1 v2 v1 0
theorem akP{N v1 v2}:KP 312 [(.d (.sl (dk v1))),(.d (.sl (dk v2))),(.fn 252 [])] [] aw (λ_=>[]) (Pr N v1 v2):=
 fh 0 Tryz.func312 (gA [[],[(4,oL v1 dR)]] (gT od 0 v1 λh2=>dO 1 [] [0,1,2,11,12,13] 0 (λv3=>⟨39,[(0,(.d (.sl (dk v1)))),(1,(.d (.sl (dk v2)))),(2,(.fn 252 [])),(11,(.d (.sl (dk v1)))),(12,(aw (v1.length:Int))),(13,(aw (v3:Int)))],[]⟩) (λv3 h3 f1=>gA [[],[f0 (b5 h3)],[(4,oL v1 dR),(10,oL v2 dR)]] (au (λh4=>gH [[t0 h4],[]]) λh4=>gH [[f0 h4],[]])) (λv3 v5 v6 h3 f1 aD=>gA [[],[t0 (bU h3)],[(4,oE (kT (ba h3)))],[(7,oL v2 dR)]] (au (λh5=>gH [[t0 h5],[]]) λh5=>aq λv7 h6=>aq λv8 h8=>gA [[f0 h5],[(7,oE (kT h6))],[(10,cK OT h8)],[]] (au (λh9=>gH [[t0 h9],[]]) λh9=>gb aD () [[f0 h9],[(2,oq (ca h3 rfl h2))]] h3)))))
def Ie(N:Nat)(v1:asn aH)(v2:asn aH):asp Int:=
 Option.bind (oI N (v1.length:Int) (v2.length:Int)) λv3=>
 bif (v3 !=0)then
  some v3
 else
  (Pr N v1 v2).bind λv4=>
  some v4
theorem agO{N v1 v2}:KP 298 [(.d (.sl (dk v1))),(.d (.sl (dk v2))),(.fn 252 [])] [] aw (λ_=>[]) (Ie N v1 v2):=
 fh 0 Tryz.func298 (aq λv3 h1=>gA [[],[(4,oL v1 dR),(10,oL v2 dR),(13,cK te h1)],[]] (au (λh2=>gH [[t0 h2],[]]) λh2=>aq λv4 h3=>gH [[f0 h2],[(10,oQ [(.d (.sl (dk v1))),(.d (.sl (dk v2))),(.fn 252 [])] [] [] (akP _ h3))]]))
def ND(N:Nat)(v1:aZ)(v2:aZ):asp Int:=
 (F0 N v1.bS v2.bS).bind λv3=>
 bif (v3 !=0)then
  some v3
 else
  (Ap N v1.aM v2.aM).bind λv4=>
  bif (v4 !=0)then
   some v4
  else
   (Ie N v1.bH v2.bH).bind λv5=>
   some v5
theorem aer{N v1 v2}:KO 254 [(aIndex v1),(aIndex v2)] aw (ND N v1 v2):=
 fw Tryz.func254 (aq λv3 h1=>gA [[],[(13,cL (Rc h1))],[]] (aP λh2=>aq λv4 h3=>gA [[f0 h2],[(13,cK OT h3)],[]] (aP λh4=>aq λv5 h5=>gR [[f0 h4],[(13,oQ [(.d (.sl (dk v1.bH))),(.d (.sl (dk v2.bH))),(.fn 252 [])] [.cells (aIndex v1).cells, .cells (aIndex v2).cells] [] (agO _ h5))]])))
def wZ(N:Nat)(v1:asn aZ)(v2:asn aZ):asn aZ->Nat->asp Int
 |[],_=>
  bif (decide ((v1.length:Int)<(v2.length:Int)))then
   some (-1:Int)
  else
   some (0:Int)
 |v5::v6,v3=>
  bif (decide ((v3:Int)>=(v2.length:Int)))then
   some (1:Int)
  else
   Option.bind (v2[((v3:Int)).toNat]?) λv7=>
   (ND N v5 v7).bind λv8=>
   bif (v8 !=0)then
    some v8
   else
    (wZ N v1 v2 v6 (v3+1))
def PZ(N:Nat)(v1:asn aZ)(v2:asn aZ):asp Int:=
 wZ N v1 v2 v1 0
theorem ak6{N v1 v2}:KP 297 [(.d (.sl (cU v1))),(.d (.sl (cU v2))),(.fn 254 [])] [] aw (λ_=>[]) (PZ N v1 v2):=
 fh 0 Tryz.func297 (gA [[],[(4,oL v1 eD)]] (gT nf 0 v1 λh2=>dO 1 [] [0,1,2,11,12,13] 0 (λv3=>⟨39,[(0,(.d (.sl (cU v1)))),(1,(.d (.sl (cU v2)))),(2,(.fn 254 [])),(11,(.d (.sl (cU v1)))),(12,(aw (v1.length:Int))),(13,(aw (v3:Int)))],[]⟩) (λv3 h3 f1=>gA [[],[f0 (b5 h3)],[(4,oL v1 eD),(10,oL v2 eD)]] (au (λh4=>gH [[t0 h4],[]]) λh4=>gH [[f0 h4],[]])) (λv3 v5 v6 h3 f1 aD=>gA [[],[t0 (bU h3)],[(4,oE (gX (ba h3)))],[(7,oL v2 eD)]] (au (λh5=>gH [[t0 h5],[]]) λh5=>aq λv7 h6=>aq λv8 h8=>gA [[f0 h5],[(7,oE (gX h6))],[(10,cK aer h8)],[]] (au (λh9=>gH [[t0 h9],[]]) λh9=>gb aD () [[f0 h9],[(2,oq (ca h3 rfl h2))]] h3)))))
def LI(N:Nat)(v1:asn aZ)(v2:asn aZ):asp Int:=
 Option.bind (oI N (v1.length:Int) (v2.length:Int)) λv3=>
 bif (v3 !=0)then
  some v3
 else
  (PZ N v1 v2).bind λv4=>
  some v4
theorem ap6{N v1 v2}:KP 253 [(.d (.sl (cU v1))),(.d (.sl (cU v2))),(.fn 254 [])] [] aw (λ_=>[]) (LI N v1 v2):=
 fh 0 Tryz.func253 (aq λv3 h1=>gA [[],[(4,oL v1 eD),(10,oL v2 eD),(13,cK te h1)],[]] (au (λh2=>gH [[t0 h2],[]]) λh2=>aq λv4 h3=>gH [[f0 h2],[(10,oQ [(.d (.sl (cU v1))),(.d (.sl (cU v2))),(.fn 254 [])] [] [] (ak6 _ h3))]]))
def xz(N:Nat)(v1:asn an)(v2:asn an)(Y3:an->an->asp Int):asn an->Nat->asp Int
 |[],_=>
  bif (decide ((v1.length:Int)<(v2.length:Int)))then
   some (-1:Int)
  else
   some (0:Int)
 |v5::v6,v3=>
  bif (decide ((v3:Int)>=(v2.length:Int)))then
   some (1:Int)
  else
   Option.bind (v2[((v3:Int)).toNat]?) λv7=>
   (Y3 v5 v7).bind λv8=>
   bif (v8 !=0)then
    some v8
   else
    (xz N v1 v2 Y3 v6 (v3+1))
mutual
def ud(N:Nat):Nat->an->an->asp Int
 |0,_,_=>none
 |d+1,v1,v2=>
  (oI N v1.ar v2.ar).bind λv3=>
  (F0 N v1.aC v2.aC).bind λv4=>
  (GC N v1.bD.xN v2.bD.xN).bind λv5=>
  (GC N v1.bD.xD v2.bD.xD).bind λv6=>
  (Kq N v1.ay v2.ay).bind λv7=>
  (Ap N v1.aM v2.aM).bind λv8=>
  Option.bind (Fq N ([v3,v4,v5,v6,v7,v8])) λv9=>
  bif (v9 !=0)then
   some v9
  else
   (LI N v1.xIdx v2.xIdx).bind λv10=>
   bif (v10 !=0)then
    some v10
   else
    Option.bind ((GR N d) v1.ax v2.ax) λv11=>
    some v11
def GR(N:Nat):Nat->(asn an)->(asn an)->asp Int
 |0,_,_=>none
 |d+1,v1,v2=>
  Option.bind (oI N (v1.length:Int) (v2.length:Int)) λv3=>
  bif (v3 !=0)then
   some v3
  else
   Option.bind ((D7 N d) v1 v2) λv4=>
   some v4
def D7(N:Nat):Nat->(asn an)->(asn an)->asp Int
 |0,_,_=>none
 |d+1,v1,v2=>
  xz N v1 v2 (ud N d) v1 0
end
def TJ(N:Nat)(v1:an)(v2:an):asp Int:=ud N N v1 v2
theorem anF(N:Nat):∀d:Nat,(∀{v1:an}{v2:an},KO 203 [(aA v1),(aA v2)] aw (ud N d v1 v2))/\(∀{v1:asn an}{v2:asn an},KP 255 [(.d (.sl (dn v1))),(.d (.sl (dn v2))),(.fn 203 [])] [] aw (λ_=>[]) (GR N d v1 v2))/\(∀{v1:asn an}{v2:asn an},KP 299 [(.d (.sl (dn v1))),(.d (.sl (dn v2))),(.fn 203 [])] [] aw (λ_=>[]) (D7 N d v1 v2)):=by
 intro d
 induction d with
 |zero=>exact⟨(by intro v1 v2 r hF;rw[ud]at hF;cases hF),(by intro v1 v2 r hF;rw[GR]at hF;cases hF),(by intro v1 v2 r hF;rw[D7]at hF;cases hF)⟩
 |succ d ih=>
  have afF:= @ih.1;have aiz:= @ih.2.1;have aoM:= @ih.2.2;refine⟨?_,?_,?_⟩
  ·intro v1 v2;rw[ud];exact fw Tryz.func203 (aq λv3 h1=>aq λv4 h2=>aq λv5 h3=>aq λv6 h4=>aq λv7 h5=>aq λv8 h6=>aq λv9 h7=>gA [[],[(13,cK te h1),(28,cL (Rc h2)),(49,cK Yw h3),(70,cK Yw h4),(85,cK akf h5),(100,cK OT h6),(106,cK aaF h7)],[]] (aP λh8=>aq λv10 h9=>gA [[(0,bF h8)],[(13,oQ [(.d (.sl (cU v1.xIdx))),(.d (.sl (cU v2.xIdx))),(.fn 254 [])] [.cells (aA v1).cells, .cells (aA v2).cells] [] (ap6 _ h9))],[]] (aP λaK=>aq λv11 aL=>gR [[(0,bF aK)],[(13,oQ [(.d (.sl (dn v1.ax))),(.d (.sl (dn v2.ax))),(.fn 203 [])] [.cells (aA v1).cells, .cells (aA v2).cells] [] (aiz _ aL))]])))
  ·intro v1 v2;rw[GR];exact fh 0 Tryz.func255 (aq λv3 h1=>gA [[],[(4,oL v1 dZ),(10,oL v2 dZ),(13,cK te h1)],[]] (au (λh2=>gH [[(0,bT h2)],[]]) λh2=>aq λv4 h3=>gH [[(0,bF h2)],[(10,oQ [(.d (.sl (dn v1))),(.d (.sl (dn v2))),(.fn 203 [])] [] [] (aoM _ h3))]]))
  intro v1 v2;rw[D7];exact fh 0 Tryz.func299 (gA [[],[(4,oL v1 dZ)]] (gT lR 0 v1 λh2=>dO 1 [] [0,1,2,11,12,13] 0 (λv3=>⟨39,[(0,(.d (.sl (dn v1)))),(1,(.d (.sl (dn v2)))),(2,(.fn 203 [])),(11,(.d (.sl (dn v1)))),(12,(aw (v1.length:Int))),(13,(aw (v3:Int)))],[]⟩) (λv3 h3 f1=>gA [[],[(0,bF (b5 h3))],[(4,oL v1 dZ),(10,oL v2 dZ)]] (au (λh4=>gH [[(0,bT h4)],[]]) λh4=>gH [[(0,bF h4)],[]])) (λv3 v5 v6 h3 f1 aD=>gA [[],[(0,bT (bU h3))],[(4,oE (bx (ba h3)))],[(7,oL v2 dZ)]] (au (λh5=>gH [[(0,bT h5)],[]]) λh5=>aq λv7 h6=>aq λv8 h8=>gA [[(0,bF h5)],[(7,oE (bx h6))],[(10,cK afF h8)],[]] (au (λh9=>gH [[(0,bT h9)],[]]) λh9=>gb aD () [[(0,bF h9)],[(2,oq (ca h3 rfl h2))]] h3)))))
theorem akk{N v1 v2}:KO 203 [(aA v1),(aA v2)] aw (TJ N v1 v2):=(anF N N).1
def qY(N:Nat)(v1:an)(v2:an):asp Bool:=
 (TJ N v1 v2).bind λv3=>
 some (v3==0)
theorem DH{N v1 v2}:KO 150 [(aA v1),(aA v2)] az (qY N v1 v2):=
 fw Tryz.func150 (aq λv3 h1=>gR [[],[(7,cK akk h1)]])
def FI(N:Nat)(v2:an)(v3:an)(v1:an):asp (Bool×Bool):=
 (qY N v2 v3).bind λv10=>
 bif v10 then
  some ((v1.ar !=13),true)
 else
  some (false,false)
def xg(N:Nat)(v1:an):asp (Bool×Bool):=
 Option.bind (v1.ax[0]?) λv2=>
 Option.bind (v1.ax[1]?) λv3=>
 Option.bind (bif (v2.ar==1)then(bif (v3.ar==1)then some ((v2.ay.aO==v3.ay.aO)&&((v2.ay.bo==v3.ay.bo)&&((v2.ay.bE==v3.ay.bE)&&((v2.ay.bN==v3.ay.bN)&&((v2.ay.bM==v3.ay.bM)&&true)))))else some false)else some false) λv4=>
 bif v4 then
  (Ey N v2.ay v2.bD v3.bD).bind λv5=>
  (zO N v1.ar v5).bind λv6=>
  some (v6,true)
 else
  (sw N v2).bind λv7=>
  (sw N v3).bind λv8=>
  (bif v7.2 then some v8.2 else some false).bind λv9=>
  bif v9 then
   (BY N v7.1 v8.1).bind λv11=>
   Option.bind (bif v11.2 then some ((v11.1.xL.length:Int)==0)else some false) λv12=>
   bif v12 then
    bif (decide (v11.1.xK.toInt<0))then
     Option.bind (zO N v1.ar (-1:Int)) λaF=>
     some (aF,true)
    else
     bif (decide (v11.1.xK.toInt>0))then
      Option.bind (zO N v1.ar (1:Int)) λaV=>
      some (aV,true)
     else
      Option.bind (zO N v1.ar (0:Int)) λbt=>
      some (bt,true)
   else
    FI N v2 v3 v1
  else
   FI N v2 v3 v1
def F6(v1:an)(v2:an)(v3:an)(l:asn ao):asn ao:= .cells (aA v1).cells:: .cells (aA v2).cells:: .cells (aA v3).cells::l
theorem alT{N v1}:KO 202 [(aA v1)] (λr=> .aX [(az r.1),(az r.2)]) (xg N v1):=
 fw Tryz.func202 (gA [[]] (aq λv2 h1=>aq λv3 h2=>li (λ_=>(np 20 cn [(4,(.ptr 1 0)),(5,(.ptr 2 0))] (F6 v1 v2 v3 []) ⟨[(7,oE (k:=0) (bx h1)),(19,oE (k:=1) (bx h2))],by kernel_rfl⟩ ·)) (gG (λv4=>[(35,(az v4))]) (λ_=>(F6 v1 v2 v3 [])) (au (λh3=>aY (3,bT h3) (au (λh4=>gE [(8,bT h4)] []) λh4=>gE [(8,bF h4)] [])) λh3=>gE [(3,bF h3),(8,bF rfl)] []) λv4=>au (λh6=>aq λv5 h7=>aq λv6 h8=>gR [[t0 h6],[(25,cK YI h7),(28,cK K6 h8)]]) λh6=>aq λv7 h9=>aq λv8 aK=>gA [[f0 h6],[(4,cK IP h9)],[(4,cK IP aK)]] (gG (λv9=>[(59,(az v9))]) (λ_=>(F6 v1 v2 v3 [.cells (bZ v7.1).cells, .cells (bZ v8.1).cells])) (au (λaL=>gE [(1,bT aL)] []) λaL=>gE [(1,bF aL)] []) λv9=>gj0 1 [] [1,4,5] 5 ⟨91,[(1,(.ptr 0 0)),(4,(.ptr 1 0)),(5,(.ptr 2 0))],(F6 v1 v2 v3 [.cells (bZ v7.1).cells, .cells (bZ v8.1).cells])⟩ (FI N v2 v3 v1) (λf1 aD=>au (λa7=>aq λv11 bm=>gA [[t0 a7],[(7,cK UL bm)]] (gG (λv12=>[(72,(az v12))]) (λ_=>(F6 v1 v2 v3 [.cells (bZ v7.1).cells, .cells (bZ v8.1).cells, .cells (bZ v11.1).cells])) (au (λbQ=>gE [(1,bT bQ)] [(13,oL v11.1.xL dL)]) λbQ=>gE [(1,bF bQ)] []) λv12=>au (λcv=>gA [[t0 cv],[],[]] (au (λb8=>aq λaF cJ=>gR [[t0 b8],[],[(10,cK K6 cJ)]]) λb8=>gA [[f0 b8],[]] (au (λcS=>aq λaV dw=>gR [[t0 cS],[],[(10,cK K6 dw)]]) λcS=>aq λbt eC=>gR [[f0 cS],[(10,cK K6 eC)]]))) λcv=>gm aD () [[f0 cv]])) λa7=>gm aD () [[f0 a7]]) (aq λv10 bu=>gA [[(7,cK DH bu)]] (aP λbf=>gR [[f0 bf],[]]))))))
def RS(N:Nat)(v1:an)(CH:an->asp (Bool×Bool))(v7:Bool):asp (Bool×Bool):=
 bif v7 then
  Option.bind (v1.ax[0]?) λv8=>
  (CH v8).bind λv9=>
  Option.bind (v1.ax[1]?) λv10=>
  (CH v10).bind λv11=>
  Option.bind (bif v9.2 then(bif (v9.1==(v1.ar==17))then some true else(bif v11.2 then some (v11.1==(v1.ar==17))else some false))else(bif v11.2 then some (v11.1==(v1.ar==17))else some false)) λv12=>
  bif v12 then
   some ((v1.ar==17),true)
  else
   Option.bind (bif (v1.ar==17)then(bif v9.2 then some (false,v11.2)else some (false,false))else(bif v9.2 then some (v11.2,v11.2)else some (false,false))) λaF=>
   some (aF.1,aF.2)
 else
  some (false,false)
def Ji(N:Nat)(v1:an)(CH:an->asp (Bool×Bool))(v2:Bool):asp (Bool×Bool):=
 bif v2 then
  (xg N v1).bind λv3=>
  some (v3.1,v3.2)
 else
  bif (v1.ar==18)then
   Option.bind (v1.ax[0]?) λv4=>
   (CH v4).bind λv5=>
   Option.bind (bif v5.2 then some (!v5.1)else some false) λv6=>
   some (v6,v5.2)
  else
   bif (v1.ar==16)then
    RS N v1 CH (v1.ar==16)
   else
    RS N v1 CH (v1.ar==17)
def ly(N:Nat):Nat->an->asp (Bool×Bool)
 |0,_=>none
 |d+1,v1=>
  bif (v1.ar==13)then
   Ji N v1 (ly N d) (v1.ar==13)
  else
   bif (v1.ar==14)then
    Ji N v1 (ly N d) (v1.ar==14)
   else
    Ji N v1 (ly N d) (v1.ar==15)
def yU(N:Nat)(v1:an):asp (Bool×Bool):=ly N N v1
def DM(v1:an)(l:asn ao):asn ao:= .cells (aA v1).cells::l
theorem ak7(N:Nat):∀d:Nat,(∀{v1:an},KO 149 [(aA v1)] (λr=> .aX [(az r.1),(az r.2)]) (ly N d v1)):=by
 intro d
 induction d with
 |zero=>intro v1 r hF;rw[ly]at hF;cases hF
 |succ d ih=>
  have Ql:= @ih;intro v1;rw[ly];exact fw Tryz.func149 (ir 1 [[],[],[]] [1,12,13] 1 (λ(v2:Bool)=>⟨86,[(1,(.ptr 0 0)),(12,(aw v1.ar)),(13,(az v2))],(DM v1 [])⟩) (Ji N v1 (ly N d)) (λf1 aD=>au (λeC=>gm aD (v1.ar==13) [[(0,bT eC)]]) λeC=>gA [[(0,bF eC)],[]] (au (λfF=>gm aD (v1.ar==14) [[(0,bT fF)]]) λfF=>gm aD (v1.ar==15) [[(0,bF fF)],[]])) (λv2=>au (λh1=>aq λv3 h2=>gR [[(0,bT h1)],[(4,cK alT h2)]]) λh1=>gA [[(0,bF h1)],[]] (au (λh3=>aq λv4 h4=>aq λv5 h5=>gA [[(0,bT h3)],[(7,oE (k:=0) (bx h4)),(13,cK Ql h5)]] (gG (λv6=>[(2,(az v6)),(3,(az v5.2))]) (λ_=>(DM v1 [])) (au (λh6=>gE [(1,bT h6)] []) λh6=>gE [(1,bF h6)] []) λv6=>gR [])) λh3=>ir 2 [[(0,bF h3)],[]] [1,37] 1 (λ(v7:Bool)=>⟨86,[(1,(.ptr 0 0)),(37,(az v7))],(DM v1 [])⟩) (RS N v1 (ly N d)) (λf2 dI=>au (λdw=>gm dI (v1.ar==16) [[(0,bT dw)]]) λdw=>gm dI (v1.ar==17) [[(0,bF dw)],[]]) (λv7=>fp λh8=>aq λv8 h9=>aq λv9 aK=>aq λv10 aL=>aq λv11 aT=>gA [[(0,bT h8)],[(7,oE (k:=0) (bx h9)),(13,cK Ql aK)],[(7,oE (k:=1) (bx aL)),(13,cK Ql aT)],[]] (gG (λv12=>[(72,(az v12))]) (λ_=>(DM v1 [])) (au (λbu=>aY (1,bT bu) (au (λbf=>gE [(6,bT bf),(8,uN)] []) λbf=>aY (6,bF bf) (au (λa7=>gE [(8,bT a7)] [(37,bT a7)]) λa7=>gE [(8,bF a7)] [(37,bF a7)]))) λbu=>aY (1,bF bu) (aY (6,bF rfl) (au (λbm=>gE [(8,bT bm)] [(37,bT bm)]) λbm=>gE [(8,bF bm)] [(37,bF bm)]))) λv12=>aP λcA=>gA [[(0,bF cA)]] (gG (λaF=>[(2,(az aF.1)),(3,(az aF.2))]) (λ_=>(DM v1 [])) (au (λcv=>aY (2,bF (bV cv)) (aY (5,bF rfl) (au (λb8=>gE [(9,bT b8)] []) λb8=>gE [(9,bF b8)] []))) λcv=>aY (2,bT (cx cv)) (au (λcJ=>gE [(5,bT cJ),(9,bT cJ)] []) λcJ=>gE [(5,bF cJ),(9,bF cJ)] [])) λaF=>gR []))))))
theorem Qt{N v1}:KO 149 [(aA v1)] (λr=> .aX [(az r.1),(az r.2)]) (yU N v1):=(ak7 N N)
def JB(N:Nat)(v1:fm):asp (an×Bool):=
 bif (v1.yE.ar !=11)then
  some (fA,false)
 else
  Option.bind (v1.yE.ax[0]?) λv2=>
  (yU N v2).bind λv3=>
  bif v3.1 then
   Option.bind (v1.yE.ax[1]?) λv4=>
   some (v4,v3.2)
  else
   Option.bind (v1.yE.ax[2]?) λv5=>
   some (v5,v3.2)
theorem akJ{N v1}:KO 103 [(dm v1)] (λr=> .aX [(aA r.1),(az r.2)]) (JB N v1):=
 fw Tryz.func103 (gA [[],[]] (aP λh1=>aq λv2 h2=>aq λv3 h3=>gA [[f0 h1],[(10,oE (k:=0) (bx h2)),(16,cK Qt h3)],[]] (au (λh4=>aq λv4 h5=>gR [[t0 h4],[(10,oE (k:=1) (bx h5))]]) λh4=>aq λv5 h6=>gR [[f0 h4],[(10,oE (k:=2) (bx h6))]])))
def OM(N:Nat)(v5:an×Bool)(v6:aso)(v7:an):asp (Bool×aso×an):=
 some (v5.2,v6,v7)
def SA(N:Nat)(v1:fm)(v2:aso)(v3:aso)(v4:an):asp (Bool×aso×an):=
 (JB N v1).bind λv5=>
 bif v5.2 then
  OM N v5 v2 v5.1
 else
  OM N v5 v3 v4
theorem aiY{N v1 v2 v3 v4}:KP 99 [(dm v1),(.fn 103 []),(bq v2),(.ptr 0 0),(.ptr 1 0)] [.cells [(bq v3)], .cells (aA v4).cells] (λr=>az r.1) (λr=>[.cells [(bq r.2.1)], .cells (aA r.2.2).cells]) (SA N v1 v2 v3 v4):=
 fh 2 Tryz.func99 (aq λv5 h1=>nF 1 [[],[(7,cK akJ h1)],[]] [12] 4 (λ(v6:aso)(v7:an)=>⟨27,[(12,(az v5.2))],[.cells [(bq v6)], .cells (aA v7).cells, .cells (dm v1).cells, .cells (aA v5.1).cells]⟩) (OM N v5) (λf1 aD=>au (λh2=>gm aD (v2,v5.1) [[t0 h2],[]]) λh2=>gm aD (v3,v4) [[f0 h2]]) (λv6 v7=>gH [[]]))
def Fi(N:Nat)(v1:fm)(v5:Bool):asp (an×Bool):=
 bif v5 then
  Option.bind (v1.yE.ax[0]?) λv6=>
  Option.bind (v1.yE.ax[1]?) λv7=>
  (qY N v6 v7).bind λv8=>
  some (v6,v8)
 else
  some (fA,false)
def Kw(N:Nat)(v1:fm):asp (an×Bool):=
 bif (v1.yE.ar==11)then
  Option.bind (v1.yE.ax[1]?) λv2=>
  Option.bind (v1.yE.ax[2]?) λv3=>
  (qY N v2 v3).bind λv4=>
  some (v2,v4)
 else
  bif (v1.yE.ar==9)then
   Fi N v1 (v1.yE.ar==9)
  else
   bif (v1.yE.ar==10)then
    Fi N v1 (v1.yE.ar==10)
   else
    bif (v1.yE.ar==16)then
     Fi N v1 (v1.yE.ar==16)
    else
     Fi N v1 (v1.yE.ar==17)
theorem afs{N v1}:KO 104 [(dm v1)] (λr=> .aX [(aA r.1),(az r.2)]) (Kw N v1):=
 fw Tryz.func104 (gA [[],[],[]] (au (λh1=>aq λv2 h2=>aq λv3 h3=>aq λv4 h4=>gR [[t0 h1],[(10,oE (k:=1) (bx h2)),(25,oE (k:=1) (bx h2)),(40,oE (k:=2) (bx h3)),(46,cK DH h4)]]) λh1=>OB 1 [[f0 h1],[]] [1,2,25] 2 [] [(1,10),(1,11),(1,12)] (λ(v5:Bool)=>⟨47,[(1,(.ptr 0 0)),(2,(.ptr 1 0)),(25,(az v5))],[.cells (dm v1).cells, .cells ft]⟩) (Fi N v1) (λf1 aD=>au (λh9=>nG aD (v1.yE.ar==9) [[t0 h9]]) λh9=>gA [[f0 h9],[]] (au (λaK=>nG aD (v1.yE.ar==10) [[t0 aK]]) λaK=>gA [[f0 aK],[]] (au (λaL=>nG aD (v1.yE.ar==16) [[t0 aL]]) λaL=>nG aD (v1.yE.ar==17) [[f0 aL],[]]))) (λv5=>fp λh5=>aq λv6 h6=>aq λv7 h7=>aq λv8 h8=>gR [[t0 h5],[(10,oE (k:=0) (bx h6)),(25,oE (k:=0) (bx h6)),(40,oE (k:=1) (bx h7)),(46,cK DH h8)]])))
def OA(N:Nat)(v5:an×Bool)(v6:aso)(v7:an):asp (Bool×aso×an):=
 some (v5.2,v6,v7)
def O1(N:Nat)(v1:fm)(v2:aso)(v3:aso)(v4:an):asp (Bool×aso×an):=
 (Kw N v1).bind λv5=>
 bif v5.2 then
  OA N v5 v2 v5.1
 else
  OA N v5 v3 v4
theorem an7{N v1 v2 v3 v4}:KP 99 [(dm v1),(.fn 104 []),(bq v2),(.ptr 0 0),(.ptr 1 0)] [.cells [(bq v3)], .cells (aA v4).cells] (λr=>az r.1) (λr=>[.cells [(bq r.2.1)], .cells (aA r.2.2).cells]) (O1 N v1 v2 v3 v4):=
 fh 2 Tryz.func99 (aq λv5 h1=>nF 1 [[],[(7,cK afs h1)],[]] [12] 4 (λ(v6:aso)(v7:an)=>⟨27,[(12,(az v5.2))],[.cells [(bq v6)], .cells (aA v7).cells, .cells (dm v1).cells, .cells (aA v5.1).cells]⟩) (OA N v5) (λf1 aD=>au (λh2=>gm aD (v2,v5.1) [[t0 h2],[]]) λh2=>gm aD (v3,v4) [[f0 h2]]) (λv6 v7=>gH [[]]))
def CS(N:Nat)(v1:aE):asp aG:=
 (nY N v1).bind λv2=>
 bif (v2 !=0)then
  some bW
 else
  some (⟨(0:Int64),(1:Int64)⟩:aG)
theorem aaT{N v1}:KO 154 [(bY v1)] a8 (CS N v1):=
 fw Tryz.func154 (aq λv2 h1=>gA [[],[(4,cK rl h1)]] (aP λh2=>gR [[f0 h2],[]]))
def k9(N:Nat)(v1:an):asp Bool:=
 Option.bind (bif (v1.ar==1)then (CS N v1.ay).bind λv2=>
 some ((v1.bD.xN.toInt==v2.xN.toInt)&&((v1.bD.xD.toInt==v2.xD.toInt)&&true))else some false) λv3=>
 some v3
theorem yl{N v1}:KO 151 [(aA v1)] az (k9 N v1):=
 fw Tryz.func151 (gA [[]] (gG (λv3=>[(2,(az v3))]) (λ_=>[.cells (aA v1).cells]) (au (λh1=>aq λv2 h2=>gE [(3,bT h1)] [(25,cK aaT h2)]) λh1=>gE [(3,bF h1)] []) λv3=>gR []))
def tU(N:Nat)(v1:Int)(v2:asn an):asp an:=
 some (⟨v1,(bs []),bW,cY,dq,[],v2⟩:an)
theorem zf{N v1 v2}:KO 152 [(aw v1),(.d (.sl (dn v2)))] aA (tU N v1 v2):=
 fw Tryz.func152 (gR [[],[]])
def LB(N:Nat)(v1:fm):asp (an×Bool):=
 (SS N v1).bind λv2=>
 bif v2 then
  Option.bind (v1.yE.ax[0]?) λv3=>
  Option.bind (v1.yE.ax[1]?) λv4=>
  bif (v1.yE.ar==4)then
   (k9 N v4).bind λv5=>
   bif v5 then
    some (v3,true)
   else
    (k9 N v3).bind λv6=>
    some (v4,v6)
  else
   bif (v1.yE.ar==5)then
    (k9 N v4).bind λv7=>
    bif v7 then
     some (v3,true)
    else
     Option.bind (tU N (8:Int) [v4]) λv8=>
     (k9 N v3).bind λv9=>
     some (v8,v9)
   else
    bif (v1.yE.ar==6)then
     (k9 N v4).bind λv10=>
     bif v10 then
      some (v4,true)
     else
      (k9 N v3).bind λv11=>
      some (v3,v11)
    else
     bif (v1.yE.ar==7)then
      (k9 N v3).bind λv12=>
      some (v3,v12)
     else
      some (fA,false)
 else
  some (fA,false)
theorem ana{N v1}:KO 105 [(dm v1)] (λr=> .aX [(aA r.1),(az r.2)]) (LB N v1):=
 fw Tryz.func105 (aq λv2 h1=>gA [[],[(4,cK XI h1)]] (eg λh2=>gA [[f0 (bV h2)]] (aq λv3 h3=>aq λv4 h4=>li (λ_=>(np 20 cn [(4,(.ptr 2 0)),(5,(.ptr 3 0))] [.cells (dm v1).cells, .cells ft, .cells (aA v3).cells, .cells (aA v4).cells] ⟨[(10,oE (k:=0) (bx h3)),(25,oE (k:=1) (bx h4))],by kernel_rfl⟩ ·)) (gA [[],[]] (au (λh5=>aq λv5 h6=>gA [[t0 h5],[(4,cK yl h6)]] (aP λh7=>aq λv6 h8=>gR [[f0 h7],[(7,cK yl h8)]])) λh5=>gA [[f0 h5],[]] (au (λh9=>aq λv7 aK=>gA [[t0 h9],[(4,cK yl aK)]] (aP λaL=>aq λv8 aT=>aq λv9 bu=>gR [[f0 aL],[(5,⟨_,_, .eq (congrArg AV.full (gh [v4]).symm)⟩),(7,cK zf aT),(13,cK yl bu)]])) λh9=>gA [[f0 h9],[]] (au (λbf=>aq λv10 a7=>gA [[t0 bf],[(4,cK yl a7)]] (aP λbm=>aq λv11 bQ=>gR [[f0 bm],[(7,cK yl bQ)]])) λbf=>gA [[f0 bf],[]] (fp λcA=>aq λv12 cv=>gR [[t0 cA],[(7,cK yl cv)]]))))))))
def PV(N:Nat)(v5:an×Bool)(v6:aso)(v7:an):asp (Bool×aso×an):=
 some (v5.2,v6,v7)
def Pb(N:Nat)(v1:fm)(v2:aso)(v3:aso)(v4:an):asp (Bool×aso×an):=
 (LB N v1).bind λv5=>
 bif v5.2 then
  PV N v5 v2 v5.1
 else
  PV N v5 v3 v4
theorem ah9{N v1 v2 v3 v4}:KP 99 [(dm v1),(.fn 105 []),(bq v2),(.ptr 0 0),(.ptr 1 0)] [.cells [(bq v3)], .cells (aA v4).cells] (λr=>az r.1) (λr=>[.cells [(bq r.2.1)], .cells (aA r.2.2).cells]) (Pb N v1 v2 v3 v4):=
 fh 2 Tryz.func99 (aq λv5 h1=>nF 1 [[],[(7,cK ana h1)],[]] [12] 4 (λ(v6:aso)(v7:an)=>⟨27,[(12,(az v5.2))],[.cells [(bq v6)], .cells (aA v7).cells, .cells (dm v1).cells, .cells (aA v5.1).cells]⟩) (PV N v5) (λf1 aD=>au (λh2=>gm aD (v2,v5.1) [[t0 h2],[]]) λh2=>gm aD (v3,v4) [[f0 h2]]) (λv6 v7=>gH [[]]))
def Bv(N:Nat)(v1:aE):asp (aG×Int):=
 (nY N v1).bind λv2=>
 bif (v2 !=0)then
  some (bW,(10:Int))
 else
  bif (v1.aO !=2)then
   some ((⟨(1:Int64),(1:Int64)⟩:aG),(0:Int))
  else
   bif (decide ((0:Int)<=v1.bE))then
   Option.bind (tF N v1 (⟨(Int64.ofInt ((1:Int)*2^(min (v1.bE).toNat (IntKind.bits .i64)))),(1:Int64)⟩:aG)) λv3=>
   bif v3 then
    some ((⟨(Int64.ofInt ((1:Int)*2^(min (v1.bE).toNat (IntKind.bits .i64)))),(1:Int64)⟩:aG),(0:Int))
   else
    some (bW,(3:Int))
   else none
theorem W6{N v1}:KO 155 [(bY v1)] (λr=> .aX [(a8 r.1),(aw r.2)]) (Bv N v1):=
 fw Tryz.func155 (aq λv2 h1=>gA [[],[(4,cK rl h1)]] (dM λ_=>aP λh3=>cO λh4=>aq λv3 h5=>gA [[f0 h3],[(7,⟨_,_, .nn (b:=v1.bE) (of_decide_eq_true h4)⟩),(8,⟨_,_, .eq (fM ((1:Int)*2^(min (v1.bE).toNat (IntKind.bits .i64))))⟩)],[(7,cK Pc h5)]] (m0 λh6=>gR [[t0 (cx h6)],[]])))
def uO(N:Nat)(v1:an):asp Bool:=
 bif (v1.ar !=1)then
  some false
 else
  (Bv N v1.ay).bind λv2=>
  Option.bind (bif (v2.2==0)then some ((v1.bD.xN.toInt==v2.1.xN.toInt)&&((v1.bD.xD.toInt==v2.1.xD.toInt)&&true))else some false) λv3=>
  some v3
theorem WT{N v1}:KO 153 [(aA v1)] az (uO N v1):=
 fw Tryz.func153 (gA [[],[]] (aP λh1=>aq λv2 h2=>gA [[f0 h1],[(7,cK W6 h2)]] (gG (λv3=>[(2,(az v3))]) (λ_=>[.cells (aA v1).cells, .cells (a8 v2.1).cells]) (au (λh3=>gE [(2,bT h3)] []) λh3=>gE [(2,bF h3)] []) λv3=>gR [])))
def Na(N:Nat)(v1:fm):asp (an×Bool):=
 Option.bind (bif (v1.yE.ar !=6)then some (v1.yE.ar !=7)else some false) λv2=>
 bif v2 then
  some (fA,false)
 else
  Option.bind (v1.yE.ax[0]?) λv3=>
  Option.bind (v1.yE.ax[1]?) λv4=>
  (uO N v4).bind λv5=>
  bif v5 then
   some (v3,true)
  else
   Option.bind (bif (v1.yE.ar==6)then (uO N v3).bind λv6=>
   some v6 else some false) λv7=>
   some (v4,v7)
def ado(v1:fm)(l:asn ao):asn ao:= .cells (dm v1).cells:: .cells ft::l
theorem agJ{N v1}:KO 106 [(dm v1)] (λr=> .aX [(aA r.1),(az r.2)]) (Na N v1):=
 fw Tryz.func106 (gA [[]] (gG (λv2=>[(15,(az v2))]) (λ_=>(ado v1 [])) (au (λh1=>gE [(4,bT h1)] []) λh1=>gE [(4,bF h1)] []) λv2=>aP λh3=>gA [[f0 h3]] (aq λv3 h4=>aq λv4 h5=>li (λ_=>(np 20 cn [(4,(.ptr 2 0)),(5,(.ptr 3 0))] (ado v1 [.cells (aA v3).cells, .cells (aA v4).cells]) ⟨[(10,oE (k:=0) (bx h4)),(25,oE (k:=1) (bx h5))],by kernel_rfl⟩ ·)) (aq λv5 h6=>gA [[(4,cK WT h6)]] (aP λh7=>gA [[f0 h7]] (gG (λv7=>[(3,(az v7))]) (λ_=>[.cells (dm v1).cells, .cells (aA v4).cells, .cells (aA v3).cells, .cells (aA v4).cells]) (au (λh8=>aq λv6 h9=>gE [(5,bT h8)] [(22,cK WT h9)]) λh8=>gE [(5,bF h8)] []) λv7=>gR []))))))
def Ub(N:Nat)(v5:an×Bool)(v6:aso)(v7:an):asp (Bool×aso×an):=
 some (v5.2,v6,v7)
def Sp(N:Nat)(v1:fm)(v2:aso)(v3:aso)(v4:an):asp (Bool×aso×an):=
 (Na N v1).bind λv5=>
 bif v5.2 then
  Ub N v5 v2 v5.1
 else
  Ub N v5 v3 v4
theorem ajI{N v1 v2 v3 v4}:KP 99 [(dm v1),(.fn 106 []),(bq v2),(.ptr 0 0),(.ptr 1 0)] [.cells [(bq v3)], .cells (aA v4).cells] (λr=>az r.1) (λr=>[.cells [(bq r.2.1)], .cells (aA r.2.2).cells]) (Sp N v1 v2 v3 v4):=
 fh 2 Tryz.func99 (aq λv5 h1=>nF 1 [[],[(7,cK agJ h1)],[]] [12] 4 (λ(v6:aso)(v7:an)=>⟨27,[(12,(az v5.2))],[.cells [(bq v6)], .cells (aA v7).cells, .cells (dm v1).cells, .cells (aA v5.1).cells]⟩) (Ub N v5) (λf1 aD=>au (λh2=>gm aD (v2,v5.1) [[t0 h2],[]]) λh2=>gm aD (v3,v4) [[f0 h2]]) (λv6 v7=>gH [[]]))
def H6(N:Nat)(v1:fm):asp (an×Bool):=
 Option.bind (bif (v1.yE.ar !=5)then(bif (v1.yE.ar !=7)then some true else(bif v1.kZ.dQ then Option.bind (v1.yE.ax[0]?) λv2=>
 Option.bind (v1.yE.ax[1]?) λv3=>
 (qY N v2 v3).bind λv4=>
 some (!v4)else some true))else(bif v1.kZ.dQ then Option.bind (v1.yE.ax[0]?) λv5=>
 Option.bind (v1.yE.ax[1]?) λv6=>
 (qY N v5 v6).bind λv7=>
 some (!v7)else some true)) λv8=>
 bif v8 then
  some (fA,false)
 else
  bif (v1.yE.ar==5)then
   (CS N v1.kZ.yT).bind λv9=>
   (sr N v1.kZ.yT v9).bind λv10=>
   some (v10,true)
  else
   (Bv N v1.kZ.yT).bind λv11=>
   (sr N v1.kZ.yT v11.1).bind λv12=>
   Option.bind (bif (v1.kZ.yT.aO !=2)then some (v11.2==0)else some false) λaF=>
   some (v12,aF)
theorem aqM{N v1}:KO 107 [(dm v1)] (λr=> .aX [(aA r.1),(az r.2)]) (H6 N v1):=
 fw Tryz.func107 (gA [[]] (gG (λv8=>[(36,(az v8))]) (λ_=>[.cells (dm v1).cells, .cells ft]) (au (λh1=>aY (4,bT h1) (au (λh2=>gE [(10,bT h2),(16,bT rfl)] []) λh2=>aY (10,bF h2) (au (λh3=>aq λv2 h4=>aq λv3 h5=>aq λv4 h6=>gE [(16,bF (bV h3))] [(61,oE (k:=0) (bx h4)),(76,oE (k:=1) (bx h5)),(82,cK DH h6)]) λh3=>gE [(16,bT (cx h3))] []))) λh1=>aY (4,bF h1) (aY (10,bF rfl) (au (λh7=>aq λv5 h8=>aq λv6 h9=>aq λv7 aK=>gE [(16,bF (bV h7))] [(61,oE (k:=0) (bx h8)),(76,oE (k:=1) (bx h9)),(82,cK DH aK)]) λh7=>gE [(16,bT (cx h7))] []))) λv8=>aP λaT=>gA [[f0 aT],[],[]] (au (λbu=>aq λv9 bf=>aq λv10 a7=>gR [[t0 bu],[(7,cK aaT bf),(10,cK EB a7)]]) λbu=>aq λv11 bm=>gA [[f0 bu],[(4,cK W6 bm)]] (aq λv12 bQ=>gG (λaF=>[(3,(az aF))]) (λ_=>[.cells (dm v1).cells, .cells (aA v12).cells, .cells (bY v1.kZ.yT).cells, .cells (a8 v11.1).cells]) (bz (7,cK EB bQ) (au (λcA=>gE [(6,bT cA)] []) λcA=>gE [(6,bF cA)] [])) λaF=>gR []))))
def RD(N:Nat)(v5:an×Bool)(v6:aso)(v7:an):asp (Bool×aso×an):=
 some (v5.2,v6,v7)
def R9(N:Nat)(v1:fm)(v2:aso)(v3:aso)(v4:an):asp (Bool×aso×an):=
 (H6 N v1).bind λv5=>
 bif v5.2 then
  RD N v5 v2 v5.1
 else
  RD N v5 v3 v4
theorem alo{N v1 v2 v3 v4}:KP 99 [(dm v1),(.fn 107 []),(bq v2),(.ptr 0 0),(.ptr 1 0)] [.cells [(bq v3)], .cells (aA v4).cells] (λr=>az r.1) (λr=>[.cells [(bq r.2.1)], .cells (aA r.2.2).cells]) (R9 N v1 v2 v3 v4):=
 fh 2 Tryz.func99 (aq λv5 h1=>nF 1 [[],[(7,cK aqM h1)],[]] [12] 4 (λ(v6:aso)(v7:an)=>⟨27,[(12,(az v5.2))],[.cells [(bq v6)], .cells (aA v7).cells, .cells (dm v1).cells, .cells (aA v5.1).cells]⟩) (RD N v5) (λf1 aD=>au (λh2=>gm aD (v2,v5.1) [[t0 h2],[]]) λh2=>gm aD (v3,v4) [[f0 h2]]) (λv6 v7=>gH [[]]))
def M1(N:Nat)(v1:fm):asp (an×Bool):=
 Option.bind (bif v1.kZ.dQ then(bif (v1.kZ.yT.aO==2)then(bif (v1.kZ.yT.bM !=2)then some true else some ((v1.yE.ax.length:Int)==0))else some ((v1.yE.ax.length:Int)==0))else some true) λv2=>
 bif v2 then
  some (fA,false)
 else
  Option.bind (v1.yE.ax[0]?) λv3=>
  bif (decide ((0:Int)<=(aI ((v1.yE.ax.length:Int)-(1:Int)))))then
  Option.bind (v1.yE.ax[((aI ((v1.yE.ax.length:Int)-(1:Int)))).toNat]?) λv4=>
  Option.bind (bif (v1.yE.ar==8)then some (v3.ar==8)else some false) λv5=>
  bif v5 then
   Option.bind (v3.ax[0]?) λv6=>
   some (v6,true)
  else
   Option.bind (bif (v1.yE.ar==4)then some (v4.ar==8)else some false) λv7=>
   bif v7 then
    Option.bind (v4.ax[0]?) λv8=>
    Option.bind (tU N (5:Int) ([v3,v8])) λv9=>
    some (v9,true)
   else
    Option.bind (bif (v1.yE.ar==4)then some (v3.ar==8)else some false) λv10=>
    bif v10 then
     Option.bind (v3.ax[0]?) λv11=>
     Option.bind (tU N (5:Int) ([v4,v11])) λv12=>
     some (v12,true)
    else
     Option.bind (bif (v1.yE.ar==5)then some (v4.ar==8)else some false) λaF=>
     bif aF then
      Option.bind (v4.ax[0]?) λaV=>
      Option.bind (tU N (4:Int) ([v3,aV])) λbt=>
      some (bt,true)
     else
      some (fA,false)
  else none
def X5(v1:fm)(l:asn ao):asn ao:= .cells (dm v1).cells:: .cells ft::l
def Gw(v1:fm)(v3:an)(v4:an)(l:asn ao):asn ao:=X5 v1 (.cells (aA v3).cells:: .cells (aA v4).cells::l)
theorem aqY{N v1}:KO 108 [(dm v1)] (λr=> .aX [(aA r.1),(az r.2)]) (M1 N v1):=
 fw Tryz.func108 (gA [[]] (gG (λv2=>[(30,(az v2))]) (λ_=>(X5 v1 [])) (au (λh1=>aY (4,bF (bV h1)) (au (λh2=>aY (10,bT h2) (bz (49,bT h2) (au (λh3=>gE [(18,bT h3)] []) λh3=>gE [(18,bF h3)] [(67,oL v1.yE.ax dZ)]))) λh2=>gE [(10,bF h2),(18,bF rfl)] [(49,bF h2),(67,oL v1.yE.ax dZ)])) λh1=>gE [(4,bT (cx h1)),(10,uN),(18,bT rfl)] []) λv2=>aP λh5=>gA [[f0 h5]] (aq λv3 h6=>cO λh8=>aq λv4 h7=>li (λ_=>(np 78 cn [(4,(.ptr 2 0)),(5,(.ptr 3 0))] (Gw v1 v3 v4 []) ⟨[(10,oE (k:=0) (bx h6)),(34,oL v1.yE.ax dZ),(40,⟨_,_, .el (xs:=dn v1.yE.ax) (i:=(aI ((v1.yE.ax.length:Int)-(1:Int)))) (of_decide_eq_true h8) (bx h7)⟩)],by kernel_rfl⟩ ·)) (gG (λv5=>[(47,(az v5))]) (λ_=>(Gw v1 v3 v4 [])) (au (λh9=>gE [(4,bT h9)] []) λh9=>gE [(4,bF h9)] []) λv5=>au (λaL=>aq λv6 aT=>gR [[t0 aL],[(7,oE (k:=0) (bx aT))]]) λaL=>gA [[f0 aL]] (gG (λv7=>[(61,(az v7))]) (λ_=>(Gw v1 v3 v4 [])) (au (λbu=>gE [(4,bT bu)] []) λbu=>gE [(4,bF bu)] []) λv7=>au (λa7=>aq λv8 bm=>aq λv9 bQ=>gR [[t0 a7],[(10,oE (k:=0) (bx bm)),(17,⟨_,_, .eq (congrArg AV.full (gh [v3,v8]).symm)⟩),(19,cK zf bQ)]]) λa7=>gA [[f0 a7]] (gG (λv10=>[(78,(az v10))]) (λ_=>(Gw v1 v3 v4 [])) (au (λcA=>gE [(4,bT cA)] []) λcA=>gE [(4,bF cA)] []) λv10=>au (λb8=>aq λv11 cJ=>aq λv12 cS=>gR [[t0 b8],[(10,oE (k:=0) (bx cJ)),(17,⟨_,_, .eq (congrArg AV.full (gh [v4,v11]).symm)⟩),(19,cK zf cS)]]) λb8=>gA [[f0 b8]] (gG (λaF=>[(95,(az aF))]) (λ_=>(Gw v1 v3 v4 [])) (au (λdw=>gE [(4,bT dw)] []) λdw=>gE [(4,bF dw)] []) λaF=>fp λfF=>aq λaV im=>aq λbt fu=>gR [[t0 fF],[(10,oE (k:=0) (bx im)),(17,⟨_,_, .eq (congrArg AV.full (gh [v3,aV]).symm)⟩),(19,cK zf fu)]])))))))
def Qa(N:Nat)(v5:an×Bool)(v6:aso)(v7:an):asp (Bool×aso×an):=
 some (v5.2,v6,v7)
def Tf(N:Nat)(v1:fm)(v2:aso)(v3:aso)(v4:an):asp (Bool×aso×an):=
 (M1 N v1).bind λv5=>
 bif v5.2 then
  Qa N v5 v2 v5.1
 else
  Qa N v5 v3 v4
theorem ape{N v1 v2 v3 v4}:KP 99 [(dm v1),(.fn 108 []),(bq v2),(.ptr 0 0),(.ptr 1 0)] [.cells [(bq v3)], .cells (aA v4).cells] (λr=>az r.1) (λr=>[.cells [(bq r.2.1)], .cells (aA r.2.2).cells]) (Tf N v1 v2 v3 v4):=
 fh 2 Tryz.func99 (aq λv5 h1=>nF 1 [[],[(7,cK aqY h1)],[]] [12] 4 (λ(v6:aso)(v7:an)=>⟨27,[(12,(az v5.2))],[.cells [(bq v6)], .cells (aA v7).cells, .cells (dm v1).cells, .cells (aA v5.1).cells]⟩) (Qa N v5) (λf1 aD=>au (λh2=>gm aD (v2,v5.1) [[t0 h2],[]]) λh2=>gm aD (v3,v4) [[f0 h2]]) (λv6 v7=>gH [[]]))
def Lb(N:Nat)(v1:fm):asp (an×Bool):=
 Option.bind (bif (v1.yE.ar !=18)then some (v1.yE.ar !=11)else some false) λv2=>
 bif v2 then
  some (fA,false)
 else
  Option.bind (v1.yE.ax[0]?) λv3=>
  bif (v1.yE.ar==11)then
   bif (v3.ar !=18)then
    some (fA,false)
   else
    Option.bind (v3.ax[0]?) λv4=>
    Option.bind (v1.yE.ax[2]?) λv5=>
    Option.bind (v1.yE.ax[1]?) λv6=>
    Option.bind (tU N (11:Int) ([v4,v5,v6])) λv7=>
    some (v7,true)
  else
   bif (v3.ar==18)then
    Option.bind (v3.ax[0]?) λv8=>
    some (v8,true)
   else
    bif (v3.ar==13)then
     Option.bind (v3.ax[1]?) λv9=>
     Option.bind (v3.ax[0]?) λv10=>
     Option.bind (tU N (14:Int) ([v9,v10])) λv11=>
     some (v11,true)
    else
     bif (v3.ar==14)then
      Option.bind (v3.ax[1]?) λv12=>
      Option.bind (v3.ax[0]?) λaF=>
      Option.bind (tU N (13:Int) ([v12,aF])) λaV=>
      some (aV,true)
     else
      some (fA,false)
theorem aoa{N v1}:KO 109 [(dm v1)] (λr=> .aX [(aA r.1),(az r.2)]) (Lb N v1):=
 fw Tryz.func109 (gA [[]] (gG (λv2=>[(14,(az v2))]) (λ_=>[.cells (dm v1).cells, .cells ft]) (au (λh1=>gE [(4,bT h1)] []) λh1=>gE [(4,bF h1)] []) λv2=>aP λh3=>aq λv3 h4=>gA [[f0 h3],[(10,oE (k:=0) (bx h4))],[]] (au (λh5=>gA [[t0 h5],[]] (aP λh6=>aq λv4 h7=>aq λv5 h8=>aq λv6 h9=>aq λv7 aK=>gR [[f0 h6],[(7,oE (k:=0) (bx h7)),(22,oE (k:=2) (bx h8)),(37,oE (k:=1) (bx h9)),(44,⟨_,_, .eq (congrArg AV.full (gh [v4,v5,v6]).symm)⟩),(46,cK zf aK)]])) λh5=>gA [[f0 h5],[]] (au (λaL=>aq λv8 aT=>gR [[t0 aL],[(7,oE (k:=0) (bx aT))]]) λaL=>gA [[f0 aL],[]] (au (λbu=>aq λv9 bf=>aq λv10 a7=>aq λv11 bm=>gR [[t0 bu],[(7,oE (k:=1) (bx bf)),(19,oE (k:=0) (bx a7)),(26,⟨_,_, .eq (congrArg AV.full (gh [v9,v10]).symm)⟩),(28,cK zf bm)]]) λbu=>gA [[f0 bu],[]] (fp λbQ=>aq λv12 cA=>aq λaF cv=>aq λaV b8=>gR [[t0 bQ],[(7,oE (k:=1) (bx cA)),(19,oE (k:=0) (bx cv)),(26,⟨_,_, .eq (congrArg AV.full (gh [v12,aF]).symm)⟩),(28,cK zf b8)]]))))))
def Qw(N:Nat)(v5:an×Bool)(v6:aso)(v7:an):asp (Bool×aso×an):=
 some (v5.2,v6,v7)
def PQ(N:Nat)(v1:fm)(v2:aso)(v3:aso)(v4:an):asp (Bool×aso×an):=
 (Lb N v1).bind λv5=>
 bif v5.2 then
  Qw N v5 v2 v5.1
 else
  Qw N v5 v3 v4
theorem ahf{N v1 v2 v3 v4}:KP 99 [(dm v1),(.fn 109 []),(bq v2),(.ptr 0 0),(.ptr 1 0)] [.cells [(bq v3)], .cells (aA v4).cells] (λr=>az r.1) (λr=>[.cells [(bq r.2.1)], .cells (aA r.2.2).cells]) (PQ N v1 v2 v3 v4):=
 fh 2 Tryz.func99 (aq λv5 h1=>nF 1 [[],[(7,cK aoa h1)],[]] [12] 4 (λ(v6:aso)(v7:an)=>⟨27,[(12,(az v5.2))],[.cells [(bq v6)], .cells (aA v7).cells, .cells (dm v1).cells, .cells (aA v5.1).cells]⟩) (Qw N v5) (λf1 aD=>au (λh2=>gm aD (v2,v5.1) [[t0 h2],[]]) λh2=>gm aD (v3,v4) [[f0 h2]]) (λv6 v7=>gH [[]]))
def NG(N:Nat)(v1:fm):asp (an×Bool):=
 Option.bind (bif (v1.yE.ar !=16)then some (v1.yE.ar !=17)else some false) λv2=>
 bif v2 then
  some (fA,false)
 else
  Option.bind (v1.yE.ax[0]?) λv3=>
  (yU N v3).bind λv4=>
  Option.bind (bif v4.2 then some (v4.1==(v1.yE.ar==16))else some false) λv5=>
  bif v5 then
   Option.bind (v1.yE.ax[1]?) λv6=>
   some (v6,true)
  else
   Option.bind (v1.yE.ax[1]?) λv7=>
   (yU N v7).bind λv8=>
   Option.bind (bif v8.2 then some (v8.1==(v1.yE.ar==16))else some false) λv9=>
   some (v3,v9)
def Yy(v1:fm)(l:asn ao):asn ao:= .cells (dm v1).cells:: .cells ft::l
theorem apZ{N v1}:KO 110 [(dm v1)] (λr=> .aX [(aA r.1),(az r.2)]) (NG N v1):=
 fw Tryz.func110 (gA [[]] (gG (λv2=>[(18,(az v2))]) (λ_=>(Yy v1 [])) (au (λh1=>gE [(4,bT h1)] []) λh1=>gE [(4,bF h1)] []) λv2=>aP λh3=>aq λv3 h4=>aq λv4 h5=>gA [[f0 h3],[],[(10,oE (k:=0) (bx h4)),(16,cK Qt h5)]] (gG (λv5=>[(38,(az v5))]) (λ_=>(Yy v1 [])) (au (λh6=>gE [(1,bT h6)] []) λh6=>gE [(1,bF h6)] []) λv5=>au (λh8=>aq λv6 h9=>gR [[t0 h8],[(10,oE (k:=1) (bx h9))]]) λh8=>aq λv7 aK=>aq λv8 aL=>gA [[f0 h8],[(10,oE (k:=1) (bx aK)),(16,cK Qt aL)]] (gG (λv9=>[(3,(az v9))]) (λ_=>[.cells (dm v1).cells, .cells (aA v3).cells]) (bz (10,oE (k:=0) (bx h4)) (au (λaT=>gE [(6,bT aT)] []) λaT=>gE [(6,bF aT)] [])) λv9=>gR []))))
def S7(N:Nat)(v5:an×Bool)(v6:aso)(v7:an):asp (Bool×aso×an):=
 some (v5.2,v6,v7)
def Oz(N:Nat)(v1:fm)(v2:aso)(v3:aso)(v4:an):asp (Bool×aso×an):=
 (NG N v1).bind λv5=>
 bif v5.2 then
  S7 N v5 v2 v5.1
 else
  S7 N v5 v3 v4
theorem akZ{N v1 v2 v3 v4}:KP 99 [(dm v1),(.fn 110 []),(bq v2),(.ptr 0 0),(.ptr 1 0)] [.cells [(bq v3)], .cells (aA v4).cells] (λr=>az r.1) (λr=>[.cells [(bq r.2.1)], .cells (aA r.2.2).cells]) (Oz N v1 v2 v3 v4):=
 fh 2 Tryz.func99 (aq λv5 h1=>nF 1 [[],[(7,cK apZ h1)],[]] [12] 4 (λ(v6:aso)(v7:an)=>⟨27,[(12,(az v5.2))],[.cells [(bq v6)], .cells (aA v7).cells, .cells (dm v1).cells, .cells (aA v5.1).cells]⟩) (S7 N v5) (λf1 aD=>au (λh2=>gm aD (v2,v5.1) [[t0 h2],[]]) λh2=>gm aD (v3,v4) [[f0 h2]]) (λv6 v7=>gH [[]]))
def Eb(N:Nat)(v1:fm):asp (an×aso×Bool):=
 Option.bind (Am N v1 (bs [102,111,108,100]) (bs []) (0:Int) (bs []) bW cY (0:Int64)) λv2=>
 Option.bind (bif v2.1 then some (true,v2.2.2,v2.2.1)else Option.bind (Tg N v1 (bs [99,97,115,116]) v2.2.1 v2.2.2) λv3=>
 (bif v3.1 then some (true,v3.2.2,v3.2.1)else Option.bind (OO N v1 (bs [105,110,100,101,120]) v3.2.1 v3.2.2) λv4=>
 (bif v4.1 then some (true,v4.2.2,v4.2.1)else Option.bind (SA N v1 (bs [105,102]) v4.2.1 v4.2.2) λv5=>
 (bif v5.1 then some (true,v5.2.2,v5.2.1)else Option.bind (O1 N v1 (bs [115,97,109,101]) v5.2.1 v5.2.2) λv6=>
 (bif v6.1 then some (true,v6.2.2,v6.2.1)else Option.bind (Pb N v1 (bs [122,101,114,111]) v6.2.1 v6.2.2) λv7=>
 (bif v7.1 then some (true,v7.2.2,v7.2.1)else Option.bind (Sp N v1 (bs [111,110,101]) v7.2.1 v7.2.2) λv8=>
 (bif v8.1 then some (true,v8.2.2,v8.2.1)else Option.bind (R9 N v1 (bs [99,97,110,99,101,108]) v8.2.1 v8.2.2) λv9=>
 (bif v9.1 then some (true,v9.2.2,v9.2.1)else Option.bind (Tf N v1 (bs [110,101,103,97,116,101]) v9.2.1 v9.2.2) λv10=>
 (bif v10.1 then some (true,v10.2.2,v10.2.1)else Option.bind (PQ N v1 (bs [110,111,116]) v10.2.1 v10.2.2) λv11=>
 (bif v11.1 then some (true,v11.2.2,v11.2.1)else Option.bind (Oz N v1 (bs [108,111,103,105,99]) v11.2.1 v11.2.2) λv12=>
 some (v12.1,v12.2.2,v12.2.1))))))))))) λaF=>
 some (aF.2.1,aF.2.2,aF.1)
def Um(v1:fm)(l:asn ao):asn ao:= .cells (dm v1).cells:: .cells ft::l
def rT(v1:fm)(v2:Bool×aso×an)(l:asn ao):asn ao:=Um v1 (.cells (aA v2.2.2).cells:: .cells [(bq v2.2.1)]::l)
theorem af0{N v1}:KO 63 [(dm v1)] (λr=> .aX [(aA r.1),(bq r.2.1),(az r.2.2)]) (Eb N v1):=
 fw Tryz.func63 (gA [[],[],[]] (aq λv2 h1=>gG (λaF=>[(7,(az aF.1))]) (λaF=>(Um v1 [.cells (aA aF.2.1).cells, .cells [(bq aF.2.2)]])) (bz (4,oR [(dm v1),(.fn 100 []),(bq (bs [102,111,108,100])),(.ptr 3 0),(.ptr 2 0)] (Um v1 [.cells ft, .cells [(bq (bs []))]]) [3,2] (ahS h1)) (au (λh2=>gE [(2,bT h2),(6,bT rfl),(10,bT rfl),(14,bT rfl),(18,bT rfl),(22,bT rfl),(26,bT rfl),(30,bT rfl),(34,bT rfl),(38,bT rfl)] []) λh2=>aq λv3 h3=>aY (2,bF h2) (bz (13,oR [(dm v1),(.fn 101 []),(bq (bs [99,97,115,116])),(.ptr 3 0),(.ptr 2 0)] (rT v1 v2 []) [3,2] (anP _ h3)) (au (λh4=>gE [(6,bT h4),(10,bT rfl),(14,bT rfl),(18,bT rfl),(22,bT rfl),(26,bT rfl),(30,bT rfl),(34,bT rfl),(38,bT rfl)] []) λh4=>aq λv4 h5=>aY (6,bF h4) (bz (25,oR [(dm v1),(.fn 102 []),(bq (bs [105,110,100,101,120])),(.ptr 3 0),(.ptr 2 0)] (rT v1 v3 []) [3,2] (aq8 _ h5)) (au (λh6=>gE [(10,bT h6),(14,bT rfl),(18,bT rfl),(22,bT rfl),(26,bT rfl),(30,bT rfl),(34,bT rfl),(38,bT rfl)] []) λh6=>aq λv5 h7=>aY (10,bF h6) (bz (37,oR [(dm v1),(.fn 103 []),(bq (bs [105,102])),(.ptr 3 0),(.ptr 2 0)] (rT v1 v4 []) [3,2] (aiY _ h7)) (au (λh8=>gE [(14,bT h8),(18,bT rfl),(22,bT rfl),(26,bT rfl),(30,bT rfl),(34,bT rfl),(38,bT rfl)] []) λh8=>aq λv6 h9=>aY (14,bF h8) (bz (49,oR [(dm v1),(.fn 104 []),(bq (bs [115,97,109,101])),(.ptr 3 0),(.ptr 2 0)] (rT v1 v5 []) [3,2] (an7 _ h9)) (au (λaK=>gE [(18,bT aK),(22,bT rfl),(26,bT rfl),(30,bT rfl),(34,bT rfl),(38,bT rfl)] []) λaK=>aq λv7 aL=>aY (18,bF aK) (bz (61,oR [(dm v1),(.fn 105 []),(bq (bs [122,101,114,111])),(.ptr 3 0),(.ptr 2 0)] (rT v1 v6 []) [3,2] (ah9 _ aL)) (au (λaT=>gE [(22,bT aT),(26,bT rfl),(30,bT rfl),(34,bT rfl),(38,bT rfl)] []) λaT=>aq λv8 bu=>aY (22,bF aT) (bz (73,oR [(dm v1),(.fn 106 []),(bq (bs [111,110,101])),(.ptr 3 0),(.ptr 2 0)] (rT v1 v7 []) [3,2] (ajI _ bu)) (au (λbf=>gE [(26,bT bf),(30,bT rfl),(34,bT rfl),(38,bT rfl)] []) λbf=>aq λv9 a7=>aY (26,bF bf) (bz (85,oR [(dm v1),(.fn 107 []),(bq (bs [99,97,110,99,101,108])),(.ptr 3 0),(.ptr 2 0)] (rT v1 v8 []) [3,2] (alo _ a7)) (au (λbm=>gE [(30,bT bm),(34,bT rfl),(38,bT rfl)] []) λbm=>aq λv10 bQ=>aY (30,bF bm) (bz (97,oR [(dm v1),(.fn 108 []),(bq (bs [110,101,103,97,116,101])),(.ptr 3 0),(.ptr 2 0)] (rT v1 v9 []) [3,2] (ape _ bQ)) (au (λcA=>gE [(34,bT cA),(38,bT rfl)] []) λcA=>aq λv11 cv=>aY (34,bF cA) (bz (109,oR [(dm v1),(.fn 109 []),(bq (bs [110,111,116])),(.ptr 3 0),(.ptr 2 0)] (rT v1 v10 []) [3,2] (ahf _ cv)) (au (λb8=>gE [(38,bT b8)] []) λb8=>aq λv12 cJ=>gE [(38,bF b8)] [(121,oR [(dm v1),(.fn 110 []),(bq (bs [108,111,103,105,99])),(.ptr 3 0),(.ptr 2 0)] (rT v1 v11 []) [3,2] (akZ _ cJ))])))))))))))))))))))) λaF=>li (λ_=>(np 2 cn [(3,(bq aF.2.2)),(4,(az aF.1))] [.cells (dm v1).cells, .cells (aA aF.2.1).cells, .cells (aA aF.2.1).cells, .cells [(bq aF.2.2)]] ⟨[],by kernel_rfl⟩ ·)) (gR [])))
def Lm(N:Nat)(v1:an)(v5:Bool):asp gS:=
 bif v5 then
  Option.bind (v1.ax[0]?) λv6=>
  (qV N v6).bind λv7=>
  Option.bind (v1.ax[1]?) λv8=>
  (qV N v8).bind λv9=>
  (zG N v7 v9).bind λv10=>
  some v10
 else
  bif (v1.ar==12)then
   Option.bind (v1.ax[0]?) λv11=>
   (qV N v11).bind λv12=>
   some v12
  else
   some ET
def vz(N:Nat)(v2:gS)(v1:an)(v3:Int)(v4:Bool):asp gS:=
 bif v4 then
  some v2
 else
  bif (v1.ar==11)then
   bif (decide (v3>0))then
    some v2
   else
    some ET
  else
   bif (v1.ar==13)then
    Lm N v1 (v1.ar==13)
   else
    bif (v1.ar==14)then
     Lm N v1 (v1.ar==14)
    else
     Lm N v1 (v1.ar==15)
def TG(N:Nat)(v1:an)(v2:gS)(v3:Int):asp gS:=
 bif (v1.ar==4)then
  vz N v2 v1 v3 (v1.ar==4)
 else
  bif (v1.ar==5)then
   vz N v2 v1 v3 (v1.ar==5)
  else
   bif (v1.ar==6)then
    vz N v2 v1 v3 (v1.ar==6)
   else
    bif (v1.ar==7)then
     vz N v2 v1 v3 (v1.ar==7)
    else
     bif (v1.ar==9)then
      vz N v2 v1 v3 (v1.ar==9)
     else
      bif (v1.ar==10)then
       vz N v2 v1 v3 (v1.ar==10)
      else
       vz N v2 v1 v3 (v1.ar==8)
theorem anI{N v1 v2 v3}:KO 64 [(aA v1),(mG v2),(aw v3)] mG (TG N v1 v2 v3):=
 fw Tryz.func64 (ir 1 [[],[],[]] [2,3,4,6,8,9] 3 (λ(v4:Bool)=>⟨46,[(2,(aw v3)),(3,(.ptr 0 0)),(4,(.ptr 1 0)),(6,(.ptr 2 0)),(8,(aw v1.ar)),(9,(az v4))],[.cells (aA v1).cells, .cells (mG v2).cells, .cells rW]⟩) (vz N v2 v1 v3) (λf1 aD=>au (λa7=>gm aD (v1.ar==4) [[t0 a7]]) λa7=>gA [[f0 a7],[]] (au (λbm=>gm aD (v1.ar==5) [[t0 bm]]) λbm=>gA [[f0 bm],[]] (au (λbQ=>gm aD (v1.ar==6) [[t0 bQ]]) λbQ=>gA [[f0 bQ],[]] (au (λcA=>gm aD (v1.ar==7) [[t0 cA]]) λcA=>gA [[f0 cA],[]] (au (λcv=>gm aD (v1.ar==9) [[t0 cv]]) λcv=>gA [[f0 cv],[]] (au (λb8=>gm aD (v1.ar==10) [[t0 b8]]) λb8=>gm aD (v1.ar==8) [[f0 b8],[]])))))) (λv4=>dM λ_=>au (λh2=>gA [[t0 h2],[]] (aP λh3=>gR [[f0 h3],[]])) λh2=>ir 2 [[f0 h2],[]] [3,6,8,23] 3 (λ(v5:Bool)=>⟨46,[(3,(.ptr 0 0)),(6,(.ptr 2 0)),(8,(aw v1.ar)),(23,(az v5))],[.cells (aA v1).cells, .cells (mG v2).cells, .cells rW]⟩) (Lm N v1) (λf2 dI=>au (λbu=>gm dI (v1.ar==13) [[t0 bu]]) λbu=>gA [[f0 bu],[]] (au (λbf=>gm dI (v1.ar==14) [[t0 bf]]) λbf=>gm dI (v1.ar==15) [[f0 bf],[]])) (λv5=>au (λh4=>aq λv6 h5=>aq λv7 h6=>aq λv8 h7=>aq λv9 h8=>aq λv10 h9=>gR [[t0 h4],[(7,oE (k:=0) (bx h5)),(13,cK K3 h6),(22,oE (k:=1) (bx h7)),(28,cK K3 h8),(31,cK Zk h9)]]) λh4=>gA [[f0 h4],[]] (fp λaK=>aq λv11 aL=>aq λv12 aT=>gR [[t0 aK],[(7,oE (k:=0) (bx aL)),(13,cK K3 aT)]]))))
def JD(N:Nat)(v1:an)(v2:gS)(Xn:an->gS->asp (an×aso×Bool)):asn an->Nat->asp (an×aso×Bool)
 |[],_=>
  some (v1,(bs []),false)
 |v6::v7,v4=>
  Option.bind (TG N v1 v2 (v4:Int)) λv8=>
  (Xn v6 v8).bind λv9=>
  bif v9.2.2 then
   bif (Nat.ble (v1.ax.length*160) 140737488355328)then
   Option.bind (v1.ax[v4]?) λv10=>
   bif (Nat.beq (v1.ax.set v4 v9.1).length v1.ax.length)then
   some ((⟨v1.ar,v1.aC,v1.bD,v1.ay,v1.aM,v1.xIdx,(v1.ax.set v4 v9.1)⟩:an),v9.2.1,true)
   else none
   else none
  else
   (JD N v1 v2 Xn v7 (v4+1))
def yw(N:Nat):Nat->an->gS->asp (an×aso×Bool)
 |0,_,_=>none
 |d+1,v1,v2=>
  Option.bind (Eb N (⟨v1,v2⟩:fm)) λv3=>
  bif v3.2.2 then
   some (v3.1,v3.2.1,true)
  else
   JD N v1 v2 (yw N d) v1.ax 0
def S4(N:Nat)(v1:an)(v2:gS):asp (an×aso×Bool):=yw N N v1 v2
theorem amt(N:Nat):∀d:Nat,(∀{v1:an}{v2:gS},KO 30 [(aA v1),(mG v2)] (λr=> .aX [(aA r.1),(bq r.2.1),(az r.2.2)]) (yw N d v1 v2)):=by
 intro d
 induction d with
 |zero=>intro v1 v2 r hF;rw[yw]at hF;cases hF
 |succ d ih=>
  have afm:= @ih;intro v1 v2;rw[yw];exact fw Tryz.func30 (aq λv3 h1=>gA [[],[],[(4,cK af0 h1)],[]] (aP λh2=>gA [[(0,bF h2)],[(7,oL v1.ax dZ)]] (gT lR 30 v1.ax λh4=>Y7 1 [] [2,3,4,30,31,32] 5 [] [(2,10),(2,11),(2,12)] (λv4=>⟨63,[(2,(.ptr 0 0)),(3,(.ptr 1 0)),(4,(.ptr 2 0)),(30,(.d (.sl (dn v1.ax)))),(31,(aw (v1.ax.length:Int))),(32,(aw (v4:Int)))],[.cells (aA v1).cells, .cells (mG v2).cells, .cells ft, .cells (LL v1 (cf3 v2 [])), .cells (aA v3.1).cells]⟩) (λv4 h5 f1=>gR [[],[(0,bF (b5 h5))],[]]) (λv4 v6 v7 h5 f1 aD=>aq λv8 h6=>aq λv9 h7=>gA [[],[(0,bT (bU h5))],[(4,oE (bx (ba h5)))],[(13,cK anI h6),(16,cK afm h7)],[]] (au (λh8=>cO λh9=>aq λv10 aK=>cO λaL=>gA [[(0,bF (bV h8))],[],[(7,⟨_,_, .pr (.ap (bn (v1.ax.map dd)) (bn (v1.ax.map dd)) v1.ax.length v1.ax.length) (abe (f:=dd) (E:=v1.ax) (h:=[.cells (aA v1).cells, .cells (mG v2).cells, .cells ft, .cells (LL v1 (cf3 v2 [])), .cells (aA v3.1).cells, .cells (aA v6).cells, .cells (aA v9.1).cells, .cells (aA v1).cells]) (k:=13) (cE:=160) (y:=(.d (.sl (dn v1.ax)))) (by rw[<-gh];exact Jc) (congrArg some (gh _)) (nv h9 (by decide)).1 (nv h9 (by decide)).2).2⟩)],[(13,⟨_,_, .pr (.ix v4) (mj (iL (f:=dd) rfl) (Int.natCast_nonneg _) (of_decide_eq_true (bU h5)) (arZ _))⟩),(16,⟨_,_, .pr (.st ((dd v10).map AV.d) (bn ((v1.ax.set v4 v9.1).map dd))) (wO (f:=dd) (j:=0) (y:=v9.1) (zs:=[(aw v9.1.ar),(bq v9.1.aC),(aW v9.1.bD.xN),(aW v9.1.bD.xD),(aw v9.1.ay.aO),(aw v9.1.ay.bo),(aw v9.1.ay.bE),(aw v9.1.ay.bN),(aw v9.1.ay.bM),(aW v9.1.aM.xK),(.d (.sl (cz v9.1.aM.xL))),(.d (.sl (cU v9.1.xIdx))),(.d (.sl (dn v9.1.ax)))]) rfl aK rfl)⟩)]] (li (λ_=>(xn [4,14,16] 8 (dn (v1.ax.set v4 v9.1)) v1.ax.length 1 51 13 [.iX ((v1.ax.set v4 v9.1).map dd)] (uY (arM aL)) (gh _) (vh (λ_=>rfl) _) ·)) (gR [[]]))) λh8=>y8 aD () [[(0,bT (cx h8))],[(2,oq (ca h5 rfl h4))]] h5)))))
theorem ajh{N v1 v2}:KO 30 [(aA v1),(mG v2)] (λr=> .aX [(aA r.1),(bq r.2.1),(az r.2.2)]) (S4 N v1 v2):=(amt N N)
def yr(N:Nat)(v1:aE)(v2:an):asp (an×aso×Bool):=
 (nY N v1).bind λv3=>
 Option.bind (bif (v3 !=0)then some true else (A4 N v2).bind λv4=>
 some (v4 !=0)) λv5=>
 bif v5 then
  (vY N v2).bind λv6=>
  some (v6,(bs []),false)
 else
  (Cd N v2).bind λv7=>
  Option.bind (S4 N v2 (⟨v1,(!v7)⟩:gS)) λv8=>
  (vY N v8.1).bind λv9=>
  some (v9,v8.2.1,v8.2.2)
theorem ZH{N v1 v2}:KO 14 [(bY v1),(aA v2)] (λr=> .aX [(aA r.1),(bq r.2.1),(az r.2.2)]) (yr N v1 v2):=
 fw Tryz.func14 (gA [[]] (aq λv3 h1=>gG (λv5=>[(17,(az v5))]) (λ_=>[.cells (bY v1).cells, .cells (aA v2).cells, .cells ft]) (bz (4,cK rl h1) (au (λh2=>gE [(3,bT h2)] []) λh2=>aq λv4 h3=>gE [(3,bF h2)] [(16,cL (aam h3))])) λv5=>au (λh5=>aq λv6 h6=>gR [[t0 h5],[(4,cK Td h6)]]) λh5=>aq λv7 h7=>aq λv8 h8=>aq λv9 h9=>gR [[f0 h5],[(10,cK PR h7),(19,cK ajh h8)],[(4,cK Td h9)]]))
def B6(N:Nat)(v2:aH):asn bB->Nat->asp Bool
 |[],_=>
  some true
 |v6::v7,v4=>
  Option.bind (v2.xL[((v4:Int)).toNat]?) λv8=>
  bif ((bL v6.aC==bL v8.aC)&&((v6.dE.toInt==v8.dE.toInt)&&true))then
   (B6 N v2 v7 (v4+1))
  else
   some false
def rH(N:Nat)(v1:aH)(v2:aH):asp Bool:=
 Option.bind (bif (v1.xK.toInt !=v2.xK.toInt)then some true else some ((v1.xL.length:Int) !=(v2.xL.length:Int))) λv3=>
 bif v3 then
  some false
 else
  B6 N v2 v1.xL 0
theorem Dt{N v1 v2}:KO 32 [(bZ v1),(bZ v2)] az (rH N v1 v2):=
 fw Tryz.func32 (gA [[]] (gG (λv3=>[(19,(az v3))]) (λ_=>[.cells (bZ v1).cells, .cells (bZ v2).cells]) (au (λh1=>gE [(5,bT h1)] []) λh1=>gE [(5,bF h1)] [(25,oL v1.xL dL),(34,oL v2.xL dL)]) λv3=>dM λ_=>gB mV 0 1 v1.xL λh5=>dO 1 [] [2,3,5] 2 (λv4=>⟨38,[(2,(.ptr 0 0)),(3,(.ptr 1 0)),(5,(aw (v4:Int)))],[.cells (bZ v1).cells, .cells (bZ v2).cells]⟩) (λv4 h6 f1=>gR [[(10,oL v1.xL dL)],[f0 (b5 h6)],[]]) (λv4 v6 v7 h6 f1 aD=>aq λv8 h7=>gA [[(10,oL v1.xL dL)],[t0 (bU h6)],[(10,oE (ga (ba h6))),(25,oE (ga h7))]] (eg λh9=>gb aD () [[f0 (bV h9)],[(5,oq (ca h6 rfl h5))]] h6))))
def CO(N:Nat)(v2:asn aH):asn aH->Nat->asp Bool
 |[],_=>
  some true
 |v5::v6,v3=>
  Option.bind (v2[((v3:Int)).toNat]?) λv7=>
  (rH N v5 v7).bind λv8=>
  bif v8 then
   (CO N v2 v6 (v3+1))
  else
   some false
def xu(N:Nat)(v1:asn aH)(v2:asn aH):asp Bool:=
 bif ((v1.length:Int) !=(v2.length:Int))then
  some false
 else
  CO N v2 v1 0
theorem abP{N v1 v2}:KO 25 [(.d (.sl (dk v1))),(.d (.sl (dk v2)))] az (xu N v1 v2):=
 fw Tryz.func25 (gA [[],[(4,oL v1 dR),(10,oL v2 dR)]] (dM λ_=>gT od 0 v1 λh3=>dO 1 [] [0,1,5] 0 (λv3=>⟨27,[(0,(.d (.sl (dk v1)))),(1,(.d (.sl (dk v2)))),(5,(aw (v3:Int)))],[]⟩) (λv3 h4 f1=>gR [[(7,oL v1 dR)],[f0 (b5 h4)],[]]) (λv3 v5 v6 h4 f1 aD=>aq λv7 h5=>aq λv8 h7=>gA [[(7,oL v1 dR)],[t0 (bU h4)],[(7,oE (kT (ba h4))),(19,oE (kT h5)),(25,cK Dt h7)]] (eg λh8=>gb aD () [[f0 (bV h8)],[(5,oq (ca h4 rfl h3))]] h4))))
def CM(N:Nat)(v1:aZ)(v2:aZ):asp Bool:=
 Option.bind (bif (bL v1.bS==bL v2.bS)then (rH N v1.aM v2.aM).bind λv3=>
 (bif v3 then (xu N v1.bH v2.bH).bind λv4=>
 some v4 else some false)else some false) λv5=>
 some v5
theorem ajS{N v1 v2}:KO 65 [(aIndex v1),(aIndex v2)] az (CM N v1 v2):=
 fw Tryz.func65 (gA [[]] (gG (λv5=>[(4,(az v5))]) (λ_=>[.cells (aIndex v1).cells, .cells (aIndex v2).cells]) (au (λh1=>aq λv3 h2=>aY (5,bT h1) (bz (31,cK Dt h2) (au (λh3=>aq λv4 h4=>gE [(12,bT h3)] [(52,cK abP h4)]) λh3=>gE [(12,bF h3)] []))) λh1=>gE [(5,bF h1),(12,bF rfl)] []) λv5=>gR []))
end Go.Proofs.YtdchibpnjpnkoaaGreatDoor
