/-
  Part 15 of the proof: PQ6.
-/
import Derived.Test.YtdchibpnjpnkoaaGreatDoorPp14
namespace Go.Proofs.YtdchibpnjpnkoaaGreatDoor
open Go.RowKit
set_option maxRecDepth 100000
set_option maxHeartbeats 0
set_option linter.unusedVariables false
def La:iN:=⟨cY,false⟩
def Fj(N:Nat)(v7:Int64)(v8:Int64):asp (aG×Int):=
 (wX N v7 v8).bind λv9=>
 Option.bind (bif (decide (v9.toInt>2147483647))then some true else some (decide (v9.toInt<(-2147483647:Int)))) λv10=>
 bif v10 then
  some (bW,(3:Int))
 else
  some ((⟨v9,(1:Int64)⟩:aG),(0:Int))
def ID(N:Nat)(v1:Int)(v2:Int64)(v3:Int64):asp (aG×Int):=
 bif (v1==4)then
  Option.bind (bif (decide ((v2+v3).toInt>2147483647))then some true else some (decide ((v2+v3).toInt<(-2147483647:Int)))) λv4=>
  bif v4 then
   some (bW,(3:Int))
  else
   some ((⟨(v2+v3),(1:Int64)⟩:aG),(0:Int))
 else
  bif (v1==5)then
   Option.bind (bif (decide ((v2-v3).toInt>2147483647))then some true else some (decide ((v2-v3).toInt<(-2147483647:Int)))) λv5=>
   bif v5 then
    some (bW,(3:Int))
   else
    some ((⟨(v2-v3),(1:Int64)⟩:aG),(0:Int))
  else
   bif (v1==6)then
    Option.bind (bif (decide ((v2*v3).toInt>2147483647))then some true else some (decide ((v2*v3).toInt<(-2147483647:Int)))) λv6=>
    bif v6 then
     some (bW,(3:Int))
    else
     some ((⟨(v2*v3),(1:Int64)⟩:aG),(0:Int))
   else
    bif (v1==7)then
     bif (v3.toInt==0)then
      some (bW,(4:Int))
     else
      bif (decide (v3.toInt<0))then
       Fj N (-v2) (-v3)
      else
       Fj N v2 v3
    else
     Option.bind (bif (decide ((-v2).toInt>2147483647))then some true else some (decide ((-v2).toInt<(-2147483647:Int)))) λv11=>
     bif v11 then
      some (bW,(3:Int))
     else
      some ((⟨(-v2),(1:Int64)⟩:aG),(0:Int))
def Ck(l:asn ao):asn ao:= .cells gZ::l
theorem aqJ{N v1 v2 v3}:KO 262 [(aw v1),(aW v2),(aW v3)] (λr=> .aX [(a8 r.1),(aw r.2)]) (ID N v1 v2 v3):=
 fw Tryz.func262 (gA [[],[(5,⟨_,_, .eq (lX v2)⟩)],[],[]] (au (λh1=>gA [[t0 h1],[(8,⟨_,_, .eq (mY v2 v3)⟩)]] (gG (λv4=>[(46,(az v4))]) (λ_=>(Ck [])) (au (λh2=>gE [(2,bT h2)] []) λh2=>gE [(2,bF h2)] []) λv4=>aP λh4=>gR [[f0 h4],[]])) λh1=>gA [[f0 h1],[]] (au (λh5=>gA [[t0 h5],[(8,⟨_,_, .eq (jX v2 v3)⟩)]] (gG (λv5=>[(46,(az v5))]) (λ_=>(Ck [])) (au (λh6=>gE [(2,bT h6)] []) λh6=>gE [(2,bF h6)] []) λv5=>aP λh8=>gR [[f0 h8],[]])) λh5=>gA [[f0 h5],[]] (au (λh9=>gA [[t0 h9],[(8,⟨_,_, .eq (eY v2 v3)⟩)]] (gG (λv6=>[(46,(az v6))]) (λ_=>(Ck [])) (au (λaK=>gE [(2,bT aK)] []) λaK=>gE [(2,bF aK)] []) λv6=>aP λaT=>gR [[f0 aT],[]])) λh9=>gA [[f0 h9],[]] (au (λbu=>gA [[t0 bu],[]] (aP λbf=>nF 1 [[f0 bf],[]] [1,2,6] 1 (λ(v7:Int64)(v8:Int64)=>⟨50,[(1,(aW v7)),(2,(aW v8)),(6,(.ptr 0 0))],(Ck [])⟩) (Fj N) (λf1 aD=>au (λcv=>gm aD ((-v2),(-v3)) [[t0 cv],[(5,⟨_,_, .eq (lX v2)⟩)],[(5,⟨_,_, .eq (lX v3)⟩)]]) λcv=>gm aD (v2,v3) [[f0 cv]]) (λv7 v8=>aq λv9 a7=>gA [[(7,cK Nh a7)]] (gG (λv10=>[(46,(az v10))]) (λ_=>(Ck [])) (au (λbm=>gE [(2,bT bm)] []) λbm=>gE [(2,bF bm)] []) λv10=>aP λcA=>gR [[f0 cA],[]])))) λbu=>gA [[f0 bu]] (gG (λv11=>[(46,(az v11))]) (λ_=>(Ck [])) (au (λb8=>gE [(2,bT b8)] []) λb8=>gE [(2,bF b8)] []) λv11=>aP λcS=>gR [[f0 cS],[]]))))))
def FG(N:Nat)(v1:Int64):asp Int:=
 bif (decide (v1.toInt<0))then
  some (IntKind.u64.wrap ((IntKind.u64.wrap (-(v1+(1:Int64))).toInt)+(1:Int)))
 else
  some (IntKind.u64.wrap v1.toInt)
theorem U8{N v1}:KO 317 [(aW v1)] (λr=> .d (.v (.int .u64 r))) (FG N v1):=
 fw Tryz.func317 (gA [[],[]] (fp λh1=>gR [[t0 h1],[(5,⟨_,_, .eq (mY v1 (1:Int64))⟩),(8,⟨_,_, .eq (lX (v1+(1:Int64)))⟩)]]))
def Dc(N:Nat):Nat->Int->Int->asp Int
 |0,_,_=>none
 |v3+1,v4,v5=>
  bif (v5 !=0)then
   (λcD gy=>Dc N v3 cD gy) v5 ((v4).tmod v5)
  else
   some v4
def PD(N:Nat)(v1:Int)(v2:Int):asp Int:=
 Dc N N v1 v2
theorem aqE{N v1 v2}:KO 318 [(.d (.v (.int .u64 v1))),(.d (.v (.int .u64 v2)))] (λr=> .d (.v (.int .u64 r))) (PD N v1 v2):=
 fw Tryz.func318 (So 1 [[]] [0,1] 0 (λ(v4:Int)(v5:Int)=>⟨12,[(0,(.d (.v (.int .u64 v4)))),(1,(.d (.v (.int .u64 v5))))],[]⟩) (Dc N) (λv3 v4 v5 f1 aD=>gA [[]] (fp λh1=>zc aD (v5,((v4).tmod v5)) [[t0 h1],[(10,⟨_,_, .nz (b:=v5) (bne_iff_ne.1 h1)⟩)]])))
def OE(N:Nat)(v1:Bool)(v2:Int)(v3:Int):asp (aG×Int):=
 (PD N v2 v3).bind λv4=>
 bif (v4 !=0)then
 Option.bind (bif (decide ((IntKind.u64.wrap ((v2).tdiv v4))>2147483647))then some true else some (decide ((IntKind.u64.wrap ((v3).tdiv v4))>2147483647))) λv5=>
 bif v5 then
  some (bW,(3:Int))
 else
  bif v1 then
   some ((⟨(-(Int64.ofInt (IntKind.u64.wrap ((v2).tdiv v4)))),(Int64.ofInt (IntKind.u64.wrap ((v3).tdiv v4)))⟩:aG),(0:Int))
  else
   some ((⟨(Int64.ofInt (IntKind.u64.wrap ((v2).tdiv v4))),(Int64.ofInt (IntKind.u64.wrap ((v3).tdiv v4)))⟩:aG),(0:Int))
 else none
theorem agq{N v1 v2 v3}:KO 316 [(az v1),(.d (.v (.int .u64 v2))),(.d (.v (.int .u64 v3)))] (λr=> .aX [(a8 r.1),(aw r.2)]) (OE N v1 v2 v3):=
 fw Tryz.func316 (aq λv4 h1=>cO λh2=>gA [[],[(7,cK aqE h1)],[(7,⟨_,_, .nz (b:=v4) (bne_iff_ne.1 h2)⟩)],[(7,⟨_,_, .nz (b:=v4) (bne_iff_ne.1 h2)⟩)]] (gG (λv5=>[(23,(az v5))]) (λ_=>[.cells gZ]) (au (λh4=>gE [(2,bT h4)] []) λh4=>gE [(2,bF h4)] []) λv5=>dM λ_=>au (λh7=>gR [[t0 h7],[(5,⟨_,_, .eq (fM (IntKind.u64.wrap ((v2).tdiv v4)))⟩),(8,⟨_,_, .eq (lX (Int64.ofInt (IntKind.u64.wrap ((v2).tdiv v4))))⟩),(14,⟨_,_, .eq (fM (IntKind.u64.wrap ((v3).tdiv v4)))⟩)]]) λh7=>gR [[f0 h7],[(5,⟨_,_, .eq (fM (IntKind.u64.wrap ((v2).tdiv v4)))⟩),(11,⟨_,_, .eq (fM (IntKind.u64.wrap ((v3).tdiv v4)))⟩)]]))
def vI(N:Nat)(v1:Int64)(v2:Int64):asp (aG×Int):=
 bif (v2.toInt==0)then
  some (bW,(4:Int))
 else
  (FG N v1).bind λv3=>
  (FG N v2).bind λv4=>
  Option.bind (OE N (!((decide (v1.toInt<0))==(decide (v2.toInt<0)))) v3 v4) λv5=>
  some (v5.1,v5.2)
theorem DJ{N v1 v2}:KO 306 [(aW v1),(aW v2)] (λr=> .aX [(a8 r.1),(aw r.2)]) (vI N v1 v2):=
 fw Tryz.func306 (gA [[],[]] (aP λh1=>aq λv3 h2=>aq λv4 h3=>aq λv5 h4=>gR [[f0 h1],[(19,cK U8 h2),(25,cK U8 h3),(28,cK agq h4)]]))
def JZ(N:Nat)(v1:aG)(v2:aG):asp (aG×Int):=
 (mP N v1).bind λv3=>
 Option.bind (bif v3 then (mP N v2).bind λv4=>
 some (!v4)else some true) λv5=>
 bif v5 then
  some (bW,(1:Int))
 else
  Option.bind (vI N ((v1.xN*v2.xD)+(v2.xN*v1.xD)) (v1.xD*v2.xD)) λv6=>
  some (v6.1,v6.2)
theorem agD{N v1 v2}:KO 263 [(a8 v1),(a8 v2)] (λr=> .aX [(a8 r.1),(aw r.2)]) (JZ N v1 v2):=
 fw Tryz.func263 (gA [[]] (aq λv3 h1=>gG (λv5=>[(13,(az v5))]) (λ_=>[.cells (a8 v1).cells, .cells (a8 v2).cells, .cells gZ]) (bz (4,cK p6 h1) (au (λh2=>aq λv4 h3=>gE [(3,bF (bV h2))] [(16,cK p6 h3)]) λh2=>gE [(3,bT (cx h2))] [])) λv5=>aP λh5=>aq λv6 h6=>gR [[f0 h5],[(14,⟨_,_, .eq (eY v1.xN v2.xD)⟩),(29,⟨_,_, .eq (eY v2.xN v1.xD)⟩),(32,⟨_,_, .eq (mY (v1.xN*v2.xD) (v2.xN*v1.xD))⟩),(47,⟨_,_, .eq (eY v1.xD v2.xD)⟩),(49,cK DJ h6)]]))
def JV(N:Nat)(v1:aG)(v2:aG):asp (aG×Int):=
 (mP N v1).bind λv3=>
 Option.bind (bif v3 then (mP N v2).bind λv4=>
 some (!v4)else some true) λv5=>
 bif v5 then
  some (bW,(1:Int))
 else
  Option.bind (vI N ((v1.xN*v2.xD)-(v2.xN*v1.xD)) (v1.xD*v2.xD)) λv6=>
  some (v6.1,v6.2)
theorem ags{N v1 v2}:KO 264 [(a8 v1),(a8 v2)] (λr=> .aX [(a8 r.1),(aw r.2)]) (JV N v1 v2):=
 fw Tryz.func264 (gA [[]] (aq λv3 h1=>gG (λv5=>[(13,(az v5))]) (λ_=>[.cells (a8 v1).cells, .cells (a8 v2).cells, .cells gZ]) (bz (4,cK p6 h1) (au (λh2=>aq λv4 h3=>gE [(3,bF (bV h2))] [(16,cK p6 h3)]) λh2=>gE [(3,bT (cx h2))] [])) λv5=>aP λh5=>aq λv6 h6=>gR [[f0 h5],[(14,⟨_,_, .eq (eY v1.xN v2.xD)⟩),(29,⟨_,_, .eq (eY v2.xN v1.xD)⟩),(32,⟨_,_, .eq (jX (v1.xN*v2.xD) (v2.xN*v1.xD))⟩),(47,⟨_,_, .eq (eY v1.xD v2.xD)⟩),(49,cK DJ h6)]]))
def LZ(N:Nat)(v1:aG)(v2:aG):asp (aG×Int):=
 (mP N v1).bind λv3=>
 Option.bind (bif v3 then (mP N v2).bind λv4=>
 some (!v4)else some true) λv5=>
 bif v5 then
  some (bW,(1:Int))
 else
  Option.bind (vI N (v1.xN*v2.xN) (v1.xD*v2.xD)) λv6=>
  some (v6.1,v6.2)
theorem aiv{N v1 v2}:KO 265 [(a8 v1),(a8 v2)] (λr=> .aX [(a8 r.1),(aw r.2)]) (LZ N v1 v2):=
 fw Tryz.func265 (gA [[]] (aq λv3 h1=>gG (λv5=>[(13,(az v5))]) (λ_=>[.cells (a8 v1).cells, .cells (a8 v2).cells, .cells gZ]) (bz (4,cK p6 h1) (au (λh2=>aq λv4 h3=>gE [(3,bF (bV h2))] [(16,cK p6 h3)]) λh2=>gE [(3,bT (cx h2))] [])) λv5=>aP λh5=>aq λv6 h6=>gR [[f0 h5],[(14,⟨_,_, .eq (eY v1.xN v2.xN)⟩),(29,⟨_,_, .eq (eY v1.xD v2.xD)⟩),(31,cK DJ h6)]]))
def JE(N:Nat)(v1:aG)(v2:aG):asp (aG×Int):=
 (mP N v1).bind λv3=>
 Option.bind (bif v3 then (mP N v2).bind λv4=>
 some (!v4)else some true) λv5=>
 bif v5 then
  some (bW,(1:Int))
 else
  Option.bind (vI N (v1.xN*v2.xD) (v1.xD*v2.xN)) λv6=>
  some (v6.1,v6.2)
theorem anH{N v1 v2}:KO 266 [(a8 v1),(a8 v2)] (λr=> .aX [(a8 r.1),(aw r.2)]) (JE N v1 v2):=
 fw Tryz.func266 (gA [[]] (aq λv3 h1=>gG (λv5=>[(13,(az v5))]) (λ_=>[.cells (a8 v1).cells, .cells (a8 v2).cells, .cells gZ]) (bz (4,cK p6 h1) (au (λh2=>aq λv4 h3=>gE [(3,bF (bV h2))] [(16,cK p6 h3)]) λh2=>gE [(3,bT (cx h2))] [])) λv5=>aP λh5=>aq λv6 h6=>gR [[f0 h5],[(14,⟨_,_, .eq (eY v1.xN v2.xD)⟩),(29,⟨_,_, .eq (eY v1.xD v2.xN)⟩),(31,cK DJ h6)]]))
def H4(N:Nat)(v1:aG):asp aG:=
 (mP N v1).bind λv2=>
 bif v2 then
  some (⟨(-v1.xN),v1.xD⟩:aG)
 else
  some bW
theorem aoG{N v1}:KO 267 [(a8 v1)] a8 (H4 N v1):=
 fw Tryz.func267 (aq λv2 h1=>gA [[],[(4,cK p6 h1)]] (eg λh2=>gR [[f0 (bV h2)],[(8,⟨_,_, .eq (lX v1.xN)⟩)]]))
def xB(N:Nat)(v1:Int)(v2:aE)(v3:aG)(v4:aG):asp (aG×Int):=
 Option.bind (bif (decide (v1<4))then some true else some (decide (v1>10))) λv5=>
 bif v5 then
  some (bW,(1:Int))
 else
  (mT N v2).bind λv6=>
  bif v6 then
   (pn N v2 v3).bind λv7=>
   Option.bind (bif v7 then(bif (v1 !=8)then (pn N v2 v4).bind λv8=>
   some (!v8)else some false)else some true) λv9=>
   bif v9 then
    some (bW,(1:Int))
   else
    Option.bind (bif (v1==9)then some true else some (v1==10)) λv10=>
    bif v10 then
     (C3 N v2 v3 v4).bind λv11=>
     bif ((decide (v11>0))==(v1==9))then
      some (v4,(0:Int))
     else
      some (v3,(0:Int))
    else
     bif (v2.aO==2)then
      (Lw N v1 v2 v3.xN v4.xN).bind λv12=>
      some (v12.1,v12.2)
     else
      bif (v2.aO==3)then
       (ID N v1 v3.xN v4.xN).bind λaF=>
       some (aF.1,aF.2)
      else
       bif (v1==4)then
        (JZ N v3 v4).bind λaV=>
        some (aV.1,aV.2)
       else
        bif (v1==5)then
         (JV N v3 v4).bind λbt=>
         some (bt.1,bt.2)
        else
         bif (v1==6)then
          (LZ N v3 v4).bind λbK=>
          some (bK.1,bK.2)
         else
          bif (v1==7)then
           (JE N v3 v4).bind λbC=>
           some (bC.1,bC.2)
          else
           (H4 N v3).bind λaR=>
           some (aR,(0:Int))
  else
   some (bW,(10:Int))
def TW(v2:aE)(v3:aG)(v4:aG)(l:asn ao):asn ao:= .cells (bY v2).cells:: .cells (a8 v3).cells:: .cells (a8 v4).cells:: .cells gZ::l
theorem acR{N v1 v2 v3 v4}:KO 210 [(aw v1),(bY v2),(a8 v3),(a8 v4)] (λr=> .aX [(a8 r.1),(aw r.2)]) (xB N v1 v2 v3 v4):=
 fw Tryz.func210 (gA [[]] (gG (λv5=>[(15,(az v5))]) (λ_=>(TW v2 v3 v4 [])) (au (λh1=>gE [(2,bT h1)] []) λh1=>gE [(2,bF h1)] []) λv5=>aP λh3=>aq λv6 h4=>gA [[f0 h3],[(4,cK pD h4)]] (eg λh5=>gA [[f0 (bV h5)]] (aq λv7 h6=>gG (λv9=>[(34,(az v9))]) (λ_=>(TW v2 v3 v4 [])) (bz (7,cK xt h6) (au (λh7=>aY (4,bF (bV h7)) (au (λh8=>aq λv8 h9=>gE [(7,bT h8)] [(31,cK xt h9),(37,bT h8)]) λh8=>gE [(7,bF h8)] [(37,bF h8)])) λh7=>gE [(4,bT (cx h7)),(7,uN)] [])) λv9=>aP λaL=>gA [[f0 aL]] (gG (λv10=>[(41,(az v10))]) (λ_=>(TW v2 v3 v4 [])) (au (λaT=>gE [(2,bT aT)] []) λaT=>gE [(2,bF aT)] []) λv10=>au (λbf=>aq λv11 a7=>gA [[t0 bf],[(10,cK Xw a7)]] (aP λbm=>gR [[f0 bm],[]])) λbf=>gA [[f0 bf],[]] (au (λbQ=>aq λv12 cA=>gR [[t0 bQ],[(19,cK afN cA)]]) λbQ=>gA [[f0 bQ],[]] (au (λcv=>aq λaF b8=>gR [[t0 cv],[(16,cK aqJ b8)]]) λcv=>gA [[f0 cv],[],[]] (au (λcJ=>aq λaV cS=>gR [[t0 cJ],[(7,cK agD cS)]]) λcJ=>gA [[f0 cJ],[]] (au (λdw=>aq λbt eC=>gR [[t0 dw],[(7,cK ags eC)]]) λdw=>gA [[f0 dw],[]] (au (λfF=>aq λbK im=>gR [[t0 fF],[(7,cK aiv im)]]) λfF=>gA [[f0 fF],[]] (au (λfu=>aq λbC gw=>gR [[t0 fu],[(7,cK anH gw)]]) λfu=>aq λaR mD=>gR [[f0 fu],[(4,cK aoG mD)]])))))))))))
def rE(N:Nat)(v1:aE)(v2:aG):asp an:=
 some (⟨(1:Int),(bs []),v2,v1,dq,[],[]⟩:an)
theorem BS{N v1 v2}:KO 211 [(bY v1),(a8 v2)] aA (rE N v1 v2):=
 fw Tryz.func211 (gR [[],[]])
def WH(N:Nat)(v1:Int):asp Bool:=
 Option.bind (bif (decide (v1>=4))then(bif (decide (v1<=10))then some (v1 !=8)else some false)else some false) λv2=>
 some v2
theorem aex{N v1}:KO 212 [(aw v1)] az (WH N v1):=
 fw Tryz.func212 (gA [[]] (gG (λv2=>[(2,(az v2))]) (λ_=>[]) (au (λh1=>aY (2,bT h1) (au (λh2=>gE [(6,bT h2)] []) λh2=>gE [(6,bF h2)] [])) λh1=>gE [(2,bF h1),(6,bF rfl)] []) λv2=>gR []))
def Jm(N:Nat)(v1:an):asp (an×Bool):=
 Option.bind (bif (v1.ar==8)then Option.bind (v1.ax[0]?) λv2=>
 some (v2.ar==1)else some false) λv3=>
 bif v3 then
  Option.bind (v1.ax[0]?) λv4=>
  Option.bind (xB N (8:Int) v4.ay v4.bD v4.bD) λv5=>
  (rE N v4.ay v5.1).bind λv6=>
  some (v6,(v5.2==0))
 else
  (WH N v1.ar).bind λv7=>
  Option.bind (bif v7 then Option.bind (v1.ax[0]?) λv8=>
  (bif (v8.ar !=1)then some true else Option.bind (v1.ax[1]?) λv9=>
  (bif (v9.ar !=1)then some true else some (!((v8.ay.aO==v9.ay.aO)&&((v8.ay.bo==v9.ay.bo)&&((v8.ay.bE==v9.ay.bE)&&((v8.ay.bN==v9.ay.bN)&&((v8.ay.bM==v9.ay.bM)&&true))))))))else some true) λv10=>
  bif v10 then
   some (v1,false)
  else
   Option.bind (v1.ax[0]?) λv11=>
   Option.bind (v1.ax[1]?) λv12=>
   (xB N v1.ar v11.ay v11.bD v12.bD).bind λaF=>
   (rE N v11.ay aF.1).bind λaV=>
   some (aV,(aF.2==0))
theorem aqn{N v1}:KO 172 [(aA v1)] (λr=> .aX [(aA r.1),(az r.2)]) (Jm N v1):=
 fw Tryz.func172 (gA [[]] (gG (λv3=>[(19,(az v3))]) (λ_=>[.cells (aA v1).cells, .cells ft]) (au (λh1=>aq λv2 h2=>gE [(3,bT h1)] [(19,oE (k:=0) (bx h2))]) λh1=>gE [(3,bF h1)] []) λv3=>au (λh4=>aq λv4 h5=>aq λv5 h6=>aq λv6 h7=>gR [[t0 h4],[(7,oE (k:=0) (bx h5))],[(19,cK acR h6)],[(10,cK BS h7)]]) λh4=>gA [[f0 h4]] (aq λv7 h8=>gG (λv10=>[(72,(az v10))]) (λ_=>[.cells (aA v1).cells, .cells ft]) (bz (7,cK aex h8) (au (λh9=>aq λv8 aK=>aY (4,bF (bV h9)) (bz (22,oE (k:=0) (bx aK)) (au (λaL=>gE [(12,bT aL),(20,bT rfl)] []) λaL=>aq λv9 aT=>aY (12,bF aL) (bz (46,oE (k:=1) (bx aT)) (au (λbu=>gE [(20,bT bu)] []) λbu=>gE [(20,bF bu)] [(70,oE (k:=0) (bx aK)),(85,oE (k:=1) (bx aT))]))))) λh9=>gE [(4,bT (cx h9)),(12,bT rfl),(20,bT rfl)] [])) λv10=>aP λa7=>aq λv11 bm=>aq λv12 bQ=>aq λaF cA=>aq λaV cv=>gR [[f0 a7],[(13,oE (k:=0) (bx bm)),(28,oE (k:=0) (bx bm)),(43,oE (k:=1) (bx bQ)),(52,cK acR cA)],[(7,oE (k:=0) (bx bm)),(19,cK BS cv)]])))
def Mh(N:Nat)(v3:Int64)(v4:Int64):asp aG:=
 some (⟨v3,v4⟩:aG)
def JY(N:Nat)(v1:aE)(v2:aG):asp aG:=
 bif (v1.aO==2)then
  (vO N v1).bind λv5=>
  (vI N v2.xN v5).bind λv6=>
  Mh N v6.1.xN v6.1.xD
 else
  Mh N v2.xN v2.xD
theorem afO{N v1 v2}:KO 268 [(bY v1),(a8 v2)] a8 (JY N v1 v2):=
 fw Tryz.func268 (nF 1 [[],[]] [3,4] 3 (λ(v3:Int64)(v4:Int64)=>⟨17,[(3,(.ptr 1 0)),(4,(.ptr 2 0))],[.cells (bY v1).cells, .cells [(aW v3),(aW v4)], .cells gZ]⟩) (Mh N) (λf1 aD=>au (λh1=>aq λv5 h2=>aq λv6 h3=>gm aD (v6.1.xN,v6.1.xD) [[t0 h1],[(10,cK C2 h2),(13,cK DJ h3)]]) λh1=>gm aD (v2.xN,v2.xD) [[f0 h1]]) (λv3 v4=>gR [[]]))
def DR(N:Nat)(v1:aE)(v2:aE)(v3:aG):asp (aG×Int):=
 (mT N v1).bind λv4=>
 Option.bind (bif v4 then (mT N v2).bind λv5=>
 some (!v5)else some true) λv6=>
 bif v6 then
  some (bW,(10:Int))
 else
  (pn N v1 v3).bind λv7=>
  bif v7 then
   (JY N v1 v3).bind λv8=>
   bif (v2.aO==3)then
    (wX N v8.xN v8.xD).bind λv9=>
    some ((⟨v9,(1:Int64)⟩:aG),(0:Int))
   else
    bif (v2.aO==2)then
     (vO N v2).bind λv10=>
     Option.bind (Cx N (v8.xN*v10) v8.xD v2.bN) λv11=>
     (sD N v2 v11).bind λv12=>
     some (v12,(0:Int))
    else
     some (v8,(0:Int))
  else
   some (bW,(1:Int))
theorem anB{N v1 v2 v3}:KO 213 [(bY v1),(bY v2),(a8 v3)] (λr=> .aX [(a8 r.1),(aw r.2)]) (DR N v1 v2 v3):=
 fw Tryz.func213 (gA [[]] (aq λv4 h1=>gG (λv6=>[(16,(az v6))]) (λ_=>[.cells (bY v1).cells, .cells (bY v2).cells, .cells (a8 v3).cells, .cells gZ]) (bz (4,cK pD h1) (au (λh2=>aq λv5 h3=>gE [(3,bF (bV h2))] [(16,cK pD h3)]) λh2=>gE [(3,bT (cx h2))] [])) λv6=>aP λh5=>aq λv7 h6=>gA [[f0 h5],[(7,cK xt h6)]] (eg λh7=>aq λv8 h8=>gA [[f0 (bV h7)],[(7,cK afO h8)],[]] (au (λh9=>aq λv9 aK=>gR [[t0 h9],[(13,cK Nh aK)]]) λh9=>gA [[f0 h9],[]] (fp λaL=>aq λv10 aT=>aq λv11 bu=>aq λv12 bf=>gR [[t0 aL],[(13,cK C2 aT),(17,⟨_,_, .eq (eY v8.xN v10)⟩),(31,cK Qd bu),(34,cK Ai bf)]])))))
mutual
def my(N:Nat):Nat->an->asp iN
 |0,_=>none
 |d+1,v1=>
  Option.bind (bif (v1.ar==1)then some true else some (v1.ar==12)) λv2=>
  bif v2 then
   some (⟨v1.ay,true⟩:iN)
  else
   bif (v1.ar==2)then
    some (⟨(⟨(3:Int),(0:Int),(0:Int),(0:Int),(0:Int)⟩:aE),true⟩:iN)
   else
    bif (v1.ar==8)then
     Option.bind (v1.ax[0]?) λv3=>
     Option.bind ((my N d) v3) λv4=>
     some v4
    else
     Option.bind (bif (decide (v1.ar>=4))then some (decide (v1.ar<=10))else some false) λv5=>
     bif v5 then
      Option.bind (v1.ax[0]?) λv6=>
      Option.bind (v1.ax[1]?) λv7=>
      Option.bind ((tL N d) v6 v7) λv8=>
      some v8
     else
      bif (v1.ar==11)then
       Option.bind (v1.ax[1]?) λv9=>
       Option.bind ((my N d) v9) λv10=>
       Option.bind (v1.ax[2]?) λv11=>
       Option.bind ((my N d) v11) λv12=>
       Option.bind (bif v10.zt then(bif v12.zt then some ((v10.xT.aO==v12.xT.aO)&&((v10.xT.bo==v12.xT.bo)&&((v10.xT.bE==v12.xT.bE)&&((v10.xT.bN==v12.xT.bN)&&((v10.xT.bM==v12.xT.bM)&&true)))))else some false)else some false) λaF=>
       bif aF then
        some v10
       else
        some La
      else
       some La
def tL(N:Nat):Nat->an->an->asp iN
 |0,_,_=>none
 |d+1,v1,v2=>
  Option.bind ((my N d) v1) λv3=>
  bif v3.zt then
   some v3
  else
   Option.bind ((my N d) v2) λv4=>
   some v4
end
def z8(N:Nat)(v1:an):asp iN:=my N N v1
def Fc(N:Nat)(v1:an)(v2:an):asp iN:=tL N N v1 v2
theorem ada(N:Nat):∀d:Nat,(∀{v1:an},KO 184 [(aA v1)] iF (my N d v1))/\(∀{v1:an}{v2:an},KO 183 [(aA v1),(aA v2)] iF (tL N d v1 v2)):=by
 intro d
 induction d with
 |zero=>exact⟨(by intro v1 r J;rw[my]at J;cases J),(by intro v1 v2 r J;rw[tL]at J;cases J)⟩
 |succ d ih=>
  have Hp:= @ih.1;have ahu:= @ih.2;refine⟨?_,?_⟩
  ·intro v1;rw[my];exact fw Tryz.func184 (gA [[]] (gG (λv2=>[(5,(az v2))]) (λ_=>[.cells (aA v1).cells, .cells rW]) (au (λh1=>gE [(3,bT h1)] []) λh1=>gE [(3,bF h1)] []) λv2=>dM λ_=>dM λ_=>au (λh5=>aq λv3 h6=>aq λv4 h7=>gR [[(0,bT h5)],[(7,oE (k:=0) (bx h6)),(13,cK Hp h7)]]) λh5=>gA [[(0,bF h5)]] (gG (λv5=>[(32,(az v5))]) (λ_=>[.cells (aA v1).cells, .cells rW]) (au (λh8=>gE [(3,bT h8)] []) λh8=>gE [(3,bF h8)] []) λv5=>au (λaK=>aq λv6 aL=>aq λv7 aT=>aq λv8 bu=>gR [[(0,bT aK)],[(7,oE (k:=0) (bx aL)),(19,oE (k:=1) (bx aT)),(25,cK ahu bu)]]) λaK=>gA [[(0,bF aK)],[]] (fp λbf=>gA [[(0,bT bf)]] (aq λv9 a7=>aq λv10 bm=>aq λv11 bQ=>aq λv12 cA=>li (λ_=>(np 2 cn [(3,(.ptr 2 0)),(4,(.ptr 3 0))] [.cells (aA v1).cells, .cells rW, .cells (iF v10).cells, .cells (iF v12).cells] ⟨[(7,oE (k:=1) (bx a7)),(13,cK Hp bm),(22,oE (k:=2) (bx bQ)),(28,cK Hp cA)],by kernel_rfl⟩ ·)) (gG (λaF=>[(76,(az aF))]) (λ_=>[.cells (aA v1).cells, .cells rW, .cells (iF v10).cells, .cells (iF v12).cells]) (au (λcv=>aY (2,bT cv) (au (λb8=>gE [(6,bT b8)] []) λb8=>gE [(6,bF b8)] [])) λcv=>gE [(2,bF cv),(6,bF rfl)] []) λaF=>aP λcS=>gR [[(0,bF cS)],[]]))))))
  intro v1 v2;rw[tL];exact fw Tryz.func183 (aq λv3 h1=>gA [[],[(4,cK Hp h1)],[]] (aP λh2=>aq λv4 h3=>gR [[(0,bF h2)],[(4,cK Hp h3)]]))
theorem acM{N v1}:KO 184 [(aA v1)] iF (z8 N v1):=(ada N N).1
theorem amJ{N v1 v2}:KO 183 [(aA v1),(aA v2)] iF (Fc N v1 v2):=(ada N N).2
def J1(N:Nat)(v1:an):asp (an×Bool):=
 bif (v1.ar !=12)then
  some (v1,false)
 else
  Option.bind (v1.ax[0]?) λv2=>
  bif (v2.ar==1)then
   (DR N v2.ay v1.ay v2.bD).bind λv3=>
   (rE N v1.ay v3.1).bind λv4=>
   some (v4,(v3.2==0))
  else
   (z8 N v2).bind λv5=>
   Option.bind (bif v5.zt then some ((v5.xT.aO==v1.ay.aO)&&((v5.xT.bo==v1.ay.bo)&&((v5.xT.bE==v1.ay.bE)&&((v5.xT.bN==v1.ay.bN)&&((v5.xT.bM==v1.ay.bM)&&true)))))else some false) λv6=>
   some (v2,v6)
theorem aiG{N v1}:KO 173 [(aA v1)] (λr=> .aX [(aA r.1),(az r.2)]) (J1 N v1):=
 fw Tryz.func173 (gA [[],[]] (aP λh1=>aq λv2 h2=>gA [[f0 h1],[(7,oE (k:=0) (bx h2))],[]] (au (λh3=>aq λv3 h4=>aq λv4 h5=>gR [[t0 h3],[(19,cK anB h4)],[(10,cK BS h5)]]) λh3=>aq λv5 h6=>gA [[f0 h3],[(4,cK acM h6)]] (gU 5 (λv6=>[(3,(az v6))]) (λ_=>[.cells (aA v1).cells, .cells (aA v2).cells, .cells (aA v2).cells, .cells (iF v5).cells]) (au (λh7=>gE [(3,bT h7)] []) λh7=>gE [(3,bF h7)] []) λv6=>gR []))))
def Cn(N:Nat)(v1:aH):asp Int:=
 (u7 N v1).bind λv2=>
 bif v2 then
  some (0:Int)
 else
  some (1:Int)
theorem Pt{N v1}:KO 273 [(bZ v1)] aw (Cn N v1):=
 fw Tryz.func273 (aq λv2 h1=>gA [[],[(4,cK Bu h1)]] (m0 λh2=>gR [[t0 (cx h2)],[]]))
def Dh(N:Nat)(v1:Int64)(v2:Int64):asp (Int64×Bool):=
 Option.bind (bif (v1.toInt==0)then some true else some (v2.toInt==0)) λv3=>
 bif v3 then
  some ((0:Int64),true)
 else
  Option.bind (bif (v1.toInt==(-1:Int))then(bif (v2.toInt==(-9223372036854775808:Int))then some true else(bif (v2.toInt==(-1:Int))then(bif (v1.toInt==(-9223372036854775808:Int))then some true else bif (v2.toInt !=0)then
  some ((Int64.ofInt (((v1*v2).toInt).tdiv v2.toInt)).toInt !=v1.toInt)
  else none)else bif (v2.toInt !=0)then
  some ((Int64.ofInt (((v1*v2).toInt).tdiv v2.toInt)).toInt !=v1.toInt)
  else none))else(bif (v2.toInt==(-1:Int))then(bif (v1.toInt==(-9223372036854775808:Int))then some true else bif (v2.toInt !=0)then
  some ((Int64.ofInt (((v1*v2).toInt).tdiv v2.toInt)).toInt !=v1.toInt)
  else none)else bif (v2.toInt !=0)then
  some ((Int64.ofInt (((v1*v2).toInt).tdiv v2.toInt)).toInt !=v1.toInt)
  else none)) λv4=>
  bif v4 then
   some ((0:Int64),false)
  else
   some ((v1*v2),true)
theorem Xh{N v1 v2}:KO 274 [(aW v1),(aW v2)] (λr=> .aX [(aW r.1),(az r.2)]) (Dh N v1 v2):=
 fw Tryz.func274 (gA [[]] (gG (λv3=>[(12,(az v3))]) (λ_=>[]) (au (λh1=>gE [(2,bT h1)] []) λh1=>gE [(2,bF h1)] []) λv3=>aP λh3=>gA [[f0 h3],[(8,⟨_,_, .eq (eY v1 v2)⟩)]] (gG (λv4=>[(36,(az v4))]) (λ_=>[]) (au (λh4=>aY (2,bT h4) (au (λh5=>gE [(6,bT h5),(9,uN),(14,bT rfl)] []) λh5=>aY (6,bF h5) (au (λh6=>aY (9,bT h6) (bz (37,bT h6) (au (λh7=>gE [(14,bT h7)] []) λh7=>cO λh8=>gE [(14,bF h7)] [(52,⟨_,_, .nz (b:=v2.toInt) (bne_iff_ne.1 h8)⟩),(53,⟨_,_, .eq (fM (((v1*v2).toInt).tdiv v2.toInt))⟩)]))) λh6=>cO λh9=>gE [(9,bF h6),(14,bF rfl)] [(37,bF h6),(52,⟨_,_, .nz (b:=v2.toInt) (bne_iff_ne.1 h9)⟩),(53,⟨_,_, .eq (fM (((v1*v2).toInt).tdiv v2.toInt))⟩)]))) λh4=>aY (2,bF h4) (aY (6,bF rfl) (au (λaK=>aY (9,bT aK) (bz (37,bT aK) (au (λaL=>gE [(14,bT aL)] []) λaL=>cO λaT=>gE [(14,bF aL)] [(52,⟨_,_, .nz (b:=v2.toInt) (bne_iff_ne.1 aT)⟩),(53,⟨_,_, .eq (fM (((v1*v2).toInt).tdiv v2.toInt))⟩)]))) λaK=>cO λbu=>gE [(9,bF aK),(14,bF rfl)] [(37,bF aK),(52,⟨_,_, .nz (b:=v2.toInt) (bne_iff_ne.1 bu)⟩),(53,⟨_,_, .eq (fM (((v1*v2).toInt).tdiv v2.toInt))⟩)]))) λv4=>aP λa7=>gR [[f0 a7],[]])))
def Gb(N:Nat)(v4:Int64×Bool)(v2:Int64):asn bB->Nat->(asn bB)->asp (aH×Int)
 |[],_,v9=>
  some ((⟨v4.1,v9⟩:aH),(0:Int))
 |v7::v8,v5,v9=>
  (Dh N v7.dE v2).bind λv10=>
  bif v10.2 then
   bif (Nat.ble ((v9.length+1)*24) 140737488355328)then
   (λcD=>Gb N v4 v2 v8 (v5+1) cD) (v9++[(⟨v7.aC,v10.1⟩:bB)])
   else none
  else
   some (dq,(3:Int))
def ue(N:Nat)(v1:aH)(v2:Int64):asp (aH×Int):=
 (Cn N v1).bind λv3=>
 bif (v3 !=0)then
  some (dq,(1:Int))
 else
  bif (v2.toInt==0)then
   some (dq,(0:Int))
  else
   (Dh N v1.xK v2).bind λv4=>
   bif v4.2 then
    Gb N v4 v2 v1.xL 0 []
   else
    some (dq,(3:Int))
theorem Pk{N v1 v2}:KO 214 [(bZ v1),(aW v2)] (λr=> .aX [(bZ r.1),(aw r.2)]) (ue N v1 v2):=
 fw Tryz.func214 (aq λv3 h1=>gA [[],[(4,cK Pt h1)]] (dM λ_=>aP λh3=>aq λv4 h4=>gA [[f0 h3],[(10,cK Xh h4)],[]] (eg λh5=>gA [[f0 (bV h5)],[],[]] (li (λ_=>(GF 2 1 79 2 [] (.inr (by kernel_rfl)) ·)) (gB mV 0 1 v1.xL λh7=>NH 1 [] [1,2,4,8,9] 4 [] [(1,1)] (λv5(v9:(asn bB))=>⟨66,[(1,(aW v2)),(2,(.ptr 0 0)),(4,(.ptr 1 0)),(8,(.ptr 2 0)),(9,(aw (v5:Int)))],[.cells (bZ v1).cells, .cells wx, .cells [(aW v4.1),(.own 3 (cz v9))], .front 79 2 v9.length]⟩) (λv5 v9 h8 f1=>gR [[(10,oL v1.xL dL)],[f0 (b5 h8)],[]]) (λv5 v7 v8 v9 h8 f1 aD=>aq λv10 h9=>gA [[(10,oL v1.xL dL)],[t0 (bU h8)],[(10,oE (ga (ba h8))),(22,cK Xh h9)],[]] (eg λaK=>cO λaL=>y8 aD (v9++[(⟨v7.aC,v10.1⟩:bB)]) [[f0 (bV aK)],[(16,oE (ga (ba h8))),(34,oA mV v9 ([(⟨v7.aC,v10.1⟩:bB)]) aL)],[(5,oq (ca h8 rfl h7))]] h8)))))))
def nc(N:Nat)(v1:an):asp Bool:=
 Option.bind (bif (v1.ar==1)then some (v1.ay.aO==3)else some false) λv2=>
 some v2
theorem BZ{N v1}:KO 216 [(aA v1)] az (nc N v1):=
 fw Tryz.func216 (gA [[]] (gG (λv2=>[(2,(az v2))]) (λ_=>[.cells (aA v1).cells]) (au (λh1=>gE [(3,bT h1)] []) λh1=>gE [(3,bF h1)] []) λv2=>gR []))
def sT(N:Nat)(v1:an):asp (aH×Bool):=
 (nc N v1).bind λv2=>
 bif v2 then
  some ((⟨v1.bD.xN,[]⟩:aH),true)
 else
  some (v1.aM,(v1.ar==2))
theorem Nj{N v1}:KO 215 [(aA v1)] (λr=> .aX [(bZ r.1),(az r.2)]) (sT N v1):=
 fw Tryz.func215 (aq λv2 h1=>gA [[],[(4,cK BZ h1)]] (aP λh2=>gA [[f0 h2]] (li (λ_=>(np 2 cn [(3,(az (v1.ar==2)))] [.cells (aA v1).cells, .cells (bZ v1.aM).cells] ⟨[],by kernel_rfl⟩ ·)) (gR []))))
def GY(N:Nat)(v1:Int64)(v2:Int64):asp (Int64×Bool):=
 Option.bind (bif (decide (v2.toInt>0))then(bif (decide (v1.toInt>((9223372036854775807:Int64)-v2).toInt))then some true else(bif (decide (v2.toInt<0))then some (decide (v1.toInt<((-9223372036854775808:Int64)-v2).toInt))else some false))else(bif (decide (v2.toInt<0))then some (decide (v1.toInt<((-9223372036854775808:Int64)-v2).toInt))else some false)) λv3=>
 bif v3 then
  some ((0:Int64),false)
 else
  some ((v1+v2),true)
theorem acx{N v1 v2}:KO 275 [(aW v1),(aW v2)] (λr=> .aX [(aW r.1),(az r.2)]) (GY N v1 v2):=
 fw Tryz.func275 (gA [[]] (gG (λv3=>[(23,(az v3))]) (λ_=>[]) (au (λh1=>aY (2,bT h1) (bz (17,⟨_,_, .eq (jX (9223372036854775807:Int64) v2)⟩) (au (λh2=>gE [(8,bT h2),(11,uN)] []) λh2=>aY (8,bF h2) (au (λh3=>gE [(11,bT h3)] [(44,⟨_,_, .eq (jX (-9223372036854775808:Int64) v2)⟩),(49,bT h3)]) λh3=>gE [(11,bF h3)] [(49,bF h3)])))) λh1=>aY (2,bF h1) (aY (8,bF rfl) (au (λh4=>gE [(11,bT h4)] [(44,⟨_,_, .eq (jX (-9223372036854775808:Int64) v2)⟩),(49,bT h4)]) λh4=>gE [(11,bF h4)] [(49,bF h4)]))) λv3=>aP λh6=>gR [[f0 h6],[(8,⟨_,_, .eq (mY v1 v2)⟩)]]))
def yk(N:Nat)(v3:asn aso)(v1:Nat)(v2:aso):Nat->Int->asp Bool
 |0,_=>none
 |v4+1,v5=>
  bif (Nat.beq v3.length v1)then
  bif (decide (v5<(v1:Int)))then
   bif (decide ((0:Int)<=v5))then
   Option.bind (v3[(v5).toNat]?) λv6=>
   bif (bL v6==bL v2)then
    some true
   else
    (λcD=>yk N v3 v1 v2 v4 cD) (aI (v5+(1:Int)))
   else none
  else
   some false
  else none
def Ik(N:Nat)(v1:Nat)(v2:aso)(v3:asn aso):asp Bool:=
 yk N v3 v1 v2 N (0:Int)
def tI(v3:asn aso)(l:asn ao):asn ao:= .vec 9 1 (bn (v3.map dp))::l
theorem aj7{N v1 v2 v3 r}(J:Ik N v1 v2 v3=some r):KH 50 [(.vec 0 0 v1 v1 1),(bq v2)] ([.vec 9 1 (bn (v3.map dp))]) (az r) ([.vec 9 1 (bn (v3.map dp))]):=by
 rw[Ik]at J;refine Ao 1 Tryz.func50 rfl (by kernel_rfl) (arG rfl) ?_;refine zx (s':=⟨18,[(0,(.vec 0 0 v1 v1 1)),(1,(bq v2))],(tI v3 [])⟩) (by kernel_rfl) ?_;refine bk ?_;refine rg [] [] (tI v3 []) (by kernel_rfl) ?_;refine bk ?_;refine bk ?_;refine rg [] [(5,(aw (0:Int)))] (tI v3 []) (by kernel_rfl) ?_;refine gP ?_;refine wE [0,1,5] 1 [] [] (λ((v4,v5):Nat×Int)=>⟨18,[(0,(.vec 0 0 v1 v1 1)),(1,(bq v2)),(5,(aw v5))],(tI v3 [])⟩) (λ((v4,v5):Nat×Int)=>yk N v3 v1 v2 v4 v5=some r) (λ((v4,v5):Nat×Int)=>v4) (N,(0:Int)) (arG rfl) ⟨(jh (xs:=(v3.map dp)) gJ),by kernel_rfl⟩ J ?_;rintro⟨v4,v5⟩ J
 try dsimp only at J
 cases v4 with
 |zero=>
  rw[yk]at J;cases J
 |succ v4=>
  rw[yk]at J;refine bk ?_;refine bk ?_;have h1:=jl J;replace J:=(eR h1).symm.trans J;refine rg [(7,⟨_,_, .pr .no (iL (f:=dp) (arM h1))⟩)] [(9,(az (decide (v5<(v1:Int)))))] (tI v3 []) (by kernel_rfl) ?_;rcases lL (decide (v5<(v1:Int)))with h2|h2
  ·replace J:=(eR h2).symm.trans J;refine jJ (t:=(decide (v5<(v1:Int)))) (by kernel_rfl) h2 ?_;refine fU ?_;refine cy ?_;refine bk ?_;refine gP ?_;refine bk ?_;have h3:=jl J;replace J:=(eR h3).symm.trans J;obtain⟨v6,h4,J⟩:=dC J;refine rg [(7,⟨_,_, .pr (.ix ((v5).toNat)) (mj (iL (f:=dp) (arM h1)) (of_decide_eq_true h3) (of_decide_eq_true h2) rfl)⟩),(10,⟨_,_, .pr (.el ((dp v6).map AV.d)) (zq (f:=dp) (arM h1) h4)⟩)] [(17,(az (bL v6==bL v2)))] (tI v3 []) (by kernel_rfl) ?_;rcases lL (bL v6==bL v2)with h5|h5
   ·replace J:=(eR h5).symm.trans J;refine jJ (t:=(bL v6==bL v2)) (by kernel_rfl) h5 ?_;refine bk ?_;refine rg [] [(4,(az true))] (tI v3 []) (by kernel_rfl) ?_;refine eG (gW (fV (fV (gW (fV ?_)))));have hr:=arR J;subst hr;exact qx (jh (xs:=(v3.map dp)) gJ) (by kernel_rfl)
   replace J:=(lU h5).symm.trans J;refine jx (t:=(bL v6==bL v2)) (by kernel_rfl) h5 ?_;refine fU ?_;refine lC ?_;refine cy ?_;refine re [] [(5,(aw (aI (v5+(1:Int))))),(11,(aw (aI (v5+(1:Int))))),(10,(aw v5))] (tI v3 []) (by kernel_rfl) ?_;refine cy ?_;exact⟨(v4,(aI (v5+(1:Int)))),⟨(jh (xs:=(v3.map dp)) gJ),by kernel_rfl⟩,J,asl _⟩
  replace J:=(lU h2).symm.trans J;refine jx (t:=(decide (v5<(v1:Int)))) (by kernel_rfl) h2 ?_;refine n4 (jB (jB (pR rfl ?_)));refine cy ?_;refine bk ?_;refine rg [] [(4,(az false))] (tI v3 []) (by kernel_rfl) ?_;refine eG ?_;have hr:=arR J;subst hr;exact qx (jh (xs:=(v3.map dp)) gJ) (by kernel_rfl)
def vK(N:Nat)(v1:Nat):Nat->Int->(asn aso)->asp (Nat×(asn aso))
 |0,_,_=>none
 |v5+1,v6,v7=>
  Option.bind (bif (decide (v6>0))then bif (Nat.beq v7.length (v1+1))then
  bif (decide ((0:Int)<=(aI (v6-(1:Int)))))then
  bif (decide ((aI (v6-(1:Int)))<((v1+1):Int)))then
  Option.bind (v7[((aI (v6-(1:Int)))).toNat]?) λv8=>
  bif (decide ((0:Int)<=v6))then
  bif (decide (v6<((v1+1):Int)))then
  Option.bind (v7[(v6).toNat]?) λv9=>
  some (!((Op.bytesLess (bL v8) (bL v9))||(bL v8==bL v9)))
  else none
  else none
  else none
  else none
  else none else some false) λv10=>
  bif v10 then
   bif (Nat.beq v7.length (v1+1))then
   bif (decide ((0:Int)<=v6))then
   bif (decide (v6<((v1+1):Int)))then
   Option.bind (v7[(v6).toNat]?) λv11=>
   bif (decide ((0:Int)<=(aI (v6-(1:Int)))))then
   bif (decide ((aI (v6-(1:Int)))<((v1+1):Int)))then
   Option.bind (v7[((aI (v6-(1:Int)))).toNat]?) λv12=>
   bif (Nat.beq (v7.set ((v6).toNat) v12).length (v1+1))then
   Option.bind ((v7.set ((v6).toNat) v12)[((aI (v6-(1:Int)))).toNat]?) λaF=>
   (λcD gy=>vK N v1 v5 cD gy) (aI (v6-(1:Int))) ((v7.set ((v6).toNat) v12).set (((aI (v6-(1:Int)))).toNat) v11)
   else none
   else none
   else none
   else none
   else none
   else none
  else
   some ((v1+1),v7)
def DC(N:Nat)(v1:Nat)(v2:aso)(v3:asn aso):asp (Nat×(asn aso)):=
 (Ik N v1 v2 v3).bind λv4=>
 bif v4 then
  some (v1,v3)
 else
  bif (Nat.beq v3.length v1)then
  bif (Nat.ble ((v1+1)*16) 140737488355328)then
  bif (Nat.beq (v3++[v2]).length (v1+1))then
  vK N v1 N (aI (((v1+1):Int)-(1:Int))) (v3++[v2])
  else none
  else none
  else none
def qD(v3:asn aso)(l:asn ao):asn ao:= .vec 9 1 (bn (v3.map dp))::l
theorem akO{N v1 v2 v3 r}(J:DC N v1 v2 v3=some r):KH 307 [(.vec 0 0 v1 v1 1),(bq v2)] ([.vec 9 1 (bn (v3.map dp))]) (.vec 0 0 r.1 r.1 1) ([.vec 9 1 (bn (r.2.map dp))]):=by
 rw[DC]at J;refine Ao 1 Tryz.func307 rfl (by kernel_rfl) (arG rfl) ?_;refine zx (s':=⟨52,[(0,(.vec 0 0 v1 v1 1)),(1,(bq v2))],(qD v3 [])⟩) (by kernel_rfl) ?_;refine bk ?_;refine rg [] [] (qD v3 []) (by kernel_rfl) ?_;refine bk ?_;refine bk ?_;obtain⟨v4,h1,J⟩:=dC J;refine rg [(7,oX (ua (xs:=(v3.map dp)) og) (ua (xs:=(v3.map dp)) og) [(.vec 0 0 v1 v1 1),(bq v2)] (qD v3 []) [0] (aj7 h1))] [(9,(az v4))] (qD v3 []) (by kernel_rfl) ?_;rcases lL v4 with h2|h2
 ·replace J:=(eR h2).symm.trans J;refine jJ (t:=v4) (by kernel_rfl) h2 ?_;refine bk ?_;refine rg [] [(4,(.vec 0 0 v1 v1 1))] (qD v3 []) (by kernel_rfl) ?_;refine eG (fV ?_);have hr:=arR J;subst hr;exact qx (jh (xs:=(v3.map dp)) gJ) (by kernel_rfl)
 replace J:=(lU h2).symm.trans J;refine jx (t:=v4) (by kernel_rfl) h2 ?_;refine fU ?_;refine cy ?_;refine bk ?_;have h3:=jl J;replace J:=(eR h3).symm.trans J;have h4:=jl J;replace J:=(eR h4).symm.trans J;refine rg [(10,⟨_,_, .pr (.ap (bn ((v3++[v2]).map dp)) (bn (([v2]).map dp)) (v1+1) (v1+1)) (Wy (f:=dp) (h:=(qD v3 [])) (y:=(.full (cb [v2]))) (k:=1) (arM h3) rfl (λc hc=>CA c (by rw[oU];exact hc)) rfl rfl (nv h4 (by decide)).1 (nv h4 (by decide)).2)⟩)] [(0,(.vec 0 0 (v1+1) (v1+1) 1))] [.vec 9 1 (bn ((v3++[v2]).map dp))] (by kernel_rfl) ?_;refine bk ?_;refine bk ?_;have h5:=jl J;replace J:=(eR h5).symm.trans J;refine rg [(4,⟨_,_, .pr .no (iL (f:=dp) (arM h5))⟩)] [(5,(aw (aI (((v1+1):Int)-(1:Int)))))] [.vec 9 1 (bn ((v3++[v2]).map dp))] (by kernel_rfl) ?_;refine gP ?_;refine wE [0,5] 1 [] [] (λ((v5,v6,v7):Nat×Int×(asn aso))=>⟨52,[(0,(.vec 0 0 (v1+1) (v1+1) 1)),(5,(aw v6))],(qD v7 [])⟩) (λ((v5,v6,v7):Nat×Int×(asn aso))=>vK N v1 v5 v6 v7=some r) (λ((v5,v6,v7):Nat×Int×(asn aso))=>v5) (N,(aI (((v1+1):Int)-(1:Int))),(v3++[v2])) (arG rfl) ⟨(jh (xs:=((v3++[v2]).map dp)) gJ),by kernel_rfl⟩ J ?_
 rintro⟨v5,v6,v7⟩ J
 try dsimp only at J
 cases v5 with
 |zero=>
  rw[vK]at J;cases J
 |succ v5=>
  rw[vK]at J;refine bk ?_;refine bk ?_;obtain⟨v10,bf,J⟩:=dC J;refine rdE cn (by kernel_rfl) [(31,(az v10))] (qD v7 []) ?_ ?_
  ·rcases lL (decide (v6>0))with h6|h6
   ·replace bf:=(eR h6).symm.trans bf;have h7:=jl bf;replace bf:=(eR h7).symm.trans bf;have h8:=jl bf;replace bf:=(eR h8).symm.trans bf;have h9:=jl bf;replace bf:=(eR h9).symm.trans bf;obtain⟨v8,aK,bf⟩:=dC bf;have aL:=jl bf;replace bf:=(eR aL).symm.trans bf;have aT:=jl bf;replace bf:=(eR aT).symm.trans bf;obtain⟨v9,bu,bf⟩:=dC bf;have he:=arR bf;subst he;exact⟨[(9,bT h6),(12,bT h6),(15,bT h6),(18,bT h6),(19,⟨_,_, .pr (.ix (((aI (v6-(1:Int)))).toNat)) (mj (iL (f:=dp) (arM h7)) (of_decide_eq_true h8) (of_decide_eq_true h9) rfl)⟩),(21,bT h6),(22,⟨_,_, .pr (.el ((dp v8).map AV.d)) (zq (f:=dp) (arM h7) aK)⟩),(24,bT h6),(27,bT h6),(30,bT h6),(31,⟨_,_, .pr (.ix ((v6).toNat)) (mj (iL (f:=dp) (arM h7)) (of_decide_eq_true aL) (of_decide_eq_true aT) rfl)⟩),(33,bT h6),(34,⟨_,_, .pr (.el ((dp v9).map AV.d)) (zq (f:=dp) (arM h7) bu)⟩),(36,bT h6),(40,bT h6)],by kernel_rfl⟩
   replace bf:=(lU h6).symm.trans bf;have he:=arR bf;subst he;exact⟨[(9,bF h6),(12,bF h6),(15,bF h6),(18,bF h6),(21,bF h6),(24,bF h6),(27,bF h6),(30,bF h6),(33,bF h6),(36,bF h6),(40,bF h6)],by kernel_rfl⟩
  rcases lL v10 with a7|a7
  ·replace J:=(eR a7).symm.trans J;refine jJ (t:=v10) (by kernel_rfl) a7 ?_;refine fU ?_;refine cy ?_;refine bk ?_;refine gP ?_;refine bk ?_;have bm:=jl J;replace J:=(eR bm).symm.trans J;have bQ:=jl J;replace J:=(eR bQ).symm.trans J;have cA:=jl J;replace J:=(eR cA).symm.trans J;obtain⟨v11,cv,J⟩:=dC J;refine rg [(7,⟨_,_, .pr (.ix ((v6).toNat)) (mj (iL (f:=dp) (arM bm)) (of_decide_eq_true bQ) (of_decide_eq_true cA) rfl)⟩),(10,⟨_,_, .pr (.el ((dp v11).map AV.d)) (zq (f:=dp) (arM bm) cv)⟩)] [(6,(bq v11))] (qD v7 []) (by kernel_rfl) ?_;refine bk ?_;have b8:=jl J;replace J:=(eR b8).symm.trans J;have cJ:=jl J;replace J:=(eR cJ).symm.trans J;obtain⟨v12,cS,J⟩:=dC J;refine rg [(16,⟨_,_, .pr (.ix (((aI (v6-(1:Int)))).toNat)) (mj (iL (f:=dp) (arM bm)) (of_decide_eq_true b8) (of_decide_eq_true cJ) rfl)⟩),(19,⟨_,_, .pr (.el ((dp v12).map AV.d)) (zq (f:=dp) (arM bm) cS)⟩),(22,⟨_,_, .pr (.ix ((v6).toNat)) (mj (iL (f:=dp) (arM bm)) (of_decide_eq_true bQ) (of_decide_eq_true cA) rfl)⟩),(25,⟨_,_, .pr (.st ((dp v11).map AV.d) (bn ((v7.set ((v6).toNat) v12).map dp))) (wO (f:=dp) (j:=0) (y:=v12) (zs:=[(bq v12)]) (arM bm) cv rfl)⟩)] [] [.vec 9 1 (bn ((v7.set ((v6).toNat) v12).map dp))] (by kernel_rfl) ?_
   have dw:=jl J;replace J:=(eR dw).symm.trans J;obtain⟨aF,eC,J⟩:=dC J;refine re [(13,⟨_,_, .pr (.ix (((aI (v6-(1:Int)))).toNat)) (mj (iL (f:=dp) (arM dw)) (of_decide_eq_true b8) (of_decide_eq_true cJ) rfl)⟩),(16,⟨_,_, .pr (.st ((dp aF).map AV.d) (bn (((v7.set ((v6).toNat) v12).set (((aI (v6-(1:Int)))).toNat) v11).map dp))) (wO (f:=dp) (j:=0) (y:=v11) (zs:=[(bq v11)]) (arM dw) eC rfl)⟩)] [(50,(.dx 0 (((aI (v6-(1:Int)))).toNat) 0 (v1+1) 1)),(49,(bq v11)),(48,(aw (aI (v6-(1:Int))))),(47,(aw v6)),(46,(.vec 0 0 (v1+1) (v1+1) 1))] [.vec 9 1 (bn (((v7.set ((v6).toNat) v12).set (((aI (v6-(1:Int)))).toNat) v11).map dp))] (by kernel_rfl) ?_;refine lC ?_;refine cy ?_;refine re [] [(5,(aw (aI (v6-(1:Int))))),(33,(aw (aI (v6-(1:Int))))),(32,(aw v6))] [.vec 9 1 (bn (((v7.set ((v6).toNat) v12).set (((aI (v6-(1:Int)))).toNat) v11).map dp))] (by kernel_rfl) ?_;refine cy ?_;exact⟨(v5,(aI (v6-(1:Int))),((v7.set ((v6).toNat) v12).set (((aI (v6-(1:Int)))).toNat) v11)),⟨(jh (xs:=(((v7.set ((v6).toNat) v12).set (((aI (v6-(1:Int)))).toNat) v11).map dp)) gJ),by kernel_rfl⟩,J,asl _⟩
  replace J:=(lU a7).symm.trans J;refine jx (t:=v10) (by kernel_rfl) a7 ?_;refine n4 (jB (jB (pR rfl ?_)));refine cy ?_;refine bk ?_;refine rg [] [(4,(.vec 0 0 (v1+1) (v1+1) 1))] (qD v7 []) (by kernel_rfl) ?_;refine eG ?_;have hr:=arR J;subst hr;exact qx (jh (xs:=(v7.map dp)) gJ) (by kernel_rfl)
def ym(N:Nat)(pg:Nat->(asn aso)->asp ((asn aso))):asn bB->Nat->Nat->(asn aso)->asp ((asn aso))
 |[],_,v12,aF=>
  pg v12 aF
 |v10::v11,v8,v12,aF=>
  (DC N v12 v10.aC aF).bind λaV=>
  (λiP TT=>ym N pg v11 (v8+1) iP TT) aV.1 aV.2
def rp(N:Nat):asn aH->Nat->Nat->(asn aso)->asp ((asn aso))
 |[],_,v6,v7=>
  bif (Nat.beq v7.length v6)then
  some v7
  else none
 |v4::v5,v2,v6,v7=>
  ym N (λcD gy=>rp N v5 (v2+1) cD gy) v4.xL 0 v6 v7
def EM(N:Nat)(v1:asn aH):asp ((asn aso)):=
 rp N v1 0 0 []
def qw(v7:asn aso)(l:asn ao):asn ao:= .vec 9 1 (bn (v7.map dp))::l
theorem agZ{N v1 r}(J:EM N v1=some r):KF 276 [(.d (.sl (dk v1)))] (.d (.sl (cb r))):=by
 rw[EM]at J;refine xU Tryz.func276 rfl (by kernel_rfl) ?_;refine kj [0] 0 (arJ _) (s':=⟨34,[(0,(.d (.sl (dk v1))))],[]⟩) (by kernel_rfl) ?_;refine bk ?_;refine rg [] [] [] (by kernel_rfl) ?_;refine bk ?_;refine rg [] [(3,(.d (.v (.slice none 0 0))))] [] (by kernel_rfl) ?_;refine bk ?_;refine bk ?_;refine rg [] [(4,(aw (0:Int)))] [] (by kernel_rfl) ?_;refine gP ?_;refine L6 3 9 1 (by kernel_rfl) ?_;refine tS 0 (dk v1) (by kernel_rfl) λh1=> ?_;have h2:=sP dR h1;refine wE [0,3,4] 1 [] [] (λ((v2,v3,v6,v7):Nat×(asn aH)×Nat×(asn aso))=>⟨34,[(0,(.d (.sl (dk v1)))),(3,(.vec 0 0 v6 v6 1)),(4,(aw (v2:Int)))],(qw v7 [])⟩) (λ((v2,v3,v6,v7):Nat×(asn aH)×Nat×(asn aso))=>v1.drop v2=v3/\rp N v3 v2 v6 v7=some r) (λ((v2,v3,v6,v7):Nat×(asn aH)×Nat×(asn aso))=>v3.length) (0,v1,0,[]) (arG rfl) ⟨(jh (xs:=(([]:asn aso).map dp)) gJ),by kernel_rfl⟩ ⟨rfl,J⟩ ?_;rintro⟨v2,v3,v6,v7⟩ ⟨h3,J⟩;cases v3 with
 |nil=>
  rw[rp]at J;refine bk ?_;refine bk ?_;refine rg [(7,oL v1 dR)] [(9,(az (decide ((v2:Int)<(v1.length:Int)))))] (qw v7 []) (by kernel_rfl) ?_;refine jx (t:=(decide ((v2:Int)<(v1.length:Int)))) (by kernel_rfl) (b5 h3) ?_;refine n4 (jB (jB (pR rfl ?_)));refine cy ?_;refine bk ?_;refine rg [] [(2,(.vec 0 0 v6 v6 1))] (qw v7 []) (by kernel_rfl) ?_;have h4:=jl J;replace J:=(eR h4).symm.trans J;refine agH [2] 0 (v7.map dp) (cb v7) (L:=v6) (qw v7 []) 1 rfl (vh (λ_=>rfl) _) (uY (arM h4)) (oU _) (by kernel_rfl) (.iX .nil) ?_;refine zx (s':=⟨34,[(2,(.d (.sl (cb v7))))],[.gone]⟩) (by kernel_rfl) ?_;refine eG ?_;have hr:=arR J;subst hr;exact ky (by kernel_rfl)
 |cons v4 v5=>
  rw[rp]at J;refine bk ?_;refine bk ?_;refine rg [(7,oL v1 dR)] [(9,(az (decide ((v2:Int)<(v1.length:Int)))))] (qw v7 []) (by kernel_rfl) ?_;refine jJ (t:=(decide ((v2:Int)<(v1.length:Int)))) (by kernel_rfl) (bU h3) ?_;refine fU ?_;refine cy ?_;refine bk ?_;refine gP ?_;refine bk ?_;refine rg [] [(5,(aw (0:Int)))] (qw v7 []) (by kernel_rfl) ?_;refine gP ?_;refine tS 0 (dk v1) (by kernel_rfl) λh5=> ?_;have h6:v4.xL.length<=maxLen:=by rw[<-dL];exact Hq (Nd (j:=1) (d:= .sl (cz v4.xL)) h5 (kT (ba h3)) rfl)
  refine wE [0,3,4,5] 1 [] [] (λ((v8,v9,v12,aF):Nat×(asn bB)×Nat×(asn aso))=>⟨34,[(0,(.d (.sl (dk v1)))),(3,(.vec 0 0 v12 v12 1)),(4,(aw (v2:Int))),(5,(aw (v8:Int)))],(qw aF [])⟩) (λ((v8,v9,v12,aF):Nat×(asn bB)×Nat×(asn aso))=>v4.xL.drop v8=v9/\ym N (λcD gy=>rp N v5 (v2+1) cD gy) v9 v8 v12 aF=some r) (λ((v8,v9,v12,aF):Nat×(asn bB)×Nat×(asn aso))=>v9.length) (0,v4.xL,v6,v7) (arG rfl) ⟨(jh (xs:=(v7.map dp)) gJ),by kernel_rfl⟩ ⟨rfl,J⟩ ?_;rintro⟨v8,v9,v12,aF⟩ ⟨h7,J⟩;cases v9 with
  |nil=>
   rw[ym]at J;refine bk ?_;refine bk ?_;refine rg [(10,oE (kT (ba h3))),(19,oL v4.xL dL)] [(19,(az (decide ((v8:Int)<(v4.xL.length:Int)))))] (qw aF []) (by kernel_rfl) ?_;refine jx (t:=(decide ((v8:Int)<(v4.xL.length:Int)))) (by kernel_rfl) (b5 h7) ?_;refine n4 (jB (jB (pR rfl ?_)));refine lC ?_;refine cy ?_;refine re [(5,oq (ca h3 rfl h2))] [(4,(aw ((v2+1:Nat):Int))),(11,(aw ((v2+1:Nat):Int))),(10,(aw (v2:Int)))] (qw aF []) (by kernel_rfl) ?_;refine cy ?_;exact⟨(v2+1,v5,v12,aF),⟨(jh (xs:=(aF.map dp)) gJ),by kernel_rfl⟩,⟨l6 h3,J⟩,asl _⟩
  |cons v10 v11=>
   rw[ym]at J;refine bk ?_;refine bk ?_;refine rg [(10,oE (kT (ba h3))),(19,oL v4.xL dL)] [(19,(az (decide ((v8:Int)<(v4.xL.length:Int)))))] (qw aF []) (by kernel_rfl) ?_;refine jJ (t:=(decide ((v8:Int)<(v4.xL.length:Int)))) (by kernel_rfl) (bU h7) ?_;refine fU ?_;refine cy ?_;refine bk ?_;refine gP ?_;obtain⟨aV,h8,J⟩:=dC J;refine re [(10,oE (kT (ba h3))),(22,oE (ga (ba h7))),(31,oX (ua (xs:=(aF.map dp)) og) (ua (xs:=(aV.2.map dp)) og) [(.vec 0 0 v12 v12 1),(bq v10.aC)] (qw aF []) [0] (akO h8))] [(3,(.vec 0 0 aV.1 aV.1 1)),(32,(.vec 0 0 aV.1 aV.1 1)),(31,(bq v10.aC)),(30,(.bP [zw v10] 0 0)),(29,(.bP [zw v10] 0 0)),(28,(aw (v8:Int))),(27,(.d (.sl (cz v4.xL)))),(26,(.bP [kQ v4] 0 1)),(25,(.bP [kQ v4] 0 0)),(24,(aw (v2:Int))),(23,(.d (.sl (dk v1)))),(22,(.vec 0 0 v12 v12 1))] [.vec 9 1 (bn (aV.2.map dp))] (by kernel_rfl) ?_;refine lC ?_;refine cy ?_;refine re [(5,oq (ca h7 rfl h6))] [(5,(aw ((v8+1:Nat):Int))),(21,(aw ((v8+1:Nat):Int))),(20,(aw (v8:Int)))] [.vec 9 1 (bn (aV.2.map dp))] (by kernel_rfl) ?_;refine cy ?_;exact⟨(v8+1,v11,aV.1,aV.2),⟨(jh (xs:=(aV.2.map dp)) gJ),by kernel_rfl⟩,⟨l6 h7,J⟩,asl _⟩
def IJ(N:Nat)(v2:aso):asn bB->Nat->asp Int64
 |[],_=>
  some (0:Int64)
 |v5::v6,v3=>
  bif (bL v5.aC==bL v2)then
   some v5.dE
  else
   (IJ N v2 v6 (v3+1))
def Ia(N:Nat)(v1:aH)(v2:aso):asp Int64:=
 IJ N v2 v1.xL 0
theorem aa1{N v1 v2}:KO 277 [(bZ v1),(bq v2)] aW (Ia N v1 v2):=
 fw Tryz.func277 (gA [[],[]] (gB mV 0 1 v1.xL λh2=>dO 1 [] [1,2,5] 1 (λv3=>⟨27,[(1,(bq v2)),(2,(.ptr 0 0)),(5,(aw (v3:Int)))],[.cells (bZ v1).cells]⟩) (λv3 h3 f1=>gR [[(10,oL v1.xL dL)],[f0 (b5 h3)],[]]) (λv3 v5 v6 h3 f1 aD=>gA [[(10,oL v1.xL dL)],[t0 (bU h3)],[(10,oE (ga (ba h3)))]] (au (λh4=>gR [[t0 h4],[(10,oE (ga (ba h3)))]]) λh4=>gb aD () [[f0 h4],[(5,oq (ca h3 rfl h2))]] h3))))
def Bb(N:Nat)(v6:Int64×Bool)(v1:aH)(v2:aH):asn aso->Nat->(asn bB)->asp (aH×Int)
 |[],_,v12=>
  some ((⟨v6.1,v12⟩:aH),(0:Int))
 |v10::v11,v8,v12=>
  (Ia N v1 v10).bind λaF=>
  (Ia N v2 v10).bind λaV=>
  (GY N aF aV).bind λbt=>
  bif bt.2 then
   bif (bt.1.toInt !=0)then
    bif (Nat.ble ((v12.length+1)*24) 140737488355328)then
    (λcD=>Bb N v6 v1 v2 v11 (v8+1) cD) (v12++[(⟨v10,bt.1⟩:bB)])
    else none
   else
    (λcD=>Bb N v6 v1 v2 v11 (v8+1) cD) v12
  else
   some (dq,(3:Int))
def wq(N:Nat)(v1:aH)(v2:aH):asp (aH×Int):=
 (Cn N v1).bind λv3=>
 Option.bind (bif (v3 !=0)then some true else (Cn N v2).bind λv4=>
 some (v4 !=0)) λv5=>
 bif v5 then
  some (dq,(1:Int))
 else
  (GY N v1.xK v2.xK).bind λv6=>
  bif v6.2 then
   Option.bind (EM N ([v1,v2])) λv7=>
   Bb N v6 v1 v2 v7 0 []
  else
   some (dq,(3:Int))
theorem aad{N v1 v2}:KO 217 [(bZ v1),(bZ v2)] (λr=> .aX [(bZ r.1),(aw r.2)]) (wq N v1 v2):=
 fw Tryz.func217 (gA [[]] (aq λv3 h1=>gG (λv5=>[(20,(az v5))]) (λ_=>[.cells (bZ v1).cells, .cells (bZ v2).cells, .cells wx]) (bz (4,cK Pt h1) (au (λh2=>gE [(3,bT h2)] []) λh2=>aq λv4 h3=>gE [(3,bF h2)] [(16,cK Pt h3)])) λv5=>aP λh5=>aq λv6 h6=>gA [[f0 h5],[(13,cK acx h6)],[]] (eg λh7=>aq λv7 h8=>gA [[f0 (bV h7)],[],[(10,cL (agZ h8))],[]] (li (λ_=>(GF 3 1 79 2 [] (.inr (by kernel_rfl)) ·)) (gT kM 9 v7 λaK=>NH 1 [] [2,3,4,8,9,10] 5 [] [(2,1)] (λv8(v12:(asn bB))=>⟨78,[(2,(.ptr 0 0)),(3,(.ptr 1 0)),(4,(.ptr 2 0)),(8,(.ptr 3 0)),(9,(.d (.sl (cb v7)))),(10,(aw (v8:Int)))],[.cells (bZ v1).cells, .cells (bZ v2).cells, .cells wx, .cells [(aW v6.1),(.own 4 (cz v12))], .front 79 2 v12.length]⟩) (λv8 v12 aL f1=>gR [[(7,oL v7 gC)],[f0 (b5 aL)],[]]) (λv8 v10 v11 v12 aL f1 aD=>aq λaF aT=>aq λaV bu=>aq λbt bf=>gA [[(7,oL v7 gC)],[t0 (bU aL)],[(10,oE (na (ba aL))),(16,cK aa1 aT),(28,oE (na (ba aL))),(34,cK aa1 bu),(37,cK acx bf)],[]] (eg λa7=>gA [[f0 (bV a7)],[]] (au (λbm=>cO λbQ=>y8 aD (v12++[(⟨v10,bt.1⟩:bB)]) [[t0 bm],[(13,oE (na (ba aL))),(28,oA mV v12 ([(⟨v10,bt.1⟩:bB)]) bQ)],[(5,oq (ca aL rfl aK))]] aL) λbm=>y8 aD v12 [[f0 bm],[(5,oq (ca aL rfl aK))]] aL))))))))
def yy(N:Nat)(v1:aH)(v2:aH):asp (aH×Bool):=
 Option.bind (ue N v2 (-1:Int64)) λv3=>
 bif (v3.2 !=0)then
  some (dq,false)
 else
  (wq N v1 v3.1).bind λv4=>
  some (v4.1,(v4.2==0))
theorem VU{N v1 v2}:KO 218 [(bZ v1),(bZ v2)] (λr=> .aX [(bZ r.1),(az r.2)]) (yy N v1 v2):=
 fw Tryz.func218 (aq λv3 h1=>gA [[],[(4,cK Pk h1)],[]] (aP λh2=>aq λv4 h3=>gR [[f0 h2],[(7,cK aad h3)],[]]))
def yP(N:Nat)(v21:an)(cM:Int64)(cF:asn bB):asp (an×Bool):=
 Option.bind (ue N (⟨cM,cF⟩:aH) v21.bD.xN) λv24=>
 some ((⟨(2:Int),(bs []),bW,cY,v24.1,[],[]⟩:an),(v24.2==0))
def Jp(N:Nat)(v1:an):asp (an×Bool):=
 bif (v1.ar==2)then
  Option.bind (rE N (⟨(3:Int),(0:Int),(0:Int),(0:Int),(0:Int)⟩:aE) (⟨v1.aM.xK,(1:Int64)⟩:aG)) λv2=>
  Option.bind (bif ((v1.aM.xL.length:Int)==0)then(bif (decide (v1.aM.xK.toInt<=2147483647))then some (decide (v1.aM.xK.toInt>=(-2147483647:Int)))else some false)else some false) λv3=>
  some (v2,v3)
 else
  bif (v1.ar==8)then
   Option.bind (v1.ax[0]?) λv4=>
   Option.bind (ue N v4.aM (-1:Int64)) λv5=>
   Option.bind (bif (v4.ar==2)then some (v5.2==0)else some false) λv6=>
   some ((⟨(2:Int),(bs []),bW,cY,v5.1,[],[]⟩:an),v6)
  else
   Option.bind (bif (v1.ar !=4)then(bif (v1.ar !=5)then some (v1.ar !=6)else some false)else some false) λv7=>
   bif v7 then
    some (v1,false)
   else
    Option.bind (v1.ax[0]?) λv8=>
    Option.bind (v1.ax[1]?) λv9=>
    (sT N v8).bind λv10=>
    (sT N v9).bind λv11=>
    Option.bind (bif v10.2 then(bif v11.2 then (nc N v8).bind λv12=>
    (bif v12 then (nc N v9).bind λaF=>
    some aF else some false)else some true)else some true) λaV=>
    bif aV then
     some (v1,false)
    else
     bif (v1.ar==4)then
      (wq N v10.1 v11.1).bind λbt=>
      some ((⟨(2:Int),(bs []),bW,cY,bt.1,[],[]⟩:an),(bt.2==0))
     else
      bif (v1.ar==5)then
       (yy N v10.1 v11.1).bind λbK=>
       some ((⟨(2:Int),(bs []),bW,cY,bK.1,[],[]⟩:an),bK.2)
      else
       (nc N v8).bind λbC=>
       Option.bind (bif bC then some false else (nc N v9).bind λaR=>
       some (!aR)) λbX=>
       bif bX then
        some (v1,false)
       else
        (nc N v8).bind λv20=>
        bif v20 then
         yP N v8 v11.1.xK v11.1.xL
        else
         yP N v9 v10.1.xK v10.1.xL
def aaa(v1:an)(l:asn ao):asn ao:= .cells (aA v1).cells:: .cells ft::l
def MR(v1:an)(v8:an)(v9:an)(l:asn ao):asn ao:=aaa v1 (.cells (aA v8).cells:: .cells (aA v9).cells::l)
theorem ajg{N v1}:KO 174 [(aA v1)] (λr=> .aX [(aA r.1),(az r.2)]) (Jp N v1):=
 fw Tryz.func174 (gA [[],[]] (au (λh1=>gA [[t0 h1]] (aq λv2 h2=>gU 2 (λv3=>[(3,(az v3))]) (λ_=>[.cells (aA v1).cells, .cells (aA v2).cells]) (bz (16,cK BS h2) (bz (28,oL v1.aM.xL dL) (au (λh3=>aY (11,bT h3) (au (λh4=>gE [(17,bT h4)] []) λh4=>gE [(17,bF h4)] [])) λh3=>gE [(11,bF h3),(17,bF rfl)] []))) λv3=>gR [])) λh1=>gA [[f0 h1],[]] (au (λh6=>aq λv4 h7=>aq λv5 h8=>gA [[t0 h6],[(7,oE (k:=0) (bx h7)),(16,cK Pk h8)]] (gG (λv6=>[(3,(az v6))]) (λ_=>[.cells (aA v1).cells, .cells [(aw (2:Int)),(bq (bs [])),(aW (0:Int64)),(aW (0:Int64)),(aw (0:Int)),(aw (0:Int)),(aw (0:Int)),(aw (0:Int)),(aw (0:Int)),(aW v5.1.xK),(.d (.sl (cz v5.1.xL))),(.d (.v (.slice none 0 0))),(.d (.v (.slice none 0 0)))], .cells (bZ v5.1).cells]) (bz (13,oE (k:=0) (bx h7)) (au (λh9=>gE [(8,bT h9)] []) λh9=>gE [(8,bF h9)] [])) λv6=>gR [])) λh6=>gA [[f0 h6]] (gG (λv7=>[(80,(az v7))]) (λ_=>(aaa v1 [])) (au (λaL=>aY (3,bT aL) (au (λaT=>gE [(8,bT aT)] []) λaT=>gE [(8,bF aT)] [])) λaL=>gE [(3,bF aL),(8,bF rfl)] []) λv7=>aP λbf=>gA [[f0 bf]] (aq λv8 a7=>aq λv9 bm=>li (λ_=>(np 20 cn [(6,(.ptr 2 0)),(7,(.ptr 3 0))] (MR v1 v8 v9 []) ⟨[(7,oE (k:=0) (bx a7)),(19,oE (k:=1) (bx bm))],by kernel_rfl⟩ ·)) (aq λv10 bQ=>aq λv11 cA=>gA [[(4,cK Nj bQ)],[(4,cK Nj cA)]] (gG (λaV=>[(113,(az aV))]) (λ_=>(MR v1 v8 v9 [.cells (bZ v10.1).cells, .cells (bZ v11.1).cells])) (au (λcv=>aY (2,bF (bV cv)) (au (λb8=>aq λv12 cJ=>aY (6,bF (bV b8)) (bz (25,cK BZ cJ) (au (λcS=>aq λaF dw=>gE [(9,bT cS)] [(34,cK BZ dw),(37,bT cS)]) λcS=>gE [(9,bF cS)] [(37,bF cS)]))) λb8=>gE [(6,bT (cx b8)),(9,uN)] [])) λcv=>gE [(2,bT (cx cv)),(6,bT rfl),(9,uN)] []) λaV=>dM λ_=>au (λim=>aq λbt fu=>gR [[t0 im],[(7,cK aad fu)],[]]) λim=>gA [[f0 im],[]] (au (λgw=>aq λbK mD=>gR [[t0 gw],[(7,cK VU mD)],[]]) λgw=>gA [[f0 gw]] (aq λbC vu=>gG (λbX=>[(147,(az bX))]) (λ_=>(MR v1 v8 v9 [.cells (bZ v10.1).cells, .cells (bZ v11.1).cells])) (bz (4,cK BZ vu) (au (λx8=>gE [(3,bF (bV x8))] []) λx8=>aq λaR Oo=>gE [(3,bT (cx x8))] [(16,cK BZ Oo)])) λbX=>aP λh34=>aq λv20 h35=>af5 1 [[f0 h34],[(4,cK BZ h35)]] [2,7,8] 6 [] [(1,10),(1,11),(1,12)] (λ(v21:an)(cM:Int64)(cF:(asn bB))=>⟨165,[(2,(.ptr 1 0)),(7,(.ptr 3 0)),(8,(.ptr 4 0))],(MR v1 v8 v21 [.cells [(aW cM),(.d (.sl (cz cF)))], .cells (bZ v11.1).cells])⟩) (yP N) (λf1 aD=>au (λSl=>nG aD (v8,v11.1.xK,v11.1.xL) [[t0 Sl],[],[]]) λSl=>nG aD (v9,v10.1.xK,v10.1.xL) [[f0 Sl]]) (λv21 cM cF=>aq λv24 h36=>gR [[(13,cK Pk h36)],[]]))))))))))
def EK(N:Nat)(v1:Int)(v2:Int):asp Bool:=
 Option.bind (bif (v1==15)then(bif (v2==0)then some true else(bif (v1==14)then(bif (decide (v2<=0))then some true else(bif (v1==13)then some (decide (v2<0))else some false))else(bif (v1==13)then some (decide (v2<0))else some false)))else(bif (v1==14)then(bif (decide (v2<=0))then some true else(bif (v1==13)then some (decide (v2<0))else some false))else(bif (v1==13)then some (decide (v2<0))else some false))) λv3=>
 some v3
theorem adW{N v1 v2}:KO 308 [(aw v1),(aw v2)] az (EK N v1 v2):=
 fw Tryz.func308 (gA [[]] (gG (λv3=>[(4,(az v3))]) (λ_=>[]) (au (λh1=>aY (2,bT h1) (au (λh2=>gE [(6,bT h2),(9,uN),(14,bT rfl),(17,uN)] []) λh2=>aY (6,bF h2) (au (λh3=>aY (9,bT h3) (bz (37,bT h3) (au (λh4=>gE [(14,bT h4),(17,uN)] []) λh4=>aY (14,bF h4) (au (λh5=>gE [(17,bT h5)] [(61,bT h5)]) λh5=>gE [(17,bF h5)] [(61,bF h5)])))) λh3=>aY (9,bF h3) (aY (14,bF rfl) (bz (37,bF h3) (au (λh6=>gE [(17,bT h6)] [(61,bT h6)]) λh6=>gE [(17,bF h6)] [(61,bF h6)])))))) λh1=>aY (2,bF h1) (aY (6,bF rfl) (au (λh7=>aY (9,bT h7) (bz (37,bT h7) (au (λh8=>gE [(14,bT h8),(17,uN)] []) λh8=>aY (14,bF h8) (au (λh9=>gE [(17,bT h9)] [(61,bT h9)]) λh9=>gE [(17,bF h9)] [(61,bF h9)])))) λh7=>aY (9,bF h7) (aY (14,bF rfl) (bz (37,bF h7) (au (λaK=>gE [(17,bT aK)] [(61,bT aK)]) λaK=>gE [(17,bF aK)] [(61,bF aK)])))))) λv3=>gR []))
def Hl(N:Nat)(v2:an)(v3:an)(v1:an):asp (Bool×Bool):=
 (lJ N v2 v3).bind λv10=>
 bif v10 then
  some ((v1.ar !=13),true)
 else
  some (false,false)
def EW(N:Nat)(v1:an)(aV:Int):asp (Bool×Bool):=
 (EK N v1.ar aV).bind λbt=>
 some (bt,true)
def IS(N:Nat)(v11:aH×Bool)(v1:an)(aF:Int):asp (Bool×Bool):=
 bif (decide (v11.1.xK.toInt>0))then
  EW N v1 (1:Int)
 else
  EW N v1 aF
def xM(N:Nat)(v1:an):asp (Bool×Bool):=
 Option.bind (v1.ax[0]?) λv2=>
 Option.bind (v1.ax[1]?) λv3=>
 Option.bind (bif (v2.ar==1)then(bif (v3.ar==1)then some ((v2.ay.aO==v3.ay.aO)&&((v2.ay.bo==v3.ay.bo)&&((v2.ay.bE==v3.ay.bE)&&((v2.ay.bN==v3.ay.bN)&&((v2.ay.bM==v3.ay.bM)&&true)))))else some false)else some false) λv4=>
 bif v4 then
  (C3 N v2.ay v2.bD v3.bD).bind λv5=>
  (EK N v1.ar v5).bind λv6=>
  some (v6,true)
 else
  (sT N v2).bind λv7=>
  (sT N v3).bind λv8=>
  (bif v7.2 then some v8.2 else some false).bind λv9=>
  bif v9 then
   (yy N v7.1 v8.1).bind λv11=>
   Option.bind (bif v11.2 then some ((v11.1.xL.length:Int)==0)else some false) λv12=>
   bif v12 then
    bif (decide (v11.1.xK.toInt<0))then
     IS N v11 v1 (-1:Int)
    else
     IS N v11 v1 (0:Int)
   else
    Hl N v2 v3 v1
  else
   Hl N v2 v3 v1
def GI(v1:an)(v2:an)(v3:an)(v7:aH×Bool)(v8:aH×Bool)(l:asn ao):asn ao:= .cells (aA v1).cells:: .cells (aA v2).cells:: .cells (aA v3).cells:: .cells (bZ v7.1).cells:: .cells (bZ v8.1).cells::l
theorem aoN{N v1}:KO 278 [(aA v1)] (λr=> .aX [(az r.1),(az r.2)]) (xM N v1):=
 fw Tryz.func278 (gA [[]] (aq λv2 h1=>aq λv3 h2=>li (λ_=>(np 20 cn [(4,(.ptr 1 0)),(5,(.ptr 2 0))] [.cells (aA v1).cells, .cells (aA v2).cells, .cells (aA v3).cells] ⟨[(7,oE (k:=0) (bx h1)),(19,oE (k:=1) (bx h2))],by kernel_rfl⟩ ·)) (gG (λv4=>[(35,(az v4))]) (λ_=>[.cells (aA v1).cells, .cells (aA v2).cells, .cells (aA v3).cells]) (au (λh3=>aY (3,bT h3) (au (λh4=>gE [(8,bT h4)] []) λh4=>gE [(8,bF h4)] [])) λh3=>gE [(3,bF h3),(8,bF rfl)] []) λv4=>au (λh6=>aq λv5 h7=>aq λv6 h8=>gR [[t0 h6],[(25,cK Xw h7),(28,cK adW h8)]]) λh6=>aq λv7 h9=>aq λv8 aK=>gA [[f0 h6],[(4,cK Nj h9)],[(4,cK Nj aK)]] (gG (λv9=>[(59,(az v9))]) (λ_=>(GI v1 v2 v3 v7 v8 [])) (au (λaL=>gE [(1,bT aL)] []) λaL=>gE [(1,bF aL)] []) λv9=>gj0 1 [] [1,4,5] 5 ⟨89,[(1,(.ptr 0 0)),(4,(.ptr 1 0)),(5,(.ptr 2 0))],(GI v1 v2 v3 v7 v8 [])⟩ (Hl N v2 v3 v1) (λf1 aD=>au (λa7=>aq λv11 bm=>gA [[t0 a7],[(7,cK VU bm)]] (gG (λv12=>[(72,(az v12))]) (λ_=>(GI v1 v2 v3 v7 v8 [.cells (bZ v11.1).cells])) (au (λbQ=>gE [(1,bT bQ)] [(13,oL v11.1.xL dL)]) λbQ=>gE [(1,bF bQ)] []) λv12=>au (λcv=>ir 2 [[t0 cv],[],[]] [1,10,12] 6 (λ(aF:Int)=>⟨89,[(1,(.ptr 0 0)),(10,(.ptr 5 0)),(12,(aw aF))],(GI v1 v2 v3 v7 v8 [.cells (bZ v11.1).cells])⟩) (IS N v11 v1) (λf2 dI=>au (λcS=>gm dI (-1:Int) [[t0 cS],[]]) λcS=>gm dI (0:Int) [[f0 cS]]) (λaF=>ir 3 [[]] [1,12] 6 (λ(aV:Int)=>⟨89,[(1,(.ptr 0 0)),(12,(aw aV))],(GI v1 v2 v3 v7 v8 [.cells (bZ v11.1).cells])⟩) (EW N v1) (λf3 iI=>au (λcJ=>gm iI (1:Int) [[t0 cJ],[]]) λcJ=>gm iI aF [[f0 cJ]]) (λaV=>aq λbt b8=>gR [[(10,cK adW b8)]]))) λcv=>gm aD () [[f0 cv]])) λa7=>gm aD () [[f0 a7]]) (aq λv10 bu=>gA [[(7,cK pZ bu)]] (aP λbf=>gR [[f0 bf],[]]))))))
def mL(N:Nat):Nat->an->asp (Bool×Bool)
 |0,_=>none
 |d+1,v1=>
  Option.bind (bif (decide (v1.ar>=13))then some (decide (v1.ar<=15))else some false) λv2=>
  bif v2 then
   (xM N v1).bind λv3=>
   some (v3.1,v3.2)
  else
   bif (v1.ar==18)then
    Option.bind (v1.ax[0]?) λv4=>
    Option.bind ((mL N d) v4) λv5=>
    Option.bind (bif v5.2 then some (!v5.1)else some false) λv6=>
    some (v6,v5.2)
   else
    Option.bind (v1.ax[0]?) λv7=>
    Option.bind ((mL N d) v7) λv8=>
    Option.bind (v1.ax[1]?) λv9=>
    Option.bind ((mL N d) v9) λv10=>
    Option.bind (bif v8.2 then(bif (v8.1==(v1.ar==17))then some true else(bif v10.2 then some (v10.1==(v1.ar==17))else some false))else(bif v10.2 then some (v10.1==(v1.ar==17))else some false)) λv11=>
    bif v11 then
     some ((v1.ar==17),true)
    else
     Option.bind (bif (v1.ar==17)then(bif v8.2 then some (false,v10.2)else some (false,false))else(bif v8.2 then some (v10.2,v10.2)else some (false,false))) λv12=>
     some (v12.1,v12.2)
def xO(N:Nat)(v1:an):asp (Bool×Bool):=mL N N v1
theorem ag2(N:Nat):∀d:Nat,(∀{v1:an},KO 219 [(aA v1)] (λr=> .aX [(az r.1),(az r.2)]) (mL N d v1)):=by
 intro d
 induction d with
 |zero=>intro v1 r J;rw[mL]at J;cases J
 |succ d ih=>
  have Pg:= @ih;intro v1;rw[mL];exact fw Tryz.func219 (gA [[]] (gG (λv2=>[(18,(az v2))]) (λ_=>[.cells (aA v1).cells]) (au (λh1=>gE [(3,bT h1)] []) λh1=>gE [(3,bF h1)] []) λv2=>au (λh3=>aq λv3 h4=>gR [[(0,bT h3)],[(4,cK aoN h4)]]) λh3=>gA [[(0,bF h3)],[]] (au (λh5=>aq λv4 h6=>aq λv5 h7=>gA [[(0,bT h5)],[(7,oE (k:=0) (bx h6)),(13,cK Pg h7)]] (gG (λv6=>[(2,(az v6)),(3,(az v5.2))]) (λ_=>[.cells (aA v1).cells]) (au (λh8=>gE [(1,bT h8)] []) λh8=>gE [(1,bF h8)] []) λv6=>gR [])) λh5=>aq λv7 aK=>aq λv8 aL=>aq λv9 aT=>aq λv10 bu=>gA [[(0,bF h5)],[(7,oE (k:=0) (bx aK)),(13,cK Pg aL)],[(7,oE (k:=1) (bx aT)),(13,cK Pg bu)],[]] (gG (λv11=>[(72,(az v11))]) (λ_=>[.cells (aA v1).cells]) (au (λbf=>aY (1,bT bf) (au (λa7=>gE [(6,bT a7),(8,uN)] []) λa7=>aY (6,bF a7) (au (λbm=>gE [(8,bT bm)] [(37,bT bm)]) λbm=>gE [(8,bF bm)] [(37,bF bm)]))) λbf=>aY (1,bF bf) (aY (6,bF rfl) (au (λbQ=>gE [(8,bT bQ)] [(37,bT bQ)]) λbQ=>gE [(8,bF bQ)] [(37,bF bQ)]))) λv11=>aP λcv=>gA [[(0,bF cv)]] (gG (λv12=>[(2,(az v12.1)),(3,(az v12.2))]) (λ_=>[.cells (aA v1).cells]) (au (λb8=>aY (2,bF (bV b8)) (aY (5,bF rfl) (au (λcJ=>gE [(9,bT cJ)] []) λcJ=>gE [(9,bF cJ)] []))) λb8=>aY (2,bT (cx b8)) (au (λcS=>gE [(5,bT cS),(9,bT cS)] []) λcS=>gE [(5,bF cS),(9,bF cS)] [])) λv12=>gR [])))))
theorem RT{N v1}:KO 219 [(aA v1)] (λr=> .aX [(az r.1),(az r.2)]) (xO N v1):=(ag2 N N)
def LC(N:Nat)(v1:an):asp (an×Bool):=
 bif (v1.ar !=11)then
  some (v1,false)
 else
  Option.bind (v1.ax[0]?) λv2=>
  (xO N v2).bind λv3=>
  bif v3.1 then
   Option.bind (v1.ax[1]?) λv4=>
   some (v4,v3.2)
  else
   Option.bind (v1.ax[2]?) λv5=>
   some (v5,v3.2)
theorem anx{N v1}:KO 175 [(aA v1)] (λr=> .aX [(aA r.1),(az r.2)]) (LC N v1):=
 fw Tryz.func175 (gA [[],[]] (aP λh1=>aq λv2 h2=>aq λv3 h3=>gA [[f0 h1],[(7,oE (k:=0) (bx h2)),(13,cK RT h3)],[]] (au (λh4=>aq λv4 h5=>gR [[t0 h4],[(7,oE (k:=1) (bx h5))]]) λh4=>aq λv5 h6=>gR [[f0 h4],[(7,oE (k:=2) (bx h6))]])))
def Kv(N:Nat)(v1:an):asp (an×Bool):=
 bif (v1.ar==11)then
  Option.bind (v1.ax[1]?) λv2=>
  Option.bind (v1.ax[2]?) λv3=>
  (lJ N v2 v3).bind λv4=>
  some (v2,v4)
 else
  Option.bind (bif (v1.ar==9)then some true else(bif (v1.ar==10)then some true else(bif (v1.ar==16)then some true else some (v1.ar==17)))) λv5=>
  bif v5 then
   Option.bind (v1.ax[0]?) λv6=>
   Option.bind (v1.ax[1]?) λv7=>
   (lJ N v6 v7).bind λv8=>
   some (v6,v8)
  else
   some (v1,false)
theorem ald{N v1}:KO 176 [(aA v1)] (λr=> .aX [(aA r.1),(az r.2)]) (Kv N v1):=
 fw Tryz.func176 (gA [[],[]] (au (λh1=>aq λv2 h2=>aq λv3 h3=>aq λv4 h4=>gR [[t0 h1],[(7,oE (k:=1) (bx h2)),(19,oE (k:=1) (bx h2)),(31,oE (k:=2) (bx h3)),(37,cK pZ h4)]]) λh1=>gA [[f0 h1]] (gG (λv5=>[(37,(az v5))]) (λ_=>[.cells (aA v1).cells, .cells ft]) (au (λh5=>gE [(3,bT h5),(8,bT rfl),(13,bT rfl)] []) λh5=>aY (3,bF h5) (au (λh6=>gE [(8,bT h6),(13,bT rfl)] []) λh6=>aY (8,bF h6) (au (λh7=>gE [(13,bT h7)] []) λh7=>gE [(13,bF h7)] []))) λv5=>fp λh9=>aq λv6 aK=>aq λv7 aL=>aq λv8 aT=>gR [[t0 h9],[(7,oE (k:=0) (bx aK)),(19,oE (k:=0) (bx aK)),(31,oE (k:=1) (bx aL)),(37,cK pZ aT)]])))
def Ag(N:Nat)(v1:aE):asp aG:=
 (mT N v1).bind λv2=>
 bif v2 then
  some (⟨(0:Int64),(1:Int64)⟩:aG)
 else
  some bW
theorem acs{N v1}:KO 222 [(bY v1)] a8 (Ag N v1):=
 fw Tryz.func222 (aq λv2 h1=>gA [[],[(4,cK pD h1)]] (m0 λh2=>gR [[t0 (cx h2)],[]]))
def qL(N:Nat)(v1:an):asp Bool:=
 Option.bind (bif (v1.ar==1)then (Ag N v1.ay).bind λv2=>
 some ((v1.bD.xN.toInt==v2.xN.toInt)&&((v1.bD.xD.toInt==v2.xD.toInt)&&true))else some false) λv3=>
 some v3
theorem ya{N v1}:KO 220 [(aA v1)] az (qL N v1):=
 fw Tryz.func220 (gA [[]] (gG (λv3=>[(2,(az v3))]) (λ_=>[.cells (aA v1).cells]) (au (λh1=>aq λv2 h2=>gE [(3,bT h1)] [(25,cK acs h2)]) λh1=>gE [(3,bF h1)] []) λv3=>gR []))
def BM(N:Nat)(v3:an)(v1:an)(v4:an)(v7:Bool):asp (an×Bool):=
 bif v7 then
  some (v3,true)
 else
  Option.bind (bif (v1.ar==4)then (qL N v3).bind λv8=>
  some v8 else some false) λv9=>
  bif v9 then
   some (v4,true)
  else
   Option.bind (bif (v1.ar==5)then (qL N v3).bind λv10=>
   some v10 else some false) λv11=>
   bif v11 then
    some ((⟨(8:Int),(bs []),bW,cY,dq,[],[v4]⟩:an),true)
   else
    Option.bind (bif (v1.ar==6)then (qL N v4).bind λv12=>
    some v12 else some false) λaF=>
    bif aF then
     some (v4,true)
    else
     Option.bind (bif (v1.ar==6)then (qL N v3).bind λaV=>
     some aV else(bif (v1.ar==7)then (qL N v3).bind λbt=>
     some bt else some false)) λbK=>
     some (v3,bK)
def Kx(N:Nat)(v1:an):asp (an×Bool):=
 Option.bind (bif (decide (v1.ar<4))then some true else some (decide (v1.ar>7))) λv2=>
 bif v2 then
  some (v1,false)
 else
  Option.bind (v1.ax[0]?) λv3=>
  Option.bind (v1.ax[1]?) λv4=>
  Option.bind (bif (v1.ar==4)then (qL N v4).bind λv5=>
  some v5 else some false) λv6=>
  bif v6 then
   BM N v3 v1 v4 v6
  else
   bif (v1.ar==5)then
    (qL N v4).bind λbC=>
    BM N v3 v1 v4 bC
   else
    BM N v3 v1 v4 false
def adF(v1:an)(l:asn ao):asn ao:= .cells (aA v1).cells:: .cells ft::l
def Cq(v1:an)(v3:an)(v4:an)(l:asn ao):asn ao:=adF v1 (.cells (aA v3).cells:: .cells (aA v4).cells::l)
theorem aiD{N v1}:KO 177 [(aA v1)] (λr=> .aX [(aA r.1),(az r.2)]) (Kx N v1):=
 fw Tryz.func177 (gA [[]] (gG (λv2=>[(13,(az v2))]) (λ_=>(adF v1 [])) (au (λh1=>gE [(3,bT h1)] []) λh1=>gE [(3,bF h1)] []) λv2=>aP λh3=>gA [[f0 h3]] (aq λv3 h4=>aq λv4 h5=>li (λ_=>(np 20 cn [(4,(.ptr 2 0)),(5,(.ptr 3 0))] (Cq v1 v3 v4 []) ⟨[(7,oE (k:=0) (bx h4)),(19,oE (k:=1) (bx h5))],by kernel_rfl⟩ ·)) (gG (λv6=>[(23,(az v6))]) (λ_=>(Cq v1 v3 v4 [])) (au (λh6=>aq λv5 h7=>gE [(3,bT h6)] [(16,cK ya h7)]) λh6=>gE [(3,bF h6)] []) λv6=>OB 1 [] [1,2,4,5,23] 4 [] [(1,10),(1,11),(1,12)] (λ(v7:Bool)=>⟨81,[(1,(.ptr 0 0)),(2,(.ptr 1 0)),(4,(.ptr 2 0)),(5,(.ptr 3 0)),(23,(az v7))],(Cq v1 v3 v4 [])⟩) (BM N v3 v1 v4) (λf1 aD=>au (λfu=>nG aD v6 [[t0 fu]]) λfu=>au (λgw=>aq λbC mD=>nG aD bC [[f0 fu],[(12,bT gw),(15,bT gw),(16,cK ya mD),(19,bT gw)]]) λgw=>nG aD false [[f0 fu],[(12,bF gw),(15,bF gw),(19,bF gw)]]) (λv7=>aP λh9=>gA [[f0 h9]] (gG (λv9=>[(39,(az v9))]) (λ_=>(Cq v1 v3 v4 [])) (au (λaK=>aq λv8 aL=>gE [(3,bT aK)] [(16,cK ya aL)]) λaK=>gE [(3,bF aK)] []) λv9=>aP λbu=>gA [[f0 bu]] (gG (λv11=>[(48,(az v11))]) (λ_=>(Cq v1 v3 v4 [])) (au (λbf=>aq λv10 a7=>gE [(3,bT bf)] [(16,cK ya a7)]) λbf=>gE [(3,bF bf)] []) λv11=>au (λbQ=>gR [[t0 bQ],[(5,⟨_,_, .eq (congrArg AV.full (gh [v4]).symm)⟩)]]) λbQ=>gA [[f0 bQ]] (gG (λaF=>[(59,(az aF))]) (λ_=>(Cq v1 v3 v4 [])) (au (λcA=>aq λv12 cv=>gE [(3,bT cA)] [(16,cK ya cv)]) λcA=>gE [(3,bF cA)] []) λaF=>aP λcJ=>gA [[f0 cJ]] (gG (λbK=>[(3,(az bK))]) (λ_=>[.cells (aA v1).cells, .cells (aA v3).cells, .cells (aA v3).cells, .cells (aA v4).cells]) (au (λcS=>aq λaV dw=>gE [(4,bT cS),(9,bT rfl)] [(34,cK ya dw)]) λcS=>aY (4,bF cS) (au (λeC=>aq λbt fF=>gE [(9,bT eC)] [(34,cK ya fF)]) λeC=>gE [(9,bF eC)] [])) λbK=>gR [])))))))))
def IM(N:Nat)(v1:aE)(v3:Int64):asp (aG×Int):=
 Option.bind (pn N v1 (⟨v3,(1:Int64)⟩:aG)) λv4=>
 bif v4 then
  some ((⟨v3,(1:Int64)⟩:aG),(0:Int))
 else
  some (bW,(3:Int))
def BW(N:Nat)(v1:aE):asp (aG×Int):=
 (mT N v1).bind λv2=>
 bif v2 then
  bif (v1.aO==2)then
   (vO N v1).bind λv5=>
   IM N v1 v5
  else
   IM N v1 (1:Int64)
 else
  some (bW,(10:Int))
theorem Z1{N v1}:KO 223 [(bY v1)] (λr=> .aX [(a8 r.1),(aw r.2)]) (BW N v1):=
 fw Tryz.func223 (aq λv2 h1=>gA [[],[(4,cK pD h1)]] (eg λh2=>ir 1 [[f0 (bV h2)],[],[]] [1,2,4] 3 (λ(v3:Int64)=>⟨22,[(1,(.ptr 0 0)),(2,(.ptr 1 0)),(4,(.ptr 2 0))],[.cells (bY v1).cells, .cells gZ, .cells [(aW v3),(aW (1:Int64))]]⟩) (IM N v1) (λf1 aD=>au (λh5=>aq λv5 h6=>gm aD v5 [[t0 h5],[(4,cK C2 h6)]]) λh5=>gm aD (1:Int64) [[f0 h5]]) (λv3=>aq λv4 h3=>gA [[(7,cK xt h3)]] (m0 λh4=>gR [[t0 (cx h4)],[]]))))
def uP(N:Nat)(v1:an):asp Bool:=
 bif (v1.ar !=1)then
  some false
 else
  (BW N v1.ay).bind λv2=>
  Option.bind (bif (v2.2==0)then some ((v1.bD.xN.toInt==v2.1.xN.toInt)&&((v1.bD.xD.toInt==v2.1.xD.toInt)&&true))else some false) λv3=>
  some v3
theorem abv{N v1}:KO 221 [(aA v1)] az (uP N v1):=
 fw Tryz.func221 (gA [[],[]] (aP λh1=>aq λv2 h2=>gA [[f0 h1],[(7,cK Z1 h2)]] (gG (λv3=>[(2,(az v3))]) (λ_=>[.cells (aA v1).cells, .cells (a8 v2.1).cells]) (au (λh3=>gE [(2,bT h3)] []) λh3=>gE [(2,bF h3)] []) λv3=>gR [])))
def Km(N:Nat)(v1:an):asp (an×Bool):=
 Option.bind (bif (v1.ar !=6)then some (v1.ar !=7)else some false) λv2=>
 bif v2 then
  some (v1,false)
 else
  Option.bind (v1.ax[1]?) λv3=>
  (uP N v3).bind λv4=>
  bif v4 then
   Option.bind (v1.ax[0]?) λv5=>
   some (v5,true)
  else
   Option.bind (bif (v1.ar==6)then Option.bind (v1.ax[0]?) λv6=>
   (uP N v6).bind λv7=>
   some v7 else some false) λv8=>
   some (v3,v8)
theorem alD{N v1}:KO 178 [(aA v1)] (λr=> .aX [(aA r.1),(az r.2)]) (Km N v1):=
 fw Tryz.func178 (gA [[]] (gG (λv2=>[(11,(az v2))]) (λ_=>[.cells (aA v1).cells, .cells ft]) (au (λh1=>gE [(3,bT h1)] []) λh1=>gE [(3,bF h1)] []) λv2=>aP λh3=>aq λv3 h4=>aq λv4 h5=>gA [[f0 h3],[(7,oE (k:=1) (bx h4)),(13,cK abv h5)]] (au (λh6=>aq λv5 h7=>gR [[t0 h6],[(7,oE (k:=0) (bx h7))]]) λh6=>gA [[f0 h6]] (gG (λv8=>[(3,(az v8))]) (λ_=>[.cells (aA v1).cells, .cells (aA v3).cells]) (bz (7,oE (k:=1) (bx h4)) (au (λh8=>aq λv6 h9=>aq λv7 aK=>gE [(7,bT h8)] [(31,oE (k:=0) (bx h9)),(37,cK abv aK)]) λh8=>gE [(7,bF h8)] [])) λv8=>gR []))))
def Jh(N:Nat)(v1:an)(v2:iN):asp (an×Bool):=
 Option.bind (bif v2.zt then(bif (v1.ar !=5)then(bif (v1.ar !=7)then some true else Option.bind (v1.ax[0]?) λv3=>
 Option.bind (v1.ax[1]?) λv4=>
 (lJ N v3 v4).bind λv5=>
 some (!v5))else Option.bind (v1.ax[0]?) λv6=>
 Option.bind (v1.ax[1]?) λv7=>
 (lJ N v6 v7).bind λv8=>
 some (!v8))else some true) λv9=>
 bif v9 then
  some (v1,false)
 else
  bif (v1.ar==5)then
   (Ag N v2.xT).bind λv10=>
   (rE N v2.xT v10).bind λv11=>
   some (v11,true)
  else
   (BW N v2.xT).bind λv12=>
   (rE N v2.xT v12.1).bind λaF=>
   Option.bind (bif (v2.xT.aO !=2)then some (v12.2==0)else some false) λaV=>
   some (aF,aV)
theorem aoX{N v1 v2}:KO 179 [(aA v1),(iF v2)] (λr=> .aX [(aA r.1),(az r.2)]) (Jh N v1 v2):=
 fw Tryz.func179 (gA [[]] (gG (λv9=>[(32,(az v9))]) (λ_=>[.cells (aA v1).cells, .cells (iF v2).cells, .cells ft]) (au (λh1=>aY (3,bF (bV h1)) (au (λh2=>aY (7,bT h2) (bz (34,bT h2) (au (λh3=>gE [(13,bT h3)] []) λh3=>aq λv3 h4=>aq λv4 h5=>aq λv5 h6=>gE [(13,bF h3)] [(49,oE (k:=0) (bx h4)),(61,oE (k:=1) (bx h5)),(67,cK pZ h6)]))) λh2=>aq λv6 h7=>aq λv7 h8=>aq λv8 h9=>gE [(7,bF h2),(13,bF rfl)] [(34,bF h2),(49,oE (k:=0) (bx h7)),(61,oE (k:=1) (bx h8)),(67,cK pZ h9)])) λh1=>gE [(3,bT (cx h1)),(7,uN),(13,bT rfl)] []) λv9=>dM λ_=>au (λaT=>aq λv10 bu=>aq λv11 bf=>gR [[t0 aT],[(13,cK acs bu),(16,cK BS bf)]]) λaT=>aq λv12 a7=>gA [[f0 aT],[(7,cK Z1 a7)]] (aq λaF bm=>gG (λaV=>[(5,(az aV))]) (λ_=>[.cells (aA v1).cells, .cells (iF v2).cells, .cells (aA aF).cells, .cells (a8 v12.1).cells]) (bz (10,cK BS bm) (au (λbQ=>gE [(8,bT bQ)] []) λbQ=>gE [(8,bF bQ)] [])) λaV=>gR [])))
def Cb(N:Nat)(v1:Int)(v2:an)(v3:an):asp an:=
 some (⟨v1,(bs []),bW,cY,dq,[],[v2,v3]⟩:an)
theorem F8{N v1 v2 v3}:KO 224 [(aw v1),(aA v2),(aA v3)] aA (Cb N v1 v2 v3):=
 fw Tryz.func224 (gR [[],[(11,⟨_,_, .eq (congrArg AV.full (gh [v2,v3]).symm)⟩)]])
end Go.Proofs.YtdchibpnjpnkoaaGreatDoor
