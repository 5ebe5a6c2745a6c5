/-
  Part 16 of the proof: PQ7.
-/
import Derived.Test.YtdchibpnjpnkoaaGreatDoorPp15
namespace Go.Proofs.YtdchibpnjpnkoaaGreatDoor
open Go.RowKit
set_option maxRecDepth 100000
set_option maxHeartbeats 0
set_option linter.unusedVariables false
def cf5(v:bp)(r:asn AV):asn AV:=(.d (.sl (cb v.bO)))::(.d (.sl (fa v.dj)))::(.d (.sl (fY v.bA)))::r
def LU(N:Nat)(v1:an)(v2:iN):asp (an×Bool):=
 Option.bind (bif v2.zt then(bif (v2.xT.aO==2)then some (v2.xT.bM !=2)else some false)else some true) λv3=>
 bif v3 then
  some (v1,false)
 else
  Option.bind (bif (v1.ar==8)then Option.bind (v1.ax[0]?) λv4=>
  some (v4.ar==8)else some false) λv5=>
  bif v5 then
   Option.bind (v1.ax[0]?) λv6=>
   Option.bind (v6.ax[0]?) λv7=>
   some (v7,true)
  else
   Option.bind (bif (v1.ar !=4)then some (v1.ar !=5)else some false) λv8=>
   bif v8 then
    some (v1,false)
   else
    Option.bind (v1.ax[0]?) λv9=>
    Option.bind (v1.ax[1]?) λv10=>
    Option.bind (bif (v10.ar==8)then some (v1.ar==4)else some false) λv11=>
    bif v11 then
     Option.bind (v10.ax[0]?) λv12=>
     Option.bind (Cb N (5:Int) v9 v12) λaF=>
     some (aF,true)
    else
     Option.bind (bif (v9.ar==8)then some (v1.ar==4)else some false) λaV=>
     bif aV then
      Option.bind (v9.ax[0]?) λbt=>
      Option.bind (Cb N (5:Int) v10 bt) λbK=>
      some (bK,true)
     else
      bif (v10.ar==8)then
       Option.bind (v10.ax[0]?) λbC=>
       Option.bind (Cb N (4:Int) v9 bC) λaR=>
       some (aR,true)
      else
       some (v1,false)
def zW(v1:an)(v2:iN)(l:asn ao):asn ao:= .cells (aA v1).cells:: .cells (iF v2).cells:: .cells ft::l
theorem afp{N v1 v2}:KO 180 [(aA v1),(iF v2)] (λr=> .aX [(aA r.1),(az r.2)]) (LU N v1 v2):=
 fw Tryz.func180 (gA [[]] (gG (λv3=>[(22,(az v3))]) (λ_=>(zW v1 v2 [])) (au (λh1=>aY (3,bF (bV h1)) (au (λh2=>gE [(8,bT h2)] [(40,bT h2)]) λh2=>gE [(8,bF h2)] [(40,bF h2)])) λh1=>gE [(3,bT (cx h1)),(8,uN)] []) λv3=>aP λh4=>gA [[f0 h4]] (gG (λv5=>[(34,(az v5))]) (λ_=>(zW v1 v2 [])) (au (λh5=>aq λv4 h6=>gE [(3,bT h5)] [(19,oE (k:=0) (bx h6))]) λh5=>gE [(3,bF h5)] []) λv5=>au (λh8=>aq λv6 h9=>aq λv7 aK=>gR [[t0 h8],[(7,oE (k:=0) (bx h9)),(16,oE (k:=0) (bx aK))]]) λh8=>gA [[f0 h8]] (gG (λv8=>[(49,(az v8))]) (λ_=>(zW v1 v2 [])) (au (λaL=>gE [(3,bT aL)] []) λaL=>gE [(3,bF aL)] []) λv8=>aP λbu=>gA [[f0 bu]] (aq λv9 bf=>aq λv10 a7=>li (λ_=>(np 20 cn [(6,(.ptr 3 0)),(7,(.ptr 4 0))] (zW v1 v2 [.cells (aA v9).cells, .cells (aA v10).cells]) ⟨[(7,oE (k:=0) (bx bf)),(19,oE (k:=1) (bx a7))],by kernel_rfl⟩ ·)) (gG (λv11=>[(66,(az v11))]) (λ_=>(zW v1 v2 [.cells (aA v9).cells, .cells (aA v10).cells])) (au (λbm=>gE [(3,bT bm)] []) λbm=>gE [(3,bF bm)] []) λv11=>au (λcA=>aq λv12 cv=>aq λaF b8=>gR [[t0 cA],[(10,oE (k:=0) (bx cv)),(16,cK F8 b8)]]) λcA=>gA [[f0 cA]] (gG (λaV=>[(80,(az aV))]) (λ_=>(zW v1 v2 [.cells (aA v9).cells, .cells (aA v10).cells])) (au (λcJ=>gE [(3,bT cJ)] []) λcJ=>gE [(3,bF cJ)] []) λaV=>au (λdw=>aq λbt eC=>aq λbK fF=>gR [[t0 dw],[(10,oE (k:=0) (bx eC)),(16,cK F8 fF)]]) λdw=>gA [[f0 dw],[]] (fp λim=>aq λbC fu=>aq λaR gw=>gR [[t0 im],[(10,oE (k:=0) (bx fu)),(16,cK F8 gw)]]))))))))
def Kk(N:Nat)(v1:an):asp (an×Bool):=
 Option.bind (bif (v1.ar==11)then Option.bind (v1.ax[0]?) λv2=>
 some (v2.ar==18)else some false) λv3=>
 bif v3 then
  Option.bind (v1.ax[0]?) λv4=>
  Option.bind (v4.ax[0]?) λv5=>
  Option.bind (v1.ax[2]?) λv6=>
  Option.bind (v1.ax[1]?) λv7=>
  some ((⟨(11:Int),(bs []),bW,cY,dq,[],[v5,v6,v7]⟩:an),true)
 else
  bif (v1.ar !=18)then
   some (v1,false)
  else
   Option.bind (v1.ax[0]?) λv8=>
   bif (v8.ar==18)then
    Option.bind (v8.ax[0]?) λv9=>
    some (v9,true)
   else
    bif (v8.ar==13)then
     Option.bind (v8.ax[1]?) λv10=>
     Option.bind (v8.ax[0]?) λv11=>
     Option.bind (Cb N (14:Int) v10 v11) λv12=>
     some (v12,true)
    else
     bif (v8.ar==14)then
      Option.bind (v8.ax[1]?) λaF=>
      Option.bind (v8.ax[0]?) λaV=>
      Option.bind (Cb N (13:Int) aF aV) λbt=>
      some (bt,true)
     else
      some (v1,false)
theorem an4{N v1}:KO 181 [(aA v1)] (λr=> .aX [(aA r.1),(az r.2)]) (Kk N v1):=
 fw Tryz.func181 (gA [[]] (gG (λv3=>[(15,(az v3))]) (λ_=>[.cells (aA v1).cells, .cells ft]) (au (λh1=>aq λv2 h2=>gE [(3,bT h1)] [(19,oE (k:=0) (bx h2))]) λh1=>gE [(3,bF h1)] []) λv3=>au (λh4=>aq λv4 h5=>aq λv5 h6=>aq λv6 h7=>aq λv7 h8=>gR [[t0 h4],[(7,oE (k:=0) (bx h5)),(16,oE (k:=0) (bx h6)),(28,oE (k:=2) (bx h7)),(40,oE (k:=1) (bx h8)),(47,⟨_,_, .eq (congrArg AV.full (gh [v5,v6,v7]).symm)⟩)]]) λh4=>gA [[f0 h4],[]] (aP λh9=>aq λv8 aK=>gA [[f0 h9],[(7,oE (k:=0) (bx aK))],[],[]] (au (λaL=>aq λv9 aT=>gR [[t0 aL],[(7,oE (k:=0) (bx aT))]]) λaL=>gA [[f0 aL],[]] (au (λbu=>aq λv10 bf=>aq λv11 a7=>aq λv12 bm=>gR [[t0 bu],[(7,oE (k:=1) (bx bf)),(19,oE (k:=0) (bx a7)),(25,cK F8 bm)]]) λbu=>gA [[f0 bu],[]] (fp λbQ=>aq λaF cA=>aq λaV cv=>aq λbt b8=>gR [[t0 bQ],[(7,oE (k:=1) (bx cA)),(19,oE (k:=0) (bx cv)),(25,cK F8 b8)]]))))))
def NV(N:Nat)(v1:an):asp (an×Bool):=
 Option.bind (bif (v1.ar !=16)then some (v1.ar !=17)else some false) λv2=>
 bif v2 then
  some (v1,false)
 else
  Option.bind (v1.ax[0]?) λv3=>
  (xO N v3).bind λv4=>
  Option.bind (bif v4.2 then some (v4.1==(v1.ar==16))else some false) λv5=>
  bif v5 then
   Option.bind (v1.ax[1]?) λv6=>
   some (v6,true)
  else
   Option.bind (v1.ax[1]?) λv7=>
   (xO N v7).bind λv8=>
   Option.bind (bif v8.2 then some (v8.1==(v1.ar==16))else some false) λv9=>
   some (v3,v9)
def Vf(v1:an)(l:asn ao):asn ao:= .cells (aA v1).cells:: .cells ft::l
theorem akM{N v1}:KO 182 [(aA v1)] (λr=> .aX [(aA r.1),(az r.2)]) (NV N v1):=
 fw Tryz.func182 (gA [[]] (gG (λv2=>[(15,(az v2))]) (λ_=>(Vf v1 [])) (au (λh1=>gE [(3,bT h1)] []) λh1=>gE [(3,bF h1)] []) λv2=>aP λh3=>aq λv3 h4=>aq λv4 h5=>gA [[f0 h3],[(7,oE (k:=0) (bx h4)),(13,cK RT h5)]] (gG (λv5=>[(32,(az v5))]) (λ_=>(Vf v1 [])) (au (λh6=>gE [(1,bT h6)] []) λh6=>gE [(1,bF h6)] []) λv5=>au (λh8=>aq λv6 h9=>gR [[t0 h8],[(7,oE (k:=1) (bx h9))]]) λh8=>aq λv7 aK=>aq λv8 aL=>gA [[f0 h8],[(7,oE (k:=1) (bx aK)),(13,cK RT aL)]] (gU 2 (λv9=>[(3,(az v9))]) (λ_=>[.cells (aA v1).cells, .cells (aA v3).cells]) (bz (7,oE (k:=0) (bx h4)) (au (λaT=>gE [(5,bT aT)] []) λaT=>gE [(5,bF aT)] [])) λv9=>gR []))))
def SX(N:Nat)(v1:an)(v2:iN):asp (an×aso×Bool):=
 (Jm N v1).bind λv3=>
 bif v3.2 then
  some (v3.1,(bs [102,111,108,100]),true)
 else
  (J1 N v1).bind λv4=>
  bif v4.2 then
   some (v4.1,(bs [99,97,115,116]),true)
  else
   (Jp N v1).bind λv5=>
   bif v5.2 then
    some (v5.1,(bs [105,110,100,101,120]),true)
   else
    (LC N v1).bind λv6=>
    bif v6.2 then
     some (v6.1,(bs [105,102]),true)
    else
     (Kv N v1).bind λv7=>
     bif v7.2 then
      some (v7.1,(bs [115,97,109,101]),true)
     else
      (Kx N v1).bind λv8=>
      bif v8.2 then
       some (v8.1,(bs [122,101,114,111]),true)
      else
       (Km N v1).bind λv9=>
       bif v9.2 then
        some (v9.1,(bs [111,110,101]),true)
       else
        (Jh N v1 v2).bind λv10=>
        bif v10.2 then
         some (v10.1,(bs [99,97,110,99,101,108]),true)
        else
         (LU N v1 v2).bind λv11=>
         bif v11.2 then
          some (v11.1,(bs [110,101,103,97,116,101]),true)
         else
          (Kk N v1).bind λv12=>
          bif v12.2 then
           some (v12.1,(bs [110,111,116]),true)
          else
           (NV N v1).bind λaF=>
           bif aF.2 then
            some (aF.1,(bs [108,111,103,105,99]),true)
           else
            some (v1,(bs []),false)
theorem akF{N v1 v2}:KO 126 [(aA v1),(iF v2)] (λr=> .aX [(aA r.1),(bq r.2.1),(az r.2.2)]) (SX N v1 v2):=
 fw Tryz.func126 (aq λv3 h1=>gA [[],[(4,cK aqn h1)],[]] (aP λh2=>aq λv4 h3=>gA [[f0 h2],[(4,cK aiG h3)],[]] (aP λh4=>aq λv5 h5=>gA [[f0 h4],[(4,cK ajg h5)],[]] (aP λh6=>aq λv6 h7=>gA [[f0 h6],[(4,cK anx h7)],[]] (aP λh8=>aq λv7 h9=>gA [[f0 h8],[(4,cK ald h9)],[]] (aP λaK=>aq λv8 aL=>gA [[f0 aK],[(4,cK aiD aL)],[]] (aP λaT=>aq λv9 bu=>gA [[f0 aT],[(4,cK alD bu)],[]] (aP λbf=>aq λv10 a7=>gA [[f0 bf],[(7,cK aoX a7)],[]] (aP λbm=>aq λv11 bQ=>gA [[f0 bm],[(7,cK afp bQ)],[]] (aP λcA=>aq λv12 cv=>gA [[f0 cA],[(4,cK an4 cv)],[]] (aP λb8=>aq λaF cJ=>gA [[f0 b8],[(4,cK akM cJ)],[]] (aP λcS=>gR [[f0 cS],[]]))))))))))))
def Tw(N:Nat)(v1:an)(v2:Int)(v3:iN):asp iN:=
 Option.bind (bif (decide (v1.ar>=4))then(bif (decide (v1.ar<=10))then some true else(bif (v1.ar==11)then some (decide (v2>0))else some false))else(bif (v1.ar==11)then some (decide (v2>0))else some false)) λv4=>
 bif v4 then
  some v3
 else
  Option.bind (bif (decide (v1.ar>=13))then some (decide (v1.ar<=15))else some false) λv5=>
  bif v5 then
   Option.bind (v1.ax[0]?) λv6=>
   Option.bind (v1.ax[1]?) λv7=>
   (Fc N v6 v7).bind λv8=>
   some v8
  else
   bif (v1.ar==12)then
    Option.bind (v1.ax[0]?) λv9=>
    (z8 N v9).bind λv10=>
    some v10
   else
    some La
theorem ahq{N v1 v2 v3}:KO 127 [(aA v1),(aw v2),(iF v3)] iF (Tw N v1 v2 v3):=
 fw Tryz.func127 (gA [[]] (gG (λv4=>[(7,(az v4))]) (λ_=>[.cells (aA v1).cells, .cells (iF v3).cells, .cells rW]) (au (λh1=>aY (3,bT h1) (au (λh2=>gE [(8,bT h2),(12,uN)] []) λh2=>aY (8,bF h2) (au (λh3=>gE [(12,bT h3)] [(46,bT h3)]) λh3=>gE [(12,bF h3)] [(46,bF h3)]))) λh1=>aY (3,bF h1) (aY (8,bF rfl) (au (λh4=>gE [(12,bT h4)] [(46,bT h4)]) λh4=>gE [(12,bF h4)] [(46,bF h4)]))) λv4=>aP λh6=>gA [[f0 h6]] (gG (λv5=>[(26,(az v5))]) (λ_=>[.cells (aA v1).cells, .cells (iF v3).cells, .cells rW]) (au (λh7=>gE [(3,bT h7)] []) λh7=>gE [(3,bF h7)] []) λv5=>au (λh9=>aq λv6 aK=>aq λv7 aL=>aq λv8 aT=>gR [[t0 h9],[(7,oE (k:=0) (bx aK)),(19,oE (k:=1) (bx aL)),(25,cK amJ aT)]]) λh9=>gA [[f0 h9],[]] (fp λbu=>aq λv9 bf=>aq λv10 a7=>gR [[t0 bu],[(7,oE (k:=0) (bx bf)),(13,cK acM a7)]]))))
def MB(N:Nat)(v1:an)(v2:iN)(X1:an->iN->asp (an×aso×Bool)):asn an->Nat->asp (an×aso×Bool)
 |[],_=>
  some (v1,(bs []),false)
 |v6::v7,v4=>
  Option.bind (Tw N v1 (v4:Int) v2) λv8=>
  (X1 v6 v8).bind λv9=>
  bif v9.2.2 then
   bif (Nat.ble (v1.ax.length*160) 140737488355328)then
   Option.bind (v1.ax[v4]?) λv10=>
   bif (Nat.beq (v1.ax.set v4 v9.1).length v1.ax.length)then
   some ((⟨v1.ar,v1.aC,v1.bD,v1.ay,v1.aM,v1.xIdx,(v1.ax.set v4 v9.1)⟩:an),v9.2.1,true)
   else none
   else none
  else
   (MB N v1 v2 X1 v7 (v4+1))
def uM(N:Nat):Nat->an->iN->asp (an×aso×Bool)
 |0,_,_=>none
 |d+1,v1,v2=>
  (SX N v1 v2).bind λv3=>
  bif v3.2.2 then
   some (v3.1,v3.2.1,true)
  else
   MB N v1 v2 (uM N d) v1.ax 0
def SH(N:Nat)(v1:an)(v2:iN):asp (an×aso×Bool):=uM N N v1 v2
theorem al4(N:Nat):∀d:Nat,(∀{v1:an}{v2:iN},KO 84 [(aA v1),(iF v2)] (λr=> .aX [(aA r.1),(bq r.2.1),(az r.2.2)]) (uM N d v1 v2)):=by
 intro d
 induction d with
 |zero=>intro v1 v2 r hF;rw[uM]at hF;cases hF
 |succ d ih=>
  have ae7:= @ih;intro v1 v2;rw[uM];exact fw Tryz.func84 (aq λv3 h1=>gA [[],[(7,cK akF h1)],[]] (dM λ_=>gB lR 0 12 v1.ax λh4=>Y7 1 [] [2,3,4,10] 4 [] [(2,10),(2,11),(2,12)] (λv4=>⟨61,[(2,(.ptr 0 0)),(3,(.ptr 1 0)),(4,(.ptr 2 0)),(10,(aw (v4:Int)))],[.cells (aA v1).cells, .cells (iF v2).cells, .cells ft, .cells (aA v3.1).cells]⟩) (λv4 h5 f1=>gR [[(10,oL v1.ax dZ)],[(0,bF (b5 h5))],[]]) (λv4 v6 v7 h5 f1 aD=>aq λv8 h6=>aq λv9 h7=>gA [[(10,oL v1.ax dZ)],[(0,bT (bU h5))],[(10,oE (bx (ba h5))),(25,cK ahq h6),(28,cK ae7 h7)],[]] (au (λh8=>cO λh9=>aq λv10 aK=>cO λaL=>gA [[(0,bT h8)],[],[(2,⟨_,_, .eq (congrArg AV.full (gh []).symm)⟩),(10,⟨_,_, .pr (.ap (bn (v1.ax.map dd)) (bn (v1.ax.map dd)) v1.ax.length v1.ax.length) (abe (f:=dd) (E:=v1.ax) (h:=[.cells (aA v1).cells, .cells (iF v2).cells, .cells ft, .cells (aA v3.1).cells, .cells (aA v9.1).cells, .cells (aA v1).cells]) (k:=13) (cE:=160) (y:=(.d (.sl (dn v1.ax)))) (by rw[<-gh];exact Jc) (congrArg some (gh _)) (nv h9 (by decide)).1 (nv h9 (by decide)).2)⟩)],[(13,⟨_,_, .pr (.ix v4) (mj (iL (f:=dd) rfl) (Int.natCast_nonneg _) (of_decide_eq_true (bU h5)) (arZ _))⟩),(16,⟨_,_, .pr (.st ((dd v10).map AV.d) (bn ((v1.ax.set v4 v9.1).map dd))) (wO (f:=dd) (j:=0) (y:=v9.1) (zs:=[(aw v9.1.ar),(bq v9.1.aC),(aW v9.1.bD.xN),(aW v9.1.bD.xD),(aw v9.1.ay.aO),(aw v9.1.ay.bo),(aw v9.1.ay.bE),(aw v9.1.ay.bN),(aw v9.1.ay.bM),(aW v9.1.aM.xK),(.d (.sl (cz v9.1.aM.xL))),(.d (.sl (cU v9.1.xIdx))),(.d (.sl (dn v9.1.ax)))]) rfl aK rfl)⟩)]] (li (λ_=>(xn [4,12,14] 6 (dn (v1.ax.set v4 v9.1)) v1.ax.length 1 51 13 [.iX ((v1.ax.set v4 v9.1).map dd)] (uY (arM aL)) (gh _) (vh (λ_=>rfl) _) ·)) (gR [[]]))) λh8=>y8 aD () [[(0,bF h8)],[(5,oq (ca h5 rfl h4))]] h5))))
theorem apz{N v1 v2}:KO 84 [(aA v1),(iF v2)] (λr=> .aX [(aA r.1),(bq r.2.1),(az r.2.2)]) (SH N v1 v2):=(al4 N N)
def yY(N:Nat)(v1:aE)(v2:an):asp (an×aso×Bool):=
 (mT N v1).bind λv3=>
 Option.bind (bif v3 then (Af N v2).bind λv4=>
 some (v4 !=0)else some true) λv5=>
 bif v5 then
  some (v2,(bs []),false)
 else
  (Ty N v1 v2).bind λv6=>
  (SH N v2 v6).bind λv7=>
  some (v7.1,v7.2.1,v7.2.2)
theorem XA{N v1 v2}:KO 51 [(bY v1),(aA v2)] (λr=> .aX [(aA r.1),(bq r.2.1),(az r.2.2)]) (yY N v1 v2):=
 fw Tryz.func51 (gA [[]] (aq λv3 h1=>gG (λv5=>[(14,(az v5))]) (λ_=>[.cells (bY v1).cells, .cells (aA v2).cells, .cells ft]) (bz (4,cK pD h1) (au (λh2=>aq λv4 h3=>gE [(3,bF (bV h2))] [(16,cK Wi h3)]) λh2=>gE [(3,bT (cx h2))] [])) λv5=>aP λh5=>aq λv6 h6=>aq λv7 h7=>gR [[f0 h5],[(10,cK agU h6),(13,cK apz h7)]]))
def A7(N:Nat)(v1:aE):Nat->Int->Bool->an->an->asp (an×Int)
 |0,_,_,_,_=>none
 |v4+1,v5,v6,v7,v8=>
  bif v6 then
   (yY N v1 v8).bind λv9=>
   (λcD gy ta zy=>A7 N v1 v4 cD gy ta zy) (aI (v5+(1:Int))) v9.2.2 v8 v9.1
  else
   some (v7,v5)
def DX(N:Nat)(v1:aE)(v2:an):asp (an×Int):=
 (yY N v1 v2).bind λv3=>
 A7 N v1 N (0:Int) v3.2.2 v2 v3.1
theorem aiQ{N v1 v2}:KO 22 [(bY v1),(aA v2)] (λr=> .aX [(aA r.1),(aw r.2)]) (DX N v1 v2):=
 fw Tryz.func22 (aq λv3 h1=>aeE 1 [[],[],[(7,cK XA h1)]] [2,3,4,6,7,9] 4 [] [(2,10),(2,11),(2,12)] (λ(v5:Int)(v6:Bool)(v7:an)(v8:an)=>⟨31,[(2,(.ptr 0 0)),(3,(.ptr 1 0)),(4,(.ptr 2 0)),(6,(aw v5)),(7,(.ptr 3 0)),(9,(az v6))],[.cells (bY v1).cells, .cells (aA v7).cells, .cells ft, .cells (aA v8).cells]⟩) (A7 N v1) (λv4 v5 v6 v7 v8 f1 aD=>gA [[]] (fp λh2=>gA [[t0 h2],[],[],[],[]] (li (λ_=>(ad7 3 4 ·)) (aq λv9 h3=>RJ aD ((aI (v5+(1:Int))),v9.2.2,v8,v9.1) [[(7,cK XA h3)]])))))
def Eu(N:Nat)(v1:bp):asn bR->Nat->Int->(asn bR)->asp (bp×Int)
 |[],_,v7,v8=>
  some ((⟨v1.bO,v1.dj,v1.bA,v8,v1.dz⟩:bp),v7)
 |v5::v6,v3,v7,v8=>
  (DX N v5.ay v5.cr).bind λv9=>
  bif (Nat.ble ((v8.length+1)*272) 140737488355328)then
  (λcD gy=>Eu N v1 v6 (v3+1) cD gy) (aI (v7+v9.2)) (v8++[(⟨v5.aC,v5.ay,v5.bI,v5.cl,v5.dy,v9.1⟩:bR)])
  else none
def Sw(N:Nat)(v1:bp):asp (bp×Int):=
 (LQ N v1).bind λv2=>
 bif (v2.2 !=0)then
  some (v1,(0:Int))
 else
  Eu N v1 v1.aU 0 (0:Int) []
theorem am3{N v1}:KO 7 [(dH v1)] (λr=> .aX [(dH r.1),(aw r.2)]) (Sw N v1):=
 fw Tryz.func7 (aq λv2 h1=>gA [[],[(4,cK ajx h1)],[]] (aP λh2=>gA [[f0 h2],[],[],[]] (li (λ_=>(GF 2 3 53 22 [] (.inr (by kernel_rfl)) ·)) (gB vM 0 3 v1.aU λh4=>gx2 1 [] [1,2,6,7,8] 4 [] [(1,0),(1,1),(1,2),(1,3),(1,4)] (λv3(v7:Int)(v8:(asn bR))=>⟨55,[(1,(.ptr 0 0)),(2,(.ptr 1 0)),(6,(.ptr 2 0)),(7,(aw v7)),(8,(aw (v3:Int)))],[.cells (dH v1).cells, .cells L1, .cells (cf5 v1 [(.own 3 (fO v8)),(.d (.sl (cb v1.dz)))]), .front 53 22 v8.length]⟩) (λv3 v7 v8 h5 f1=>gR [[(10,oL v1.aU ji)],[f0 (b5 h5)],[]]) (λv3 v5 v6 v7 v8 h5 f1 aD=>aq λv9 h6=>cO λh7=>y8 aD ((aI (v7+v9.2)),(v8++[(⟨v5.aC,v5.ay,v5.bI,v5.cl,v5.dy,v9.1⟩:bR)])) [[(10,oL v1.aU ji)],[t0 (bU h5)],[(10,oE (lf (ba h5)))],[(13,cK aiQ h6)],[],[],[(13,oA vM v8 ([(⟨v5.aC,v5.ay,v5.bI,v5.cl,v5.dy,v9.1⟩:bR)]) h7)],[(5,oq (ca h5 rfl h4))]] h5)))))
def JC(N:Nat)(v2:asn aso):asn aso->Nat->asp Bool
 |[],_=>
  some true
 |v5::v6,v3=>
  Option.bind (v2[((v3:Int)).toNat]?) λv7=>
  bif (bL v5==bL v7)then
   (JC N v2 v6 (v3+1))
  else
   some false
def Fy(N:Nat)(v1:asn aso)(v2:asn aso):asp Bool:=
 bif ((v1.length:Int) !=(v2.length:Int))then
  some false
 else
  JC N v2 v1 0
theorem Z0{N v1 v2}:KO 23 [(.d (.sl (cb v1))),(.d (.sl (cb v2)))] az (Fy N v1 v2):=
 fw Tryz.func23 (gA [[],[(4,oL v1 gC),(10,oL v2 gC)]] (dM λ_=>gT kM 0 v1 λh3=>dO 1 [] [0,1,5] 0 (λv3=>⟨26,[(0,(.d (.sl (cb v1)))),(1,(.d (.sl (cb v2)))),(5,(aw (v3:Int)))],[]⟩) (λv3 h4 f1=>gR [[(7,oL v1 gC)],[f0 (b5 h4)],[]]) (λv3 v5 v6 h4 f1 aD=>aq λv7 h5=>gA [[(7,oL v1 gC)],[t0 (bU h4)],[(7,oE (na (ba h4))),(19,oE (na h5))]] (eg λh7=>gb aD () [[f0 (bV h7)],[(5,oq (ca h4 rfl h3))]] h4))))
def JS(N:Nat)(v1:di)(v2:di):asp Bool:=
 Option.bind (bif (v1.nP==v2.nP)then (rH N v1.aM v2.aM).bind λv3=>
 some v3 else some false) λv4=>
 some v4
theorem aj6{N v1 v2}:KO 52 [(pM v1),(pM v2)] az (JS N v1 v2):=
 fw Tryz.func52 (gA [[]] (gG (λv4=>[(4,(az v4))]) (λ_=>[.cells (pM v1).cells, .cells (pM v2).cells]) (au (λh1=>aq λv3 h2=>gE [(5,bT h1)] [(31,cK Dt h2)]) λh1=>gE [(5,bF h1)] []) λv4=>gR []))
def LA(N:Nat)(v2:asn di):asn di->Nat->asp Bool
 |[],_=>
  some true
 |v5::v6,v3=>
  Option.bind (v2[((v3:Int)).toNat]?) λv7=>
  (JS N v5 v7).bind λv8=>
  bif v8 then
   (LA N v2 v6 (v3+1))
  else
   some false
def LY(N:Nat)(v1:asn di)(v2:asn di):asp Bool:=
 bif ((v1.length:Int) !=(v2.length:Int))then
  some false
 else
  LA N v2 v1 0
theorem ani{N v1 v2}:KO 24 [(.d (.sl (fa v1))),(.d (.sl (fa v2)))] az (LY N v1 v2):=
 fw Tryz.func24 (gA [[],[(4,oL v1 mE),(10,oL v2 mE)]] (dM λ_=>gT EE 0 v1 λh3=>dO 1 [] [0,1,5] 0 (λv3=>⟨27,[(0,(.d (.sl (fa v1)))),(1,(.d (.sl (fa v2)))),(5,(aw (v3:Int)))],[]⟩) (λv3 h4 f1=>gR [[(7,oL v1 mE)],[f0 (b5 h4)],[]]) (λv3 v5 v6 h4 f1 aD=>aq λv7 h5=>aq λv8 h7=>gA [[(7,oL v1 mE)],[t0 (bU h4)],[(7,oE (BD (ba h4))),(19,oE (BD h5)),(25,cK aj6 h7)]] (eg λh8=>gb aD () [[f0 (bV h8)],[(5,oq (ca h4 rfl h3))]] h4))))
def Ml(N:Nat)(v2:asn cT):asn cT->Nat->asp Bool
 |[],_=>
  some true
 |v5::v6,v3=>
  Option.bind (v2[((v3:Int)).toNat]?) λv7=>
  Option.bind (bif (bL v5.aC==bL v7.aC)then (rH N v5.eZ v7.eZ).bind λv8=>
  some (!v8)else some true) λv9=>
  bif v9 then
   some false
  else
   (Ml N v2 v6 (v3+1))
def F3(N:Nat)(v1:asn cT)(v2:asn cT):asp Bool:=
 bif ((v1.length:Int) !=(v2.length:Int))then
  some false
 else
  Ml N v2 v1 0
theorem ZG{N v1 v2}:KO 53 [(.d (.sl (eV v1))),(.d (.sl (eV v2)))] az (F3 N v1 v2):=
 fw Tryz.func53 (gA [[],[(4,oL v1 fE),(10,oL v2 fE)]] (dM λ_=>gT m9 0 v1 λh3=>dO 1 [] [0,1,5] 0 (λv3=>⟨42,[(0,(.d (.sl (eV v1)))),(1,(.d (.sl (eV v2)))),(5,(aw (v3:Int)))],[]⟩) (λv3 h4 f1=>gR [[(7,oL v1 fE)],[f0 (b5 h4)],[]]) (λv3 v5 v6 h4 f1 aD=>gA [[(7,oL v1 fE)],[t0 (bU h4)]] (aq λv7 h5=>gG (λv9=>[(41,(az v9))]) (λ_=>[]) (bz (7,oE (mK (ba h4))) (bz (22,oE (mK h5)) (au (λh7=>aq λv8 h8=>gE [(11,bF (bV h7))] [(43,oE (mK (ba h4))),(58,oE (mK h5)),(67,cK Dt h8)]) λh7=>gE [(11,bT (cx h7))] []))) λv9=>aP λaK=>gb aD () [[f0 aK],[(5,oq (ca h4 rfl h3))]] h4))))
def Jj(N:Nat)(v1:bR)(v2:bR):asp Bool:=
 Option.bind (bif (bL v1.aC==bL v2.aC)then(bif ((v1.ay.aO==v2.ay.aO)&&((v1.ay.bo==v2.ay.bo)&&((v1.ay.bE==v2.ay.bE)&&((v1.ay.bN==v2.ay.bN)&&((v1.ay.bM==v2.ay.bM)&&true)))))then(bif (v1.dy==v2.dy)then (F3 N v1.bI v2.bI).bind λv3=>
 (bif v3 then (F3 N v1.cl v2.cl).bind λv4=>
 (bif v4 then (lJ N v1.cr v2.cr).bind λv5=>
 some v5 else some false)else some false)else some false)else some false)else some false) λv6=>
 some v6
theorem amb{N v1 v2}:KO 26 [(gN v1),(gN v2)] az (Jj N v1 v2):=
 fw Tryz.func26 (gA [[]] (gG (λv6=>[(4,(az v6))]) (λ_=>[.cells (gN v1).cells, .cells (gN v2).cells]) (au (λh1=>aY (5,bT h1) (au (λh2=>aY (12,bT h2) (au (λh3=>aq λv3 h4=>aY (19,bT h3) (bz (73,cK ZG h4) (au (λh5=>aq λv4 h6=>aY (26,bT h5) (bz (94,cK ZG h6) (au (λh7=>aq λv5 h8=>gE [(33,bT h7)] [(115,cK pZ h8)]) λh7=>gE [(33,bF h7)] []))) λh5=>gE [(26,bF h5),(33,bF rfl)] []))) λh3=>gE [(19,bF h3),(26,bF rfl),(33,bF rfl)] [])) λh2=>gE [(12,bF h2),(19,bF rfl),(26,bF rfl),(33,bF rfl)] [])) λh1=>gE [(5,bF h1),(12,bF rfl),(19,bF rfl),(26,bF rfl),(33,bF rfl)] []) λv6=>gR []))
def JW(N:Nat)(v2:bp):asn bR->Nat->asp Bool
 |[],_=>
  some true
 |aF::aV,v11=>
  Option.bind (v2.aU[((v11:Int)).toNat]?) λbt=>
  (Jj N aF bt).bind λbK=>
  bif bK then
   (JW N v2 aV (v11+1))
  else
   some false
def KM(N:Nat)(v2:bp)(v1:bp):asn dh->Nat->asp Bool
 |[],_=>
  JW N v2 v1.aU 0
 |v9::v10,v7=>
  Option.bind (v2.bA[((v7:Int)).toNat]?) λbC=>
  Option.bind (bif (bL v9.aC==bL bC.aC)then(bif ((v9.ay.aO==bC.ay.aO)&&((v9.ay.bo==bC.ay.bo)&&((v9.ay.bE==bC.ay.bE)&&((v9.ay.bN==bC.ay.bN)&&((v9.ay.bM==bC.ay.bM)&&true)))))then (xu N v9.bI bC.bI).bind λaR=>
  some (!aR)else some true)else some true) λbX=>
  bif bX then
   some false
  else
   (KM N v2 v1 v10 (v7+1))
def Js(N:Nat)(v1:bp)(v2:bp):asp Bool:=
 (Fy N v1.bO v2.bO).bind λv3=>
 Option.bind (bif v3 then (LY N v1.dj v2.dj).bind λv4=>
 (bif v4 then (Fy N v1.dz v2.dz).bind λv5=>
 (bif v5 then(bif ((v1.bA.length:Int) !=(v2.bA.length:Int))then some true else some ((v1.aU.length:Int) !=(v2.aU.length:Int)))else some true)else some true)else some true) λv6=>
 bif v6 then
  some false
 else
  KM N v2 v1 v1.bA 0
def IX(v1:bp)(v2:bp)(l:asn ao):asn ao:= .cells (dH v1).cells:: .cells (dH v2).cells::l
theorem aiy{N v1 v2}:KO 8 [(dH v1),(dH v2)] az (Js N v1 v2):=
 fw Tryz.func8 (gA [[]] (aq λv3 h1=>gG (λv6=>[(46,(az v6))]) (λ_=>(IX v1 v2 [])) (bz (13,cK Z0 h1) (au (λh2=>aq λv4 h3=>aY (6,bF (bV h2)) (bz (34,cK ani h3) (au (λh4=>aq λv5 h5=>aY (14,bF (bV h4)) (bz (58,cK Z0 h5) (au (λh6=>aY (22,bF (bV h6)) (bz (76,oL v1.bA kN) (bz (85,oL v2.bA kN) (au (λh7=>gE [(31,bT h7)] []) λh7=>gE [(31,bF h7)] [(103,oL v1.aU ji),(112,oL v2.aU ji)])))) λh6=>gE [(22,bT (cx h6)),(31,bT rfl)] []))) λh4=>gE [(14,bT (cx h4)),(22,bT rfl),(31,bT rfl)] []))) λh2=>gE [(6,bT (cx h2)),(14,bT rfl),(22,bT rfl),(31,bT rfl)] [])) λv6=>dM λ_=>gB xW 0 2 v1.bA λaL=>dO 1 [] [2,3,5] 2 (λv7=>⟨117,[(2,(.ptr 0 0)),(3,(.ptr 1 0)),(5,(aw (v7:Int)))],(IX v1 v2 [])⟩) (λv7 aT f1=>gA [[(10,oL v1.bA kN)],[f0 (b5 aT)],[]] (gB vM 0 3 v1.aU λbf=>dO 2 [] [2,3,6] 2 (λv11=>⟨117,[(2,(.ptr 0 0)),(3,(.ptr 1 0)),(6,(aw (v11:Int)))],(IX v1 v2 [])⟩) (λv11 a7 f2=>gR [[(10,oL v1.aU ji)],[f0 (b5 a7)],[]]) (λv11 aF aV a7 f2 dI=>aq λbt bm=>aq λbK cA=>gA [[(10,oL v1.aU ji)],[t0 (bU a7)],[(10,oE (lf (ba a7))),(25,oE (lf bm)),(31,cK amb cA)]] (eg λcv=>gb dI () [[f0 (bV cv)],[(5,oq (ca a7 rfl bf))]] a7)))) (λv7 v9 v10 aT f1 aD=>gA [[(10,oL v1.bA kN)],[t0 (bU aT)]] (aq λbC b8=>gG (λbX=>[(97,(az bX))]) (λ_=>(IX v1 v2 [])) (bz (10,oE (lT (ba aT))) (bz (28,oE (lT b8)) (au (λcS=>aY (13,bF (bV cS)) (bz (52,oE (lT (ba aT))) (bz (70,oE (lT b8)) (au (λdw=>aq λaR eC=>gE [(28,bF (bV dw))] [(97,oE (lT (ba aT))),(115,oE (lT b8)),(124,cK abP eC)]) λdw=>gE [(28,bT (cx dw))] [])))) λcS=>gE [(13,bT (cx cS)),(28,bT rfl)] []))) λbX=>aP λim=>gb aD () [[f0 im],[(5,oq (ca aT rfl aL))]] aT))))
def Sx(N:Nat)(v1:bp):asp Bool:=
 Option.bind (E3 N v1 (300:Int)) λv2=>
 bif v2 then
  (Gv N).bind λv3=>
  some v3
 else
  (RY N v1).bind λv4=>
  (Sw N v1).bind λv5=>
  (Js N v4.1 v5.1).bind λv6=>
  Option.bind (bif v6 then(bif (v4.2==v5.2)then (Gv N).bind λv7=>
  some v7 else some false)else some false) λv8=>
  some v8
theorem aq4{N v1}:KO 3 [(dH v1)] az (Sx N v1):=
 fw Tryz.func3 (aq λv2 h1=>gA [[],[(4,cK aic h1)]] (au (λh2=>aq λv3 h3=>gR [[t0 h2],[(1,cK WV h3)]]) λh2=>aq λv4 h4=>aq λv5 h5=>gA [[f0 h2],[(4,cK alz h4)],[(4,cK am3 h5)]] (aq λv6 h6=>gG (λv8=>[(2,(az v8))]) (λ_=>[.cells (dH v1).cells, .cells (dH v4.1).cells, .cells (dH v5.1).cells]) (bz (7,cK aiy h6) (au (λh7=>aY (3,bT h7) (au (λh8=>aq λv7 h9=>gE [(8,bT h8)] [(28,cK WV h9)]) λh8=>gE [(8,bF h8)] [])) λh7=>gE [(3,bF h7),(8,bF rfl)] [])) λv8=>gR [])))
end Go.Proofs.YtdchibpnjpnkoaaGreatDoor
