/-
  Part 12 of the proof: PE4, PE5, PE6, PE7, PE8, PE9, PAll, ValNames, ValNode, LinP, ValTree, ValTree2.
-/
import Derived.Test.YtpeecnpmcbnahaaGreatDoorPq11
namespace Go.Proofs.YtpeecnpmcbnahaaGreatDoor
open Go.RowKit
set_option maxRecDepth 100000
set_option maxHeartbeats 0
set_option linter.unusedVariables false
theorem jb{α β:Type}{P:α->β->Prop}(a:α)(b:β)(h:P a b:=by kernel_rfl):∃a b,P a b:=⟨a,b,h⟩
def cf1(v:fa)(r:aqP AV):aqP AV:=(ar v.fG.bg)::(ar v.fG.bN)::(ar v.fG.bM)::(ar v.fG.cn)::(ar v.fG.ck)::r
def TC(N:Nat)(v1:aF)(v2:aA)(v3:aA):aqR (aA×Int):=
 Option.bind (qU N v1 ([v2,v3])) λv4=>
 bif (v4 !=0)then
  some (cP,v4)
 else
  (QQ N v1 v2.xN v3.xN).bind λv5=>
  bif (v5.2 !=0)then
   some (cP,v5.2)
  else
   (pI N v1 v5.1).bind λv6=>
   some (v6,(0:Int))
theorem aoZ{N v1 v2 v3}:KP 272 [(.agg [(.fn 277 [])]),(cq v1),(bq v2),(bq v3)] [] (λr=> .bj [(bq r.1),(ar r.2)]) (λ_=>[]) (TC N v1 v2 v3):=
 fh 0 Tryz.func272 (aB λv4 J=>gA [[],[(13,cK zw J)],[]] (aC (λh2=>gH [[t0 h2],[]]) λh2=>aB λv5 h3=>gA [[f0 h2],[(22,cK akO h3)],[]] (aC (λh4=>gH [[t0 h4],[]]) λh4=>aB λv6 h5=>gH [[f0 h4],[(7,cK AN h5)]])))
def GQ(N:Nat)(v1:aF)(v2:aA)(v3:aA):aqR (aA×Int):=
 (TC N v1 v2 v3).bind λv4=>
 some (v4.1,v4.2)
theorem an0{N v1 v2 v3}:KO 236 [(cq v1),(bq v2),(bq v3)] (λr=> .bj [(bq r.1),(ar r.2)]) (GQ N v1 v2 v3):=
 fw Tryz.func236 (aB λv4 J=>gR [[],[(13,oQ [(.agg [(.fn 277 [])]),(cq v1),(bq v2),(bq v3)] [.cells (cq v1).cells, .cells (bq v2).cells, .cells (bq v3).cells, .cells iR] [] (aoZ _ J))]])
def En(N:Nat)(v1:aA)(v2:aA):aqR (aA×Int):=
 (kS N v1).bind λv3=>
 Option.bind (bif v3 then (kS N v2).bind λv4=>
 some (!v4)else some true) λv5=>
 bif v5 then
  some (cP,(1:Int))
 else
  Option.bind (vA N ((v1.xN*v2.xD)+(v2.xN*v1.xD)) (v1.xD*v2.xD)) λv6=>
  some (v6.1,v6.2)
theorem agU{N v1 v2}:KO 237 [(bq v1),(bq v2)] (λr=> .bj [(bq r.1),(ar r.2)]) (En N v1 v2):=
 fw Tryz.func237 (gA [[]] (aB λv3 J=>gG (λv5=>[(13,(aK v5))]) (λ_=>[.cells (bq v1).cells, .cells (bq v2).cells, .cells iR]) (dQ (4,cK nJ J) (aC (λh2=>aB λv4 h3=>gE [(3,bF (dq h2))] [(16,cK nJ h3)]) λh2=>gE [(3,bT (dZ h2))] [])) λv5=>bQ λh5=>aB λv6 h6=>gR [[f0 h5],[(14,⟨_,_, .eq (lQ v1.xN v2.xD)⟩),(29,⟨_,_, .eq (lQ v2.xN v1.xD)⟩),(32,⟨_,_, .eq (Ea (v1.xN*v2.xD) (v2.xN*v1.xD))⟩),(47,⟨_,_, .eq (lQ v1.xD v2.xD)⟩),(49,cK Fc h6)]]))
def C2(N:Nat)(v1:aA)(v2:aA):aqR (aA×Int):=
 (kS N v1).bind λv3=>
 Option.bind (bif v3 then (kS N v2).bind λv4=>
 some (!v4)else some true) λv5=>
 bif v5 then
  some (cP,(1:Int))
 else
  Option.bind (vA N ((v1.xN*v2.xD)-(v2.xN*v1.xD)) (v1.xD*v2.xD)) λv6=>
  some (v6.1,v6.2)
theorem ahI{N v1 v2}:KO 238 [(bq v1),(bq v2)] (λr=> .bj [(bq r.1),(ar r.2)]) (C2 N v1 v2):=
 fw Tryz.func238 (gA [[]] (aB λv3 J=>gG (λv5=>[(13,(aK v5))]) (λ_=>[.cells (bq v1).cells, .cells (bq v2).cells, .cells iR]) (dQ (4,cK nJ J) (aC (λh2=>aB λv4 h3=>gE [(3,bF (dq h2))] [(16,cK nJ h3)]) λh2=>gE [(3,bT (dZ h2))] [])) λv5=>bQ λh5=>aB λv6 h6=>gR [[f0 h5],[(14,⟨_,_, .eq (lQ v1.xN v2.xD)⟩),(29,⟨_,_, .eq (lQ v2.xN v1.xD)⟩),(32,⟨_,_, .eq (xQ (v1.xN*v2.xD) (v2.xN*v1.xD))⟩),(47,⟨_,_, .eq (lQ v1.xD v2.xD)⟩),(49,cK Fc h6)]]))
def Gt(N:Nat)(v1:aA)(v2:aA):aqR (aA×Int):=
 (kS N v1).bind λv3=>
 Option.bind (bif v3 then (kS N v2).bind λv4=>
 some (!v4)else some true) λv5=>
 bif v5 then
  some (cP,(1:Int))
 else
  Option.bind (vA N (v1.xN*v2.xN) (v1.xD*v2.xD)) λv6=>
  some (v6.1,v6.2)
theorem aoH{N v1 v2}:KO 239 [(bq v1),(bq v2)] (λr=> .bj [(bq r.1),(ar r.2)]) (Gt N v1 v2):=
 fw Tryz.func239 (gA [[]] (aB λv3 J=>gG (λv5=>[(13,(aK v5))]) (λ_=>[.cells (bq v1).cells, .cells (bq v2).cells, .cells iR]) (dQ (4,cK nJ J) (aC (λh2=>aB λv4 h3=>gE [(3,bF (dq h2))] [(16,cK nJ h3)]) λh2=>gE [(3,bT (dZ h2))] [])) λv5=>bQ λh5=>aB λv6 h6=>gR [[f0 h5],[(14,⟨_,_, .eq (lQ v1.xN v2.xN)⟩),(29,⟨_,_, .eq (lQ v1.xD v2.xD)⟩),(31,cK Fc h6)]]))
def Ey(N:Nat)(v1:aA)(v2:aA):aqR (aA×Int):=
 (kS N v1).bind λv3=>
 Option.bind (bif v3 then (kS N v2).bind λv4=>
 some (!v4)else some true) λv5=>
 bif v5 then
  some (cP,(1:Int))
 else
  Option.bind (vA N (v1.xN*v2.xD) (v1.xD*v2.xN)) λv6=>
  some (v6.1,v6.2)
theorem ank{N v1 v2}:KO 240 [(bq v1),(bq v2)] (λr=> .bj [(bq r.1),(ar r.2)]) (Ey N v1 v2):=
 fw Tryz.func240 (gA [[]] (aB λv3 J=>gG (λv5=>[(13,(aK v5))]) (λ_=>[.cells (bq v1).cells, .cells (bq v2).cells, .cells iR]) (dQ (4,cK nJ J) (aC (λh2=>aB λv4 h3=>gE [(3,bF (dq h2))] [(16,cK nJ h3)]) λh2=>gE [(3,bT (dZ h2))] [])) λv5=>bQ λh5=>aB λv6 h6=>gR [[f0 h5],[(14,⟨_,_, .eq (lQ v1.xN v2.xD)⟩),(29,⟨_,_, .eq (lQ v1.xD v2.xN)⟩),(31,cK Fc h6)]]))
def J2(N:Nat)(v1:Int)(v2:aF)(v3:aA)(v4:aA):aqR (aA×Int):=
 bif (v2.bg==3)then
  (F5 N v1 v3.xN v4.xN).bind λv5=>
  some (v5.1,v5.2)
 else
  Option.bind (bif (v1==4)then some (v2.bg==2)else some false) λv6=>
  bif v6 then
   (DR N v2 v3 v4).bind λv7=>
   some (v7.1,v7.2)
  else
   Option.bind (bif (v1==5)then some (v2.bg==2)else some false) λv8=>
   bif v8 then
    (FB N v2 v3 v4).bind λv9=>
    some (v9.1,v9.2)
   else
    Option.bind (bif (v1==6)then some (v2.bg==2)else some false) λv10=>
    bif v10 then
     (DG N v2 v3 v4).bind λv11=>
     some (v11.1,v11.2)
    else
     bif (v2.bg==2)then
      (GQ N v2 v3 v4).bind λv12=>
      some (v12.1,v12.2)
     else
      bif (v1==4)then
       (En N v3 v4).bind λaL=>
       some (aL.1,aL.2)
      else
       bif (v1==5)then
        (C2 N v3 v4).bind λaQ=>
        some (aQ.1,aQ.2)
       else
        bif (v1==6)then
         (Gt N v3 v4).bind λbu=>
         some (bu.1,bu.2)
        else
         (Ey N v3 v4).bind λbG=>
         some (bG.1,bG.2)
def QB(v2:aF)(v3:aA)(v4:aA)(l:aqP aq):aqP aq:= .cells (cq v2).cells:: .cells (bq v3).cells:: .cells (bq v4).cells:: .cells iR::l
theorem aoB{N v1 v2 v3 v4}:KO 177 [(ar v1),(cq v2),(bq v3),(bq v4)] (λr=> .bj [(bq r.1),(ar r.2)]) (J2 N v1 v2 v3 v4):=
 fw Tryz.func177 (gA [[],[],[]] (aC (λJ=>aB λv5 h2=>gR [[t0 J],[(16,cK ao4 h2)]]) λJ=>gA [[f0 J]] (gG (λv6=>[(26,(aK v6))]) (λ_=>(QB v2 v3 v4 [])) (aC (λh3=>gE [(2,bT h3)] []) λh3=>gE [(2,bF h3)] []) λv6=>aC (λh5=>aB λv7 h6=>gR [[t0 h5],[(10,cK adN h6)]]) λh5=>gA [[f0 h5]] (gG (λv8=>[(38,(aK v8))]) (λ_=>(QB v2 v3 v4 [])) (aC (λh7=>gE [(2,bT h7)] []) λh7=>gE [(2,bF h7)] []) λv8=>aC (λh9=>aB λv9 bE=>gR [[t0 h9],[(10,cK anC bE)]]) λh9=>gA [[f0 h9]] (gG (λv10=>[(50,(aK v10))]) (λ_=>(QB v2 v3 v4 [])) (aC (λbD=>gE [(2,bT bD)] []) λbD=>gE [(2,bF bD)] []) λv10=>aC (λcN=>aB λv11 cS=>gR [[t0 cN],[(10,cK apc cS)]]) λcN=>gA [[f0 cN],[]] (aC (λcH=>aB λv12 cM=>gR [[t0 cH],[(10,cK an0 cM)]]) λcH=>gA [[f0 cH],[]] (aC (λeH=>aB λaL fR=>gR [[t0 eH],[(7,cK agU fR)]]) λeH=>gA [[f0 eH],[]] (aC (λfj=>aB λaQ gY=>gR [[t0 fj],[(7,cK ahI gY)]]) λfj=>gA [[f0 fj],[]] (aC (λkV=>aB λbu jl=>gR [[t0 kV],[(7,cK aoH jl)]]) λkV=>aB λbG ie=>gR [[f0 kV],[(7,cK ank ie)]])))))))))
def Ca(N:Nat)(v2:aF)(v3:aA)(v4:aA)(v1:Int)(v11:Bool):aqR (aA×Int):=
 bif v11 then
  (CF N v2 v3 v4).bind λv12=>
  Option.bind (bif ((decide (v12>0))==(v1==9))then some (v12 !=0)else some false) λaL=>
  bif aL then
   some (v4,(0:Int))
  else
   some (v3,(0:Int))
 else
  (J2 N v1 v2 v3 v4).bind λaQ=>
  some (aQ.1,aQ.2)
def xF(N:Nat)(v1:Int)(v2:aF)(v3:aA)(v4:aA):aqR (aA×Int):=
 Option.bind (bif (decide (v1<4))then some true else some (decide (v1>10))) λv5=>
 bif v5 then
  some (cP,(1:Int))
 else
  (mC N v2).bind λv6=>
  bif (v6 !=0)then
   some (cP,(10:Int))
  else
   (m7 N v2 v3).bind λv7=>
   Option.bind (bif v7 then(bif (v1 !=8)then (m7 N v2 v4).bind λv8=>
   some (!v8)else some false)else some true) λv9=>
   bif v9 then
    some (cP,(1:Int))
   else
    bif (v1==8)then
     (JU N v2 v3).bind λv10=>
     some (v10.1,v10.2)
    else
     bif (v1==9)then
      Ca N v2 v3 v4 v1 (v1==9)
     else
      Ca N v2 v3 v4 v1 (v1==10)
def Jj(v2:aF)(v3:aA)(v4:aA)(l:aqP aq):aqP aq:= .cells (cq v2).cells:: .cells (bq v3).cells:: .cells (bq v4).cells:: .cells iR::l
theorem Sm{N v1 v2 v3 v4}:KO 115 [(ar v1),(cq v2),(bq v3),(bq v4)] (λr=> .bj [(bq r.1),(ar r.2)]) (xF N v1 v2 v3 v4):=
 fw Tryz.func115 (gA [[]] (gG (λv5=>[(11,(aK v5))]) (λ_=>(Jj v2 v3 v4 [])) (aC (λJ=>gE [(2,bT J)] []) λJ=>gE [(2,bF J)] []) λv5=>bQ λh3=>aB λv6 h4=>gA [[f0 h3],[(4,cK ph h4)]] (bQ λh5=>gA [[f0 h5]] (aB λv7 h6=>gG (λv9=>[(24,(aK v9))]) (λ_=>(Jj v2 v3 v4 [])) (dQ (7,cK vn h6) (aC (λh7=>dE (4,bF (dq h7)) (aC (λh8=>aB λv8 h9=>gE [(7,bT h8)] [(31,cK vn h9),(37,bT h8)]) λh8=>gE [(7,bF h8)] [(37,bF h8)])) λh7=>gE [(4,bT (dZ h7)),(7,uN)] [])) λv9=>bQ λbD=>gA [[f0 bD],[],[]] (aC (λbw=>aB λv10 cN=>gR [[t0 bw],[(7,cK ahV cN)]]) λbw=>nq 1 [[f0 bw],[]] [0,5,6,7,8,48] 4 (λ(v11:Bool)=>⟨73,[(0,(ar v1)),(5,(.ptr 0 0)),(6,(.ptr 1 0)),(7,(.ptr 2 0)),(8,(.ptr 3 0)),(48,(aK v11))],(Jj v2 v3 v4 [])⟩) (Ca N v2 v3 v4 v1) (λf1 aU=>aC (λgY=>gm aU (v1==9) [[t0 gY]]) λgY=>gm aU (v1==10) [[f0 gY],[]]) (λv11=>aC (λcS=>aB λv12 cH=>gA [[t0 cS],[(10,cK Vt cH)]] (gG (λaL=>[(63,(aK aL))]) (λ_=>(Jj v2 v3 v4 [])) (aC (λcM=>gE [(5,bT cM)] []) λcM=>gE [(5,bF cM)] []) λaL=>bQ λfR=>gR [[f0 fR],[]])) λcS=>aB λaQ fj=>gR [[f0 cS],[(13,cK aoB fj)]]))))))
def wW(N:Nat)(v2:aqP aJ)(v1:aw)(v3:aqP aI)(v4:aqP (aqQ×aT))(afv:aw->(aqP aJ)->(aqP aI)->(aqP (aqQ×aT))->aqR (Bool×Int×(aqP (aqQ×aT))))(acD:aw->(aqP aJ)->(aqP aI)->(aqP (aqQ×aT))->aqR (fa×Int×(aqP (aqQ×aT))))(ai3:aw->(aqP aJ)->(aqP aI)->(aqP (aqQ×aT))->aqR (fa×Int×(aqP (aqQ×aT))))(v5:Bool):aqR (fa×Int×(aqP (aqQ×aT))):=
 bif v5 then
  (I5 N v2 v1 v3 v4).bind λv6=>
  some (v6.1,v6.2.1,v6.2.2)
 else
  bif (v1.az==11)then
   Option.bind (v1.bJ[0]?) λv7=>
   (afv v7 v2 v3 v4).bind λv8=>
   bif (v8.2.1 !=0)then
    some (zi,v8.2.1,v8.2.2)
   else
    bif v8.1 then
     Option.bind (v1.bJ[1]?) λv9=>
     (acD v9 v2 v3 v8.2.2).bind λv10=>
     some (v10.1,v10.2.1,v10.2.2)
    else
     Option.bind (v1.bJ[2]?) λv11=>
     (acD v11 v2 v3 v8.2.2).bind λv12=>
     some (v12.1,v12.2.1,v12.2.2)
  else
   (ai3 v1 v2 v3 v4).bind λaL=>
   some (aL.1,aL.2.1,aL.2.2)
def Ef(N:Nat)(v6:fa×Int×(aqP (aqQ×aT)))(v8:fa×Int×(aqP (aqQ×aT)))(v10:Int):aqR (fa×fa×Int×(aqP (aqQ×aT))):=
 some (v6.1,v8.1,v10,v8.2.2)
mutual
def ml(N:Nat):Nat->aw->(aqP aJ)->(aqP aI)->(aqP (aqQ×aT))->aqR (fa×Int×(aqP (aqQ×aT)))
 |0,_,_,_,_=>none
 |d+1,v1,v2,v3,v4=>
  bif (v1.az==1)then
   wW N v2 v1 v3 v4 (pw N d) (ml N d) (pY N d) (v1.az==1)
  else
   bif (v1.az==2)then
    wW N v2 v1 v3 v4 (pw N d) (ml N d) (pY N d) (v1.az==2)
   else
    wW N v2 v1 v3 v4 (pw N d) (ml N d) (pY N d) (v1.az==3)
def pw(N:Nat):Nat->aw->(aqP aJ)->(aqP aI)->(aqP (aqQ×aT))->aqR (Bool×Int×(aqP (aqQ×aT)))
 |0,_,_,_,_=>none
 |d+1,v1,v2,v3,v4=>
  Option.bind ((Dk N d) v1 v2 v3 v4) λv5=>
  some (v5.1,v5.2.1,v5.2.2)
def Dk(N:Nat):Nat->aw->(aqP aJ)->(aqP aI)->(aqP (aqQ×aT))->aqR (Bool×Int×(aqP (aqQ×aT)))
 |0,_,_,_,_=>none
 |d+1,v1,v2,v3,v4=>
  bif (decide (v1.az<16))then
   Option.bind ((xw N d) v1 v2 v3 v4) λv5=>
   bif (v5.2.2.1 !=0)then
    some (false,v5.2.2.1,v5.2.2.2)
   else
    (CF N v5.1.fG v5.1.iq v5.2.1.iq).bind λv6=>
    (QT N v1.az v6).bind λv7=>
    some (v7,(0:Int),v5.2.2.2)
  else
   Option.bind (v1.bJ[0]?) λv8=>
   Option.bind ((pw N d) v8 v2 v3 v4) λv9=>
   Option.bind (bif (v9.2.1 !=0)then some true else some (v1.az==18)) λv10=>
   bif v10 then
    Option.bind (bif (v9.2.1==0)then some (!v9.1)else some false) λv11=>
    some (v11,v9.2.1,v9.2.2)
   else
    Option.bind (v1.bJ[1]?) λv12=>
    Option.bind ((pw N d) v12 v2 v3 v9.2.2) λaL=>
    bif (aL.2.1 !=0)then
     some (false,aL.2.1,aL.2.2)
    else
     bif (v1.az==16)then
      (bif v9.1 then some aL.1 else some false).bind λaQ=>
      some (aQ,(0:Int),aL.2.2)
     else
      (bif v9.1 then some true else some aL.1).bind λbu=>
      some (bu,(0:Int),aL.2.2)
def xw(N:Nat):Nat->aw->(aqP aJ)->(aqP aI)->(aqP (aqQ×aT))->aqR (fa×fa×Int×(aqP (aqQ×aT)))
 |0,_,_,_,_=>none
 |d+1,v1,v2,v3,v4=>
  Option.bind (v1.bJ[0]?) λv5=>
  Option.bind ((ml N d) v5 v2 v3 v4) λv6=>
  bif (v6.2.1 !=0)then
   some (v6.1,v6.1,v6.2.1,v6.2.2)
  else
   Option.bind (v1.bJ[1]?) λv7=>
   Option.bind ((ml N d) v7 v2 v3 v6.2.2) λv8=>
   Option.bind (bif (v8.2.1==0)then some (!((v6.1.fG.bg==v8.1.fG.bg)&&((v6.1.fG.bN==v8.1.fG.bN)&&((v6.1.fG.bM==v8.1.fG.bM)&&((v6.1.fG.cn==v8.1.fG.cn)&&((v6.1.fG.ck==v8.1.fG.ck)&&true))))))else some false) λv9=>
   bif v9 then
    Ef N v6 v8 (10:Int)
   else
    Ef N v6 v8 v8.2.1
def pY(N:Nat):Nat->aw->(aqP aJ)->(aqP aI)->(aqP (aqQ×aT))->aqR (fa×Int×(aqP (aqQ×aT)))
 |0,_,_,_,_=>none
 |d+1,v1,v2,v3,v4=>
  Option.bind (bif (v1.az==8)then some true else some (v1.az==12)) λv5=>
  bif v5 then
   Option.bind (v1.bJ[0]?) λv6=>
   Option.bind ((ml N d) v6 v2 v3 v4) λv7=>
   bif (v7.2.1 !=0)then
    some (v7.1,v7.2.1,v7.2.2)
   else
    bif (v1.az==12)then
     (MW N v7.1.fG v1.ax v7.1.iq).bind λv8=>
     some ((⟨v8.1,v1.ax⟩:fa),v8.2,v7.2.2)
    else
     Option.bind (xF N (8:Int) v7.1.fG v7.1.iq v7.1.iq) λv9=>
     some ((⟨v9.1,v7.1.fG⟩:fa),v9.2,v7.2.2)
  else
   Option.bind ((xw N d) v1 v2 v3 v4) λv10=>
   bif (v10.2.2.1 !=0)then
    some (zi,v10.2.2.1,v10.2.2.2)
   else
    (xF N v1.az v10.1.fG v10.1.iq v10.2.1.iq).bind λv11=>
    some ((⟨v11.1,v10.1.fG⟩:fa),v11.2,v10.2.2.2)
end
def Bl(N:Nat)(v1:aw)(v2:aqP aJ)(v3:aqP aI)(v4:aqP (aqQ×aT)):aqR (fa×Int×(aqP (aqQ×aT))):=ml N N v1 v2 v3 v4
theorem aia(N:Nat):∀d:Nat,(∀{v1:aw}{v2:aqP aJ}{v3:aqP aI}{v4:aqP (aqQ×aT)}{r:fa×Int×(aqP (aqQ×aT))},ml N d v1 v2 v3 v4=some r->KH 65 [(aP v1),(.ptr 0 0),(.ptr 1 0),(.ptr 2 0)] ([.cells [(.fn 68 [(.ptr 3 0),(.ptr 4 0)])], .cells [(.d (.sl (aW v2)))], .cells [(.ptr 5 0)], .cells [(.mp 6)], .cells [(.d (.sl (aZ v3)))], .cells [(.fn 65 [(.ptr 0 0),(.ptr 1 0),(.ptr 2 0)]),(.fn 63 [(.ptr 2 0)])], .map (cf bZ v4)]) (.bj [(dK r.1),(ar r.2.1)]) ([.cells [(.fn 68 [(.ptr 3 0),(.ptr 4 0)])], .cells [(.d (.sl (aW v2)))], .cells [(.ptr 5 0)], .cells [(.mp 6)], .cells [(.d (.sl (aZ v3)))], .cells [(.fn 65 [(.ptr 0 0),(.ptr 1 0),(.ptr 2 0)]),(.fn 63 [(.ptr 2 0)])], .map (cf bZ r.2.2)]))/\(∀{v1:aw}{v2:aqP aJ}{v3:aqP aI}{v4:aqP (aqQ×aT)}{r:Bool×Int×(aqP (aqQ×aT))},pw N d v1 v2 v3 v4=some r->KH 63 [(aP v1),(.ptr 0 0)] ([.cells [(.ptr 1 0)], .cells [(.fn 65 [(.ptr 2 0),(.ptr 3 0),(.ptr 0 0)]),(.fn 63 [(.ptr 0 0)])], .cells [(.fn 68 [(.ptr 4 0),(.ptr 5 0)])], .cells [(.d (.sl (aW v2)))], .cells [(.mp 6)], .cells [(.d (.sl (aZ v3)))], .map (cf bZ v4)]) (.bj [(aK r.1),(ar r.2.1)]) ([.cells [(.ptr 1 0)], .cells [(.fn 65 [(.ptr 2 0),(.ptr 3 0),(.ptr 0 0)]),(.fn 63 [(.ptr 0 0)])], .cells [(.fn 68 [(.ptr 4 0),(.ptr 5 0)])], .cells [(.d (.sl (aW v2)))], .cells [(.mp 6)], .cells [(.d (.sl (aZ v3)))], .map (cf bZ r.2.2)]))/\(∀{v1:aw}{v2:aqP aJ}{v3:aqP aI}{v4:aqP (aqQ×aT)}{r:Bool×Int×(aqP (aqQ×aT))},Dk N d v1 v2 v3 v4=some r->KH 64 [(.ptr 0 0),(aP v1)] ([.cells [(.fn 65 [(.ptr 1 0),(.ptr 2 0),(.ptr 3 0)]),(.fn 63 [(.ptr 3 0)])], .cells [(.fn 68 [(.ptr 4 0),(.ptr 5 0)])], .cells [(.d (.sl (aW v2)))], .cells [(.ptr 0 0)], .cells [(.mp 6)], .cells [(.d (.sl (aZ v3)))], .map (cf bZ v4)]) (.bj [(aK r.1),(ar r.2.1)]) ([.cells [(.fn 65 [(.ptr 1 0),(.ptr 2 0),(.ptr 3 0)]),(.fn 63 [(.ptr 3 0)])], .cells [(.fn 68 [(.ptr 4 0),(.ptr 5 0)])], .cells [(.d (.sl (aW v2)))], .cells [(.ptr 0 0)], .cells [(.mp 6)], .cells [(.d (.sl (aZ v3)))], .map (cf bZ r.2.2)]))/\(∀{v1:aw}{v2:aqP aJ}{v3:aqP aI}{v4:aqP (aqQ×aT)}{r:fa×fa×Int×(aqP (aqQ×aT))},xw N d v1 v2 v3 v4=some r->KH 110 [(.ptr 0 0),(aP v1)] ([.cells [(.fn 65 [(.ptr 1 0),(.ptr 2 0),(.ptr 3 0)]),(.fn 63 [(.ptr 3 0)])], .cells [(.fn 68 [(.ptr 4 0),(.ptr 5 0)])], .cells [(.d (.sl (aW v2)))], .cells [(.ptr 0 0)], .cells [(.mp 6)], .cells [(.d (.sl (aZ v3)))], .map (cf bZ v4)]) (.bj [(dK r.1),(dK r.2.1),(ar r.2.2.1)]) ([.cells [(.fn 65 [(.ptr 1 0),(.ptr 2 0),(.ptr 3 0)]),(.fn 63 [(.ptr 3 0)])], .cells [(.fn 68 [(.ptr 4 0),(.ptr 5 0)])], .cells [(.d (.sl (aW v2)))], .cells [(.ptr 0 0)], .cells [(.mp 6)], .cells [(.d (.sl (aZ v3)))], .map (cf bZ r.2.2.2)]))/\(∀{v1:aw}{v2:aqP aJ}{v3:aqP aI}{v4:aqP (aqQ×aT)}{r:fa×Int×(aqP (aqQ×aT))},pY N d v1 v2 v3 v4=some r->KH 67 [(.ptr 0 0),(aP v1)] ([.cells [(.fn 65 [(.ptr 1 0),(.ptr 2 0),(.ptr 3 0)]),(.fn 63 [(.ptr 3 0)])], .cells [(.fn 68 [(.ptr 4 0),(.ptr 5 0)])], .cells [(.d (.sl (aW v2)))], .cells [(.ptr 0 0)], .cells [(.mp 6)], .cells [(.d (.sl (aZ v3)))], .map (cf bZ v4)]) (.bj [(dK r.1),(ar r.2.1)]) ([.cells [(.fn 65 [(.ptr 1 0),(.ptr 2 0),(.ptr 3 0)]),(.fn 63 [(.ptr 3 0)])], .cells [(.fn 68 [(.ptr 4 0),(.ptr 5 0)])], .cells [(.d (.sl (aW v2)))], .cells [(.ptr 0 0)], .cells [(.mp 6)], .cells [(.d (.sl (aZ v3)))], .map (cf bZ r.2.2)])):=by
 intro d
 induction d with
 |zero=>exact⟨(by intro v1 v2 v3 v4 r U;rw[ml]at U;cases U),(by intro v1 v2 v3 v4 r U;rw[pw]at U;cases U),(by intro v1 v2 v3 v4 r U;rw[Dk]at U;cases U),(by intro v1 v2 v3 v4 r U;rw[xw]at U;cases U),(by intro v1 v2 v3 v4 r U;rw[pY]at U;cases U)⟩
 |succ d ih=>
  have vi:= @ih.1;have N2:= @ih.2.1;have aeD:= @ih.2.2.1;have acG:= @ih.2.2.2.1;have aii:= @ih.2.2.2.2;refine⟨?_,?_,?_,?_,?_⟩
  ·intro v1 v2 v3 v4 r U;rw[ml]at U;refine FG 7 Tryz.func65 ?_;refine G6 bA r 1 [[],[],[]] [1,2,3,4,5,10,11] 9 (λ(v5:Bool)=>⟨67,[(1,(.ptr 0 0)),(2,(.ptr 1 0)),(3,(.ptr 2 0)),(4,(.ptr 7 0)),(5,(.ptr 8 0)),(10,(ar v1.az)),(11,(aK v5))],[.cells [(.fn 68 [(.ptr 3 0),(.ptr 4 0)])], .cells [(.d (.sl (aW v2)))], .cells [(.ptr 5 0)], .cells [(.mp 6)], .cells [(.d (.sl (aZ v3)))], .cells [(.fn 65 [(.ptr 0 0),(.ptr 1 0),(.ptr 2 0)]),(.fn 63 [(.ptr 2 0)])], .map (cf bZ v4), .cells (aP v1).cells, .cells dA]⟩) (wW N v2 v1 v3 v4 (pw N d) (ml N d) (pY N d)) ?_ ?_
   ·intro f1 aU;apply bc U<;>intro cN U
    ·exact lJ bA aU (v1.az==1) [[(0,bT cN)]] U
    refine gw bA [[(0,bF cN)],[]] ?_;apply bc U<;>intro cS U
    ·exact lJ bA aU (v1.az==2) [[(0,bT cS)]] U
    exact lJ bA aU (v1.az==3) [[(0,bF cS)],[]] U
   intro v5 U;rw[wW]at U;apply bc U<;>intro J U
   ·obtain⟨v6,h2,U⟩:=bO U;cases U;exact nc bA [[(0,bT J)],[(10,oR [(.fn 68 [(.ptr 3 0),(.ptr 4 0)]),(.d (.sl (aW v2))),(aP v1)] [.cells [(.fn 68 [(.ptr 3 0),(.ptr 4 0)])], .cells [(.d (.sl (aW v2)))], .cells [(.ptr 5 0)], .cells [(.mp 6)], .cells [(.d (.sl (aZ v3)))], .cells [(.fn 65 [(.ptr 0 0),(.ptr 1 0),(.ptr 2 0)]),(.fn 63 [(.ptr 2 0)])], .map (cf bZ v4), .cells (aP v1).cells, .cells dA] [3,4,6] (alg _ h2))]]
   refine gw bA [[(0,bF J)],[]] ?_;apply bc U<;>intro h3 U
   ·refine gw bA [[(0,bT h3)]] ?_;obtain⟨v7,h4,v8,h5,U⟩:=zn U;refine Ba bA [(19,oE (k:=0) (nb h4)),(25,oR [(aP v7),(.ptr 2 0)] [.cells [(.fn 68 [(.ptr 3 0),(.ptr 4 0)])], .cells [(.d (.sl (aW v2)))], .cells [(.ptr 5 0)], .cells [(.mp 6)], .cells [(.d (.sl (aZ v3)))], .cells [(.fn 65 [(.ptr 0 0),(.ptr 1 0),(.ptr 2 0)]),(.fn 63 [(.ptr 2 0)])], .map (cf bZ v4), .cells (aP v1).cells, .cells dA] [2,5,0,1,3,4,6] (N2 h5))] [(7,(aK v8.1)),(8,(ar v8.2.1))] [.cells [(.fn 68 [(.ptr 3 0),(.ptr 4 0)])], .cells [(.d (.sl (aW v2)))], .cells [(.ptr 5 0)], .cells [(.mp 6)], .cells [(.d (.sl (aZ v3)))], .cells [(.fn 65 [(.ptr 0 0),(.ptr 1 0),(.ptr 2 0)]),(.fn 63 [(.ptr 2 0)])], .map (cf bZ v8.2.2), .cells (aP v1).cells, .cells dA] ?_;refine gw bA [[]] ?_;apply bc U<;>intro h6 U
    ·cases U;exact nc bA [[(0,bT h6)],[]]
    refine gw bA [[(0,bF h6)],[]] ?_;apply bc U<;>intro h7 U
    ·refine gw bA [[(0,bT h7)]] ?_;obtain⟨v9,h8,v10,h9,U⟩:=zn U;refine Ba bA [(19,oE (k:=1) (nb h8)),(25,oR [(aP v9),(.ptr 0 0),(.ptr 1 0),(.ptr 2 0)] [.cells [(.fn 68 [(.ptr 3 0),(.ptr 4 0)])], .cells [(.d (.sl (aW v2)))], .cells [(.ptr 5 0)], .cells [(.mp 6)], .cells [(.d (.sl (aZ v3)))], .cells [(.fn 65 [(.ptr 0 0),(.ptr 1 0),(.ptr 2 0)]),(.fn 63 [(.ptr 2 0)])], .map (cf bZ v8.2.2), .cells (aP v1).cells, .cells dA] [0,1,2,3,4,5,6] (vi h9))] [(6,(ar v10.2.1))] [.cells [(.fn 68 [(.ptr 3 0),(.ptr 4 0)])], .cells [(.d (.sl (aW v2)))], .cells [(.ptr 5 0)], .cells [(.mp 6)], .cells [(.d (.sl (aZ v3)))], .cells [(.fn 65 [(.ptr 0 0),(.ptr 1 0),(.ptr 2 0)]),(.fn 63 [(.ptr 2 0)])], .map (cf bZ v10.2.2), .cells (aP v1).cells, .cells (dK v10.1).cells] ?_;cases U;exact nc bA []
    refine gw bA [[(0,bF h7)]] ?_;obtain⟨v11,bE,v12,bD,U⟩:=zn U;refine Ba bA [(19,oE (k:=2) (nb bE)),(25,oR [(aP v11),(.ptr 0 0),(.ptr 1 0),(.ptr 2 0)] [.cells [(.fn 68 [(.ptr 3 0),(.ptr 4 0)])], .cells [(.d (.sl (aW v2)))], .cells [(.ptr 5 0)], .cells [(.mp 6)], .cells [(.d (.sl (aZ v3)))], .cells [(.fn 65 [(.ptr 0 0),(.ptr 1 0),(.ptr 2 0)]),(.fn 63 [(.ptr 2 0)])], .map (cf bZ v8.2.2), .cells (aP v1).cells, .cells dA] [0,1,2,3,4,5,6] (vi bD))] [(6,(ar v12.2.1))] [.cells [(.fn 68 [(.ptr 3 0),(.ptr 4 0)])], .cells [(.d (.sl (aW v2)))], .cells [(.ptr 5 0)], .cells [(.mp 6)], .cells [(.d (.sl (aZ v3)))], .cells [(.fn 65 [(.ptr 0 0),(.ptr 1 0),(.ptr 2 0)]),(.fn 63 [(.ptr 2 0)])], .map (cf bZ v12.2.2), .cells (aP v1).cells, .cells (dK v12.1).cells] ?_;cases U;exact nc bA []
   obtain⟨aL,bw,U⟩:=bO U;cases U;exact nc bA [[(0,bF h3)],[(7,oR [(.ptr 5 0),(aP v1)] [.cells [(.fn 68 [(.ptr 3 0),(.ptr 4 0)])], .cells [(.d (.sl (aW v2)))], .cells [(.ptr 5 0)], .cells [(.mp 6)], .cells [(.d (.sl (aZ v3)))], .cells [(.fn 65 [(.ptr 0 0),(.ptr 1 0),(.ptr 2 0)]),(.fn 63 [(.ptr 2 0)])], .map (cf bZ v4), .cells (aP v1).cells, .cells dA] [5,0,1,2,3,4,6] (aii bw))]]
  ·intro v1 v2 v3 v4 r U;rw[pw]at U;refine FG 7 Tryz.func63 ?_;obtain⟨v5,J,U⟩:=bO U;cases U;exact nc bA [[],[(7,oR [(.ptr 1 0),(aP v1)] [.cells [(.ptr 1 0)], .cells [(.fn 65 [(.ptr 2 0),(.ptr 3 0),(.ptr 0 0)]),(.fn 63 [(.ptr 0 0)])], .cells [(.fn 68 [(.ptr 4 0),(.ptr 5 0)])], .cells [(.d (.sl (aW v2)))], .cells [(.mp 6)], .cells [(.d (.sl (aZ v3)))], .map (cf bZ v4), .cells (aP v1).cells] [1,2,3,0,4,5,6] (aeD J))]]
  ·intro v1 v2 v3 v4 r U;rw[Dk]at U;refine FG 7 Tryz.func64 ?_;refine gw bA [[],[]] ?_;apply bc U<;>intro J U
   ·obtain⟨v5,h2,U⟩:=bO U;refine gw bA [[(0,bT J)],[(7,oR [(.ptr 0 0),(aP v1)] [.cells [(.fn 65 [(.ptr 1 0),(.ptr 2 0),(.ptr 3 0)]),(.fn 63 [(.ptr 3 0)])], .cells [(.fn 68 [(.ptr 4 0),(.ptr 5 0)])], .cells [(.d (.sl (aW v2)))], .cells [(.ptr 0 0)], .cells [(.mp 6)], .cells [(.d (.sl (aZ v3)))], .map (cf bZ v4), .cells (aP v1).cells] [0,1,2,3,4,5,6] (acG h2))],[]] ?_;apply bc U<;>intro h3 U
    ·cases U;exact nc bA [[(0,bT h3)],[]]
    obtain⟨v6,h4,v7,h5,U⟩:=zn U;cases U;exact nc bA [[(0,bF h3)],[(25,cK Vt h4),(28,cK aej h5)]]
   refine gw bA [[(0,bF J)]] ?_;obtain⟨v8,h6,v9,h7,U⟩:=zn U;refine Ba bA [(19,oE (k:=0) (nb h6)),(25,oR [(aP v8),(.ptr 3 0)] [.cells [(.fn 65 [(.ptr 1 0),(.ptr 2 0),(.ptr 3 0)]),(.fn 63 [(.ptr 3 0)])], .cells [(.fn 68 [(.ptr 4 0),(.ptr 5 0)])], .cells [(.d (.sl (aW v2)))], .cells [(.ptr 0 0)], .cells [(.mp 6)], .cells [(.d (.sl (aZ v3)))], .map (cf bZ v4), .cells (aP v1).cells] [3,0,1,2,4,5,6] (N2 h7))] [(9,(aK v9.1)),(10,(ar v9.2.1))] [.cells [(.fn 65 [(.ptr 1 0),(.ptr 2 0),(.ptr 3 0)]),(.fn 63 [(.ptr 3 0)])], .cells [(.fn 68 [(.ptr 4 0),(.ptr 5 0)])], .cells [(.d (.sl (aW v2)))], .cells [(.ptr 0 0)], .cells [(.mp 6)], .cells [(.d (.sl (aZ v3)))], .map (cf bZ v9.2.2), .cells (aP v1).cells] ?_;obtain⟨v10,h9,U⟩:=bO U;refine rH bA [(53,(aK v10))] [.cells [(.fn 65 [(.ptr 1 0),(.ptr 2 0),(.ptr 3 0)]),(.fn 63 [(.ptr 3 0)])], .cells [(.fn 68 [(.ptr 4 0),(.ptr 5 0)])], .cells [(.d (.sl (aW v2)))], .cells [(.ptr 0 0)], .cells [(.mp 6)], .cells [(.d (.sl (aZ v3)))], .map (cf bZ v9.2.2), .cells (aP v1).cells] ?_ ?_
   ·apply bc h9<;>intro h8 h9
    ·cases h9;exact jb [(2,bT h8)] []
    cases h9;exact jb [(2,bF h8)] []
   apply bc U<;>intro bE U
   ·refine gw bA [[(0,bT bE)]] ?_;obtain⟨v11,bw,U⟩:=bO U;refine rH bA [(4,(aK v11)),(5,(ar v9.2.1))] [.cells [(.fn 65 [(.ptr 1 0),(.ptr 2 0),(.ptr 3 0)]),(.fn 63 [(.ptr 3 0)])], .cells [(.fn 68 [(.ptr 4 0),(.ptr 5 0)])], .cells [(.d (.sl (aW v2)))], .cells [(.ptr 0 0)], .cells [(.mp 6)], .cells [(.d (.sl (aZ v3)))], .map (cf bZ v9.2.2), .cells (aP v1).cells] ?_ ?_
    ·apply bc bw<;>intro bD bw
     ·cases bw;exact jb [(2,bT bD)] []
     cases bw;exact jb [(2,bF bD)] []
    cases U;exact nc bA []
   refine gw bA [[(0,bF bE)]] ?_;obtain⟨v12,cN,aL,cS,U⟩:=zn U;refine Ba bA [(19,oE (k:=1) (nb cN)),(25,oR [(aP v12),(.ptr 3 0)] [.cells [(.fn 65 [(.ptr 1 0),(.ptr 2 0),(.ptr 3 0)]),(.fn 63 [(.ptr 3 0)])], .cells [(.fn 68 [(.ptr 4 0),(.ptr 5 0)])], .cells [(.d (.sl (aW v2)))], .cells [(.ptr 0 0)], .cells [(.mp 6)], .cells [(.d (.sl (aZ v3)))], .map (cf bZ v9.2.2), .cells (aP v1).cells] [3,0,1,2,4,5,6] (N2 cS))] [(11,(aK aL.1)),(10,(ar aL.2.1))] [.cells [(.fn 65 [(.ptr 1 0),(.ptr 2 0),(.ptr 3 0)]),(.fn 63 [(.ptr 3 0)])], .cells [(.fn 68 [(.ptr 4 0),(.ptr 5 0)])], .cells [(.d (.sl (aW v2)))], .cells [(.ptr 0 0)], .cells [(.mp 6)], .cells [(.d (.sl (aZ v3)))], .map (cf bZ aL.2.2), .cells (aP v1).cells] ?_;refine gw bA [[]] ?_;apply bc U<;>intro cH U
   ·cases U;exact nc bA [[(0,bT cH)],[]]
   refine gw bA [[(0,bF cH)],[]] ?_;apply bc U<;>intro cM U
   ·refine gw bA [[(0,bT cM)]] ?_;obtain⟨aQ,fR,U⟩:=bO U;refine rH bA [(4,(aK aQ)),(5,(ar (0:Int)))] [.cells [(.fn 65 [(.ptr 1 0),(.ptr 2 0),(.ptr 3 0)]),(.fn 63 [(.ptr 3 0)])], .cells [(.fn 68 [(.ptr 4 0),(.ptr 5 0)])], .cells [(.d (.sl (aW v2)))], .cells [(.ptr 0 0)], .cells [(.mp 6)], .cells [(.d (.sl (aZ v3)))], .map (cf bZ aL.2.2), .cells (aP v1).cells] ?_ ?_
    ·apply bc fR<;>intro eH fR
     ·cases fR;exact jb [(1,bT eH)] []
     cases fR;exact jb [(1,bF eH)] []
    cases U;exact nc bA []
   refine gw bA [[(0,bF cM)]] ?_;obtain⟨bu,gY,U⟩:=bO U;refine rH bA [(4,(aK bu)),(5,(ar (0:Int)))] [.cells [(.fn 65 [(.ptr 1 0),(.ptr 2 0),(.ptr 3 0)]),(.fn 63 [(.ptr 3 0)])], .cells [(.fn 68 [(.ptr 4 0),(.ptr 5 0)])], .cells [(.d (.sl (aW v2)))], .cells [(.ptr 0 0)], .cells [(.mp 6)], .cells [(.d (.sl (aZ v3)))], .map (cf bZ aL.2.2), .cells (aP v1).cells] ?_ ?_
   ·apply bc gY<;>intro fj gY
    ·cases gY;exact jb [(1,bT fj)] []
    cases gY;exact jb [(1,bF fj)] []
   cases U;exact nc bA []
  ·intro v1 v2 v3 v4 r U;rw[xw]at U;refine rK 7 Tryz.func110 rfl (by kernel_rfl) (ap9 rfl) ?_;refine mz (s':=⟨51,[(0,(.ptr 0 0)),(1,(aP v1))],[.cells [(.fn 65 [(.ptr 1 0),(.ptr 2 0),(.ptr 3 0)]),(.fn 63 [(.ptr 3 0)])], .cells [(.fn 68 [(.ptr 4 0),(.ptr 5 0)])], .cells [(.d (.sl (aW v2)))], .cells [(.ptr 0 0)], .cells [(.mp 6)], .cells [(.d (.sl (aZ v3)))], .map (cf bZ v4)]⟩) (by kernel_rfl) ?_;refine aD ?_;refine rg [] [(3,(.ptr 7 0)),(4,(.ptr 8 0)),(5,(.ptr 9 0))] [.cells [(.fn 65 [(.ptr 1 0),(.ptr 2 0),(.ptr 3 0)]),(.fn 63 [(.ptr 3 0)])], .cells [(.fn 68 [(.ptr 4 0),(.ptr 5 0)])], .cells [(.d (.sl (aW v2)))], .cells [(.ptr 0 0)], .cells [(.mp 6)], .cells [(.d (.sl (aZ v3)))], .map (cf bZ v4), .cells (aP v1).cells, .cells dA, .cells dA] (by kernel_rfl) ?_;refine aD ?_;obtain⟨v5,J,v6,h2,U⟩:=zn U;refine ro 2 bA (.node 0 [] (.node 1 [] (.node 2 [] (.node 3 [] (.node 4 [] (.node 5 [] (.node 6 [(19,oE (k:=0) (nb J))] (.node 7 [] (.node 8 [(25,oR [(aP v5),(.ptr 1 0),(.ptr 2 0),(.ptr 3 0)] [.cells [(.fn 65 [(.ptr 1 0),(.ptr 2 0),(.ptr 3 0)]),(.fn 63 [(.ptr 3 0)])], .cells [(.fn 68 [(.ptr 4 0),(.ptr 5 0)])], .cells [(.d (.sl (aW v2)))], .cells [(.ptr 0 0)], .cells [(.mp 6)], .cells [(.d (.sl (aZ v3)))], .map (cf bZ v4), .cells (aP v1).cells, .cells dA, .cells dA] [1,2,3,4,5,0,6] (vi h2))] (.node 9 [] (.node 10 [] (.node 11 [] (.node 12 [] (.node 13 [] (.node 14 [] .nil .nil) .nil) .nil) .nil) .nil) .nil) (.node 12 [] (.node 8 [(25,oR [(aP v5),(.ptr 1 0),(.ptr 2 0),(.ptr 3 0)] [.cells [(.fn 65 [(.ptr 1 0),(.ptr 2 0),(.ptr 3 0)]),(.fn 63 [(.ptr 3 0)])], .cells [(.fn 68 [(.ptr 4 0),(.ptr 5 0)])], .cells [(.d (.sl (aW v2)))], .cells [(.ptr 0 0)], .cells [(.mp 6)], .cells [(.d (.sl (aZ v3)))], .map (cf bZ v4), .cells (aP v1).cells, .cells dA, .cells dA, .cells dA] [1,2,3,4,5,0,6] (vi h2))] (.node 9 [] (.node 10 [] (.node 11 [] (.node 13 [] (.node 14 [] .nil .nil) .nil) .nil) .nil) .nil) .nil) .nil)) .nil) .nil) .nil) .nil) .nil) .nil) .nil) .nil) [(7,(.ptr 10 0)),(8,(ar v6.2.1))] [.cells [(.fn 65 [(.ptr 1 0),(.ptr 2 0),(.ptr 3 0)]),(.fn 63 [(.ptr 3 0)])], .cells [(.fn 68 [(.ptr 4 0),(.ptr 5 0)])], .cells [(.d (.sl (aW v2)))], .cells [(.ptr 0 0)], .cells [(.mp 6)], .cells [(.d (.sl (aZ v3)))], .map (cf bZ v6.2.2), .cells (aP v1).cells, .cells dA, .cells dA, .cells (dK v6.1).cells] (by kernel_rfl) ?_
   refine aD ?_;refine aD ?_;refine rg [] [(23,(aK (v6.2.1 !=0)))] [.cells [(.fn 65 [(.ptr 1 0),(.ptr 2 0),(.ptr 3 0)]),(.fn 63 [(.ptr 3 0)])], .cells [(.fn 68 [(.ptr 4 0),(.ptr 5 0)])], .cells [(.d (.sl (aW v2)))], .cells [(.ptr 0 0)], .cells [(.mp 6)], .cells [(.d (.sl (aZ v3)))], .map (cf bZ v6.2.2), .cells (aP v1).cells, .cells dA, .cells dA, .cells (dK v6.1).cells] (by kernel_rfl) ?_;rcases eC (v6.2.1 !=0)with h3|h3
   ·replace U:=(dx h3).symm.trans U;refine eW (t:=(v6.2.1 !=0)) (by kernel_rfl) h3 ?_;refine aD ?_;refine rt 2 bA [] [(6,(ar v6.2.1))] [.cells [(.fn 65 [(.ptr 1 0),(.ptr 2 0),(.ptr 3 0)]),(.fn 63 [(.ptr 3 0)])], .cells [(.fn 68 [(.ptr 4 0),(.ptr 5 0)])], .cells [(.d (.sl (aW v2)))], .cells [(.ptr 0 0)], .cells [(.mp 6)], .cells [(.d (.sl (aZ v3)))], .map (cf bZ v6.2.2), .cells (aP v1).cells, .cells (dK v6.1).cells, .cells (dK v6.1).cells, .cells (dK v6.1).cells] (by kernel_rfl) ?_;refine c8 (dg ?_);have hr:=aqk U;subst hr;exact jA (by kernel_rfl)
   replace U:=(eF h3).symm.trans U;refine eP (t:=(v6.2.1 !=0)) (by kernel_rfl) h3 ?_;refine dI ?_;refine bK ?_;refine aD ?_;obtain⟨v7,h4,v8,h5,U⟩:=zn U;refine ro 2 bA (.node 0 [] (.node 1 [] (.node 2 [] (.node 3 [] (.node 4 [] (.node 5 [] (.node 6 [(19,oE (k:=1) (nb h4))] (.node 7 [] (.node 8 [(25,oR [(aP v7),(.ptr 1 0),(.ptr 2 0),(.ptr 3 0)] [.cells [(.fn 65 [(.ptr 1 0),(.ptr 2 0),(.ptr 3 0)]),(.fn 63 [(.ptr 3 0)])], .cells [(.fn 68 [(.ptr 4 0),(.ptr 5 0)])], .cells [(.d (.sl (aW v2)))], .cells [(.ptr 0 0)], .cells [(.mp 6)], .cells [(.d (.sl (aZ v3)))], .map (cf bZ v6.2.2), .cells (aP v1).cells, .cells dA, .cells dA, .cells (dK v6.1).cells] [1,2,3,4,5,0,6] (vi h5))] (.node 9 [] (.node 10 [] (.node 11 [] (.node 12 [] (.node 13 [] (.node 14 [] .nil .nil) .nil) .nil) .nil) .nil) .nil) (.node 12 [] (.node 8 [(25,oR [(aP v7),(.ptr 1 0),(.ptr 2 0),(.ptr 3 0)] [.cells [(.fn 65 [(.ptr 1 0),(.ptr 2 0),(.ptr 3 0)]),(.fn 63 [(.ptr 3 0)])], .cells [(.fn 68 [(.ptr 4 0),(.ptr 5 0)])], .cells [(.d (.sl (aW v2)))], .cells [(.ptr 0 0)], .cells [(.mp 6)], .cells [(.d (.sl (aZ v3)))], .map (cf bZ v6.2.2), .cells (aP v1).cells, .cells dA, .cells dA, .cells (dK v6.1).cells, .cells dA] [1,2,3,4,5,0,6] (vi h5))] (.node 9 [] (.node 10 [] (.node 11 [] (.node 13 [] (.node 14 [] .nil .nil) .nil) .nil) .nil) .nil) .nil) .nil)) .nil) .nil) .nil) .nil) .nil) .nil) .nil) .nil) [(9,(.ptr 11 0)),(8,(ar v8.2.1))] [.cells [(.fn 65 [(.ptr 1 0),(.ptr 2 0),(.ptr 3 0)]),(.fn 63 [(.ptr 3 0)])], .cells [(.fn 68 [(.ptr 4 0),(.ptr 5 0)])], .cells [(.d (.sl (aW v2)))], .cells [(.ptr 0 0)], .cells [(.mp 6)], .cells [(.d (.sl (aZ v3)))], .map (cf bZ v8.2.2), .cells (aP v1).cells, .cells dA, .cells dA, .cells (dK v6.1).cells, .cells (dK v8.1).cells] (by kernel_rfl) ?_
   refine aD ?_;refine aD ?_;obtain⟨v9,h7,U⟩:=bO U;refine A1 [(47,(aK v9))] [.cells [(.fn 65 [(.ptr 1 0),(.ptr 2 0),(.ptr 3 0)]),(.fn 63 [(.ptr 3 0)])], .cells [(.fn 68 [(.ptr 4 0),(.ptr 5 0)])], .cells [(.d (.sl (aW v2)))], .cells [(.ptr 0 0)], .cells [(.mp 6)], .cells [(.d (.sl (aZ v3)))], .map (cf bZ v8.2.2), .cells (aP v1).cells, .cells dA, .cells dA, .cells (dK v6.1).cells, .cells (dK v8.1).cells] ?_ ?_
   ·rcases eC (v8.2.1==0)with h6|h6
    ·replace h7:=(dx h6).symm.trans h7;have he:=aqk h7;subst he;exact⟨[(9,bT h6),(12,bT h6),(15,bT h6),(18,bT h6),(21,bT h6),(25,bT h6)],by kernel_rfl⟩
    replace h7:=(eF h6).symm.trans h7;have he:=aqk h7;subst he;exact⟨[(9,bF h6),(12,bF h6),(15,bF h6),(18,bF h6),(21,bF h6),(25,bF h6)],by kernel_rfl⟩
   refine GX [4,5,7,8,9] 12 (λ(v10:Int)=>⟨51,[(4,(.ptr 8 0)),(5,(.ptr 9 0)),(7,(.ptr 10 0)),(8,(ar v10)),(9,(.ptr 11 0))],[.cells [(.fn 65 [(.ptr 1 0),(.ptr 2 0),(.ptr 3 0)]),(.fn 63 [(.ptr 3 0)])], .cells [(.fn 68 [(.ptr 4 0),(.ptr 5 0)])], .cells [(.d (.sl (aW v2)))], .cells [(.ptr 0 0)], .cells [(.mp 6)], .cells [(.d (.sl (aZ v3)))], .map (cf bZ v8.2.2), .cells (aP v1).cells, .cells dA, .cells dA, .cells (dK v6.1).cells, .cells (dK v8.1).cells]⟩) (λ(v10:Int)=>Ef N v6 v8 v10=some r) (ap9 rfl) ?_ ?_
   ·rcases eC v9 with h8|h8
    ·replace U:=(dx h8).symm.trans U;refine eW (t:=v9) (by kernel_rfl) h8 ?_;refine re [] [(8,(ar (10:Int)))] [.cells [(.fn 65 [(.ptr 1 0),(.ptr 2 0),(.ptr 3 0)]),(.fn 63 [(.ptr 3 0)])], .cells [(.fn 68 [(.ptr 4 0),(.ptr 5 0)])], .cells [(.d (.sl (aW v2)))], .cells [(.ptr 0 0)], .cells [(.mp 6)], .cells [(.d (.sl (aZ v3)))], .map (cf bZ v8.2.2), .cells (aP v1).cells, .cells dA, .cells dA, .cells (dK v6.1).cells, .cells (dK v8.1).cells] (by kernel_rfl) ?_;refine bK ?_;exact⟨(10:Int),by kernel_rfl,U⟩
    replace U:=(eF h8).symm.trans U;refine eP (t:=v9) (by kernel_rfl) h8 ?_;refine dI ?_;refine bK ?_;exact⟨v8.2.1,by kernel_rfl,U⟩
   rintro v10 U
   try dsimp only at U
   rw[Ef]at U;refine aD ?_;refine rt 2 bA [] [(6,(ar v10))] [.cells [(.fn 65 [(.ptr 1 0),(.ptr 2 0),(.ptr 3 0)]),(.fn 63 [(.ptr 3 0)])], .cells [(.fn 68 [(.ptr 4 0),(.ptr 5 0)])], .cells [(.d (.sl (aW v2)))], .cells [(.ptr 0 0)], .cells [(.mp 6)], .cells [(.d (.sl (aZ v3)))], .map (cf bZ v8.2.2), .cells (aP v1).cells, .cells (dK v6.1).cells, .cells (dK v8.1).cells, .cells (dK v6.1).cells, .cells (dK v8.1).cells] (by kernel_rfl) ?_;refine c8 ?_;have hr:=aqk U;subst hr;exact jA (by kernel_rfl)
  intro v1 v2 v3 v4 r U;rw[pY]at U;refine rK 7 Tryz.func67 rfl (by kernel_rfl) (ap9 rfl) ?_;refine mz (s':=⟨100,[(0,(.ptr 0 0)),(1,(aP v1))],[.cells [(.fn 65 [(.ptr 1 0),(.ptr 2 0),(.ptr 3 0)]),(.fn 63 [(.ptr 3 0)])], .cells [(.fn 68 [(.ptr 4 0),(.ptr 5 0)])], .cells [(.d (.sl (aW v2)))], .cells [(.ptr 0 0)], .cells [(.mp 6)], .cells [(.d (.sl (aZ v3)))], .map (cf bZ v4)]⟩) (by kernel_rfl) ?_;refine aD ?_;refine rg [] [(3,(.ptr 7 0)),(4,(.ptr 8 0))] [.cells [(.fn 65 [(.ptr 1 0),(.ptr 2 0),(.ptr 3 0)]),(.fn 63 [(.ptr 3 0)])], .cells [(.fn 68 [(.ptr 4 0),(.ptr 5 0)])], .cells [(.d (.sl (aW v2)))], .cells [(.ptr 0 0)], .cells [(.mp 6)], .cells [(.d (.sl (aZ v3)))], .map (cf bZ v4), .cells (aP v1).cells, .cells dA] (by kernel_rfl) ?_;refine aD ?_;refine aD ?_;obtain⟨v5,h2,U⟩:=bO U;refine A1 [(22,(aK v5))] [.cells [(.fn 65 [(.ptr 1 0),(.ptr 2 0),(.ptr 3 0)]),(.fn 63 [(.ptr 3 0)])], .cells [(.fn 68 [(.ptr 4 0),(.ptr 5 0)])], .cells [(.d (.sl (aW v2)))], .cells [(.ptr 0 0)], .cells [(.mp 6)], .cells [(.d (.sl (aZ v3)))], .map (cf bZ v4), .cells (aP v1).cells, .cells dA] ?_ ?_
  ·rcases eC (v1.az==8)with J|J
   ·replace h2:=(dx J).symm.trans h2;have he:=aqk h2;subst he;exact⟨[(12,bT J),(15,bT J),(18,bT J),(22,bT J)],by kernel_rfl⟩
   replace h2:=(eF J).symm.trans h2;have he:=aqk h2;subst he;exact⟨[(12,bF J),(15,bF J),(18,bF J),(22,bF J)],by kernel_rfl⟩
  rcases eC v5 with h3|h3
  ·replace U:=(dx h3).symm.trans U;refine eW (t:=v5) (by kernel_rfl) h3 ?_;refine aD ?_;obtain⟨v6,h4,v7,h5,U⟩:=zn U;refine ro 2 bA (.node 0 [] (.node 1 [] (.node 2 [] (.node 3 [] (.node 4 [] (.node 5 [] (.node 6 [(19,oE (k:=0) (nb h4))] (.node 7 [] (.node 8 [(25,oR [(aP v6),(.ptr 1 0),(.ptr 2 0),(.ptr 3 0)] [.cells [(.fn 65 [(.ptr 1 0),(.ptr 2 0),(.ptr 3 0)]),(.fn 63 [(.ptr 3 0)])], .cells [(.fn 68 [(.ptr 4 0),(.ptr 5 0)])], .cells [(.d (.sl (aW v2)))], .cells [(.ptr 0 0)], .cells [(.mp 6)], .cells [(.d (.sl (aZ v3)))], .map (cf bZ v4), .cells (aP v1).cells, .cells dA] [1,2,3,4,5,0,6] (vi h5))] (.node 9 [] (.node 10 [] (.node 11 [] (.node 12 [] (.node 13 [] (.node 14 [] .nil .nil) .nil) .nil) .nil) .nil) .nil) (.node 12 [] (.node 8 [(25,oR [(aP v6),(.ptr 1 0),(.ptr 2 0),(.ptr 3 0)] [.cells [(.fn 65 [(.ptr 1 0),(.ptr 2 0),(.ptr 3 0)]),(.fn 63 [(.ptr 3 0)])], .cells [(.fn 68 [(.ptr 4 0),(.ptr 5 0)])], .cells [(.d (.sl (aW v2)))], .cells [(.ptr 0 0)], .cells [(.mp 6)], .cells [(.d (.sl (aZ v3)))], .map (cf bZ v4), .cells (aP v1).cells, .cells dA, .cells dA] [1,2,3,4,5,0,6] (vi h5))] (.node 9 [] (.node 10 [] (.node 11 [] (.node 13 [] (.node 14 [] .nil .nil) .nil) .nil) .nil) .nil) .nil) .nil)) .nil) .nil) .nil) .nil) .nil) .nil) .nil) .nil) [(6,(.ptr 9 0)),(7,(ar v7.2.1))] [.cells [(.fn 65 [(.ptr 1 0),(.ptr 2 0),(.ptr 3 0)]),(.fn 63 [(.ptr 3 0)])], .cells [(.fn 68 [(.ptr 4 0),(.ptr 5 0)])], .cells [(.d (.sl (aW v2)))], .cells [(.ptr 0 0)], .cells [(.mp 6)], .cells [(.d (.sl (aZ v3)))], .map (cf bZ v7.2.2), .cells (aP v1).cells, .cells dA, .cells (dK v7.1).cells] (by kernel_rfl) ?_
   refine aD ?_;refine aD ?_;refine rg [] [(36,(aK (v7.2.1 !=0)))] [.cells [(.fn 65 [(.ptr 1 0),(.ptr 2 0),(.ptr 3 0)]),(.fn 63 [(.ptr 3 0)])], .cells [(.fn 68 [(.ptr 4 0),(.ptr 5 0)])], .cells [(.d (.sl (aW v2)))], .cells [(.ptr 0 0)], .cells [(.mp 6)], .cells [(.d (.sl (aZ v3)))], .map (cf bZ v7.2.2), .cells (aP v1).cells, .cells dA, .cells (dK v7.1).cells] (by kernel_rfl) ?_;rcases eC (v7.2.1 !=0)with h6|h6
   ·replace U:=(dx h6).symm.trans U;refine eW (t:=(v7.2.1 !=0)) (by kernel_rfl) h6 ?_;refine aD ?_;refine rg [] [(5,(ar v7.2.1))] [.cells [(.fn 65 [(.ptr 1 0),(.ptr 2 0),(.ptr 3 0)]),(.fn 63 [(.ptr 3 0)])], .cells [(.fn 68 [(.ptr 4 0),(.ptr 5 0)])], .cells [(.d (.sl (aW v2)))], .cells [(.ptr 0 0)], .cells [(.mp 6)], .cells [(.d (.sl (aZ v3)))], .map (cf bZ v7.2.2), .cells (aP v1).cells, .cells (dK v7.1).cells, .cells (dK v7.1).cells] (by kernel_rfl) ?_;refine c8 (dg (dg ?_));have hr:=aqk U;subst hr;exact jA (by kernel_rfl)
   replace U:=(eF h6).symm.trans U;refine eP (t:=(v7.2.1 !=0)) (by kernel_rfl) h6 ?_;refine dI ?_;refine bK ?_;refine aD ?_;refine aD ?_;refine rg [] [(41,(aK (v1.az==12)))] [.cells [(.fn 65 [(.ptr 1 0),(.ptr 2 0),(.ptr 3 0)]),(.fn 63 [(.ptr 3 0)])], .cells [(.fn 68 [(.ptr 4 0),(.ptr 5 0)])], .cells [(.d (.sl (aW v2)))], .cells [(.ptr 0 0)], .cells [(.mp 6)], .cells [(.d (.sl (aZ v3)))], .map (cf bZ v7.2.2), .cells (aP v1).cells, .cells dA, .cells (dK v7.1).cells] (by kernel_rfl) ?_;rcases eC (v1.az==12)with h7|h7
   ·replace U:=(dx h7).symm.trans U;refine eW (t:=(v1.az==12)) (by kernel_rfl) h7 ?_;refine aD ?_;obtain⟨v8,h8,U⟩:=bO U;refine rg [(19,cK ajS h8)] [(8,(.ptr 10 0)),(9,(ar v8.2))] [.cells [(.fn 65 [(.ptr 1 0),(.ptr 2 0),(.ptr 3 0)]),(.fn 63 [(.ptr 3 0)])], .cells [(.fn 68 [(.ptr 4 0),(.ptr 5 0)])], .cells [(.d (.sl (aW v2)))], .cells [(.ptr 0 0)], .cells [(.mp 6)], .cells [(.d (.sl (aZ v3)))], .map (cf bZ v7.2.2), .cells (aP v1).cells, .cells dA, .cells (dK v7.1).cells, .cells (bq v8.1).cells] (by kernel_rfl) ?_;refine aD ?_;refine rg [] [(5,(ar v8.2))] [.cells [(.fn 65 [(.ptr 1 0),(.ptr 2 0),(.ptr 3 0)]),(.fn 63 [(.ptr 3 0)])], .cells [(.fn 68 [(.ptr 4 0),(.ptr 5 0)])], .cells [(.d (.sl (aW v2)))], .cells [(.ptr 0 0)], .cells [(.mp 6)], .cells [(.d (.sl (aZ v3)))], .map (cf bZ v7.2.2), .cells (aP v1).cells, .cells [(bC v8.1.xN),(bC v8.1.xD),(ar v1.ax.bg),(ar v1.ax.bN),(ar v1.ax.bM),(ar v1.ax.cn),(ar v1.ax.ck)], .cells (dK v7.1).cells, .cells (bq v8.1).cells] (by kernel_rfl) ?_;refine c8 (dg (dg ?_));have hr:=aqk U;subst hr;exact jA (by kernel_rfl)
   replace U:=(eF h7).symm.trans U;refine eP (t:=(v1.az==12)) (by kernel_rfl) h7 ?_;refine dI ?_;refine bK ?_;refine aD ?_;obtain⟨v9,h9,U⟩:=bO U;refine rg [(19,cK Sm h9)] [(10,(.ptr 10 0)),(7,(ar v9.2))] [.cells [(.fn 65 [(.ptr 1 0),(.ptr 2 0),(.ptr 3 0)]),(.fn 63 [(.ptr 3 0)])], .cells [(.fn 68 [(.ptr 4 0),(.ptr 5 0)])], .cells [(.d (.sl (aW v2)))], .cells [(.ptr 0 0)], .cells [(.mp 6)], .cells [(.d (.sl (aZ v3)))], .map (cf bZ v7.2.2), .cells (aP v1).cells, .cells dA, .cells (dK v7.1).cells, .cells (bq v9.1).cells] (by kernel_rfl) ?_;refine aD ?_;refine rg [] [(5,(ar v9.2))] [.cells [(.fn 65 [(.ptr 1 0),(.ptr 2 0),(.ptr 3 0)]),(.fn 63 [(.ptr 3 0)])], .cells [(.fn 68 [(.ptr 4 0),(.ptr 5 0)])], .cells [(.d (.sl (aW v2)))], .cells [(.ptr 0 0)], .cells [(.mp 6)], .cells [(.d (.sl (aZ v3)))], .map (cf bZ v7.2.2), .cells (aP v1).cells, .cells ((bC v9.1.xN)::(bC v9.1.xD)::cf1 v7.1 []), .cells (dK v7.1).cells, .cells (bq v9.1).cells] (by kernel_rfl) ?_;refine c8 (dg ?_);have hr:=aqk U;subst hr;exact jA (by kernel_rfl)
  replace U:=(eF h3).symm.trans U;refine eP (t:=v5) (by kernel_rfl) h3 ?_;refine dI ?_;refine bK ?_;refine aD ?_;obtain⟨v10,bE,U⟩:=bO U;refine rg [(7,oR [(.ptr 0 0),(aP v1)] [.cells [(.fn 65 [(.ptr 1 0),(.ptr 2 0),(.ptr 3 0)]),(.fn 63 [(.ptr 3 0)])], .cells [(.fn 68 [(.ptr 4 0),(.ptr 5 0)])], .cells [(.d (.sl (aW v2)))], .cells [(.ptr 0 0)], .cells [(.mp 6)], .cells [(.d (.sl (aZ v3)))], .map (cf bZ v4), .cells (aP v1).cells, .cells dA] [0,1,2,3,4,5,6] (acG bE))] [(11,(.ptr 9 0)),(12,(.ptr 10 0)),(13,(ar v10.2.2.1))] [.cells [(.fn 65 [(.ptr 1 0),(.ptr 2 0),(.ptr 3 0)]),(.fn 63 [(.ptr 3 0)])], .cells [(.fn 68 [(.ptr 4 0),(.ptr 5 0)])], .cells [(.d (.sl (aW v2)))], .cells [(.ptr 0 0)], .cells [(.mp 6)], .cells [(.d (.sl (aZ v3)))], .map (cf bZ v10.2.2.2), .cells (aP v1).cells, .cells dA, .cells (dK v10.1).cells, .cells (dK v10.2.1).cells] (by kernel_rfl) ?_;refine aD ?_;refine aD ?_;refine rg [] [(80,(aK (v10.2.2.1 !=0)))] [.cells [(.fn 65 [(.ptr 1 0),(.ptr 2 0),(.ptr 3 0)]),(.fn 63 [(.ptr 3 0)])], .cells [(.fn 68 [(.ptr 4 0),(.ptr 5 0)])], .cells [(.d (.sl (aW v2)))], .cells [(.ptr 0 0)], .cells [(.mp 6)], .cells [(.d (.sl (aZ v3)))], .map (cf bZ v10.2.2.2), .cells (aP v1).cells, .cells dA, .cells (dK v10.1).cells, .cells (dK v10.2.1).cells] (by kernel_rfl) ?_;rcases eC (v10.2.2.1 !=0)with bD|bD
  ·replace U:=(dx bD).symm.trans U;refine eW (t:=(v10.2.2.1 !=0)) (by kernel_rfl) bD ?_;refine aD ?_;refine rg [] [(5,(ar v10.2.2.1))] [.cells [(.fn 65 [(.ptr 1 0),(.ptr 2 0),(.ptr 3 0)]),(.fn 63 [(.ptr 3 0)])], .cells [(.fn 68 [(.ptr 4 0),(.ptr 5 0)])], .cells [(.d (.sl (aW v2)))], .cells [(.ptr 0 0)], .cells [(.mp 6)], .cells [(.d (.sl (aZ v3)))], .map (cf bZ v10.2.2.2), .cells (aP v1).cells, .cells dA, .cells (dK v10.1).cells, .cells (dK v10.2.1).cells] (by kernel_rfl) ?_;refine c8 (dg ?_);have hr:=aqk U;subst hr;exact jA (by kernel_rfl)
  replace U:=(eF bD).symm.trans U;refine eP (t:=(v10.2.2.1 !=0)) (by kernel_rfl) bD ?_;refine dI ?_;refine bK ?_;refine aD ?_;obtain⟨v11,bw,U⟩:=bO U;refine rg [(25,cK Sm bw)] [(14,(.ptr 11 0)),(13,(ar v11.2))] [.cells [(.fn 65 [(.ptr 1 0),(.ptr 2 0),(.ptr 3 0)]),(.fn 63 [(.ptr 3 0)])], .cells [(.fn 68 [(.ptr 4 0),(.ptr 5 0)])], .cells [(.d (.sl (aW v2)))], .cells [(.ptr 0 0)], .cells [(.mp 6)], .cells [(.d (.sl (aZ v3)))], .map (cf bZ v10.2.2.2), .cells (aP v1).cells, .cells dA, .cells (dK v10.1).cells, .cells (dK v10.2.1).cells, .cells (bq v11.1).cells] (by kernel_rfl) ?_;refine aD ?_;refine rg [] [(5,(ar v11.2))] [.cells [(.fn 65 [(.ptr 1 0),(.ptr 2 0),(.ptr 3 0)]),(.fn 63 [(.ptr 3 0)])], .cells [(.fn 68 [(.ptr 4 0),(.ptr 5 0)])], .cells [(.d (.sl (aW v2)))], .cells [(.ptr 0 0)], .cells [(.mp 6)], .cells [(.d (.sl (aZ v3)))], .map (cf bZ v10.2.2.2), .cells (aP v1).cells, .cells ((bC v11.1.xN)::(bC v11.1.xD)::cf1 v10.1 []), .cells (dK v10.1).cells, .cells (dK v10.2.1).cells, .cells (bq v11.1).cells] (by kernel_rfl) ?_;refine c8 ?_;have hr:=aqk U;subst hr;exact jA (by kernel_rfl)
theorem hY(N:Nat)(v1:aw)(v2:aqP aJ)(v3:aqP aI)(v4:aqP (aqQ×aT))(r:fa×Int×(aqP (aqQ×aT)))(U:Bl N v1 v2 v3 v4=some r):KH 65 [(aP v1),(.ptr 0 0),(.ptr 1 0),(.ptr 2 0)] ([.cells [(.fn 68 [(.ptr 3 0),(.ptr 4 0)])], .cells [(.d (.sl (aW v2)))], .cells [(.ptr 5 0)], .cells [(.mp 6)], .cells [(.d (.sl (aZ v3)))], .cells [(.fn 65 [(.ptr 0 0),(.ptr 1 0),(.ptr 2 0)]),(.fn 63 [(.ptr 2 0)])], .map (cf bZ v4)]) (.bj [(dK r.1),(ar r.2.1)]) ([.cells [(.fn 68 [(.ptr 3 0),(.ptr 4 0)])], .cells [(.d (.sl (aW v2)))], .cells [(.ptr 5 0)], .cells [(.mp 6)], .cells [(.d (.sl (aZ v3)))], .cells [(.fn 65 [(.ptr 0 0),(.ptr 1 0),(.ptr 2 0)]),(.fn 63 [(.ptr 2 0)])], .map (cf bZ r.2.2)]):=(aia N N).1 U
def It(N:Nat)(v1:Int)(v2:Bool):aqR (Int×Bool):=
 bif v2 then
  some ((4:Int),true)
 else
  bif (v1==2)then
   some ((6:Int),true)
  else
   bif (v1==3)then
    some ((9:Int),true)
   else
    bif (v1==4)then
     some ((10:Int),true)
    else
     some ((0:Int),false)
def Lr(N:Nat)(v1:Int):aqR (Int×Bool):=
 bif (v1==1)then
  It N v1 (v1==1)
 else
  It N v1 (v1==5)
theorem aev{N v1}:KO 124 [(ar v1)] (λr=> .bj [(ar r.1),(aK r.2)]) (Lr N v1):=
 fw Tryz.func124 (nq 1 [[],[],[]] [4,5] 0 (λ(v2:Bool)=>⟨14,[(4,(ar v1)),(5,(aK v2))],[]⟩) (It N v1) (λf1 aU=>aC (λh5=>gm aU (v1==1) [[t0 h5]]) λh5=>gm aU (v1==5) [[f0 h5],[]]) (λv2=>jq λ_=>jq λ_=>jq λ_=>bQ λh4=>gR [[f0 h4],[]]))
def aax(N:Nat)(v1:aF):aqR aA:=
 (mC N v1).bind λv2=>
 bif (v2 !=0)then
  some cP
 else
  some (⟨(0:Int64),(1:Int64)⟩:aA)
theorem aet{N v1}:KO 183 [(cq v1)] bq (aax N v1):=
 fw Tryz.func183 (aB λv2 J=>gA [[],[(4,cK ph J)]] (bQ λh2=>gR [[f0 h2],[]]))
def X1(N:Nat)(v1:aF):aqR (aA×Int):=
 (mC N v1).bind λv2=>
 bif (v2 !=0)then
  some (cP,(10:Int))
 else
  bif (v1.bg !=2)then
   some ((⟨(1:Int64),(1:Int64)⟩:aA),(0:Int))
  else
   bif (decide ((0:Int)<=v1.bM))then
   Option.bind (sB N v1 (⟨(Int64.ofInt ((1:Int)*2^(min (v1.bM).toNat (IntKind.bits .i64)))),(1:Int64)⟩:aA)) λv3=>
   bif v3 then
    some ((⟨(Int64.ofInt ((1:Int)*2^(min (v1.bM).toNat (IntKind.bits .i64)))),(1:Int64)⟩:aA),(0:Int))
   else
    some (cP,(3:Int))
   else none
theorem akM{N v1}:KO 184 [(cq v1)] (λr=> .bj [(bq r.1),(ar r.2)]) (X1 N v1):=
 fw Tryz.func184 (aB λv2 J=>gA [[],[(4,cK ph J)]] (jq λ_=>bQ λh3=>dN λh4=>aB λv3 h5=>gA [[f0 h3],[(7,⟨_,_, .nn (b:=v1.bM) (of_decide_eq_true h4)⟩),(8,⟨_,_, .eq (kA ((1:Int)*2^(min (v1.bM).toNat (IntKind.bits .i64))))⟩)],[(7,cK Pp h5)]] (qR λh6=>gR [[t0 (dZ h6)],[]])))
def QO(N:Nat)(v2:aF)(v1:Int)(v4:Bool):aqR (aA×Bool):=
 bif v4 then
  (aax N v2).bind λv5=>
  some (v5,true)
 else
  bif (v1==2)then
   (X1 N v2).bind λv6=>
   some (v6.1,(v6.2==0))
  else
   some (cP,false)
def Zl(N:Nat)(v1:Int)(v2:aF):aqR (aA×Bool):=
 (mC N v2).bind λv3=>
 bif (v3 !=0)then
  some (cP,false)
 else
  bif (v1==1)then
   QO N v2 v1 (v1==1)
  else
   QO N v2 v1 (v1==5)
theorem ajA{N v1 v2}:KO 125 [(ar v1),(cq v2)] (λr=> .bj [(bq r.1),(aK r.2)]) (Zl N v1 v2):=
 fw Tryz.func125 (aB λv3 J=>gA [[],[(4,cK ph J)]] (bQ λh2=>nq 1 [[f0 h2],[],[]] [3,4,12,13] 2 (λ(v4:Bool)=>⟨29,[(3,(.ptr 0 0)),(4,(.ptr 1 0)),(12,(ar v1)),(13,(aK v4))],[.cells (cq v2).cells, .cells iR]⟩) (QO N v2 v1) (λf1 aU=>aC (λh7=>gm aU (v1==1) [[t0 h7]]) λh7=>gm aU (v1==5) [[f0 h7],[]]) (λv4=>aC (λh3=>aB λv5 h4=>gR [[t0 h3],[(4,cK aet h4)]]) λh3=>gA [[f0 h3],[]] (qn λh5=>aB λv6 h6=>gR [[t0 h5],[(4,cK akM h6)],[]]))))
def YG(N:Nat)(v4:Int×Bool)(v2:aF):aqP aA->Nat->Int64->Int64->aqR (aA×Int)
 |[],_,bG,cw=>
  some ((⟨bG,cw⟩:aA),(0:Int))
 |aQ::bu,v12,bG,cw=>
  Option.bind (xF N v4.1 v2 (⟨bG,cw⟩:aA) aQ) λbY=>
  bif (bY.2 !=0)then
   some (cP,bY.2)
  else
   (λgW wA=>YG N v4 v2 bu (v12+1) gW wA) bY.1.xN bY.1.xD
def X7(N:Nat)(v3:aqP aA)(v1:Int)(v2:aF)(v4:Int×Bool):aqP aA->Nat->aqR (aA×Int)
 |[],_=>
  bif ((v3.length:Int)==0)then
   (Zl N v1 v2).bind λv10=>
   bif v10.2 then
    some (v10.1,(0:Int))
   else
    some (cP,(1:Int))
  else
   Option.bind (v3[0]?) λv11=>
   bif (decide (1<=v3.length))then
   YG N v4 v2 (v3.drop 1) 0 v11.xN v11.xD
   else none
 |v8::v9,v6=>
  (m7 N v2 v8).bind λcm=>
  bif cm then
   (X7 N v3 v1 v2 v4 v9 (v6+1))
  else
   some (cP,(1:Int))
def FM(N:Nat)(v1:Int)(v2:aF)(v3:aqP aA):aqR (aA×Int):=
 (Lr N v1).bind λv4=>
 bif v4.2 then
  (mC N v2).bind λv5=>
  bif (v5 !=0)then
   some (cP,(10:Int))
  else
   X7 N v3 v1 v2 v4 v3 0
 else
  some (cP,(1:Int))
theorem YA{N v1 v2 v3}:KO 76 [(ar v1),(cq v2),(.d (.sl (dO v3)))] (λr=> .bj [(bq r.1),(ar r.2)]) (FM N v1 v2 v3):=
 fw Tryz.func76 (aB λv4 J=>gA [[],[(4,cK aev J)],[]] (k8 λh2=>aB λv5 h3=>gA [[f0 (dq h2)],[(4,cK ph h3)]] (bQ λh4=>gA [[f0 h4],[(4,oL v3 kX)]] (gT wj 2 v3 λh6=>fu 1 [] [0,2,4,6,8,33,34,35] 2 (λv6=>⟨83,[(0,(ar v1)),(2,(.d (.sl (dO v3)))),(4,(.ptr 0 0)),(6,(.ptr 1 0)),(8,(ar v4.1)),(33,(.d (.sl (dO v3)))),(34,(ar (v3.length:Int))),(35,(ar (v6:Int)))],[.cells (cq v2).cells, .cells iR]⟩) (λv6 h7 f1=>gA [[],[f0 (cu h7)],[(4,oL v3 kX)]] (aC (λh8=>aB λv10 h9=>gA [[t0 h8],[(7,cK ajA h9)],[]] (qR λbE=>gR [[t0 (dZ bE)],[]])) λh8=>aB λv11 bD=>dN λbw=>gA [[f0 h8],[(4,oE (k:=0) (qO bD))],[(4,⟨_,_, .PB (xs:=dO v3) (lo:=1) (by decide) (by rw[kX];exact(of_decide_eq_true bw)) Ol ajX⟩),(7,oL ((v3.drop 1)) kX)]] (gT wj 62 (v3.drop 1) λcS=>Qg 2 [] [4,6,8,14,62,63,64] 3 (λv12(bG:Int64)(cw:Int64)=>⟨83,[(4,(.ptr 0 0)),(6,(.ptr 1 0)),(8,(ar v4.1)),(14,(.ptr 2 0)),(62,(.d (.sl (dO (v3.drop 1))))),(63,(ar ((v3.drop 1).length:Int))),(64,(ar (v12:Int)))],[.cells (cq v2).cells, .cells iR, .cells [(bC bG),(bC cw)]]⟩) (λv12 bG cw cH f2=>gR [[],[f0 (cu cH)],[]]) (λv12 aQ bu bG cw cH f2 fi=>aB λbY cM=>gA [[],[t0 (cv cH)],[(1,⟨_,_, .el (xs:=dO (v3.drop 1)) (i:=(v12:Int)) (Int.natCast_nonneg _) (qO (bI cH))⟩)],[(13,cK Sm cM)],[]] (bQ λeH=>gb fi (bY.1.xN,bY.1.xD) [[f0 eH],[],[(2,oq (cD cH rfl cS))]] cH))))) (λv6 v8 v9 h7 f1 aU=>aB λcm fR=>gA [[],[t0 (cv h7)],[(1,oE (qO (bI h7)))],[(7,cK vn fR)]] (k8 λfj=>gb aU () [[f0 (dq fj)],[(2,oq (cD h7 rfl h6))]] h7))))))
def vl(N:Nat)(v1:bB)(v3:aqP aJ)(v4:aqP aI):aqP (aqP Int)->Int64->Int64->Bool->(aqP (aqQ×aT))->aqR (aA×Int×(aqP (aqQ×aT)))
 |[],v11,v12,_,aQ=>
  some ((⟨v11,v12⟩:aA),(0:Int),aQ)
 |bu::bG,v11,v12,aL,aQ=>
  (JQ N v1.bR bu v3).bind λcw=>
  (zd N cw v4 aQ).bind λbY=>
  (Bl N v1.bP bY v4 aQ).bind λcm=>
  bif (cm.2.1 !=0)then
   some (cP,cm.2.1,cm.2.2)
  else
   bif aL then
    (λcl fx wN SI=>vl N v1 v3 v4 bG cl fx wN SI) cm.1.iq.xN cm.1.iq.xD false cm.2.2
   else
    Option.bind (FM N v1.dj v1.ax ([(⟨v11,v12⟩:aA),cm.1.iq])) λv20=>
    bif (v20.2 !=0)then
     some (cP,v20.2,cm.2.2)
    else
     (λcl fx wN SI=>vl N v1 v3 v4 bG cl fx wN SI) v20.1.xN v20.1.xD aL cm.2.2
def AQ(N:Nat)(v1:bB)(v2:aqP Int)(v3:aqP aJ)(v4:aqP aI)(v5:aqP (aqQ×aT)):aqR (aA×Int×(aqP (aqQ×aT))):=
 Option.bind (bif (v1.dj==0)then some true else some (v1.dj==5)) λv6=>
 bif v6 then
  (zd N v3 v4 v5).bind λv7=>
  (Bl N v1.bP v7 v4 v5).bind λv8=>
  some (v8.1.iq,v8.2.1,v8.2.2)
 else
  (Ar N v2).bind λv9=>
  (C6 N v9).bind λv10=>
  vl N v1 v3 v4 v10 (0:Int64) (0:Int64) true v5
def pA(v4:aqP aI)(v5:aqP (aqQ×aT))(v1:bB)(v3:aqP aJ)(l:aqP aq):aqP aq:= .cells [(.mp 2)]:: .cells [(.d (.sl (aZ v4)))]:: .map (cf bZ v5):: .cells [(.fn 68 [(.ptr 0 0),(.ptr 1 0)])]:: .cells (fY v1).cells:: .cells [(.d (.sl (aW v3)))]:: .cells iR:: .cells [(ar (0:Int))]::l
def E6(v4:aqP aI)(aQ:aqP (aqQ×aT))(v1:bB)(v3:aqP aJ)(v11:Int64)(v12:Int64)(aL:Bool)(cA:Code)(cz:Code)(v9:(aqP Int))(l:aqP aq):aqP aq:=pA v4 aQ v1 v3 (.cells [(bC v11),(bC v12)]:: .cells [(aK aL)]:: .lp .busy 42 cA cz (dp 83 [(4,(.ptr 3 0)),(5,(.ptr 4 0)),(7,(.ptr 5 0)),(8,(.ptr 6 0)),(9,(.ptr 7 0)),(12,(.ptr 8 0)),(13,(.ptr 9 0)),(41,(.fn 121 [(.bk [[(.sl (bn v9))]] 0 0)]))])::l)
def ra(v4:aqP aI)(v8:fa×Int×(aqP (aqQ×aT)))(v1:bB)(v3:aqP aJ)(l:aqP aq):aqP aq:= .cells [(.mp 2)]:: .cells [(.d (.sl (aZ v4)))]:: .map (cf bZ v8.2.2):: .cells [(.fn 68 [(.ptr 0 0),(.ptr 1 0)])]:: .cells (fY v1).cells:: .cells [(.d (.sl (aW v3)))]:: .cells iR::l
def OS(v4:aqP aI)(cm:fa×Int×(aqP (aqQ×aT)))(v1:bB)(v3:aqP aJ)(v11:Int64)(v12:Int64)(aL:Bool)(cA:Code)(cz:Code)(v9:(aqP Int))(bY:(aqP aJ))(l:aqP aq):aqP aq:=ra v4 cm v1 v3 (.cells [(ar (0:Int))]:: .cells [(bC v11),(bC v12)]:: .cells [(aK aL)]:: .lp .busy 42 cA cz (dp 83 [(4,(.ptr 3 0)),(5,(.ptr 4 0)),(7,(.ptr 5 0)),(8,(.ptr 6 0)),(9,(.ptr 7 0)),(12,(.ptr 8 0)),(13,(.ptr 9 0)),(41,(.fn 121 [(.bk [[(.sl (bn v9))]] 0 0)]))]):: .cells [(.fn 68 [(.ptr 0 0),(.ptr 1 0)])]:: .cells [(.d (.sl (aW bY)))]:: .cells [(.fn 65 [(.ptr 11 0),(.ptr 12 0),(.ptr 14 0)]),(.fn 63 [(.ptr 14 0)])]:: .cells [(.ptr 13 0)]:: .cells (dK cm.1).cells::l)
def Jv(v4:aqP aI)(v5:aqP (aqQ×aT))(v1:bB)(v3:aqP aJ)(l:aqP aq):aqP aq:=pA v4 v5 v1 v3 (.cells dA::l)
def MN(v4:aqP aI)(aQ:aqP (aqQ×aT))(v1:bB)(v3:aqP aJ)(v11:Int64)(v12:Int64)(aL:Bool)(cA:Code)(cz:Code)(v9:(aqP Int))(l:aqP aq):aqP aq:=E6 v4 aQ v1 v3 v11 v12 aL cA cz v9 (.cells dA::l)
def LB(v4:aqP aI)(v5:aqP (aqQ×aT))(v1:bB)(v3:aqP aJ)(v7:(aqP aJ))(l:aqP aq):aqP aq:=pA v4 v5 v1 v3 (.cells [(.fn 68 [(.ptr 0 0),(.ptr 1 0)])]:: .cells [(.d (.sl (aW v7)))]:: .cells [(.fn 65 [(.ptr 8 0),(.ptr 9 0),(.ptr 11 0)]),(.fn 63 [(.ptr 11 0)])]:: .cells [(.ptr 10 0)]::l)
def HG(v4:aqP aI)(aQ:aqP (aqQ×aT))(v1:bB)(v3:aqP aJ)(v11:Int64)(v12:Int64)(aL:Bool)(cA:Code)(cz:Code)(v9:(aqP Int))(bY:(aqP aJ))(l:aqP aq):aqP aq:=E6 v4 aQ v1 v3 v11 v12 aL cA cz v9 (.cells [(.fn 68 [(.ptr 0 0),(.ptr 1 0)])]:: .cells [(.d (.sl (aW bY)))]:: .cells [(.fn 65 [(.ptr 11 0),(.ptr 12 0),(.ptr 14 0)]),(.fn 63 [(.ptr 14 0)])]:: .cells [(.ptr 13 0)]::l)
def ZC(v4:aqP aI)(cm:fa×Int×(aqP (aqQ×aT)))(v1:bB)(v3:aqP aJ)(v20:aA×Int)(aL:Bool)(cA:Code)(cz:Code)(v9:(aqP Int))(bY:(aqP aJ))(l:aqP aq):aqP aq:=ra v4 cm v1 v3 (.cells [(ar (0:Int))]:: .cells (bq v20.1).cells:: .cells [(aK aL)]:: .lp .busy 42 cA cz (dp 83 [(4,(.ptr 3 0)),(5,(.ptr 4 0)),(7,(.ptr 5 0)),(8,(.ptr 6 0)),(9,(.ptr 7 0)),(12,(.ptr 8 0)),(13,(.ptr 9 0)),(41,(.fn 121 [(.bk [[(.sl (bn v9))]] 0 0)]))]):: .cells [(.fn 68 [(.ptr 0 0),(.ptr 1 0)])]:: .cells [(.d (.sl (aW bY)))]:: .cells [(.fn 65 [(.ptr 11 0),(.ptr 12 0),(.ptr 14 0)]),(.fn 63 [(.ptr 14 0)])]:: .cells [(.ptr 13 0)]:: .cells (dK cm.1).cells::l)
def RN(v4:aqP aI)(v5:aqP (aqQ×aT))(v1:bB)(v3:aqP aJ)(v7:(aqP aJ))(l:aqP aq):aqP aq:=Jv v4 v5 v1 v3 (.cells [(.fn 68 [(.ptr 0 0),(.ptr 1 0)])]:: .cells [(.d (.sl (aW v7)))]:: .cells [(.fn 65 [(.ptr 9 0),(.ptr 10 0),(.ptr 12 0)]),(.fn 63 [(.ptr 12 0)])]:: .cells [(.ptr 11 0)]::l)
def P1(v4:aqP aI)(aQ:aqP (aqQ×aT))(v1:bB)(v3:aqP aJ)(v11:Int64)(v12:Int64)(aL:Bool)(cA:Code)(cz:Code)(v9:(aqP Int))(bY:(aqP aJ))(l:aqP aq):aqP aq:=MN v4 aQ v1 v3 v11 v12 aL cA cz v9 (.cells [(.fn 68 [(.ptr 0 0),(.ptr 1 0)])]:: .cells [(.d (.sl (aW bY)))]:: .cells [(.fn 65 [(.ptr 12 0),(.ptr 13 0),(.ptr 15 0)]),(.fn 63 [(.ptr 15 0)])]:: .cells [(.ptr 14 0)]::l)
def Jl(v4:aqP aI)(v5:aqP (aqQ×aT))(v1:bB)(v3:aqP aJ)(l:aqP aq):aqP aq:=pA v4 v5 v1 v3 (.cells iR:: .cells [(aK true)]::l)
def S5(v4:aqP aI)(l:aqP aq):aqP aq:= .cells [(.mp 2)]:: .cells [(.d (.sl (aZ v4)))]::l
def Xi(v4:aqP aI)(aQ:aqP (aqQ×aT))(v1:bB)(v3:aqP aJ)(v11:Int64)(v12:Int64)(aL:Bool)(cA:Code)(cz:Code)(v9:(aqP Int))(l:aqP aq):aqP aq:=pA v4 aQ v1 v3 (.cells [(bC v11),(bC v12)]:: .cells [(aK aL)]:: .lp .ready 42 cA cz (dp 83 [(4,(.ptr 3 0)),(5,(.ptr 4 0)),(7,(.ptr 5 0)),(8,(.ptr 6 0)),(9,(.ptr 7 0)),(12,(.ptr 8 0)),(13,(.ptr 9 0)),(41,(.fn 121 [(.bk [[(.sl (bn v9))]] 0 0)]))])::l)
theorem V9(N:Nat)(v1:bB)(v2:aqP Int)(v3:aqP aJ)(v4:aqP aI)(v5:aqP (aqQ×aT))(r:aA×Int×(aqP (aqQ×aT)))(U:AQ N v1 v2 v3 v4 v5=some r):KH 74 [(.fn 68 [(.ptr 0 0),(.ptr 1 0)]),(fY v1),(.d (.sl (bn v2))),(.d (.sl (aW v3)))] ([.cells [(.mp 2)], .cells [(.d (.sl (aZ v4)))], .map (cf bZ v5)]) (.bj [(bq r.1),(ar r.2.1)]) ([.cells [(.mp 2)], .cells [(.d (.sl (aZ v4)))], .map (cf bZ r.2.2)]):=by
 rw[AQ]at U;refine rK 3 Tryz.func74 rfl (by kernel_rfl) (ap9 rfl) ?_;refine mz (s':=⟨83,[(0,(.fn 68 [(.ptr 0 0),(.ptr 1 0)])),(1,(fY v1)),(2,(.d (.sl (bn v2)))),(3,(.d (.sl (aW v3))))],(S5 v4 [.map (cf bZ v5)])⟩) (by kernel_rfl) ?_;refine aD ?_;refine rg [] [(4,(.ptr 3 0)),(5,(.ptr 4 0)),(7,(.ptr 5 0)),(8,(.ptr 6 0)),(9,(.ptr 7 0))] (pA v4 v5 v1 v3 []) (by kernel_rfl) ?_;refine aD ?_;refine aD ?_;obtain⟨v6,h2,U⟩:=bO U;refine A1 [(24,(aK v6))] (pA v4 v5 v1 v3 []) ?_ ?_
 ·rcases eC (v1.dj==0)with J|J
  ·replace h2:=(dx J).symm.trans h2;have he:=aqk h2;subst he;exact⟨[(12,bT J),(15,bT J),(18,bT J),(22,bT J)],by kernel_rfl⟩
  replace h2:=(eF J).symm.trans h2;have he:=aqk h2;subst he;exact⟨[(12,bF J),(15,bF J),(18,bF J),(22,bF J)],by kernel_rfl⟩
 rcases eC v6 with h3|h3
 ·replace U:=(dx h3).symm.trans U;refine eW (t:=v6) (by kernel_rfl) h3 ?_;refine aD ?_;obtain⟨v7,h4,v8,h5,U⟩:=zn U;refine ro 7 bA (.node 0 [] (.node 1 [] (.node 6 [] (.node 2 [(7,oX (aY (aY (eB dd))) (aY (aY (eB (aY (aY (aY (aY dd))))))) [(.fn 68 [(.ptr 0 0),(.ptr 1 0)]),(.d (.sl (aW v3)))] (pA v4 v5 v1 v3 []) [0,1,2] (jM h4))] (.node 3 [] (.node 4 [] (.node 5 [] (.node 7 [] (.node 8 [(25,oR [(aP v1.bP),(.ptr 8 0),(.ptr 9 0),(.ptr 11 0)] (LB v4 v5 v1 v3 v7 []) [8,9,11,0,1,10,2] (hY N v1.bP v7 v4 v5 v8 h5))] (.node 9 [] (.node 10 [] (.node 11 [] (.node 12 [] (.node 13 [] (.node 14 [] .nil .nil) .nil) .nil) .nil) .nil) .nil) (.node 12 [] (.node 8 [(25,oR [(aP v1.bP),(.ptr 8 0),(.ptr 9 0),(.ptr 11 0)] (LB v4 v5 v1 v3 v7 [.cells dA]) [8,9,11,0,1,10,2] (hY N v1.bP v7 v4 v5 v8 h5))] (.node 9 [] (.node 10 [] (.node 11 [] (.node 13 [] (.node 14 [] .nil .nil) .nil) .nil) .nil) .nil) .nil) .nil)) .nil) .nil) .nil) .nil) (.node 7 [] (.node 2 [(7,oX (aY (aY (eB dd))) (aY (aY (eB (aY (aY (aY (aY dd))))))) [(.fn 68 [(.ptr 0 0),(.ptr 1 0)]),(.d (.sl (aW v3)))] (pA v4 v5 v1 v3 []) [0,1,2] (jM h4))] (.node 3 [] (.node 4 [] (.node 5 [] (.node 8 [(25,oR [(aP v1.bP),(.ptr 8 0),(.ptr 9 0),(.ptr 11 0)] (LB v4 v5 v1 v3 v7 []) [8,9,11,0,1,10,2] (hY N v1.bP v7 v4 v5 v8 h5))] (.node 9 [] (.node 10 [] (.node 11 [] (.node 12 [] (.node 13 [] (.node 14 [] .nil .nil) .nil) .nil) .nil) .nil) .nil) (.node 12 [] (.node 8 [(25,oR [(aP v1.bP),(.ptr 8 0),(.ptr 9 0),(.ptr 11 0)] (LB v4 v5 v1 v3 v7 [.cells dA]) [8,9,11,0,1,10,2] (hY N v1.bP v7 v4 v5 v8 h5))] (.node 9 [] (.node 10 [] (.node 11 [] (.node 13 [] (.node 14 [] .nil .nil) .nil) .nil) .nil) .nil) .nil) .nil)) .nil) .nil) .nil) (.node 12 [] (.node 2 [(7,oX (aY (aY (eB dd))) (aY (aY (eB (aY (aY (aY (aY dd))))))) [(.fn 68 [(.ptr 0 0),(.ptr 1 0)]),(.d (.sl (aW v3)))] (Jv v4 v5 v1 v3 []) [0,1,2] (jM h4))] (.node 3 [] (.node 4 [] (.node 5 [] (.node 8 [(25,oR [(aP v1.bP),(.ptr 9 0),(.ptr 10 0),(.ptr 12 0)] (RN v4 v5 v1 v3 v7 []) [9,10,12,0,1,11,2] (hY N v1.bP v7 v4 v5 v8 h5))] (.node 9 [] (.node 10 [] (.node 11 [] (.node 13 [] (.node 14 [] .nil .nil) .nil) .nil) .nil) .nil) .nil) .nil) .nil) .nil) .nil) .nil)) (.node 12 [] (.node 2 [(7,oX (aY (aY (eB dd))) (aY (aY (eB (aY (aY (aY (aY dd))))))) [(.fn 68 [(.ptr 0 0),(.ptr 1 0)]),(.d (.sl (aW v3)))] (Jv v4 v5 v1 v3 []) [0,1,2] (jM h4))] (.node 3 [] (.node 4 [] (.node 5 [] (.node 7 [] (.node 8 [(25,oR [(aP v1.bP),(.ptr 9 0),(.ptr 10 0),(.ptr 12 0)] (RN v4 v5 v1 v3 v7 []) [9,10,12,0,1,11,2] (hY N v1.bP v7 v4 v5 v8 h5))] (.node 9 [] (.node 10 [] (.node 11 [] (.node 13 [] (.node 14 [] .nil .nil) .nil) .nil) .nil) .nil) .nil) .nil) .nil) .nil) .nil) (.node 7 [] (.node 2 [(7,oX (aY (aY (eB dd))) (aY (aY (eB (aY (aY (aY (aY dd))))))) [(.fn 68 [(.ptr 0 0),(.ptr 1 0)]),(.d (.sl (aW v3)))] (Jv v4 v5 v1 v3 []) [0,1,2] (jM h4))] (.node 3 [] (.node 4 [] (.node 5 [] (.node 8 [(25,oR [(aP v1.bP),(.ptr 9 0),(.ptr 10 0),(.ptr 12 0)] (RN v4 v5 v1 v3 v7 []) [9,10,12,0,1,11,2] (hY N v1.bP v7 v4 v5 v8 h5))] (.node 9 [] (.node 10 [] (.node 11 [] (.node 13 [] (.node 14 [] .nil .nil) .nil) .nil) .nil) .nil) .nil) .nil) .nil) .nil) .nil) .nil)) .nil))) .nil) .nil) .nil) [(10,(.ptr 12 0)),(11,(ar v8.2.1))] (ra v4 v8 v1 v3 [.cells [(ar (0:Int))], .cells [(.fn 68 [(.ptr 0 0),(.ptr 1 0)])], .cells [(.d (.sl (aW v7)))], .cells [(.fn 65 [(.ptr 8 0),(.ptr 9 0),(.ptr 11 0)]),(.fn 63 [(.ptr 11 0)])], .cells [(.ptr 10 0)], .cells (dK v8.1).cells]) (by kernel_rfl) ?_
  refine aD ?_;refine rg [] [] (S5 v4 [.map (cf bZ v8.2.2), .cells [(.fn 68 [(.ptr 0 0),(.ptr 1 0)])], .cells (fY v1).cells, .cells [(.d (.sl (aW v3)))], .cells (bq v8.1.iq).cells, .cells [(ar v8.2.1)], .cells [(.fn 68 [(.ptr 0 0),(.ptr 1 0)])], .cells [(.d (.sl (aW v7)))], .cells [(.fn 65 [(.ptr 8 0),(.ptr 9 0),(.ptr 11 0)]),(.fn 63 [(.ptr 11 0)])], .cells [(.ptr 10 0)], .cells (dK v8.1).cells]) (by kernel_rfl) ?_;refine c8 (dg ?_);have hr:=aqk U;subst hr;exact jA (by kernel_rfl)
 replace U:=(eF h3).symm.trans U;refine eP (t:=v6) (by kernel_rfl) h3 ?_;refine dI ?_;refine bK ?_;refine aD ?_;refine rg [] [(12,(.ptr 8 0))] (pA v4 v5 v1 v3 [.cells iR]) (by kernel_rfl) ?_;refine aD ?_;refine rg [] [(13,(.ptr 9 0))] (Jl v4 v5 v1 v3 []) (by kernel_rfl) ?_;refine aD ?_;refine aD ?_;obtain⟨v9,h6,U⟩:=bO U;refine rg [(4,oQ [(.d (.sl (bn v2)))] (Jl v4 v5 v1 v3 []) [] (aaX h6))] [(41,(.fn 121 [(.bk [[(.sl (bn v9))]] 0 0)]))] (Jl v4 v5 v1 v3 []) (by kernel_rfl) ?_;refine gq ?_;obtain⟨v10,h7,U⟩:=bO U;refine gL [4,5,7,8,9,12,13,41] 10 (ap9 rfl) (s':=⟨83,[(4,(.ptr 3 0)),(5,(.ptr 4 0)),(7,(.ptr 5 0)),(8,(.ptr 6 0)),(9,(.ptr 7 0)),(12,(.ptr 8 0)),(13,(.ptr 9 0)),(41,(.fn 121 [(.bk [[(.sl (bn v9))]] 0 0)]))],(Jl v4 v5 v1 v3 [])⟩) (by kernel_rfl) ?_;refine wQ (m:=10) (enc:=pM) (xs:=v10) (by kernel_rfl) (aba h7) (λ((v11,v12,aL,aQ):Int64×Int64×Bool×(aqP (aqQ×aT)))=>(pA v4 aQ v1 v3 [.cells [(bC v11),(bC v12)], .cells [(aK aL)]])) (λ((v11,v12,aL,aQ):Int64×Int64×Bool×(aqP (aqQ×aT))) l=>vl N v1 v3 v4 l v11 v12 aL aQ=some r) ((0:Int64),(0:Int64),true,v5) (by kernel_rfl) U (by rintro⟨v11,v12,aL,aQ⟩;rfl) (by rintro⟨v11,v12,aL,aQ⟩;kernel_rfl) (by kernel_rfl) rfl ?_ ?_
 ·rintro⟨v11,v12,aL,aQ⟩ bu bG U h8 cA cz
  try dsimp only at U
  rw[vl]at U;refine gL [4,5,7,8,9,12,13,42] 11 (aqc _) (s':=⟨83,[(4,(.ptr 3 0)),(5,(.ptr 4 0)),(7,(.ptr 5 0)),(8,(.ptr 6 0)),(9,(.ptr 7 0)),(12,(.ptr 8 0)),(13,(.ptr 9 0)),(42,(.d (.sl (bn bu))))],(Xi v4 aQ v1 v3 v11 v12 aL cA cz v9 [])⟩) (by kernel_rfl) ?_;refine re [] [(14,(.d (.sl (bn bu))))] (Xi v4 aQ v1 v3 v11 v12 aL cA cz v9 []) (by kernel_rfl) ?_;refine bK ?_;refine⟨(pA v4 aQ v1 v3 [.cells [(bC v11),(bC v12)], .cells [(aK aL)]]),[],rfl,(by kernel_rfl),?_⟩;refine gL [4,5,7,8,9,12,13,14] 11 (ap9 rfl) (s':=⟨83,[(4,(.ptr 3 0)),(5,(.ptr 4 0)),(7,(.ptr 5 0)),(8,(.ptr 6 0)),(9,(.ptr 7 0)),(12,(.ptr 8 0)),(13,(.ptr 9 0)),(14,(.d (.sl (bn bu))))],(E6 v4 aQ v1 v3 v11 v12 aL cA cz v9 [])⟩) (by kernel_rfl) ?_;refine gq ?_;refine aD ?_;obtain⟨cw,h9,bY,bE,U⟩:=zn U;obtain⟨cm,bD,U⟩:=bO U;refine ro 7 bA (.node 0 [] (.node 1 [] (.node 2 [] (.node 3 [] (.node 4 [] (.node 5 [(16,cK U6 h9)] (.node 10 [] (.node 6 [(19,oX (aY (aY (eB dd))) (aY (aY (eB (aY (aY (aY (aY dd))))))) [(.fn 68 [(.ptr 0 0),(.ptr 1 0)]),(.d (.sl (aW cw)))] (E6 v4 aQ v1 v3 v11 v12 aL cA cz v9 []) [0,1,2] (jM bE))] (.node 7 [] (.node 8 [] (.node 9 [] (.node 11 [] (.node 12 [(37,oR [(aP v1.bP),(.ptr 11 0),(.ptr 12 0),(.ptr 14 0)] (HG v4 aQ v1 v3 v11 v12 aL cA cz v9 bY []) [11,12,14,0,1,13,2] (hY N v1.bP bY v4 aQ cm bD))] (.node 13 [] (.node 14 [] (.node 15 [] (.node 16 [] (.node 17 [] (.node 18 [] .nil .nil) .nil) .nil) .nil) .nil) .nil) (.node 16 [] (.node 12 [(37,oR [(aP v1.bP),(.ptr 11 0),(.ptr 12 0),(.ptr 14 0)] (HG v4 aQ v1 v3 v11 v12 aL cA cz v9 bY [.cells dA]) [11,12,14,0,1,13,2] (hY N v1.bP bY v4 aQ cm bD))] (.node 13 [] (.node 14 [] (.node 15 [] (.node 17 [] (.node 18 [] .nil .nil) .nil) .nil) .nil) .nil) .nil) .nil)) .nil) .nil) .nil) .nil) (.node 11 [] (.node 6 [(19,oX (aY (aY (eB dd))) (aY (aY (eB (aY (aY (aY (aY dd))))))) [(.fn 68 [(.ptr 0 0),(.ptr 1 0)]),(.d (.sl (aW cw)))] (E6 v4 aQ v1 v3 v11 v12 aL cA cz v9 []) [0,1,2] (jM bE))] (.node 7 [] (.node 8 [] (.node 9 [] (.node 12 [(37,oR [(aP v1.bP),(.ptr 11 0),(.ptr 12 0),(.ptr 14 0)] (HG v4 aQ v1 v3 v11 v12 aL cA cz v9 bY []) [11,12,14,0,1,13,2] (hY N v1.bP bY v4 aQ cm bD))] (.node 13 [] (.node 14 [] (.node 15 [] (.node 16 [] (.node 17 [] (.node 18 [] .nil .nil) .nil) .nil) .nil) .nil) .nil) (.node 16 [] (.node 12 [(37,oR [(aP v1.bP),(.ptr 11 0),(.ptr 12 0),(.ptr 14 0)] (HG v4 aQ v1 v3 v11 v12 aL cA cz v9 bY [.cells dA]) [11,12,14,0,1,13,2] (hY N v1.bP bY v4 aQ cm bD))] (.node 13 [] (.node 14 [] (.node 15 [] (.node 17 [] (.node 18 [] .nil .nil) .nil) .nil) .nil) .nil) .nil) .nil)) .nil) .nil) .nil) (.node 16 [] (.node 6 [(19,oX (aY (aY (eB dd))) (aY (aY (eB (aY (aY (aY (aY dd))))))) [(.fn 68 [(.ptr 0 0),(.ptr 1 0)]),(.d (.sl (aW cw)))] (MN v4 aQ v1 v3 v11 v12 aL cA cz v9 []) [0,1,2] (jM bE))] (.node 7 [] (.node 8 [] (.node 9 [] (.node 12 [(37,oR [(aP v1.bP),(.ptr 12 0),(.ptr 13 0),(.ptr 15 0)] (P1 v4 aQ v1 v3 v11 v12 aL cA cz v9 bY []) [12,13,15,0,1,14,2] (hY N v1.bP bY v4 aQ cm bD))] (.node 13 [] (.node 14 [] (.node 15 [] (.node 17 [] (.node 18 [] .nil .nil) .nil) .nil) .nil) .nil) .nil) .nil) .nil) .nil) .nil) .nil)) (.node 16 [] (.node 6 [(19,oX (aY (aY (eB dd))) (aY (aY (eB (aY (aY (aY (aY dd))))))) [(.fn 68 [(.ptr 0 0),(.ptr 1 0)]),(.d (.sl (aW cw)))] (MN v4 aQ v1 v3 v11 v12 aL cA cz v9 []) [0,1,2] (jM bE))] (.node 7 [] (.node 8 [] (.node 9 [] (.node 11 [] (.node 12 [(37,oR [(aP v1.bP),(.ptr 12 0),(.ptr 13 0),(.ptr 15 0)] (P1 v4 aQ v1 v3 v11 v12 aL cA cz v9 bY []) [12,13,15,0,1,14,2] (hY N v1.bP bY v4 aQ cm bD))] (.node 13 [] (.node 14 [] (.node 15 [] (.node 17 [] (.node 18 [] .nil .nil) .nil) .nil) .nil) .nil) .nil) .nil) .nil) .nil) .nil) (.node 11 [] (.node 6 [(19,oX (aY (aY (eB dd))) (aY (aY (eB (aY (aY (aY (aY dd))))))) [(.fn 68 [(.ptr 0 0),(.ptr 1 0)]),(.d (.sl (aW cw)))] (MN v4 aQ v1 v3 v11 v12 aL cA cz v9 []) [0,1,2] (jM bE))] (.node 7 [] (.node 8 [] (.node 9 [] (.node 12 [(37,oR [(aP v1.bP),(.ptr 12 0),(.ptr 13 0),(.ptr 15 0)] (P1 v4 aQ v1 v3 v11 v12 aL cA cz v9 bY []) [12,13,15,0,1,14,2] (hY N v1.bP bY v4 aQ cm bD))] (.node 13 [] (.node 14 [] (.node 15 [] (.node 17 [] (.node 18 [] .nil .nil) .nil) .nil) .nil) .nil) .nil) .nil) .nil) .nil) .nil) .nil)) .nil))) .nil) .nil) .nil) .nil) .nil) .nil) .nil) [(15,(.ptr 15 0)),(16,(ar cm.2.1))] (OS v4 cm v1 v3 v11 v12 aL cA cz v9 bY []) (by kernel_rfl) ?_
  refine aD ?_;refine aD ?_;refine rg [] [(60,(aK (cm.2.1 !=0)))] (OS v4 cm v1 v3 v11 v12 aL cA cz v9 bY []) (by kernel_rfl) ?_;rcases eC (cm.2.1 !=0)with bw|bw
  ·replace U:=(dx bw).symm.trans U;refine eW (t:=(cm.2.1 !=0)) (by kernel_rfl) bw ?_;refine aD ?_;refine rg [] [] (ra v4 cm v1 v3 [.cells [(ar cm.2.1)], .cells [(bC v11),(bC v12)], .cells [(aK aL)], .lp .busy 42 cA cz (dp 83 [(4,(.ptr 3 0)),(5,(.ptr 4 0)),(7,(.ptr 5 0)),(8,(.ptr 6 0)),(9,(.ptr 7 0)),(12,(.ptr 8 0)),(13,(.ptr 9 0)),(41,(.fn 121 [(.bk [[(.sl (bn v9))]] 0 0)]))]), .cells [(.fn 68 [(.ptr 0 0),(.ptr 1 0)])], .cells [(.d (.sl (aW bY)))], .cells [(.fn 65 [(.ptr 11 0),(.ptr 12 0),(.ptr 14 0)]),(.fn 63 [(.ptr 14 0)])], .cells [(.ptr 13 0)], .cells (dK cm.1).cells]) (by kernel_rfl) ?_;refine c8 (dg (fv ?_));refine CQ (ra v4 cm v1 v3 [.cells [(ar cm.2.1)], .cells [(bC v11),(bC v12)], .cells [(aK aL)]]) rfl (by kernel_rfl) (by kernel_rfl) ?_;refine(fv (dg ?_));have hr:=aqk U;subst hr;exact jA (by kernel_rfl)
  replace U:=(eF bw).symm.trans U;refine eP (t:=(cm.2.1 !=0)) (by kernel_rfl) bw ?_;refine dI ?_;refine bK ?_;refine aD ?_;refine aD ?_;refine rg [] [(63,(aK aL))] (OS v4 cm v1 v3 v11 v12 aL cA cz v9 bY []) (by kernel_rfl) ?_;rcases eC aL with cN|cN
  ·replace U:=(dx cN).symm.trans U;refine eW (t:=aL) (by kernel_rfl) cN ?_;refine aD ?_;refine rg [] [] (ra v4 cm v1 v3 [.cells [(ar (0:Int))], .cells (bq cm.1.iq).cells, .cells [(aK false)], .lp .busy 42 cA cz (dp 83 [(4,(.ptr 3 0)),(5,(.ptr 4 0)),(7,(.ptr 5 0)),(8,(.ptr 6 0)),(9,(.ptr 7 0)),(12,(.ptr 8 0)),(13,(.ptr 9 0)),(41,(.fn 121 [(.bk [[(.sl (bn v9))]] 0 0)]))]), .cells [(.fn 68 [(.ptr 0 0),(.ptr 1 0)])], .cells [(.d (.sl (aW bY)))], .cells [(.fn 65 [(.ptr 11 0),(.ptr 12 0),(.ptr 14 0)]),(.fn 63 [(.ptr 14 0)])], .cells [(.ptr 13 0)], .cells (dK cm.1).cells]) (by kernel_rfl) ?_;refine oT (lF (rX rfl ?_));refine Ck (ra v4 cm v1 v3 [.cells [(ar (0:Int))], .cells (bq cm.1.iq).cells, .cells [(aK false)]]) rfl (by kernel_rfl) (by kernel_rfl) ?_;exact⟨(cm.1.iq.xN,cm.1.iq.xD,false,cm.2.2),(by kernel_rfl),U⟩
  replace U:=(eF cN).symm.trans U;refine eP (t:=aL) (by kernel_rfl) cN ?_;refine dI ?_;refine bK ?_;refine aD ?_;obtain⟨v20,cS,U⟩:=bO U;refine rg [(25,cK YA cS)] [(16,(ar v20.2))] (ZC v4 cm v1 v3 v20 aL cA cz v9 bY []) (by kernel_rfl) ?_;refine aD ?_;refine rg [] [(79,(aK (v20.2 !=0)))] (ZC v4 cm v1 v3 v20 aL cA cz v9 bY []) (by kernel_rfl) ?_;rcases eC (v20.2 !=0)with cH|cH
  ·replace U:=(dx cH).symm.trans U;refine eW (t:=(v20.2 !=0)) (by kernel_rfl) cH ?_;refine aD ?_;refine rg [] [] (ra v4 cm v1 v3 [.cells [(ar v20.2)], .cells (bq v20.1).cells, .cells [(aK aL)], .lp .busy 42 cA cz (dp 83 [(4,(.ptr 3 0)),(5,(.ptr 4 0)),(7,(.ptr 5 0)),(8,(.ptr 6 0)),(9,(.ptr 7 0)),(12,(.ptr 8 0)),(13,(.ptr 9 0)),(41,(.fn 121 [(.bk [[(.sl (bn v9))]] 0 0)]))]), .cells [(.fn 68 [(.ptr 0 0),(.ptr 1 0)])], .cells [(.d (.sl (aW bY)))], .cells [(.fn 65 [(.ptr 11 0),(.ptr 12 0),(.ptr 14 0)]),(.fn 63 [(.ptr 14 0)])], .cells [(.ptr 13 0)], .cells (dK cm.1).cells]) (by kernel_rfl) ?_;refine c8 (fv ?_);refine CQ (ra v4 cm v1 v3 [.cells [(ar v20.2)], .cells (bq v20.1).cells, .cells [(aK aL)]]) rfl (by kernel_rfl) (by kernel_rfl) ?_;refine(fv (dg ?_));have hr:=aqk U;subst hr;exact jA (by kernel_rfl)
  replace U:=(eF cH).symm.trans U;refine eP (t:=(v20.2 !=0)) (by kernel_rfl) cH ?_;refine dI ?_;refine iU ?_;refine Ck (ra v4 cm v1 v3 [.cells [(ar (0:Int))], .cells (bq v20.1).cells, .cells [(aK aL)]]) rfl (by kernel_rfl) (by kernel_rfl) ?_;exact⟨(v20.1.xN,v20.1.xD,aL,cm.2.2),(by kernel_rfl),U⟩
 rintro⟨v11,v12,aL,aQ⟩ U
 try dsimp only at U
 rw[vl]at U;refine iU ?_;refine bK ?_;refine aD ?_;refine rg [] [] (S5 v4 [.map (cf bZ aQ), .cells [(.fn 68 [(.ptr 0 0),(.ptr 1 0)])], .cells (fY v1).cells, .cells [(.d (.sl (aW v3)))], .cells [(bC v11),(bC v12)], .cells [(ar (0:Int))], .cells [(bC v11),(bC v12)], .cells [(aK aL)], .gone]) (by kernel_rfl) ?_;refine c8 ?_;have hr:=aqk U;subst hr;exact jA (by kernel_rfl)
def lv:bz:=⟨(0:Int64),[]⟩
def vj(N:Nat)(bG:aqP aA)(jB:(aqP aA)->(aqP (aqQ×aT))->aqR (aT×Int))(v21:aA×Int×(aqP (aqQ×aT)))(v24:Int)(fK:Int64)(fg:Int64):aqR (aT×Int):=
 bif (v24 !=0)then
  some (lk,v24)
 else
  bif (Nat.ble ((bG.length+1)*16) 140737488355328)then
  jB (bG++[(⟨fK,fg⟩:aA)]) v21.2.2
  else none
def tT(N:Nat)(v6:bB)(v7:(aqP Int)×aF×Int)(v2:aqP aJ)(v9:(aqP Int)×Int)(aL:(aqP aI)×(aqP (aqQ×aT))):aqP (aqP Int)->(aqP aA)->(aqP (aqQ×aT))->aqR (aT×Int)
 |[],bG,_=>
  some ((⟨v6.ax,v7.1,bG⟩:aT),(0:Int))
 |bY::cm,bG,cw=>
  (JQ N v6.aS bY v2).bind λv20=>
  (AQ N v6 v9.1 v20 aL.1 cw).bind λv21=>
  Option.bind (bif (v21.2.1==0)then(bif (v6.dj==5)then bif (decide ((0:Int)<=(aO ((bY.length:Int)-(1:Int)))))then
  Option.bind (bY[((aO ((bY.length:Int)-(1:Int)))).toNat]?) λfk=>
  some (decide (fk>0))
  else none else some false)else some false) λda=>
  bif da then
   bif (decide ((0:Int)<=(aO ((bG.length:Int)-(1:Int)))))then
   Option.bind (bG[((aO ((bG.length:Int)-(1:Int)))).toNat]?) λiE=>
   Option.bind (FM N (1:Int) v6.ax ([iE,v21.1])) λv28=>
   vj N bG (λcl fx=>tT N v6 v7 v2 v9 aL cm cl fx) v21 v28.2 v28.1.xN v28.1.xD
   else none
  else
   vj N bG (λcl fx=>tT N v6 v7 v2 v9 aL cm cl fx) v21 v21.2.1 v21.1.xN v21.1.xD
def zy(N:Nat)(v1:aV)(v2:aqP aJ)(v3:aqP aI)(v4:Int):aqR (aT×Int):=
 Option.bind (bif (decide (v4<0))then some true else some (decide (v4>=(v1.aG.length:Int)))) λv5=>
 bif v5 then
  some (lk,(9:Int))
 else
  bif (decide ((0:Int)<=v4))then
  Option.bind (v1.aG[(v4).toNat]?) λv6=>
  (wq N v1 v2 v6.au).bind λv7=>
  bif (v7.2.2 !=0)then
   some (lk,v7.2.2)
  else
   (OU N v6.bR).bind λv8=>
   (FF N v8 v2).bind λv9=>
   bif (v9.2 !=0)then
    some (lk,v9.2)
   else
    (NT N v7.1).bind λv10=>
    bif (Nat.ble ((v10.length+v9.1.length)*8) 140737488355328)then
    Option.bind (FQ N (v10.length+v9.1.length) (65536:Int) (v10++v9.1)) λv11=>
    bif (decide (v11>65536))then
     some (lk,(2:Int))
    else
     (Im N v1 v2 v3 v6.bP).bind λv12=>
     bif (v12 !=0)then
      some (lk,v12)
     else
      (C7 N v3).bind λaL=>
      (Ar N v7.1).bind λaQ=>
      (C6 N aQ).bind λbu=>
      tT N v6 v7 v2 v9 aL bu [] aL.2
    else none
  else none
def ug(v1:aV)(v2:aqP aJ)(l:aqP aq):aqP aq:= .cells (dW v1).cells:: .cells [(.d (.sl (aW v2)))]:: .cells NX::l
def KQ(v1:aV)(v2:aqP aJ)(v6:bB)(v7:(aqP Int)×aF×Int)(v9:(aqP Int)×Int)(aL:(aqP aI)×(aqP (aqQ×aT)))(l:aqP aq):aqP aq:= .cells (dW v1).cells:: .cells [(.d (.sl (aW v2)))]:: .cells [(ar (0:Int)),(ar (0:Int)),(ar (0:Int)),(ar (0:Int)),(ar (0:Int)),(.d (.sl (bn []))),(.d (.sl (dO [])))]:: .cells [(ar (0:Int))]:: .cells (fY v6).cells:: .cells (cq v7.2.1).cells:: .cells [(.d (.sl (bn v9.1)))]:: .gone:: .cells [(.d (.sl (aZ aL.1)))]::l
def Gn(v1:aV)(v2:aqP aJ)(v6:bB)(v7:(aqP Int)×aF×Int)(v9:(aqP Int)×Int)(aL:(aqP aI)×(aqP (aqQ×aT)))(v21:aA×Int×(aqP (aqQ×aT)))(bG:aqP aA)(cA:Code)(cz:Code)(aQ:(aqP Int))(l:aqP aq):aqP aq:=KQ v1 v2 v6 v7 v9 aL (.map (cf bZ v21.2.2):: .cells [(.mp 9)]:: .cells [(.fn 68 [(.ptr 10 0),(.ptr 8 0)])]:: .cells [(ar v6.ax.bg),(ar v6.ax.bN),(ar v6.ax.bM),(ar v6.ax.cn),(ar v6.ax.ck),(.d (.sl (bn v7.1))),(.own 13 (dO bG))]:: .front 58 2 bG.length:: .lp .busy 86 cA cz (dp 142 [(5,(.ptr 1 0)),(8,(.ptr 2 0)),(9,(.ptr 3 0)),(10,(.ptr 4 0)),(14,(.ptr 6 0)),(16,(.ptr 11 0)),(17,(.ptr 12 0)),(85,(.fn 121 [(.bk [[(.sl (bn aQ))]] 0 0)]))])::l)
def uv(v1:aV)(v2:aqP aJ)(v6:bB)(v7:(aqP Int)×aF×Int)(v9:(aqP Int)×Int)(l:aqP aq):aqP aq:=ug v1 v2 (.cells [(ar (0:Int))]:: .cells (fY v6).cells:: .cells (cq v7.2.1).cells:: .cells [(.d (.sl (bn v9.1)))]::l)
def CX(v1:aV)(v2:aqP aJ)(v6:bB)(v7:(aqP Int)×aF×Int)(v9:(aqP Int)×Int)(aL:(aqP aI)×(aqP (aqQ×aT)))(cw:aqP (aqQ×aT))(bG:aqP aA)(l:aqP aq):aqP aq:=KQ v1 v2 v6 v7 v9 aL (.map (cf bZ cw):: .cells [(.mp 9)]:: .cells [(.fn 68 [(.ptr 10 0),(.ptr 8 0)])]:: .cells [(ar v6.ax.bg),(ar v6.ax.bN),(ar v6.ax.bM),(ar v6.ax.cn),(ar v6.ax.ck),(.d (.sl (bn v7.1))),(.own 13 (dO bG))]:: .front 58 2 bG.length::l)
def Te(v1:aV)(v2:aqP aJ)(v6:bB)(v7:(aqP Int)×aF×Int)(v9:(aqP Int)×Int)(v10:aqP Int)(aL:(aqP aI)×(aqP (aqQ×aT)))(l:aqP aq):aqP aq:=uv v1 v2 v6 v7 v9 (.vec 3 1 (cp ((v10++v9.1).map eK)):: .cells [(.d (.sl (aZ aL.1)))]:: .map (cf bZ aL.2):: .cells [(.mp 9)]:: .cells [(.fn 68 [(.ptr 10 0),(.ptr 8 0)])]:: .cells [(ar v6.ax.bg),(ar v6.ax.bN),(ar v6.ax.bM),(ar v6.ax.cn),(ar v6.ax.ck),(.d (.sl (bn v7.1))),(.d (.v (.slice none 0 0)))]::l)
def On(v1:aV)(v2:aqP aJ)(v6:bB)(v7:(aqP Int)×aF×Int)(v9:(aqP Int)×Int)(aL:(aqP aI)×(aqP (aqQ×aT)))(cw:aqP (aqQ×aT))(bG:aqP aA)(cA:Code)(cz:Code)(aQ:(aqP Int))(l:aqP aq):aqP aq:=CX v1 v2 v6 v7 v9 aL cw bG (.lp .busy 86 cA cz (dp 142 [(5,(.ptr 1 0)),(8,(.ptr 2 0)),(9,(.ptr 3 0)),(10,(.ptr 4 0)),(14,(.ptr 6 0)),(16,(.ptr 11 0)),(17,(.ptr 12 0)),(85,(.fn 121 [(.bk [[(.sl (bn aQ))]] 0 0)]))])::l)
def wH(v1:aV)(v2:aqP aJ)(v6:bB)(v7:(aqP Int)×aF×Int)(v9:(aqP Int)×Int)(v10:aqP Int)(l:aqP aq):aqP aq:=uv v1 v2 v6 v7 v9 (.vec 3 1 (cp ((v10++v9.1).map eK))::l)
def DD(v1:aV)(v2:aqP aJ)(l:aqP aq):aqP aq:=ug v1 v2 (.cells [(ar (0:Int))]::l)
def Yb(v1:aV)(v2:aqP aJ)(v6:bB)(v7:(aqP Int)×aF×Int)(v9:(aqP Int)×Int)(aL:(aqP aI)×(aqP (aqQ×aT)))(v21:aA×Int×(aqP (aqQ×aT)))(bG:aqP aA)(fK:Int64)(fg:Int64)(l:aqP aq):aqP aq:=KQ v1 v2 v6 v7 v9 aL (.map (cf bZ v21.2.2):: .cells [(.mp 9)]:: .cells [(.fn 68 [(.ptr 10 0),(.ptr 8 0)])]:: .cells [(ar v6.ax.bg),(ar v6.ax.bN),(ar v6.ax.bM),(ar v6.ax.cn),(ar v6.ax.ck),(.d (.sl (bn v7.1))),(.own 13 (dO (bG++[(⟨fK,fg⟩:aA)])))]:: .front 58 2 (bG++[(⟨fK,fg⟩:aA)]).length::l)
theorem ak5{N v1 v2 v3 v4 r}(U:zy N v1 v2 v3 v4=some r):KF 44 [(dW v1),(.d (.sl (aW v2))),(.d (.sl (aZ v3))),(ar v4)] (.bj [(gZ r.1),(ar r.2)]):=by
 rw[zy]at U;refine sw Tryz.func44 rfl (by kernel_rfl) ?_;refine gL [0,1,2,3] 0 (aqc _) (s':=⟨142,[(0,(dW v1)),(1,(.d (.sl (aW v2)))),(2,(.d (.sl (aZ v3)))),(3,(ar v4))],[]⟩) (by kernel_rfl) ?_;refine aD ?_;refine rg [] [(4,(.ptr 0 0)),(5,(.ptr 1 0)),(8,(.ptr 2 0)),(9,(.ptr 3 0))] (DD v1 v2 []) (by kernel_rfl) ?_;refine aD ?_;refine aD ?_;obtain⟨v5,h2,U⟩:=bO U;refine A1 [(29,(aK v5))] (DD v1 v2 []) ?_ ?_
 ·rcases eC (decide (v4<0))with J|J
  ·replace h2:=(dx J).symm.trans h2;have he:=aqk h2;subst he;exact⟨[(9,bT J),(12,bT J),(15,bT J),(18,bT J),(21,bT J),(25,bT J)],by kernel_rfl⟩
  replace h2:=(eF J).symm.trans h2;have he:=aqk h2;subst he;exact⟨[(9,bF J),(12,bF J),(15,bF J),(18,bF J),(19,oL v1.aG lz),(21,bF J),(25,bF J)],by kernel_rfl⟩
 rcases eC v5 with h3|h3
 ·replace U:=(dx h3).symm.trans U;refine eW (t:=v5) (by kernel_rfl) h3 ?_;refine aD ?_;refine rg [] [] (ug v1 v2 [.cells [(ar (9:Int))]]) (by kernel_rfl) ?_;refine c8 (dg ?_);have hr:=aqk U;subst hr;exact gz (by kernel_rfl)
 replace U:=(eF h3).symm.trans U;refine eP (t:=v5) (by kernel_rfl) h3 ?_;refine dI ?_;refine bK ?_;refine aD ?_;have h5:=nm U;replace U:=(dx h5).symm.trans U;obtain⟨v6,h4,U⟩:=bO U;refine rg [(10,⟨_,_, .el (xs:=iV v1.aG) (i:=v4) (of_decide_eq_true h5) (k9 h4)⟩)] [(10,(.ptr 4 0))] (DD v1 v2 [.cells (fY v6).cells]) (by kernel_rfl) ?_;refine aD ?_;obtain⟨v7,h6,U⟩:=bO U;refine rg [(13,cK Il h6)] [(11,(.d (.sl (bn v7.1)))),(13,(ar v7.2.2))] (DD v1 v2 [.cells (fY v6).cells, .cells (cq v7.2.1).cells]) (by kernel_rfl) ?_;refine aD ?_;refine aD ?_;refine rg [] [(46,(aK (v7.2.2 !=0)))] (DD v1 v2 [.cells (fY v6).cells, .cells (cq v7.2.1).cells]) (by kernel_rfl) ?_;rcases eC (v7.2.2 !=0)with h7|h7
 ·replace U:=(dx h7).symm.trans U;refine eW (t:=(v7.2.2 !=0)) (by kernel_rfl) h7 ?_;refine aD ?_;refine rg [] [] (ug v1 v2 [.cells [(ar v7.2.2)], .cells (fY v6).cells, .cells (cq v7.2.1).cells]) (by kernel_rfl) ?_;refine c8 (dg ?_);have hr:=aqk U;subst hr;exact gz (by kernel_rfl)
 replace U:=(eF h7).symm.trans U;refine eP (t:=(v7.2.2 !=0)) (by kernel_rfl) h7 ?_;refine dI ?_;refine bK ?_;refine aD ?_;obtain⟨v8,h8,v9,h9,U⟩:=zn U;refine rd bA (by kernel_rfl) [(7,cK adM h8),(13,cK Vf h9)] [(14,(.ptr 6 0)),(13,(ar v9.2))] (uv v1 v2 v6 v7 v9 []) (by kernel_rfl) ?_;refine aD ?_;refine aD ?_;refine rg [] [(58,(aK (v9.2 !=0)))] (uv v1 v2 v6 v7 v9 []) (by kernel_rfl) ?_;rcases eC (v9.2 !=0)with bE|bE
 ·replace U:=(dx bE).symm.trans U;refine eW (t:=(v9.2 !=0)) (by kernel_rfl) bE ?_;refine aD ?_;refine rg [] [] (ug v1 v2 [.cells [(ar v9.2)], .cells (fY v6).cells, .cells (cq v7.2.1).cells, .cells [(.d (.sl (bn v9.1)))]]) (by kernel_rfl) ?_;refine c8 (dg ?_);have hr:=aqk U;subst hr;exact gz (by kernel_rfl)
 replace U:=(eF bE).symm.trans U;refine eP (t:=(v9.2 !=0)) (by kernel_rfl) bE ?_;refine dI ?_;refine bK ?_;refine aD ?_;refine aD ?_;obtain⟨v10,bD,U⟩:=bO U;have bw:=nm U;replace U:=(dx bw).symm.trans U;obtain⟨v11,cN,U⟩:=bO U;refine ro 2 bA (.node 0 [] (.node 1 [(4,oX dd (yF (xs:=(v10.map eK)) dd) [(.d (.sl (bn v7.1)))] (uv v1 v2 v6 v7 v9 []) [] (VH bD))] (.node 2 [] (.node 3 [(10,⟨_,_, .pr (.ap (cp ((v10++v9.1).map eK)) (cp (v9.1.map eK)) (v10.length+v9.1.length) (v10.length+v9.1.length)) (Ks (f:=eK) (h:=(uv v1 v2 v6 v7 v9 [.vec 3 1 (cp (v10.map eK))])) (y:=(.d (.sl (bn v9.1)))) (k:=1) rfl (by rw[<-ox];rfl) (λc hc=>EG c (by rw[ox];exact hc)) rfl rfl (nD bw (by decide)).1 (nD bw (by decide)).2)⟩)] (.node 4 [(13,oX (yF (xs:=((v10++v9.1).map eK)) dd) (yF (xs:=((v10++v9.1).map eK)) dd) [(.vec 7 0 (v10.length+v9.1.length) (v10.length+v9.1.length) 1),(ar (65536:Int))] (wH v1 v2 v6 v7 v9 v10 []) [7] (abP cN))] (.node 5 [] .nil .nil) .nil) .nil) .nil) (.node 2 [] (.node 1 [(4,oX dd (yF (xs:=(v10.map eK)) dd) [(.d (.sl (bn v7.1)))] (uv v1 v2 v6 v7 v9 []) [] (VH bD))] (.node 3 [(10,⟨_,_, .pr (.ap (cp ((v10++v9.1).map eK)) (cp (v9.1.map eK)) (v10.length+v9.1.length) (v10.length+v9.1.length)) (Ks (f:=eK) (h:=(uv v1 v2 v6 v7 v9 [.vec 3 1 (cp (v10.map eK))])) (y:=(.d (.sl (bn v9.1)))) (k:=1) rfl (by rw[<-ox];rfl) (λc hc=>EG c (by rw[ox];exact hc)) rfl rfl (nD bw (by decide)).1 (nD bw (by decide)).2)⟩)] (.node 4 [(13,oX (yF (xs:=((v10++v9.1).map eK)) dd) (yF (xs:=((v10++v9.1).map eK)) dd) [(.vec 7 0 (v10.length+v9.1.length) (v10.length+v9.1.length) 1),(ar (65536:Int))] (wH v1 v2 v6 v7 v9 v10 []) [7] (abP cN))] (.node 5 [] .nil .nil) .nil) .nil) .nil) .nil)) .nil) [(66,(aK (decide (v11>65536))))] (wH v1 v2 v6 v7 v9 v10 []) (by kernel_rfl) ?_
 rcases eC (decide (v11>65536))with cS|cS
 ·replace U:=(dx cS).symm.trans U;refine eW (t:=(decide (v11>65536))) (by kernel_rfl) cS ?_;refine aD ?_;refine rg [] [] (ug v1 v2 [.cells [(ar (2:Int))], .cells (fY v6).cells, .cells (cq v7.2.1).cells, .cells [(.d (.sl (bn v9.1)))], .vec 3 1 (cp ((v10++v9.1).map eK))]) (by kernel_rfl) ?_;refine c8 (dg ?_);have hr:=aqk U;subst hr;exact gz (by kernel_rfl)
 replace U:=(eF cS).symm.trans U;refine eP (t:=(decide (v11>65536))) (by kernel_rfl) cS ?_;refine dI ?_;refine bK ?_;refine aD ?_;refine aD ?_;obtain⟨v12,cH,U⟩:=bO U;refine rg [(16,cK aiU cH)] [(15,(ar v12))] (wH v1 v2 v6 v7 v9 v10 []) (by kernel_rfl) ?_;refine aD ?_;refine rg [] [(75,(aK (v12 !=0)))] (wH v1 v2 v6 v7 v9 v10 []) (by kernel_rfl) ?_;rcases eC (v12 !=0)with cM|cM
 ·replace U:=(dx cM).symm.trans U;refine eW (t:=(v12 !=0)) (by kernel_rfl) cM ?_;refine aD ?_;refine rg [] [] (ug v1 v2 [.cells [(ar v12)], .cells (fY v6).cells, .cells (cq v7.2.1).cells, .cells [(.d (.sl (bn v9.1)))], .vec 3 1 (cp ((v10++v9.1).map eK))]) (by kernel_rfl) ?_;refine c8 (dg ?_);have hr:=aqk U;subst hr;exact gz (by kernel_rfl)
 replace U:=(eF cM).symm.trans U;refine eP (t:=(v12 !=0)) (by kernel_rfl) cM ?_;refine dI ?_;refine bK ?_;refine aD ?_;obtain⟨aL,eH,U⟩:=bO U;refine rg [(4,oX dd (aY (eB (aY dd))) [(.d (.sl (aZ v3)))] (wH v1 v2 v6 v7 v9 v10 []) [] (Ap N v3 aL eH))] [(16,(.ptr 11 0))] (wH v1 v2 v6 v7 v9 v10 [.cells [(.d (.sl (aZ aL.1)))], .map (cf bZ aL.2), .cells [(.mp 9)], .cells [(.fn 68 [(.ptr 10 0),(.ptr 8 0)])]]) (by kernel_rfl) ?_;refine aD ?_;refine rg [] [(17,(.ptr 12 0))] (Te v1 v2 v6 v7 v9 v10 aL []) (by kernel_rfl) ?_;refine aD ?_;refine aD ?_;obtain⟨aQ,fR,U⟩:=bO U;refine rg [(4,oQ [(.d (.sl (bn v7.1)))] (Te v1 v2 v6 v7 v9 v10 aL []) [] (aaX fR))] [(85,(.fn 121 [(.bk [[(.sl (bn aQ))]] 0 0)]))] (Te v1 v2 v6 v7 v9 v10 aL []) (by kernel_rfl) ?_;refine gq ?_;obtain⟨bu,fj,U⟩:=bO U;refine apG 7 ?_;refine ao8 12 6 58 2 [] rfl (.inr ⟨rfl,rfl⟩) ?_;refine gL [5,8,9,10,14,16,17,85] 14 (ap9 rfl) (s':=⟨142,[(5,(.ptr 1 0)),(8,(.ptr 2 0)),(9,(.ptr 3 0)),(10,(.ptr 4 0)),(14,(.ptr 6 0)),(16,(.ptr 11 0)),(17,(.ptr 12 0)),(85,(.fn 121 [(.bk [[(.sl (bn aQ))]] 0 0)]))],(KQ v1 v2 v6 v7 v9 aL [.map (cf bZ aL.2), .cells [(.mp 9)], .cells [(.fn 68 [(.ptr 10 0),(.ptr 8 0)])], .cells [(ar v6.ax.bg),(ar v6.ax.bN),(ar v6.ax.bM),(ar v6.ax.cn),(ar v6.ax.ck),(.d (.sl (bn v7.1))),(.own 13 (dO []))], .front 58 2 0])⟩) (by kernel_rfl) ?_
 refine wQ (m:=14) (enc:=pM) (xs:=bu) (by kernel_rfl) (aba fj) (λ((bG,cw):(aqP aA)×(aqP (aqQ×aT)))=>(CX v1 v2 v6 v7 v9 aL cw bG [])) (λ((bG,cw):(aqP aA)×(aqP (aqQ×aT))) l=>tT N v6 v7 v2 v9 aL l bG cw=some r) ([],aL.2) (by kernel_rfl) U (by rintro⟨bG,cw⟩;rfl) (by rintro⟨bG,cw⟩;kernel_rfl) (by kernel_rfl) rfl ?_ ?_
 ·rintro⟨bG,cw⟩ bY cm U gY cA cz
  try dsimp only at U
  rw[tT]at U;refine gL [5,8,9,10,14,16,17,86] 15 (aqc _) (s':=⟨142,[(5,(.ptr 1 0)),(8,(.ptr 2 0)),(9,(.ptr 3 0)),(10,(.ptr 4 0)),(14,(.ptr 6 0)),(16,(.ptr 11 0)),(17,(.ptr 12 0)),(86,(.d (.sl (bn bY))))],(CX v1 v2 v6 v7 v9 aL cw bG [.lp .ready 86 cA cz (dp 142 [(5,(.ptr 1 0)),(8,(.ptr 2 0)),(9,(.ptr 3 0)),(10,(.ptr 4 0)),(14,(.ptr 6 0)),(16,(.ptr 11 0)),(17,(.ptr 12 0)),(85,(.fn 121 [(.bk [[(.sl (bn aQ))]] 0 0)]))])])⟩) (by kernel_rfl) ?_;refine re [] [(18,(.d (.sl (bn bY))))] (CX v1 v2 v6 v7 v9 aL cw bG [.lp .ready 86 cA cz (dp 142 [(5,(.ptr 1 0)),(8,(.ptr 2 0)),(9,(.ptr 3 0)),(10,(.ptr 4 0)),(14,(.ptr 6 0)),(16,(.ptr 11 0)),(17,(.ptr 12 0)),(85,(.fn 121 [(.bk [[(.sl (bn aQ))]] 0 0)]))])]) (by kernel_rfl) ?_;refine bK ?_;refine⟨(CX v1 v2 v6 v7 v9 aL cw bG []),[],rfl,(by kernel_rfl),?_⟩;refine gL [5,8,9,10,14,16,17,18] 15 (ap9 rfl) (s':=⟨142,[(5,(.ptr 1 0)),(8,(.ptr 2 0)),(9,(.ptr 3 0)),(10,(.ptr 4 0)),(14,(.ptr 6 0)),(16,(.ptr 11 0)),(17,(.ptr 12 0)),(18,(.d (.sl (bn bY))))],(On v1 v2 v6 v7 v9 aL cw bG cA cz aQ [])⟩) (by kernel_rfl) ?_;refine gq ?_;refine aD ?_;obtain⟨v20,kV,v21,jl,U⟩:=zn U;refine ro 2 bA (.node 0 [] (.node 1 [] (.node 2 [] (.node 3 [] (.node 4 [] (.node 5 [] (.node 6 [] (.node 7 [(22,cK U6 kV)] (.node 8 [(25,oR [(.fn 68 [(.ptr 10 0),(.ptr 8 0)]),(fY v6),(.d (.sl (bn v9.1))),(.d (.sl (aW v20)))] (On v1 v2 v6 v7 v9 aL cw bG cA cz aQ []) [10,8,9] (V9 N v6 v9.1 v20 aL.1 cw v21 jl))] (.node 9 [] (.node 10 [] (.node 11 [] (.node 12 [] (.node 13 [] (.node 14 [] .nil .nil) .nil) .nil) .nil) .nil) .nil) (.node 12 [] (.node 8 [(25,oR [(.fn 68 [(.ptr 10 0),(.ptr 8 0)]),(fY v6),(.d (.sl (bn v9.1))),(.d (.sl (aW v20)))] (On v1 v2 v6 v7 v9 aL cw bG cA cz aQ [.cells iR]) [10,8,9] (V9 N v6 v9.1 v20 aL.1 cw v21 jl))] (.node 9 [] (.node 10 [] (.node 11 [] (.node 13 [] (.node 14 [] .nil .nil) .nil) .nil) .nil) .nil) .nil) .nil)) .nil) .nil) .nil) .nil) .nil) .nil) .nil) .nil) [(19,(.ptr 15 0)),(20,(ar v21.2.1))] (Gn v1 v2 v6 v7 v9 aL v21 bG cA cz aQ [.cells (bq v21.1).cells]) (by kernel_rfl) ?_
  refine aD ?_;refine aD ?_;obtain⟨da,iy,U⟩:=bO U;refine A1 [(114,(aK da))] (Gn v1 v2 v6 v7 v9 aL v21 bG cA cz aQ [.cells (bq v21.1).cells]) ?_ ?_
  ·rcases eC (v21.2.1==0)with ie|ie
   ·replace iy:=(dx ie).symm.trans iy;rcases eC (v6.dj==5)with h24|h24
    ·replace iy:=(dx h24).symm.trans iy;have mX:=nm iy;replace iy:=(dx mX).symm.trans iy;obtain⟨fk,pO,iy⟩:=bO iy;have he:=aqk iy;subst he;exact⟨[(9,bT ie),(12,bT ie),(15,bT ie),(19,bT ie),(24,bT h24),(27,bT h24),(30,bT h24),(31,oL bY fy),(33,bT h24),(36,bT h24),(37,⟨_,_, .el (xs:=bn bY) (i:=(aO ((bY.length:Int)-(1:Int)))) (of_decide_eq_true mX) (iK pO)⟩),(39,bT h24),(42,bT h24),(46,bT h24)],by kernel_rfl⟩
    replace iy:=(eF h24).symm.trans iy;have he:=aqk iy;subst he;exact⟨[(9,bT ie),(12,bT ie),(15,bT ie),(19,bT ie),(24,bF h24),(27,bF h24),(30,bF h24),(33,bF h24),(36,bF h24),(39,bF h24),(42,bF h24),(46,bF h24)],by kernel_rfl⟩
   replace iy:=(eF ie).symm.trans iy;have he:=aqk iy;subst he;exact⟨[(9,bF ie),(12,bF ie),(15,bF ie),(19,bF ie),(24,bF rfl),(27,bF rfl),(30,bF rfl),(33,bF rfl),(36,bF rfl),(39,bF rfl),(42,bF rfl),(46,bF rfl)],by kernel_rfl⟩
  refine GX [8,9,17,19,20] 16 (λ((v24,fK,fg):Int×Int64×Int64)=>⟨142,[(8,(.ptr 2 0)),(9,(.ptr 3 0)),(17,(.ptr 12 0)),(19,(.ptr 15 0)),(20,(ar v24))],(Gn v1 v2 v6 v7 v9 aL v21 bG cA cz aQ [.cells [(bC fK),(bC fg)]])⟩) (λ((v24,fK,fg):Int×Int64×Int64)=>vj N bG (λcl fx=>tT N v6 v7 v2 v9 aL cm cl fx) v21 v24 fK fg=some r) (ap9 rfl) ?_ ?_
  ·rcases eC da with lZ|lZ
   ·replace U:=(dx lZ).symm.trans U;refine eW (t:=da) (by kernel_rfl) lZ ?_;have Jg:=nm U;replace U:=(dx Jg).symm.trans U;obtain⟨iE,zc,v28,oy,U⟩:=zn U;refine WC bA (by kernel_rfl) [(19,oL bG kX),(25,⟨_,_, .el (xs:=dO bG) (i:=(aO ((bG.length:Int)-(1:Int)))) (of_decide_eq_true Jg) (qO zc)⟩),(37,cK YA oy)] [(20,(ar v28.2)),(130,(ar v28.2)),(129,(bq v28.1)),(115,(.bj [(bq v28.1),(ar v28.2)])),(128,(.bj [(bq v28.1),(ar v28.2)])),(127,(.full (dO [iE,v21.1]))),(126,(bq v21.1)),(125,(bq iE)),(124,(.bk [A2 iE] 0 0)),(123,(ar (aO ((bG.length:Int)-(1:Int))))),(122,(ar (bG.length:Int))),(121,(.own 13 (dO bG))),(120,(.ptr 12 6)),(119,(.own 13 (dO bG))),(118,(.ptr 12 6)),(117,(cq v6.ax)),(116,(.ptr 4 1))] (Gn v1 v2 v6 v7 v9 aL v21 bG cA cz aQ [.cells (bq v28.1).cells]) (by kernel_rfl) ?_;refine bK ?_;exact⟨(v28.2,v28.1.xN,v28.1.xD),by kernel_rfl,U⟩
   replace U:=(eF lZ).symm.trans U;refine eP (t:=da) (by kernel_rfl) lZ ?_;refine dI ?_;refine bK ?_;exact⟨(v21.2.1,v21.1.xN,v21.1.xD),by kernel_rfl,U⟩
  rintro⟨v24,fK,fg⟩ U
  try dsimp only at U
  rw[vj]at U;refine aD ?_;refine aD ?_;refine rg [] [(132,(aK (v24 !=0)))] (Gn v1 v2 v6 v7 v9 aL v21 bG cA cz aQ [.cells [(bC fK),(bC fg)]]) (by kernel_rfl) ?_;rcases eC (v24 !=0)with oC|oC
  ·replace U:=(dx oC).symm.trans U;refine eW (t:=(v24 !=0)) (by kernel_rfl) oC ?_;refine aD ?_;refine rg [] [] (ug v1 v2 [.cells [(ar v24)], .cells (fY v6).cells, .cells (cq v7.2.1).cells, .cells [(.d (.sl (bn v9.1)))], .gone, .cells [(.d (.sl (aZ aL.1)))], .map (cf bZ v21.2.2), .cells [(.mp 9)], .cells [(.fn 68 [(.ptr 10 0),(.ptr 8 0)])], .cells [(ar v6.ax.bg),(ar v6.ax.bN),(ar v6.ax.bM),(ar v6.ax.cn),(ar v6.ax.ck),(.d (.sl (bn v7.1))),(.own 13 (dO bG))], .front 58 2 bG.length, .lp .busy 86 cA cz (dp 142 [(5,(.ptr 1 0)),(8,(.ptr 2 0)),(9,(.ptr 3 0)),(10,(.ptr 4 0)),(14,(.ptr 6 0)),(16,(.ptr 11 0)),(17,(.ptr 12 0)),(85,(.fn 121 [(.bk [[(.sl (bn aQ))]] 0 0)]))]), .cells [(bC fK),(bC fg)]]) (by kernel_rfl) ?_;refine c8 (dg (fv ?_));refine CQ [.cells (dW v1).cells, .cells [(.d (.sl (aW v2)))], .cells [(ar (0:Int)),(ar (0:Int)),(ar (0:Int)),(ar (0:Int)),(ar (0:Int)),(.d (.sl (bn []))),(.d (.sl (dO [])))], .cells [(ar v24)], .cells (fY v6).cells, .cells (cq v7.2.1).cells, .cells [(.d (.sl (bn v9.1)))], .gone, .cells [(.d (.sl (aZ aL.1)))], .map (cf bZ v21.2.2), .cells [(.mp 9)], .cells [(.fn 68 [(.ptr 10 0),(.ptr 8 0)])], .cells [(ar v6.ax.bg),(ar v6.ax.bN),(ar v6.ax.bM),(ar v6.ax.cn),(ar v6.ax.ck),(.d (.sl (bn v7.1))),(.own 13 (dO bG))], .front 58 2 bG.length] rfl (by kernel_rfl) (by kernel_rfl) ?_
   refine(fv (dg ?_));have hr:=aqk U;subst hr;exact gz (by kernel_rfl)
  replace U:=(eF oC).symm.trans U;refine eP (t:=(v24 !=0)) (by kernel_rfl) oC ?_;refine dI ?_;refine bK ?_;have rU:=nm U;replace U:=(dx rU).symm.trans U;refine re [(13,oA wj bG ([(⟨fK,fg⟩:aA)]) rU)] [(140,(.ptr 12 6)),(139,(.own 13 (dO (bG++[(⟨fK,fg⟩:aA)])))),(138,(.full (dO [(⟨fK,fg⟩:aA)]))),(137,(.agg [(bC fK),(bC fg)])),(136,(.own 13 (dO bG))),(135,(.ptr 12 6))] (Yb v1 v2 v6 v7 v9 aL v21 bG fK fg [.lp .busy 86 cA cz (dp 142 [(5,(.ptr 1 0)),(8,(.ptr 2 0)),(9,(.ptr 3 0)),(10,(.ptr 4 0)),(14,(.ptr 6 0)),(16,(.ptr 11 0)),(17,(.ptr 12 0)),(85,(.fn 121 [(.bk [[(.sl (bn aQ))]] 0 0)]))]), .cells [(bC fK),(bC fg)]]) (by kernel_rfl) ?_;refine iU ?_;refine Ck (Yb v1 v2 v6 v7 v9 aL v21 bG fK fg []) rfl (by kernel_rfl) (by kernel_rfl) ?_;exact⟨((bG++[(⟨fK,fg⟩:aA)]),v21.2.2),(by kernel_rfl),U⟩
 rintro⟨bG,cw⟩ U
 try dsimp only at U
 rw[tT]at U;refine iU ?_;refine bK ?_;refine aD ?_;refine rg [] [] [.cells (dW v1).cells, .cells [(.d (.sl (aW v2)))], .cells [(ar v6.ax.bg),(ar v6.ax.bN),(ar v6.ax.bM),(ar v6.ax.cn),(ar v6.ax.ck),(.d (.sl (bn v7.1))),(.own 13 (dO bG))], .cells [(ar (0:Int))], .cells (fY v6).cells, .cells (cq v7.2.1).cells, .cells [(.d (.sl (bn v9.1)))], .gone, .cells [(.d (.sl (aZ aL.1)))], .map (cf bZ cw), .cells [(.mp 9)], .cells [(.fn 68 [(.ptr 10 0),(.ptr 8 0)])], .cells [(ar v6.ax.bg),(ar v6.ax.bN),(ar v6.ax.bM),(ar v6.ax.cn),(ar v6.ax.ck),(.d (.sl (bn v7.1))),(.own 13 (dO bG))], .front 58 2 bG.length, .gone] (by kernel_rfl) ?_;refine c8 ?_;have hr:=aqk U;subst hr;exact gz (by kernel_rfl)
def DS(N:Nat)(v1:aV)(v2:aqP aJ):aqP bB->Nat->(aqP aI)->aqR ((aqP aI)×Int)
 |[],_,v10=>
  some (v10,(0:Int))
 |v8::v9,v6,v10=>
  Option.bind (zy N v1 v2 v10 (v6:Int)) λv11=>
  bif (v11.2 !=0)then
   some ([],v11.2)
  else
   bif (Nat.ble ((v10.length+1)*104) 140737488355328)then
   (λcl=>DS N v1 v2 v9 (v6+1) cl) (v10++[(⟨v8.au,v11.1⟩:aI)])
   else none
def Mp(N:Nat)(v1:aV)(v2:aqP aJ)(v3:aqP aI):aqR ((aqP aI)×Int):=
 (BB N v1 v2).bind λv4=>
 bif (v4 !=0)then
  some ([],v4)
 else
  (Jk N v1 v2 v3).bind λv5=>
  bif (v5.2 !=0)then
   some ([],v5.2)
  else
   DS N v1 v2 v1.aG 0 v5.1
theorem Xs{N v1 v2 v3}:KO 26 [(dW v1),(.d (.sl (aW v2))),(.d (.sl (aZ v3)))] (λr=> .bj [(.d (.sl (aZ r.1))),(ar r.2)]) (Mp N v1 v2 v3):=
 fw Tryz.func26 (aB λv4 J=>gA [[],[(7,cK WU J)],[]] (bQ λh2=>aB λv5 h3=>gA [[f0 h2],[(10,oX dd (af8 dd) [(dW v1),(.d (.sl (aW v2))),(.d (.sl (aZ v3)))] [.cells (dW v1).cells] [] (anA h3))],[]] (bQ λh4=>gA [[f0 h4],[(7,oL v1.aG lz)]] (gT Af 32 v1.aG λh6=>gU 1 [] [1,3,9,32,33,34] 2 (λv6(v10:aqP aI)=>⟨59,[(1,(.d (.sl (aW v2)))),(3,(.ptr 0 0)),(9,(.own 1 (aZ v10))),(32,(.d (.sl (iV v1.aG)))),(33,(ar (v1.aG.length:Int))),(34,(ar (v6:Int)))],[.cells (dW v1).cells, .front 40 8 v10.length]⟩) (λv6 v10 h7 f1=>gR [[],[f0 (cu h7)],[]]) (λv6 v8 v9 v10 h7 f1 aU=>aB λv11 h8=>gA [[],[t0 (cv h7)],[(4,oE (k9 (bI h7)))],[(13,cL (ak5 h8))],[]] (bQ λh9=>dN λbE=>gb aU (v10++[(⟨v8.au,v11.1⟩:aI)]) [[f0 h9],[(19,oA qZ v10 ([(⟨v8.au,v11.1⟩:aI)]) bE)],[(2,oq (cD h7 rfl h6))]] h7))))))
def HL(N:Nat)(v4:(aqP aI)×Int):aqP aqQ->Nat->(aqP aI)->aqR ((aqP aI)×Int)
 |[],_,v9=>
  some (v9,(0:Int))
 |v7::v8,v5,v9=>
  (vz N v4.1 v7).bind λv10=>
  (De N v10.1).bind λv11=>
  bif (Nat.ble ((v9.length+1)*104) 140737488355328)then
  (λcl=>HL N v4 v8 (v5+1) cl) (v9++[(⟨v7,v11⟩:aI)])
  else none
def Ch(N:Nat)(v1:aV)(v2:aqP aJ)(v3:aqP aI):aqR ((aqP aI)×Int):=
 (Mp N v1 v2 v3).bind λv4=>
 bif (v4.2 !=0)then
  some ([],v4.2)
 else
  HL N v4 v1.c9 0 []
theorem Vb{N v1 v2 v3}:KO 10 [(dW v1),(.d (.sl (aW v2))),(.d (.sl (aZ v3)))] (λr=> .bj [(.d (.sl (aZ r.1))),(ar r.2)]) (Ch N v1 v2 v3):=
 fw Tryz.func10 (aB λv4 J=>gA [[],[(10,cK Xs J)],[]] (bQ λh2=>gA [[f0 h2],[],[(7,oL v1.c9 jT)]] (li (λ_=>(vH 10 40 8 [] (.inr (by kernel_rfl)) ·)) (gT tc 26 v1.c9 λh4=>gU 1 [] [8,10,26,27,28] 2 (λv5(v9:aqP aI)=>⟨47,[(8,(.d (.sl (aZ v4.1)))),(10,(.own 1 (aZ v9))),(26,(.d (.sl (ep v1.c9)))),(27,(ar (v1.c9.length:Int))),(28,(ar (v5:Int)))],[.cells (dW v1).cells, .front 40 8 v9.length]⟩) (λv5 v9 h5 f1=>gR [[],[f0 (cu h5)],[]]) (λv5 v7 v8 v9 h5 f1 aU=>aB λv10 h6=>aB λv11 h7=>dN λh8=>gb aU (v9++[(⟨v7,v11⟩:aI)]) [[],[t0 (cv h5)],[(1,oE (n8 (bI h5)))],[(7,cK Ku h6)],[(10,cK adl h7),(19,oA qZ v9 ([(⟨v7,v11⟩:aI)]) h8)],[(2,oq (cD h5 rfl h4))]] h5)))))
def Jc(N:Nat)(v1:aqP aI)(v2:aqP aJ)(v3:aw):aqR (aA×aF×Int):=
 (Cn N v3).bind λv4=>
 bif (v4 !=0)then
  some (cP,dR,v4)
 else
  (BO N v3).bind λv5=>
  bif v5 then
   some (cP,dR,(10:Int))
  else
   (C7 N v1).bind λv6=>
   (zd N v2 v6.1 v6.2).bind λv7=>
   (Bl N v3 v7 v6.1 v6.2).bind λv8=>
   bif (v8.2.1 !=0)then
    some (cP,dR,v8.2.1)
   else
    some (v8.1.iq,v8.1.fG,(0:Int))
def np(v3:aw)(l:aqP aq):aqP aq:= .cells (aP v3).cells:: .cells iR:: .cells xu::l
def ED(v3:aw)(v6:(aqP aI)×(aqP (aqQ×aT)))(l:aqP aq):aqP aq:=np v3 (.cells [(.d (.sl (aZ v6.1)))]:: .map (cf bZ v6.2):: .cells [(.mp 4)]:: .cells dA::l)
def Dj(v3:aw)(v6:(aqP aI)×(aqP (aqQ×aT)))(l:aqP aq):aqP aq:=np v3 (.cells dA:: .cells [(.d (.sl (aZ v6.1)))]:: .map (cf bZ v6.2):: .cells [(.mp 5)]::l)
def IC(v3:aw)(v6:(aqP aI)×(aqP (aqQ×aT)))(v7:(aqP aJ))(l:aqP aq):aqP aq:=np v3 (.cells [(.d (.sl (aZ v6.1)))]:: .map (cf bZ v6.2):: .cells [(.mp 4)]:: .cells [(.fn 68 [(.ptr 5 0),(.ptr 3 0)])]:: .cells [(.d (.sl (aW v7)))]:: .cells [(.fn 65 [(.ptr 6 0),(.ptr 7 0),(.ptr 9 0)]),(.fn 63 [(.ptr 9 0)])]:: .cells [(.ptr 8 0)]::l)
def Jw(v3:aw)(v6:(aqP aI)×(aqP (aqQ×aT)))(v7:(aqP aJ))(l:aqP aq):aqP aq:=ED v3 v6 (.cells [(.fn 68 [(.ptr 5 0),(.ptr 3 0)])]:: .cells [(.d (.sl (aW v7)))]:: .cells [(.fn 65 [(.ptr 7 0),(.ptr 8 0),(.ptr 10 0)]),(.fn 63 [(.ptr 10 0)])]:: .cells [(.ptr 9 0)]::l)
def L2(v3:aw)(v6:(aqP aI)×(aqP (aqQ×aT)))(v7:(aqP aJ))(l:aqP aq):aqP aq:=Dj v3 v6 (.cells [(.fn 68 [(.ptr 6 0),(.ptr 4 0)])]:: .cells [(.d (.sl (aW v7)))]:: .cells [(.fn 65 [(.ptr 7 0),(.ptr 8 0),(.ptr 10 0)]),(.fn 63 [(.ptr 10 0)])]:: .cells [(.ptr 9 0)]::l)
def S7(v3:aw)(v6:(aqP aI)×(aqP (aqQ×aT)))(v8:fa×Int×(aqP (aqQ×aT)))(v7:(aqP aJ))(l:aqP aq):aqP aq:=np v3 (.cells [(.d (.sl (aZ v6.1)))]:: .map (cf bZ v8.2.2):: .cells [(.mp 4)]:: .cells [(.fn 68 [(.ptr 5 0),(.ptr 3 0)])]:: .cells [(.d (.sl (aW v7)))]:: .cells [(.fn 65 [(.ptr 6 0),(.ptr 7 0),(.ptr 9 0)]),(.fn 63 [(.ptr 9 0)])]:: .cells [(.ptr 8 0)]:: .cells (dK v8.1).cells::l)
def N6(v3:aw)(l:aqP aq):aqP aq:=np v3 (.cells dA::l)
def O2(v3:aw)(v6:(aqP aI)×(aqP (aqQ×aT)))(v7:(aqP aJ))(l:aqP aq):aqP aq:=IC v3 v6 v7 (.cells dA::l)
def OF(v3:aw)(v6:(aqP aI)×(aqP (aqQ×aT)))(l:aqP aq):aqP aq:=np v3 (.cells [(.d (.sl (aZ v6.1)))]:: .map (cf bZ v6.2):: .cells [(.mp 4)]::l)
theorem ade{N v1 v2 v3 r}(U:Jc N v1 v2 v3=some r):KF 24 [(.d (.sl (aZ v1))),(.d (.sl (aW v2))),(aP v3)] (.bj [(bq r.1),(cq r.2.1),(ar r.2.2)]):=by
 rw[Jc]at U;refine sw Tryz.func24 rfl (by kernel_rfl) ?_;refine gL [0,1,2] 0 (aqc _) (s':=⟨44,[(0,(.d (.sl (aZ v1)))),(1,(.d (.sl (aW v2)))),(2,(aP v3))],[]⟩) (by kernel_rfl) ?_;refine aD ?_;refine rg [] [(5,(.ptr 0 0)),(6,(.ptr 1 0)),(7,(.ptr 2 0))] (np v3 []) (by kernel_rfl) ?_;refine aD ?_;refine aD ?_;obtain⟨v4,J,U⟩:=bO U;refine rg [(4,cL (Zb J))] [(9,(ar v4))] (np v3 []) (by kernel_rfl) ?_;refine aD ?_;refine rg [] [(15,(aK (v4 !=0)))] (np v3 []) (by kernel_rfl) ?_;rcases eC (v4 !=0)with h2|h2
 ·replace U:=(dx h2).symm.trans U;refine eW (t:=(v4 !=0)) (by kernel_rfl) h2 ?_;refine aD ?_;refine rg [] [(8,(ar v4))] (np v3 []) (by kernel_rfl) ?_;refine c8 (dg ?_);have hr:=aqk U;subst hr;exact gz (by kernel_rfl)
 replace U:=(eF h2).symm.trans U;refine eP (t:=(v4 !=0)) (by kernel_rfl) h2 ?_;refine dI ?_;refine bK ?_;refine aD ?_;refine aD ?_;obtain⟨v5,h3,U⟩:=bO U;refine rg [(4,cK SX h3)] [(20,(aK v5))] (np v3 []) (by kernel_rfl) ?_;rcases eC v5 with h4|h4
 ·replace U:=(dx h4).symm.trans U;refine eW (t:=v5) (by kernel_rfl) h4 ?_;refine aD ?_;refine rg [] [(8,(ar (10:Int)))] (np v3 []) (by kernel_rfl) ?_;refine c8 (dg ?_);have hr:=aqk U;subst hr;exact gz (by kernel_rfl)
 replace U:=(eF h4).symm.trans U;refine eP (t:=v5) (by kernel_rfl) h4 ?_;refine dI ?_;refine bK ?_;refine aD ?_;obtain⟨v6,h5,v7,h6,U⟩:=zn U;obtain⟨v8,h7,U⟩:=bO U;refine ro 14 bA (.node 0 [] (.node 2 [] (.node 1 [(4,oX dd (aY (eB (aY dd))) [(.d (.sl (aZ v1)))] (np v3 []) [] (Ap N v1 v6 h5))] (.node 3 [(10,oX (aY (aY (eB dd))) (aY (aY (eB (aY (aY (aY (aY dd))))))) [(.fn 68 [(.ptr 5 0),(.ptr 3 0)]),(.d (.sl (aW v2)))] (OF v3 v6 []) [5,3,4] (jM h6))] (.node 4 [] (.node 5 [] (.node 6 [] (.node 7 [] (.node 8 [(25,oR [(aP v3),(.ptr 6 0),(.ptr 7 0),(.ptr 9 0)] (IC v3 v6 v7 []) [6,7,9,5,3,8,4] (hY N v3 v7 v6.1 v6.2 v8 h7))] (.node 9 [] (.node 10 [] (.node 11 [] (.node 12 [] (.node 13 [] (.node 14 [] .nil .nil) .nil) .nil) .nil) .nil) .nil) (.node 12 [] (.node 8 [(25,oR [(aP v3),(.ptr 6 0),(.ptr 7 0),(.ptr 9 0)] (O2 v3 v6 v7 []) [6,7,9,5,3,8,4] (hY N v3 v7 v6.1 v6.2 v8 h7))] (.node 9 [] (.node 10 [] (.node 11 [] (.node 13 [] (.node 14 [] .nil .nil) .nil) .nil) .nil) .nil) .nil) .nil)) .nil) .nil) .nil) .nil) (.node 7 [] (.node 3 [(10,oX (aY (aY (eB dd))) (aY (aY (eB (aY (aY (aY (aY dd))))))) [(.fn 68 [(.ptr 5 0),(.ptr 3 0)]),(.d (.sl (aW v2)))] (OF v3 v6 []) [5,3,4] (jM h6))] (.node 4 [] (.node 5 [] (.node 6 [] (.node 8 [(25,oR [(aP v3),(.ptr 6 0),(.ptr 7 0),(.ptr 9 0)] (IC v3 v6 v7 []) [6,7,9,5,3,8,4] (hY N v3 v7 v6.1 v6.2 v8 h7))] (.node 9 [] (.node 10 [] (.node 11 [] (.node 12 [] (.node 13 [] (.node 14 [] .nil .nil) .nil) .nil) .nil) .nil) .nil) (.node 12 [] (.node 8 [(25,oR [(aP v3),(.ptr 6 0),(.ptr 7 0),(.ptr 9 0)] (O2 v3 v6 v7 []) [6,7,9,5,3,8,4] (hY N v3 v7 v6.1 v6.2 v8 h7))] (.node 9 [] (.node 10 [] (.node 11 [] (.node 13 [] (.node 14 [] .nil .nil) .nil) .nil) .nil) .nil) .nil) .nil)) .nil) .nil) .nil) (.node 12 [] (.node 3 [(10,oX (aY (aY (eB dd))) (aY (aY (eB (aY (aY (aY (aY dd))))))) [(.fn 68 [(.ptr 5 0),(.ptr 3 0)]),(.d (.sl (aW v2)))] (ED v3 v6 []) [5,3,4] (jM h6))] (.node 4 [] (.node 5 [] (.node 6 [] (.node 8 [(25,oR [(aP v3),(.ptr 7 0),(.ptr 8 0),(.ptr 10 0)] (Jw v3 v6 v7 []) [7,8,10,5,3,9,4] (hY N v3 v7 v6.1 v6.2 v8 h7))] (.node 9 [] (.node 10 [] (.node 11 [] (.node 13 [] (.node 14 [] .nil .nil) .nil) .nil) .nil) .nil) .nil) .nil) .nil) .nil) .nil) .nil)) (.node 12 [] (.node 3 [(10,oX (aY (aY (eB dd))) (aY (aY (eB (aY (aY (aY (aY dd))))))) [(.fn 68 [(.ptr 5 0),(.ptr 3 0)]),(.d (.sl (aW v2)))] (ED v3 v6 []) [5,3,4] (jM h6))] (.node 4 [] (.node 5 [] (.node 6 [] (.node 7 [] (.node 8 [(25,oR [(aP v3),(.ptr 7 0),(.ptr 8 0),(.ptr 10 0)] (Jw v3 v6 v7 []) [7,8,10,5,3,9,4] (hY N v3 v7 v6.1 v6.2 v8 h7))] (.node 9 [] (.node 10 [] (.node 11 [] (.node 13 [] (.node 14 [] .nil .nil) .nil) .nil) .nil) .nil) .nil) .nil) .nil) .nil) .nil) (.node 7 [] (.node 3 [(10,oX (aY (aY (eB dd))) (aY (aY (eB (aY (aY (aY (aY dd))))))) [(.fn 68 [(.ptr 5 0),(.ptr 3 0)]),(.d (.sl (aW v2)))] (ED v3 v6 []) [5,3,4] (jM h6))] (.node 4 [] (.node 5 [] (.node 6 [] (.node 8 [(25,oR [(aP v3),(.ptr 7 0),(.ptr 8 0),(.ptr 10 0)] (Jw v3 v6 v7 []) [7,8,10,5,3,9,4] (hY N v3 v7 v6.1 v6.2 v8 h7))] (.node 9 [] (.node 10 [] (.node 11 [] (.node 13 [] (.node 14 [] .nil .nil) .nil) .nil) .nil) .nil) .nil) .nil) .nil) .nil) .nil) .nil)) .nil))) (.node 7 [] (.node 1 [(4,oX dd (aY (eB (aY dd))) [(.d (.sl (aZ v1)))] (np v3 []) [] (Ap N v1 v6 h5))] (.node 3 [(10,oX (aY (aY (eB dd))) (aY (aY (eB (aY (aY (aY (aY dd))))))) [(.fn 68 [(.ptr 5 0),(.ptr 3 0)]),(.d (.sl (aW v2)))] (OF v3 v6 []) [5,3,4] (jM h6))] (.node 4 [] (.node 5 [] (.node 6 [] (.node 8 [(25,oR [(aP v3),(.ptr 6 0),(.ptr 7 0),(.ptr 9 0)] (IC v3 v6 v7 []) [6,7,9,5,3,8,4] (hY N v3 v7 v6.1 v6.2 v8 h7))] (.node 9 [] (.node 10 [] (.node 11 [] (.node 12 [] (.node 13 [] (.node 14 [] .nil .nil) .nil) .nil) .nil) .nil) .nil) (.node 12 [] (.node 8 [(25,oR [(aP v3),(.ptr 6 0),(.ptr 7 0),(.ptr 9 0)] (O2 v3 v6 v7 []) [6,7,9,5,3,8,4] (hY N v3 v7 v6.1 v6.2 v8 h7))] (.node 9 [] (.node 10 [] (.node 11 [] (.node 13 [] (.node 14 [] .nil .nil) .nil) .nil) .nil) .nil) .nil) .nil)) .nil) .nil) .nil) (.node 12 [] (.node 3 [(10,oX (aY (aY (eB dd))) (aY (aY (eB (aY (aY (aY (aY dd))))))) [(.fn 68 [(.ptr 5 0),(.ptr 3 0)]),(.d (.sl (aW v2)))] (ED v3 v6 []) [5,3,4] (jM h6))] (.node 4 [] (.node 5 [] (.node 6 [] (.node 8 [(25,oR [(aP v3),(.ptr 7 0),(.ptr 8 0),(.ptr 10 0)] (Jw v3 v6 v7 []) [7,8,10,5,3,9,4] (hY N v3 v7 v6.1 v6.2 v8 h7))] (.node 9 [] (.node 10 [] (.node 11 [] (.node 13 [] (.node 14 [] .nil .nil) .nil) .nil) .nil) .nil) .nil) .nil) .nil) .nil) .nil) .nil)) (.node 12 [] (.node 1 [(4,oX dd (aY (eB (aY dd))) [(.d (.sl (aZ v1)))] (N6 v3 []) [] (Ap N v1 v6 h5))] (.node 3 [(10,oX (aY (aY (eB dd))) (aY (aY (eB (aY (aY (aY (aY dd))))))) [(.fn 68 [(.ptr 6 0),(.ptr 4 0)]),(.d (.sl (aW v2)))] (Dj v3 v6 []) [6,4,5] (jM h6))] (.node 4 [] (.node 5 [] (.node 6 [] (.node 8 [(25,oR [(aP v3),(.ptr 7 0),(.ptr 8 0),(.ptr 10 0)] (L2 v3 v6 v7 []) [7,8,10,6,4,9,5] (hY N v3 v7 v6.1 v6.2 v8 h7))] (.node 9 [] (.node 10 [] (.node 11 [] (.node 13 [] (.node 14 [] .nil .nil) .nil) .nil) .nil) .nil) .nil) .nil) .nil) .nil) .nil) .nil) .nil)) (.node 12 [] (.node 1 [(4,oX dd (aY (eB (aY dd))) [(.d (.sl (aZ v1)))] (N6 v3 []) [] (Ap N v1 v6 h5))] (.node 3 [(10,oX (aY (aY (eB dd))) (aY (aY (eB (aY (aY (aY (aY dd))))))) [(.fn 68 [(.ptr 6 0),(.ptr 4 0)]),(.d (.sl (aW v2)))] (Dj v3 v6 []) [6,4,5] (jM h6))] (.node 4 [] (.node 5 [] (.node 6 [] (.node 7 [] (.node 8 [(25,oR [(aP v3),(.ptr 7 0),(.ptr 8 0),(.ptr 10 0)] (L2 v3 v6 v7 []) [7,8,10,6,4,9,5] (hY N v3 v7 v6.1 v6.2 v8 h7))] (.node 9 [] (.node 10 [] (.node 11 [] (.node 13 [] (.node 14 [] .nil .nil) .nil) .nil) .nil) .nil) .nil) .nil) .nil) .nil) .nil) (.node 7 [] (.node 3 [(10,oX (aY (aY (eB dd))) (aY (aY (eB (aY (aY (aY (aY dd))))))) [(.fn 68 [(.ptr 6 0),(.ptr 4 0)]),(.d (.sl (aW v2)))] (Dj v3 v6 []) [6,4,5] (jM h6))] (.node 4 [] (.node 5 [] (.node 6 [] (.node 8 [(25,oR [(aP v3),(.ptr 7 0),(.ptr 8 0),(.ptr 10 0)] (L2 v3 v6 v7 []) [7,8,10,6,4,9,5] (hY N v3 v7 v6.1 v6.2 v8 h7))] (.node 9 [] (.node 10 [] (.node 11 [] (.node 13 [] (.node 14 [] .nil .nil) .nil) .nil) .nil) .nil) .nil) .nil) .nil) .nil) .nil) .nil)) (.node 7 [] (.node 1 [(4,oX dd (aY (eB (aY dd))) [(.d (.sl (aZ v1)))] (N6 v3 []) [] (Ap N v1 v6 h5))] (.node 3 [(10,oX (aY (aY (eB dd))) (aY (aY (eB (aY (aY (aY (aY dd))))))) [(.fn 68 [(.ptr 6 0),(.ptr 4 0)]),(.d (.sl (aW v2)))] (Dj v3 v6 []) [6,4,5] (jM h6))] (.node 4 [] (.node 5 [] (.node 6 [] (.node 8 [(25,oR [(aP v3),(.ptr 7 0),(.ptr 8 0),(.ptr 10 0)] (L2 v3 v6 v7 []) [7,8,10,6,4,9,5] (hY N v3 v7 v6.1 v6.2 v8 h7))] (.node 9 [] (.node 10 [] (.node 11 [] (.node 13 [] (.node 14 [] .nil .nil) .nil) .nil) .nil) .nil) .nil) .nil) .nil) .nil) .nil) .nil) .nil)) .nil))) .nil) .nil) [(10,(.ptr 10 0)),(11,(ar v8.2.1))] (S7 v3 v6 v8 v7 []) (by kernel_rfl) ?_
 refine aD ?_;refine aD ?_;refine rg [] [(36,(aK (v8.2.1 !=0)))] (S7 v3 v6 v8 v7 []) (by kernel_rfl) ?_;rcases eC (v8.2.1 !=0)with h8|h8
 ·replace U:=(dx h8).symm.trans U;refine eW (t:=(v8.2.1 !=0)) (by kernel_rfl) h8 ?_;refine aD ?_;refine rg [] [(8,(ar v8.2.1))] (S7 v3 v6 v8 v7 []) (by kernel_rfl) ?_;refine c8 (dg ?_);have hr:=aqk U;subst hr;exact gz (by kernel_rfl)
 replace U:=(eF h8).symm.trans U;refine eP (t:=(v8.2.1 !=0)) (by kernel_rfl) h8 ?_;refine dI ?_;refine bK ?_;refine aD ?_;refine rt 2 bA [] [(8,(ar (0:Int)))] [.cells (aP v3).cells, .cells (bq v8.1.iq).cells, .cells (cq v8.1.fG).cells, .cells [(.d (.sl (aZ v6.1)))], .map (cf bZ v8.2.2), .cells [(.mp 4)], .cells [(.fn 68 [(.ptr 5 0),(.ptr 3 0)])], .cells [(.d (.sl (aW v7)))], .cells [(.fn 65 [(.ptr 6 0),(.ptr 7 0),(.ptr 9 0)]),(.fn 63 [(.ptr 9 0)])], .cells [(.ptr 8 0)], .cells (dK v8.1).cells] (by kernel_rfl) ?_;refine c8 ?_;have hr:=aqk U;subst hr;exact gz (by kernel_rfl)
def LR(N:Nat)(v2:aqP aA):aqP aA->Nat->aqR Bool
 |[],_=>
  some true
 |v5::v6,v3=>
  Option.bind (v2[((v3:Int)).toNat]?) λv7=>
  bif ((v5.xN.toInt==v7.xN.toInt)&&((v5.xD.toInt==v7.xD.toInt)&&true))then
   (LR N v2 v6 (v3+1))
  else
   some false
def E2(N:Nat)(v1:aqP aA)(v2:aqP aA):aqR Bool:=
 bif ((v1.length:Int) !=(v2.length:Int))then
  some false
 else
  LR N v2 v1 0
theorem adn{N v1 v2}:KO 25 [(.d (.sl (dO v1))),(.d (.sl (dO v2)))] aK (E2 N v1 v2):=
 fw Tryz.func25 (gA [[],[(4,oL v1 kX),(10,oL v2 kX)]] (jq λ_=>gT wj 0 v1 λh3=>fu 1 [] [0,1,5] 0 (λv3=>⟨26,[(0,(.d (.sl (dO v1)))),(1,(.d (.sl (dO v2)))),(5,(ar (v3:Int)))],[]⟩) (λv3 h4 f1=>gR [[(7,oL v1 kX)],[f0 (cu h4)],[]]) (λv3 v5 v6 h4 f1 aU=>aB λv7 h5=>gA [[(7,oL v1 kX)],[t0 (cv h4)],[(7,oE (qO (bI h4))),(19,oE (qO h5))]] (k8 λh7=>gb aU () [[f0 (dq h7)],[(5,oq (cD h4 rfl h3))]] h4))))
def A6(N:Nat):aqR Bool:=
 Option.bind (Ch N (⟨[(bs [110])],[],[(⟨(bs [97]),(⟨(1:Int),(0:Int),(0:Int),(0:Int),(0:Int)⟩:aF),[(⟨(0:Int64),[(⟨(bs [110]),(1:Int64)⟩:dC)]⟩:bz)]⟩:eN)],[(⟨(bs [115]),(⟨(1:Int),(0:Int),(0:Int),(0:Int),(0:Int)⟩:aF),[],[(⟨(bs [105]),(⟨(0:Int64),[(⟨(bs [110]),(1:Int64)⟩:dC)]⟩:bz)⟩:du)],(1:Int),(⟨(3:Int),(bs [97]),cP,dR,lv,[(⟨(⟨(0:Int64),[(⟨(bs [105]),(1:Int64)⟩:dC)]⟩:bz),(bs []),[]⟩:cO)],[]⟩:aw)⟩:bB)],[(bs [115])]⟩:aV) ([(⟨(bs [110]),(3:Int64)⟩:aJ)]) ([(⟨(bs [97]),(⟨(⟨(1:Int),(0:Int),(0:Int),(0:Int),(0:Int)⟩:aF),[(3:Int)],[(⟨(1:Int64),(2:Int64)⟩:aA),(⟨(1:Int64),(3:Int64)⟩:aA),(⟨(1:Int64),(6:Int64)⟩:aA)]⟩:aT)⟩:aI)])) λv1=>
 Option.bind (Jc N ([(⟨(bs [97]),(⟨(⟨(1:Int),(0:Int),(0:Int),(0:Int),(0:Int)⟩:aF),[(3:Int)],[(⟨(1:Int64),(2:Int64)⟩:aA),(⟨(1:Int64),(3:Int64)⟩:aA),(⟨(1:Int64),(6:Int64)⟩:aA)]⟩:aT)⟩:aI),(⟨(bs [98]),(⟨(⟨(3:Int),(0:Int),(0:Int),(0:Int),(0:Int)⟩:aF),[(1:Int)],[(⟨(7:Int64),(1:Int64)⟩:aA)]⟩:aT)⟩:aI)]) [] (⟨(3:Int),(bs [97]),cP,dR,lv,[(⟨lv,(bs [98]),[lv]⟩:cO)],[]⟩:aw)) λv2=>
 Option.bind (Jc N [] ([(⟨(bs [105]),(0:Int64)⟩:aJ)]) (⟨(11:Int),(bs []),cP,dR,lv,[],[(⟨(13:Int),(bs []),cP,dR,lv,[],[(⟨(2:Int),(bs []),cP,dR,(⟨(0:Int64),[(⟨(bs [105]),(1:Int64)⟩:dC)]⟩:bz),[],[]⟩:aw),(⟨(2:Int),(bs []),cP,dR,(⟨(1:Int64),[]⟩:bz),[],[]⟩:aw)]⟩:aw),(⟨(1:Int),(bs []),(⟨(1:Int64),(1:Int64)⟩:aA),(⟨(1:Int),(0:Int),(0:Int),(0:Int),(0:Int)⟩:aF),lv,[],[]⟩:aw),(⟨(7:Int),(bs []),cP,dR,lv,[],[(⟨(1:Int),(bs []),(⟨(1:Int64),(1:Int64)⟩:aA),(⟨(1:Int),(0:Int),(0:Int),(0:Int),(0:Int)⟩:aF),lv,[],[]⟩:aw),(⟨(1:Int),(bs []),(⟨(0:Int64),(1:Int64)⟩:aA),(⟨(1:Int),(0:Int),(0:Int),(0:Int),(0:Int)⟩:aF),lv,[],[]⟩:aw)]⟩:aw)]⟩:aw)) λv3=>
 Option.bind (bif (v1.2==0)then(bif ((v1.1.length:Int)==1)then Option.bind (v1.1[0]?) λv4=>
 Option.bind (E2 N v4.cB.dn ([(⟨(1:Int64),(1:Int64)⟩:aA)])) λv5=>
 (bif v5 then(bif (v2.2.2==0)then(bif ((v2.1.xN.toInt==(1:Int64).toInt)&&((v2.1.xD.toInt==(6:Int64).toInt)&&true))then(bif ((v2.2.1.bg==1)&&((v2.2.1.bN==0)&&((v2.2.1.bM==0)&&((v2.2.1.cn==0)&&((v2.2.1.ck==0)&&true)))))then(bif (v3.2.2==0)then some ((v3.1.xN.toInt==(1:Int64).toInt)&&((v3.1.xD.toInt==(1:Int64).toInt)&&true))else some false)else some false)else some false)else some false)else some false)else some false)else some false) λv6=>
 some v6
theorem RK{N}:KO 9 [] aK (A6 N):=
 fw Tryz.func9 (aB λv1 J=>aB λv2 h2=>aB λv3 h3=>gA [[],[],[],[],[],[],[],[],[(16,cK Vb J)],[(25,cL (ade h2))],[],[],[(14,⟨_,_, .eq (congrArg AV.full (qB [(⟨(2:Int),(bs []),cP,dR,(⟨(0:Int64),[(⟨(bs [105]),(1:Int64)⟩:dC)]⟩:bz),[],[]⟩:aw),(⟨(2:Int),(bs []),cP,dR,(⟨(1:Int64),[]⟩:bz),[],[]⟩:aw)]).symm)⟩)],[(20,⟨_,_, .eq (congrArg AV.full (qB [(⟨(1:Int),(bs []),(⟨(1:Int64),(1:Int64)⟩:aA),(⟨(1:Int),(0:Int),(0:Int),(0:Int),(0:Int)⟩:aF),lv,[],[]⟩:aw),(⟨(1:Int),(bs []),(⟨(0:Int64),(1:Int64)⟩:aA),(⟨(1:Int),(0:Int),(0:Int),(0:Int),(0:Int)⟩:aF),lv,[],[]⟩:aw)]).symm)⟩),(26,⟨_,_, .eq (congrArg AV.full (qB [(⟨(13:Int),(bs []),cP,dR,lv,[],[(⟨(2:Int),(bs []),cP,dR,(⟨(0:Int64),[(⟨(bs [105]),(1:Int64)⟩:dC)]⟩:bz),[],[]⟩:aw),(⟨(2:Int),(bs []),cP,dR,(⟨(1:Int64),[]⟩:bz),[],[]⟩:aw)]⟩:aw),(⟨(1:Int),(bs []),(⟨(1:Int64),(1:Int64)⟩:aA),(⟨(1:Int),(0:Int),(0:Int),(0:Int),(0:Int)⟩:aF),lv,[],[]⟩:aw),(⟨(7:Int),(bs []),cP,dR,lv,[],[(⟨(1:Int),(bs []),(⟨(1:Int64),(1:Int64)⟩:aA),(⟨(1:Int),(0:Int),(0:Int),(0:Int),(0:Int)⟩:aF),lv,[],[]⟩:aw),(⟨(1:Int),(bs []),(⟨(0:Int64),(1:Int64)⟩:aA),(⟨(1:Int),(0:Int),(0:Int),(0:Int),(0:Int)⟩:aF),lv,[],[]⟩:aw)]⟩:aw)]).symm)⟩),(31,cL (ade h3))]] (gG (λv6=>[(0,(aK v6))]) (λ_=>[.cells [(ar (1:Int)),(ar (0:Int)),(ar (0:Int)),(ar (0:Int)),(ar (0:Int))], .cells [(ar (3:Int)),(ar (0:Int)),(ar (0:Int)),(ar (0:Int)),(ar (0:Int))], .cells [(bC (0:Int64)),(.full (gN [(⟨(bs [110]),(1:Int64)⟩:dC)]))], .cells [(bC (0:Int64)),(.full (gN [(⟨(bs [105]),(1:Int64)⟩:dC)]))], .cells [(di (bs [115])),(ar (1:Int)),(ar (0:Int)),(ar (0:Int)),(ar (0:Int)),(ar (0:Int)),(.d (.v (.slice none 0 0))),(.full (dAxiss [(⟨(bs [105]),(⟨(0:Int64),[(⟨(bs [110]),(1:Int64)⟩:dC)]⟩:bz)⟩:du)])),(ar (1:Int)),(ar (3:Int)),(di (bs [97])),(bC (0:Int64)),(bC (0:Int64)),(ar (0:Int)),(ar (0:Int)),(ar (0:Int)),(ar (0:Int)),(ar (0:Int)),(bC (0:Int64)),(.d (.v (.slice none 0 0))),(.full (eZ [(⟨(⟨(0:Int64),[(⟨(bs [105]),(1:Int64)⟩:dC)]⟩:bz),(bs []),[]⟩:cO)])),(.d (.v (.slice none 0 0)))], .cells [(.full (ep [(bs [110])])),(.d (.v (.slice none 0 0))),(.full (kO [(⟨(bs [97]),(⟨(1:Int),(0:Int),(0:Int),(0:Int),(0:Int)⟩:aF),[(⟨(0:Int64),[(⟨(bs [110]),(1:Int64)⟩:dC)]⟩:bz)]⟩:eN)])),(.full (iV [(⟨(bs [115]),(⟨(1:Int),(0:Int),(0:Int),(0:Int),(0:Int)⟩:aF),[],[(⟨(bs [105]),(⟨(0:Int64),[(⟨(bs [110]),(1:Int64)⟩:dC)]⟩:bz)⟩:du)],(1:Int),(⟨(3:Int),(bs [97]),cP,dR,lv,[(⟨(⟨(0:Int64),[(⟨(bs [105]),(1:Int64)⟩:dC)]⟩:bz),(bs []),[]⟩:cO)],[]⟩:aw)⟩:bB)])),(.full (ep [(bs [115])]))], .cells [(di (bs [97])),(ar (1:Int)),(ar (0:Int)),(ar (0:Int)),(ar (0:Int)),(ar (0:Int)),(.full (bn [(3:Int)])),(.full (dO [(⟨(1:Int64),(2:Int64)⟩:aA),(⟨(1:Int64),(3:Int64)⟩:aA),(⟨(1:Int64),(6:Int64)⟩:aA)]))], .cells [(di (bs [98])),(ar (3:Int)),(ar (0:Int)),(ar (0:Int)),(ar (0:Int)),(ar (0:Int)),(.full (bn [(1:Int)])),(.full (dO [(⟨(7:Int64),(1:Int64)⟩:aA)]))], .cells (bq v2.1).cells, .cells (cq v2.2.1).cells, .cells [(ar (1:Int)),(di (bs [])),(bC (1:Int64)),(bC (1:Int64)),(ar (1:Int)),(ar (0:Int)),(ar (0:Int)),(ar (0:Int)),(ar (0:Int)),(bC (0:Int64)),(.d (.v (.slice none 0 0))),(.d (.v (.slice none 0 0))),(.d (.v (.slice none 0 0)))], .cells [(ar (1:Int)),(di (bs [])),(bC (0:Int64)),(bC (1:Int64)),(ar (1:Int)),(ar (0:Int)),(ar (0:Int)),(ar (0:Int)),(ar (0:Int)),(bC (0:Int64)),(.d (.v (.slice none 0 0))),(.d (.v (.slice none 0 0))),(.d (.v (.slice none 0 0)))], .cells [(ar (13:Int)),(di (bs [])),(bC (0:Int64)),(bC (0:Int64)),(ar (0:Int)),(ar (0:Int)),(ar (0:Int)),(ar (0:Int)),(ar (0:Int)),(bC (0:Int64)),(.d (.v (.slice none 0 0))),(.d (.v (.slice none 0 0))),(.full (jg [(⟨(2:Int),(bs []),cP,dR,(⟨(0:Int64),[(⟨(bs [105]),(1:Int64)⟩:dC)]⟩:bz),[],[]⟩:aw),(⟨(2:Int),(bs []),cP,dR,(⟨(1:Int64),[]⟩:bz),[],[]⟩:aw)]))], .cells (bq v3.1).cells, .cells (cq v3.2.1).cells]) (aC (λh4=>dE (2,bT h4) (dQ (13,oL v1.1 kg) (aC (λh5=>aB λv4 h6=>aB λv5 h7=>dE (7,bT h5) (dQ (28,oE (k:=0) (jJ h6)) (dQ (46,cK adn h7) (aC (λh8=>dE (17,bT h8) (aC (λh9=>dE (21,bT h9) (aC (λbE=>dE (26,bT bE) (aC (λbD=>dE (31,bT bD) (aC (λbw=>gE [(35,bT bw)] []) λbw=>gE [(35,bF bw)] [])) λbD=>gE [(31,bF bD),(35,bF rfl)] [])) λbE=>gE [(26,bF bE),(31,bF rfl),(35,bF rfl)] [])) λh9=>gE [(21,bF h9),(26,bF rfl),(31,bF rfl),(35,bF rfl)] [])) λh8=>gE [(17,bF h8),(21,bF rfl),(26,bF rfl),(31,bF rfl),(35,bF rfl)] [])))) λh5=>gE [(7,bF h5),(17,bF rfl),(21,bF rfl),(26,bF rfl),(31,bF rfl),(35,bF rfl)] []))) λh4=>gE [(2,bF h4),(7,bF rfl),(17,bF rfl),(21,bF rfl),(26,bF rfl),(31,bF rfl),(35,bF rfl)] []) λv6=>gR []))
def vp(N:Nat)(v2:aqP Int):aqP Int->Nat->aqR Bool
 |[],_=>
  some true
 |v5::v6,v3=>
  Option.bind (v2[((v3:Int)).toNat]?) λv7=>
  bif (v5 !=v7)then
   some false
  else
   (vp N v2 v6 (v3+1))
def tC(N:Nat)(v1:aqP Int)(v2:aqP Int):aqR Bool:=
 bif ((v1.length:Int) !=(v2.length:Int))then
  some false
 else
  vp N v2 v1 0
theorem QF{N v1 v2}:KO 16 [(.d (.sl (bn v1))),(.d (.sl (bn v2)))] aK (tC N v1 v2):=
 fw Tryz.func16 (gA [[],[(4,oL v1 fy),(10,oL v2 fy)]] (jq λ_=>gT l8 0 v1 λh3=>fu 1 [] [0,1,5] 0 (λv3=>⟨26,[(0,(.d (.sl (bn v1)))),(1,(.d (.sl (bn v2)))),(5,(ar (v3:Int)))],[]⟩) (λv3 h4 f1=>gR [[(7,oL v1 fy)],[f0 (cu h4)],[]]) (λv3 v5 v6 h4 f1 aU=>aB λv7 h5=>gA [[(7,oL v1 fy)],[t0 (cv h4)],[(7,oE (iK (bI h4))),(19,oE (iK h5))]] (bQ λh7=>gb aU () [[f0 h7],[(5,oq (cD h4 rfl h3))]] h4))))
def xr(N:Nat)(v1:aT)(v2:aT):aqR Bool:=
 Option.bind (bif ((v1.ax.bg==v2.ax.bg)&&((v1.ax.bN==v2.ax.bN)&&((v1.ax.bM==v2.ax.bM)&&((v1.ax.cn==v2.ax.cn)&&((v1.ax.ck==v2.ax.ck)&&true)))))then (tC N v1.aS v2.aS).bind λv3=>
 (bif v3 then (E2 N v1.dn v2.dn).bind λv4=>
 some v4 else some false)else some false) λv5=>
 some v5
theorem anw{N v1 v2}:KO 20 [(gZ v1),(gZ v2)] aK (xr N v1 v2):=
 fw Tryz.func20 (gA [[]] (gG (λv5=>[(4,(aK v5))]) (λ_=>[.cells (gZ v1).cells, .cells (gZ v2).cells]) (aC (λJ=>aB λv3 h2=>dE (5,bT J) (dQ (31,cK QF h2) (aC (λh3=>aB λv4 h4=>gE [(12,bT h3)] [(52,cK adn h4)]) λh3=>gE [(12,bF h3)] []))) λJ=>gE [(5,bF J),(12,bF rfl)] []) λv5=>gR []))
def aoY(N:Nat)(v2:aqP aI):aqP aI->Nat->aqR Bool
 |[],_=>
  some true
 |v5::v6,v3=>
  Option.bind (v2[((v3:Int)).toNat]?) λv7=>
  Option.bind (bif (bL v5.au==bL v7.au)then (xr N v5.cB v7.cB).bind λv8=>
  some (!v8)else some true) λv9=>
  bif v9 then
   some false
  else
   (aoY N v2 v6 (v3+1))
def Eu(N:Nat)(v1:aV)(v2:aqP aJ)(v3:aqP aI):aqR ((aqP aI)×Int):=
 (Mp N v1 v2 v3).bind λv4=>
 bif (v4.2 !=0)then
  some ([],v4.2)
 else
  bif (decide ((0:Int)<=(v1.aX.length:Int)))then
  bif (decide (((v1.aX.length:Int)).toNat<=v4.1.length))then
  some ((v4.1.drop ((v1.aX.length:Int)).toNat),(0:Int))
  else none
  else none
theorem agu{N v1 v2 v3}:KO 12 [(dW v1),(.d (.sl (aW v2))),(.d (.sl (aZ v3)))] (λr=> .bj [(.d (.sl (aZ r.1))),(ar r.2)]) (Eu N v1 v2 v3):=
 fw Tryz.func12 (aB λv4 J=>gA [[],[(10,cK Xs J)],[]] (bQ λh2=>dN λh3=>dN λh4=>gR [[f0 h2],[(10,oL v1.aX ri),(13,⟨_,_, .PB (xs:=aZ v4.1) (lo:=(v1.aX.length:Int)) (of_decide_eq_true h3) (by rw[kg];exact(of_decide_eq_true h4)) Uq agy⟩)]]))
def Ow(N:Nat)(v1:aV)(v2:aqP aJ)(v3:aqQ):aqR ((aqP Int)×Int):=
 (BB N v1 v2).bind λv4=>
 bif (v4 !=0)then
  some ([],v4)
 else
  (wq N v1 v2 v3).bind λv5=>
  some (v5.1,v5.2.2)
theorem aj6{N v1 v2 v3}:KO 15 [(dW v1),(.d (.sl (aW v2))),(di v3)] (λr=> .bj [(.d (.sl (bn r.1))),(ar r.2)]) (Ow N v1 v2 v3):=
 fw Tryz.func15 (aB λv4 J=>gA [[],[(7,cK WU J)],[]] (bQ λh2=>aB λv5 h3=>gR [[f0 h2],[(10,cK Il h3)],[]]))
def uS(N:Nat)(v1:aF):aqR Bool:=
 Option.bind (bif (v1.bg==1)then some true else some (v1.bg==3)) λv2=>
 bif v2 then
  Option.bind (bif (v1.bN==0)then(bif (v1.bM==0)then(bif (v1.cn==0)then some (v1.ck==0)else some false)else some false)else some false) λv3=>
  some v3
 else
  Option.bind (bif (v1.bg==2)then(bif (decide (v1.bN>=2))then(bif (decide (v1.bN<=31))then(bif (decide (v1.bM>=0))then(bif (decide (v1.bM<=30))then(bif (decide (v1.cn>=1))then(bif (decide (v1.cn<=4))then(bif (v1.ck==1)then some true else some (v1.ck==2))else some false)else some false)else some false)else some false)else some false)else some false)else some false) λv4=>
  some v4
theorem aeH{N v1}:KO 32 [(cq v1)] aK (uS N v1):=
 fw Tryz.func32 (gA [[]] (gG (λv2=>[(10,(aK v2))]) (λ_=>[.cells (cq v1).cells]) (aC (λJ=>gE [(3,bT J)] []) λJ=>gE [(3,bF J)] []) λv2=>aC (λh3=>gA [[t0 h3]] (gG (λv3=>[(2,(aK v3))]) (λ_=>[.cells (cq v1).cells]) (aC (λh4=>dE (3,bT h4) (aC (λh5=>dE (8,bT h5) (aC (λh6=>gE [(13,bT h6)] []) λh6=>gE [(13,bF h6)] [])) λh5=>gE [(8,bF h5),(13,bF rfl)] [])) λh4=>gE [(3,bF h4),(8,bF rfl),(13,bF rfl)] []) λv3=>gR [])) λh3=>gA [[f0 h3]] (gG (λv4=>[(2,(aK v4))]) (λ_=>[.cells (cq v1).cells]) (aC (λh8=>dE (3,bT h8) (aC (λh9=>dE (8,bT h9) (aC (λbE=>dE (13,bT bE) (aC (λbD=>dE (18,bT bD) (aC (λbw=>dE (23,bT bw) (aC (λcN=>dE (28,bT cN) (aC (λcS=>dE (33,bT cS) (aC (λcH=>gE [(37,bT cH)] [(124,bT cH)]) λcH=>gE [(37,bF cH)] [(124,bF cH)])) λcS=>gE [(33,bF cS),(37,uN)] [])) λcN=>gE [(28,bF cN),(33,bF rfl),(37,uN)] [])) λbw=>gE [(23,bF bw),(28,bF rfl),(33,bF rfl),(37,uN)] [])) λbD=>gE [(18,bF bD),(23,bF rfl),(28,bF rfl),(33,bF rfl),(37,uN)] [])) λbE=>gE [(13,bF bE),(18,bF rfl),(23,bF rfl),(28,bF rfl),(33,bF rfl),(37,uN)] [])) λh9=>gE [(8,bF h9),(13,bF rfl),(18,bF rfl),(23,bF rfl),(28,bF rfl),(33,bF rfl),(37,uN)] [])) λh8=>gE [(3,bF h8),(8,bF rfl),(13,bF rfl),(18,bF rfl),(23,bF rfl),(28,bF rfl),(33,bF rfl),(37,uN)] []) λv4=>gR [])))
def MM(N:Nat):aqP Int->Nat->Int->aqR Int
 |[],_,_=>
  some (0:Int)
 |v8::v9,v6,v10=>
  bif (v10 !=0)then
  bif (decide (v8>(IntKind.i64.wrap (((4096:Int)).tdiv v10))))then
   some (2:Int)
  else
   (λgW=>MM N v9 (v6+1) gW) (aO (v10*v8))
  else none
def Ed(N:Nat)(v1:aqP Int):aqP Int->Nat->aqR Int
 |[],_=>
  MM N v1 0 (1:Int)
 |v4::v5,v2=>
  bif (decide (v4<1))then
   some (1:Int)
  else
   (Ed N v1 v5 (v2+1))
def KR(N:Nat)(v1:aqP Int):aqR Int:=
 bif (decide ((v1.length:Int)>6))then
  some (2:Int)
 else
  Ed N v1 v1 0
theorem ajR{N v1}:KO 33 [(.d (.sl (bn v1)))] ar (KR N v1):=
 fw Tryz.func33 (gA [[],[(4,oL v1 fy)]] (jq λ_=>gT l8 0 v1 λh3=>fu 1 [] [0,3] 0 (λv2=>⟨39,[(0,(.d (.sl (bn v1)))),(3,(ar (v2:Int)))],[]⟩) (λv2 h4 f1=>gA [[(7,oL v1 fy)],[f0 (cu h4)],[],[]] (gT l8 0 v1 λh6=>gU 2 [] [0,4,5] 0 (λv6(v10:Int)=>⟨39,[(0,(.d (.sl (bn v1)))),(4,(ar v10)),(5,(ar (v6:Int)))],[]⟩) (λv6 v10 h7 f2=>gR [[(7,oL v1 fy)],[f0 (cu h7)],[]]) (λv6 v8 v9 v10 h7 f2 fi=>dN λh8=>gA [[(7,oL v1 fy)],[t0 (cv h7)],[(7,oE (iK (bI h7))),(16,⟨_,_, .nz (b:=v10) (bne_iff_ne.1 h8)⟩)]] (bQ λh9=>gb fi (aO (v10*v8)) [[f0 h9],[(10,oE (iK (bI h7)))],[(5,oq (cD h7 rfl h6))]] h7)))) (λv2 v4 v5 h4 f1 aU=>gA [[(7,oL v1 fy)],[t0 (cv h4)],[(7,oE (iK (bI h4)))]] (bQ λbE=>gb aU () [[f0 bE],[(5,oq (cD h4 rfl h3))]] h4))))
def KU(N:Nat):aqP Int->Nat->Int->aqR Int
 |[],_,v6=>
  some v6
 |v4::v5,v2,v6=>
  (λcl=>KU N v5 (v2+1) cl) (aO (v6*v4))
def Hw(N:Nat)(v1:aqP Int):aqR Int:=
 KU N v1 0 (1:Int)
theorem an6{N v1}:KO 34 [(.d (.sl (bn v1)))] ar (Hw N v1):=
 fw Tryz.func34 (gA [[],[],[]] (gT l8 0 v1 λh2=>gU 1 [] [0,3,4] 0 (λv2(v6:Int)=>⟨18,[(0,(.d (.sl (bn v1)))),(3,(ar v6)),(4,(ar (v2:Int)))],[]⟩) (λv2 v6 h3 f1=>gR [[(7,oL v1 fy)],[f0 (cu h3)],[]]) (λv2 v4 v5 v6 h3 f1 aU=>gb aU (aO (v6*v4)) [[(7,oL v1 fy)],[t0 (cv h3)],[(10,oE (iK (bI h3)))],[(5,oq (cD h3 rfl h2))]] h3)))
def Hd(N:Nat):Nat->Int64->Int64->aqR Int64
 |0,_,_=>none
 |v3+1,v4,v5=>
  bif (v5.toInt !=0)then
   (λcl fx=>Hd N v3 cl fx) v5 (Int64.ofInt ((v4.toInt).tmod v5.toInt))
  else
   some v4
def Qn(N:Nat)(v1:Int64)(v2:Int64):aqR Int64:=
 Hd N N v1 v2
theorem ajV{N v1 v2}:KO 58 [(bC v1),(bC v2)] bC (Qn N v1 v2):=
 fw Tryz.func58 (gf2 1 [[]] [0,1] 0 (λ(v4:Int64)(v5:Int64)=>⟨12,[(0,(bC v4)),(1,(bC v5))],[]⟩) (Hd N) (λv3 v4 v5 f1 aU=>gA [[]] (qn λJ=>FR aU (v5,(Int64.ofInt ((v4.toInt).tmod v5.toInt))) [[t0 J],[(10,⟨_,_, .nz (b:=v5.toInt) (bne_iff_ne.1 J)⟩),(11,⟨_,_, .eq (Sq v4 v5.toInt)⟩)]])))
def Fl(N:Nat)(v1:aF)(v2:aA):aqR Bool:=
 bif (v1.bg==2)then
  bif (decide ((0:Int)<=(aO (v1.bN-(1:Int)))))then
  Option.bind (bif (v2.xD.toInt==1)then(bif (decide (v2.xN.toInt>=(-(Int64.ofInt ((1:Int)*2^(min ((aO (v1.bN-(1:Int)))).toNat (IntKind.bits .i64))))).toInt))then some (decide (v2.xN.toInt<(Int64.ofInt ((1:Int)*2^(min ((aO (v1.bN-(1:Int)))).toNat (IntKind.bits .i64)))).toInt))else some false)else some false) λv3=>
  some v3
  else none
 else
  Option.bind (bif (decide (v2.xN.toInt>2147483647))then some true else(bif (decide (v2.xN.toInt<(-2147483647:Int)))then some true else(bif (decide (v2.xD.toInt<1))then some true else some (decide (v2.xD.toInt>2147483647))))) λv4=>
  bif v4 then
   some false
  else
   bif (v1.bg==3)then
    some (v2.xD.toInt==1)
   else
    Option.bind (Qn N (yM v2.xN (-v2.xN)) v2.xD) λv5=>
    some (v5.toInt==1)
theorem ae9{N v1 v2}:KO 35 [(cq v1),(bq v2)] aK (Fl N v1 v2):=
 fw Tryz.func35 (gA [[],[]] (aC (λJ=>dN λh2=>gA [[t0 J],[(10,⟨_,_, .nn (b:=(aO (v1.bN-(1:Int)))) (of_decide_eq_true h2)⟩),(11,⟨_,_, .eq (kA ((1:Int)*2^(min ((aO (v1.bN-(1:Int)))).toNat (IntKind.bits .i64))))⟩)]] (gG (λv3=>[(4,(aK v3))]) (λ_=>[.cells (cq v1).cells, .cells (bq v2).cells]) (aC (λh3=>dE (3,bT h3) (dQ (23,⟨_,_, .eq (zP (Int64.ofInt ((1:Int)*2^(min ((aO (v1.bN-(1:Int)))).toNat (IntKind.bits .i64)))))⟩) (aC (λh4=>gE [(10,bT h4)] []) λh4=>gE [(10,bF h4)] []))) λh3=>gE [(3,bF h3),(10,bF rfl)] []) λv3=>gR [])) λJ=>gA [[f0 J]] (gG (λv4=>[(46,(aK v4))]) (λ_=>[.cells (cq v1).cells, .cells (bq v2).cells]) (aC (λh6=>gE [(3,bT h6),(8,bT rfl),(13,bT rfl)] []) λh6=>dE (3,bF h6) (aC (λh7=>gE [(8,bT h7),(13,bT rfl)] []) λh7=>dE (8,bF h7) (aC (λh8=>gE [(13,bT h8)] []) λh8=>gE [(13,bF h8)] []))) λv4=>jq λ_=>bQ λbD=>aB λv5 bw=>gR [[f0 bD],[(14,⟨_,_, .eq (zP v2.xN)⟩),(17,⟨_,_, .eq (aa7 v2.xN (-v2.xN))⟩),(25,cK ajV bw)]])))
def Hp(N:Nat)(v1:aT):aqP aA->Nat->aqR Int
 |[],_=>
  some (0:Int)
 |v7::v8,v5=>
  (Fl N v1.ax v7).bind λv9=>
  bif v9 then
   (Hp N v1 v8 (v5+1))
  else
   some (1:Int)
def Iy(N:Nat)(v1:aT):aqR Int:=
 (uS N v1.ax).bind λv2=>
 bif v2 then
  (KR N v1.aS).bind λv3=>
  bif (v3 !=0)then
   some v3
  else
   (Hw N v1.aS).bind λv4=>
   bif ((v1.dn.length:Int) !=v4)then
    some (1:Int)
   else
    Hp N v1 v1.dn 0
 else
  some (10:Int)
theorem ags{N v1}:KO 17 [(gZ v1)] ar (Iy N v1):=
 fw Tryz.func17 (aB λv2 J=>gA [[],[(7,cK aeH J)]] (k8 λh2=>aB λv3 h3=>gA [[f0 (dq h2)],[(7,cK ajR h3)],[]] (bQ λh4=>aB λv4 h5=>gA [[f0 h4],[(7,oL v1.dn kX),(16,cK an6 h5)]] (jq λ_=>gB wj 0 6 v1.dn λh8=>fu 1 [] [1,4] 1 (λv5=>⟨38,[(1,(.ptr 0 0)),(4,(ar (v5:Int)))],[.cells (gZ v1).cells]⟩) (λv5 h9 f1=>gR [[(10,oL v1.dn kX)],[f0 (cu h9)],[]]) (λv5 v7 v8 h9 f1 aU=>aB λv9 bE=>gA [[(10,oL v1.dn kX)],[t0 (cv h9)],[(16,oE (qO (bI h9))),(22,cK ae9 bE)]] (k8 λbD=>gb aU () [[f0 (dq bD)],[(5,oq (cD h9 rfl h8))]] h9))))))
def Lt(N:Nat)(v2:aqQ):aqP aI->Nat->aqR (aT×Bool)
 |[],_=>
  some (lk,false)
 |v5::v6,v3=>
  bif (bL v5.au==bL v2)then
   some (v5.cB,true)
  else
   (Lt N v2 v6 (v3+1))
def IJ(N:Nat)(v1:aqP aI)(v2:aqQ):aqR (aT×Bool):=
 Lt N v2 v1 0
theorem ajp{N v1 v2}:KO 18 [(.d (.sl (aZ v1))),(di v2)] (λr=> .bj [(gZ r.1),(aK r.2)]) (IJ N v1 v2):=
 fw Tryz.func18 (gA [[],[]] (gT qZ 0 v1 λh2=>gx0 1 [] [0,1,4,6] 1 [] [(0,5),(0,6)] (λv3=>⟨26,[(0,(.d (.sl (aZ v1)))),(1,(di v2)),(4,(.ptr 0 0)),(6,(ar (v3:Int)))],[.cells NX]⟩) (λv3 h3 f1=>gR [[(7,oL v1 kg)],[f0 (cu h3)],[]]) (λv3 v5 v6 h3 f1 aU=>gA [[(7,oL v1 kg)],[t0 (cv h3)],[(7,oE (jJ (bI h3)))]] (aC (λh4=>gR [[t0 h4],[(7,oE (jJ (bI h3)))]]) λh4=>gbX aU () [[f0 h4],[(5,oq (cD h3 rfl h2))]] h3))))
def Ir(N:Nat)(v2:aqQ):aqP bB->Nat->aqR Int
 |[],_=>
  some (-1:Int)
 |v5::v6,v3=>
  bif (bL v5.au==bL v2)then
   some (v3:Int)
  else
   (Ir N v2 v6 (v3+1))
def Ra(N:Nat)(v1:aV)(v2:aqQ):aqR Int:=
 Ir N v2 v1.aG 0
theorem aiG{N v1 v2}:KO 19 [(dW v1),(di v2)] ar (Ra N v1 v2):=
 fw Tryz.func19 (gA [[],[]] (gB Af 0 3 v1.aG λh2=>fu 1 [] [1,2,5] 1 (λv3=>⟨22,[(1,(di v2)),(2,(.ptr 0 0)),(5,(ar (v3:Int)))],[.cells (dW v1).cells]⟩) (λv3 h3 f1=>gR [[(10,oL v1.aG lz)],[f0 (cu h3)],[]]) (λv3 v5 v6 h3 f1 aU=>gA [[(10,oL v1.aG lz)],[t0 (cv h3)],[(10,oE (k9 (bI h3)))]] (bQ λh4=>gb aU () [[f0 h4],[(5,oq (cD h3 rfl h2))]] h3))))
def zF(N:Nat)(da:aT×Bool)(cm:aI)(fk:aqQ)(cL2:aqR Bool)(fK:Int)(fg:Int)(iE:Int)(v28:Int)(lN:Int)(v30:aqP Int)(v31:aqP aA):aqR Bool:=
 Option.bind (bif da.2 then(bif (bL cm.au==bL fk)then Option.bind (xr N cm.cB (⟨(⟨fK,fg,iE,v28,lN⟩:aF),v30,v31⟩:aT)) λuM=>
 some (!uM)else some true)else some true) λlr=>
 bif lr then
  some false
 else
  cL2
def qy(N:Nat)(v3:aqP aI)(v8:(aqP aI)×Int)(v1:aV):aqP aI->Nat->aqR Bool
 |[],_=>
  (A6 N).bind λv21=>
  some v21
 |cm::v20,cw=>
  bif (Nat.ble ((0+v3.length)*104) 140737488355328)then
  bif (Nat.ble ((v3.length+v8.1.length)*104) 140737488355328)then
  Option.bind (v1.c9[((cw:Int)).toNat]?) λfk=>
  Option.bind (IJ N (v3++v8.1) fk) λda=>
  (Ra N v1 fk).bind λv24=>
  bif (decide (v24>=0))then
   bif (decide ((0:Int)<=v24))then
   Option.bind (v8.1[(v24).toNat]?) λlE=>
   zF N da cm fk (qy N v3 v8 v1 v20 (cw+1)) lE.cB.ax.bg lE.cB.ax.bN lE.cB.ax.bM lE.cB.ax.cn lE.cB.ax.ck lE.cB.aS lE.cB.dn
   else none
  else
   zF N da cm fk (qy N v3 v8 v1 v20 (cw+1)) da.1.ax.bg da.1.ax.bN da.1.ax.bM da.1.ax.cn da.1.ax.ck da.1.aS da.1.dn
  else none
  else none
def wo(N:Nat)(v3:aqP aI)(v8:(aqP aI)×Int)(v1:aV)(v9:(aqP aI)×Int)(v2:aqP aJ):aqP aI->Nat->aqR Bool
 |[],_=>
  qy N v3 v8 v1 v9.1 0
 |bu::bG,aL=>
  Option.bind (v1.aG[((aL:Int)).toNat]?) λlM=>
  (Ow N v1 v2 lM.au).bind λEp=>
  Option.bind (bif (Ep.2 !=0)then some true else(bif (bL bu.au==bL lM.au)then(bif ((bu.cB.ax.bg==lM.ax.bg)&&((bu.cB.ax.bN==lM.ax.bN)&&((bu.cB.ax.bM==lM.ax.bM)&&((bu.cB.ax.cn==lM.ax.cn)&&((bu.cB.ax.ck==lM.ax.ck)&&true)))))then (tC N bu.cB.aS Ep.1).bind λv37=>
  (bif v37 then (Iy N bu.cB).bind λMU=>
  some (MU !=0)else some true)else some true)else some true)) λHk=>
  bif Hk then
   some false
  else
   (wo N v3 v8 v1 v9 v2 bG (aL+1))
def JJ(N:Nat)(v1:aV)(v2:aqP aJ)(v3:aqP aI):aqR Bool:=
 Option.bind (I8 N v1 v2 (8:Int64)) λv4=>
 Option.bind (bif v4 then (Oz N v3).bind λv5=>
 some (!v5)else some true) λv6=>
 bif v6 then
  (A6 N).bind λv7=>
  some v7
 else
  (Eu N v1 v2 v3).bind λv8=>
  (Ch N v1 v2 v3).bind λv9=>
  bif (v8.2 !=v9.2)then
   some false
  else
   bif (v8.2 !=0)then
    Option.bind (bif ((aO ((v8.1.length:Int)+(v9.1.length:Int)))==0)then (A6 N).bind λv10=>
    some v10 else some false) λv11=>
    some v11
   else
    Option.bind (bif ((v8.1.length:Int) !=(v1.aG.length:Int))then some true else some ((v9.1.length:Int) !=(v1.c9.length:Int))) λv12=>
    bif v12 then
     some false
    else
     wo N v3 v8 v1 v9 v2 v8.1 0
def tu(v1:aV)(l:aqP aq):aqP aq:= .cells (dW v1).cells::l
theorem am8{N v1 v2 v3 r}(U:JJ N v1 v2 v3=some r):KF 6 [(dW v1),(.d (.sl (aW v2))),(.d (.sl (aZ v3)))] (aK r):=by
 rw[JJ]at U;refine IA Tryz.func6 ?_;refine gw bA [[]] ?_;obtain⟨v4,J,v6,h4,U⟩:=zn U;refine rH bA [(26,(aK v6))] (tu v1 []) ?_ ?_
 ·apply bc h4<;>intro h2 h4
  ·obtain⟨v5,h3,h4⟩:=bO h4;cases h4;exact jb [(4,bF (dq h2))] [(7,cK ac3 J),(19,cK alI h3)]
  cases h4;exact jb [(4,bT (dZ h2))] [(7,cK ac3 J)]
 apply bc U<;>intro h5 U
 ·obtain⟨v7,h6,U⟩:=bO U;cases U;exact wr bA [[(0,bT h5)],[(1,cK RK h6)]]
 obtain⟨v8,h7,v9,h8,U⟩:=zn U;refine gw bA [[(0,bF h5)],[(10,cK agu h7)],[(10,cK Vb h8)],[]] ?_;apply bc U<;>intro h9 U
 ·cases U;exact wr bA [[(0,bT h9)],[]]
 refine gw bA [[(0,bF h9)],[]] ?_;apply bc U<;>intro bE U
 ·refine gw bA [[(0,bT bE)]] ?_;obtain⟨v11,cN,U⟩:=bO U;refine rH bA [(6,(aK v11))] (tu v1 []) ?_ ?_
  ·apply bc cN<;>intro bD cN
   ·obtain⟨v10,bw,cN⟩:=bO cN;cases cN;exact jb [(6,bT bD)] [(4,oL v8.1 kg),(10,oL v9.1 kg),(22,cK RK bw)]
   cases cN;exact jb [(6,bF bD)] [(4,oL v8.1 kg),(10,oL v9.1 kg)]
  cases U;exact wr bA []
 refine gw bA [[(0,bF bE)]] ?_;obtain⟨v12,cH,U⟩:=bO U;refine rH bA [(69,(aK v12))] (tu v1 []) ?_ ?_
 ·apply bc cH<;>intro cS cH
  ·cases cH;exact jb [(6,bT cS)] [(4,oL v8.1 kg),(13,oL v1.aG lz)]
  cases cH;exact jb [(6,bF cS)] [(4,oL v8.1 kg),(13,oL v1.aG lz),(25,oL v9.1 kg),(34,oL v1.c9 jT)]
 apply bc U<;>intro cM U
 ·cases U;exact wr bA [[(0,bT cM)],[]]
 refine gw bA [[(0,bF cM)],[]] ?_;refine BT qZ 7 v8.1 λfR=> ?_;refine S9 bA 1 [] [1,2,3,7,9,11] 1 v8.1 (λaL=>⟨199,[(1,(.d (.sl (aW v2)))),(2,(.d (.sl (aZ v3)))),(3,(.ptr 0 0)),(7,(.d (.sl (aZ v8.1)))),(9,(.d (.sl (aZ v9.1)))),(11,(ar (aL:Int)))],(tu v1 [])⟩) (wo N v3 v8 v1 v9 v2) U ?_ ?_
 ·intro aL fj U f1;rw[wo]at U;refine gw bA [[(7,oL v8.1 kg)],[(0,bF (cu fj))],[]] ?_;refine BT qZ 9 v9.1 λkV=> ?_;refine S9 bA 2 [] [2,3,7,9,14] 1 v9.1 (λcw=>⟨199,[(2,(.d (.sl (aZ v3)))),(3,(.ptr 0 0)),(7,(.d (.sl (aZ v8.1)))),(9,(.d (.sl (aZ v9.1)))),(14,(ar (cw:Int)))],(tu v1 [])⟩) (qy N v3 v8 v1) U ?_ ?_
  ·intro cw jl U f2;rw[qy]at U;obtain⟨v21,ie,U⟩:=bO U;cases U;exact wr bA [[(7,oL v9.1 kg)],[(0,bF (cu jl))],[(1,cK RK ie)]]
  intro cw cm v20 jl U f2 fi;rw[qy]at U;refine gw bA [[(7,oL v9.1 kg)],[(0,bT (cv jl))]] ?_;obtain⟨h24,U⟩:=qg U;obtain⟨pO,U⟩:=qg U;obtain⟨fk,mX,da,oC,U⟩:=zn U;refine N1 3 bA [(15,(.ptr 2 0)),(16,(aK da.2))] (tu v1 [.front 40 8 (v3++v8.1).length, .cells (gZ da.1).cells]) ⟨[(7,oZ qZ v3 h24),(13,oA qZ v3 v8.1 pO),(25,oE (n8 mX)),(31,cK ajp oC)],by kernel_rfl⟩ ?_;obtain⟨v24,rU,U⟩:=bO U;refine L5 bA 3 [[(13,oE (n8 mX)),(19,cK aiG rU)],[]] [2,3,7,9,14,15,16] 3 (λ((fK,fg,iE,v28,lN,v30,v31):Int×Int×Int×Int×Int×(aqP Int)×(aqP aA))=>⟨199,[(2,(.d (.sl (aZ v3)))),(3,(.ptr 0 0)),(7,(.d (.sl (aZ v8.1)))),(9,(.d (.sl (aZ v9.1)))),(14,(ar (cw:Int))),(15,(.ptr 2 0)),(16,(aK da.2))],(tu v1 [.front 40 8 (v3++v8.1).length, .cells [(ar fK),(ar fg),(ar iE),(ar v28),(ar lN),(.d (.sl (bn v30))),(.d (.sl (dO v31)))]])⟩) (λ((fK,fg,iE,v28,lN,v30,v31):Int×Int×Int×Int×Int×(aqP Int)×(aqP aA))=>zF N da cm fk (qy N v3 v8 v1 v20 (cw+1)) fK fg iE v28 lN v30 v31=some r) ?_ ?_
  ·intro f3 lB;apply bc U<;>intro Ql U
   ·obtain⟨h37,U⟩:=qg U;obtain⟨lE,h36,U⟩:=bO U;exact lJ bA lB (lE.cB.ax.bg,lE.cB.ax.bN,lE.cB.ax.bM,lE.cB.ax.cn,lE.cB.ax.ck,lE.cB.aS,lE.cB.dn) [[(0,bT Ql)],[(7,⟨_,_, .el (xs:=aZ v8.1) (i:=v24) (of_decide_eq_true h37) (jJ h36)⟩)]] U
   exact lJ bA lB (da.1.ax.bg,da.1.ax.bN,da.1.ax.bM,da.1.ax.cn,da.1.ax.ck,da.1.aS,da.1.dn) [[(0,bF Ql)]] U
  rintro⟨fK,fg,iE,v28,lN,v30,v31⟩ U
  try dsimp only at U
  rw[zF]at U;obtain⟨lr,oy,U⟩:=bO U;refine rH bA [(197,(aK lr))] (tu v1 [.front 40 8 (v3++v8.1).length, .cells [(ar fK),(ar fg),(ar iE),(ar v28),(ar lN),(.d (.sl (bn v30))),(.d (.sl (dO v31)))]]) ?_ ?_
  ·apply bc oy<;>intro lZ oy
   ·apply bc oy<;>intro zc oy
    ·obtain⟨uM,Jg,oy⟩:=bO oy;cases oy;exact jb [(2,bF (dq lZ)),(15,bF (dq zc))] [(16,oE (jJ (bI jl))),(34,oE (n8 mX)),(55,oE (jJ (bI jl))),(67,cK anw Jg)]
    cases oy;exact jb [(2,bF (dq lZ)),(15,bT (dZ zc))] [(16,oE (jJ (bI jl))),(34,oE (n8 mX))]
   cases oy;exact jb [(2,bT (dZ lZ)),(15,bT rfl)] []
  apply bc U<;>intro TJ U
  ·cases U;exact wr bA [[(0,bT TJ)],[]]
  exact wb bA fi () [[(0,bF TJ)],[(5,oq (cD jl rfl kV))]] jl U
 intro aL bu bG fj U f1 aU;rw[wo]at U;obtain⟨lM,wc,Ep,h40,U⟩:=zn U;refine gw bA [[(7,oL v8.1 kg)],[(0,bT (cv fj))],[(16,oE (k9 wc)),(25,cK aj6 h40)]] ?_;obtain⟨Hk,jS,U⟩:=bO U;refine rH bA [(138,(aK Hk))] (tu v1 []) ?_ ?_
 ·apply bc jS<;>intro zD jS
  ·cases jS;exact jb [(2,bT zD),(16,bT rfl),(31,bT rfl),(42,bT rfl)] []
  apply bc jS<;>intro Gl jS
  ·apply bc jS<;>intro KG jS
   ·obtain⟨v37,Yy,jS⟩:=bO jS;apply bc jS<;>intro QM jS
    ·obtain⟨MU,h46,jS⟩:=bO jS;cases jS;exact jb [(2,bF zD),(16,bF (dq Gl)),(31,bF (dq KG)),(42,bF (dq QM))] [(16,oE (jJ (bI fj))),(34,oE (k9 wc)),(58,oE (jJ (bI fj))),(79,oE (k9 wc)),(103,oE (jJ (bI fj))),(118,cK QF Yy),(136,oE (jJ (bI fj))),(145,cK ags h46)]
    cases jS;exact jb [(2,bF zD),(16,bF (dq Gl)),(31,bF (dq KG)),(42,bT (dZ QM))] [(16,oE (jJ (bI fj))),(34,oE (k9 wc)),(58,oE (jJ (bI fj))),(79,oE (k9 wc)),(103,oE (jJ (bI fj))),(118,cK QF Yy)]
   cases jS;exact jb [(2,bF zD),(16,bF (dq Gl)),(31,bT (dZ KG)),(42,bT rfl)] [(16,oE (jJ (bI fj))),(34,oE (k9 wc)),(58,oE (jJ (bI fj))),(79,oE (k9 wc))]
  cases jS;exact jb [(2,bF zD),(16,bT (dZ Gl)),(31,bT rfl),(42,bT rfl)] [(16,oE (jJ (bI fj))),(34,oE (k9 wc))]
 apply bc U<;>intro PM U
 ·cases U;exact wr bA [[(0,bT PM)],[]]
 exact wb bA aU () [[(0,bF PM)],[(5,oq (cD fj rfl fR))]] fj U
def WB(N:Nat):aqR ((aqP aqQ)):=
 some [(bs [115,105,122,101]),(bs [119,104,101,114,101]),(bs [105,110]),(bs [100,101,102]),(bs [111,117,116]),(bs [115,117,109]),(bs [112,114,111,100]),(bs [109,105,110]),(bs [109,97,120]),(bs [115,99,97,110]),(bs [111,118,101,114]),(bs [105,102]),(bs [99,97,115,116]),(bs [102,114,97,99]),(bs [105,110,116]),(bs [102,105,120]),(bs [99,101,105,108]),(bs [102,108,111,111,114]),(bs [122,101,114,111]),(bs [101,118,101,110]),(bs [115,97,116]),(bs [119,114,97,112])]
def Mi(N:Nat)(v2:aqQ):aqP aqQ->Nat->aqR Bool
 |[],_=>
  some false
 |v5::v6,v3=>
  bif (bL v5==bL v2)then
   some true
  else
   (Mi N v2 v6 (v3+1))
def xt(N:Nat)(v1:aqP aqQ)(v2:aqQ):aqR Bool:=
 Mi N v2 v1 0
def ET(N:Nat)(v1:aqQ):Nat->Int->aqR Bool
 |0,_=>none
 |v5+1,v6=>
  bif (decide (v6<(v1.size:Int)))then
   bif (decide ((0:Int)<=v6))then
   Option.bind (v1[(v6).toNat]?) λv7=>
   Option.bind (bif (decide ((v7.toNat:Int)>=97))then(bif (decide ((v7.toNat:Int)<=122))then some (!true)else(bif (decide (v6>0))then(bif (decide ((v7.toNat:Int)>=48))then(bif (decide ((v7.toNat:Int)<=57))then some (!true)else some (!((v7.toNat:Int)==95)))else some (!((v7.toNat:Int)==95)))else some (!false)))else(bif (decide (v6>0))then(bif (decide ((v7.toNat:Int)>=48))then(bif (decide ((v7.toNat:Int)<=57))then some (!true)else some (!((v7.toNat:Int)==95)))else some (!((v7.toNat:Int)==95)))else some (!false))) λv8=>
   bif v8 then
    some false
   else
    (λcl=>ET N v1 v5 cl) (aO (v6+(1:Int)))
   else none
  else
   some true
def zp(N:Nat)(v1:aqQ):aqR Bool:=
 Option.bind (bif (decide ((v1.size:Int)<1))then some true else(bif (decide ((v1.size:Int)>16))then some true else (WB N).bind λv2=>
 (xt N v2 v1).bind λv3=>
 some v3)) λv4=>
 bif v4 then
  some false
 else
  ET N v1 N (0:Int)
def BC(N:Nat)(v1:aqQ)(v2:aqP aqQ):aqR Int:=
 (zp N v1).bind λv3=>
 bif v3 then
  (xt N v2 v1).bind λv4=>
  bif v4 then
   some (8:Int)
  else
   some (0:Int)
 else
  some (7:Int)
def K1(N:Nat)(v1:aV):aqP aqQ->Nat->aqR Int
 |[],_=>
  some (0:Int)
 |v5::v6,v3=>
  bif (decide (((v3:Int)).toNat<=v1.bm.length))then
  Option.bind (BC N v5 ((v1.bm.take ((v3:Int)).toNat).drop 0)) λv7=>
  bif (v7 !=0)then
   some v7
  else
   (K1 N v1 v6 (v3+1))
  else none
def Nd(N:Nat)(v1:aV):aqR Int:=
 Option.bind (bif (decide ((v1.bm.length:Int)>64))then some true else(bif (decide ((v1.aX.length:Int)>64))then some true else(bif (decide ((v1.aG.length:Int)>64))then some true else(bif (decide ((v1.c9.length:Int)>64))then some true else some (decide ((v1.dM.length:Int)>256)))))) λv2=>
 bif v2 then
  some (2:Int)
 else
  K1 N v1 v1.bm 0
def JV(N:Nat)(v1:bz):aqP dC->Nat->aqR Bool
 |[],_=>
  some true
 |v4::v5,v2=>
  (zp N v4.au).bind λv6=>
  Option.bind (bif v6 then(bif (v4.dU.toInt==0)then some true else(bif (decide ((v2:Int)>0))then bif (decide ((0:Int)<=(aO ((v2:Int)-(1:Int)))))then
  Option.bind (v1.xL[((aO ((v2:Int)-(1:Int)))).toNat]?) λv7=>
  some (!(Op.bytesLess (bL v7.au) (bL v4.au)))
  else none else some false))else some true) λv8=>
  bif v8 then
   some false
  else
   (JV N v1 v5 (v2+1))
def wG(N:Nat)(v1:bz):aqR Bool:=
 JV N v1 v1.xL 0
def JZ(N:Nat)(v2:aqP aqQ)(v3:aqP aqQ):aqP dC->Nat->aqR Bool
 |[],_=>
  some true
 |v6::v7,v4=>
  (xt N v2 v6.au).bind λv8=>
  Option.bind (bif v8 then some false else (xt N v3 v6.au).bind λv9=>
  some (!v9)) λv10=>
  bif v10 then
   some false
  else
   (JZ N v2 v3 v7 (v4+1))
def Mr(N:Nat)(v1:bz)(v2:aqP aqQ)(v3:aqP aqQ):aqR Bool:=
 JZ N v2 v3 v1.xL 0
def EN(N:Nat)(v1:bz)(v2:aqP aqQ):aqR Int:=
 (wG N v1).bind λv3=>
 bif v3 then
  Option.bind (Mr N v1 [] v2) λv4=>
  bif v4 then
   some (0:Int)
  else
   some (9:Int)
 else
  some (1:Int)
def Mv(N:Nat)(v2:aqP aqQ):aqP bz->Nat->aqR Int
 |[],_=>
  some (0:Int)
 |v8::v9,v6=>
  (EN N v8 v2).bind λv10=>
  bif (v10 !=0)then
   some v10
  else
   (Mv N v2 v9 (v6+1))
def N9(N:Nat)(v1:eN)(v2:aqP aqQ)(v3:aqP aqQ):aqR Int:=
 (BC N v1.au v3).bind λv4=>
 bif (v4 !=0)then
  some v4
 else
  (uS N v1.ax).bind λv5=>
  bif v5 then
   bif (decide ((v1.aS.length:Int)>6))then
    some (11:Int)
   else
    Mv N v2 v1.aS 0
  else
   some (10:Int)
def LH(N:Nat)(v2:aqP aqQ):aqP du->Nat->(aqP aqQ)->aqR Int
 |[],_,_=>
  some (0:Int)
 |v5::v6,v3,v7=>
  (BC N v5.au v7).bind λv8=>
  bif (v8 !=0)then
   some v8
  else
   (EN N v5.dG v2).bind λv9=>
   bif (v9 !=0)then
    some v9
   else
    bif (Nat.ble ((v7.length+1)*16) 140737488355328)then
    (λcl=>LH N v2 v6 (v3+1) cl) (v7++[v5.au])
    else none
def Re(N:Nat)(v1:aqP du)(v2:aqP aqQ):aqR Int:=
 bif (Nat.ble ((0+v2.length)*16) 140737488355328)then
 LH N v2 v1 0 v2
 else none
def P5(N:Nat)(v1:bB):aqR Int:=
 Option.bind (bif (decide (v1.dj<0))then some true else some (decide (v1.dj>5))) λv2=>
 bif v2 then
  some (1:Int)
 else
  Option.bind (bif (v1.dj==0)then some true else some (v1.dj==5)) λv3=>
  Option.bind (bif (v3==((v1.bR.length:Int)==0))then(bif (v1.dj==5)then some ((v1.aS.length:Int)==0)else some false)else some true) λv4=>
  bif v4 then
   some (11:Int)
  else
   some (0:Int)
def GG(N:Nat):aqP du->Nat->(aqP aqQ)->aqR ((aqP aqQ))
 |[],_,v11=>
  some v11
 |v9::v10,v7,v11=>
  bif (Nat.ble ((v11.length+1)*16) 140737488355328)then
  (λgW=>GG N v10 (v7+1) gW) (v11++[v9.au])
  else none
def DY(N:Nat)(v1:bB):aqP du->Nat->(aqP aqQ)->aqR ((aqP aqQ))
 |[],_,v6=>
  GG N v1.bR 0 v6
 |v4::v5,v2,v6=>
  bif (Nat.ble ((v6.length+1)*16) 140737488355328)then
  (λcl=>DY N v1 v5 (v2+1) cl) (v6++[v4.au])
  else none
def Oe(N:Nat)(v1:bB):aqR ((aqP aqQ)):=
 DY N v1 v1.aS 0 []
def zK(N:Nat)(v2:Int)(Ue:aw->Int->aqR Int):aqP aw->Nat->Int->aqR Int
 |[],_,v7=>
  some v7
 |v5::v6,v3,v7=>
  bif (decide (v2>1))then
   Option.bind (Ue v5 (aO (v2-(1:Int)))) λv8=>
   (λcl=>zK N v2 Ue v6 (v3+1) cl) (if(aO ((1:Int)+v8))>v7 then(aO ((1:Int)+v8))else v7)
  else
   some v7
def yf(N:Nat):Nat->aw->Int->aqR Int
 |0,_,_=>none
 |d+1,v1,v2=>
  zK N v2 (yf N d) v1.bJ 0 (1:Int)
def acV(N:Nat)(v1:aw)(v2:Int):aqR Int:=yf N N v1 v2
def adv(N:Nat)(v1:aw):aqR Int:=
 Option.bind (acV N v1 (41:Int)) λv2=>
 some v2
def Dx(N:Nat)(v2:Int)(WQ:aw->Int->aqR Int):aqP aw->Nat->Int->aqR Int
 |[],_,v7=>
  some v7
 |v5::v6,v3,v7=>
  bif (decide (v7<=v2))then
   Option.bind (WQ v5 (aO (v2-v7))) λv8=>
   (λcl=>Dx N v2 WQ v6 (v3+1) cl) (aO (v7+v8))
  else
   some v7
def Am(N:Nat):Nat->aw->Int->aqR Int
 |0,_,_=>none
 |d+1,v1,v2=>
  Dx N v2 (Am N d) v1.bJ 0 (1:Int)
def abD(N:Nat)(v1:aw)(v2:Int):aqR Int:=Am N N v1 v2
def aao(N:Nat)(v1:aw):aqR Int:=
 Option.bind (abD N v1 (2000:Int)) λv2=>
 some (if(2001:Int)<v2 then(2001:Int)else v2)
def H4(N:Nat):aqP cO->Nat->aqR Bool
 |[],_=>
  some true
 |v7::v8,v5=>
  Option.bind (bif (bL v7.cU==bL (bs []))then(bif (decide ((v7.cT.length:Int)>0))then some true else some false)else(bif (v7.bo.xK.toInt !=0)then some true else some (decide ((v7.bo.xL.length:Int)>0)))) λv9=>
  bif v9 then
   some false
  else
   (H4 N v8 (v5+1))
def N3(N:Nat)(v1:aw):aqR Bool:=
 Option.bind (bif (decide (v1.az<1))then some true else some (decide (v1.az>18))) λv2=>
 bif v2 then
  some false
 else
  Option.bind (bif (v1.az !=1)then(bif ((v1.dt.xN.toInt==(0:Int64).toInt)&&((v1.dt.xD.toInt==(0:Int64).toInt)&&true))then(bif (v1.az !=12)then some (!((v1.ax.bg==0)&&((v1.ax.bN==0)&&((v1.ax.bM==0)&&((v1.ax.cn==0)&&((v1.ax.ck==0)&&true))))))else some false)else some true)else some false) λv3=>
  bif v3 then
   some false
  else
   Option.bind (bif (v1.az !=2)then(bif (v1.bo.xK.toInt !=0)then some true else(bif (decide ((v1.bo.xL.length:Int)>0))then some true else(bif (v1.az !=3)then(bif (bL v1.au==bL (bs []))then some (decide ((v1.xIdx.length:Int)>0))else some true)else some false)))else(bif (v1.az !=3)then(bif (bL v1.au==bL (bs []))then some (decide ((v1.xIdx.length:Int)>0))else some true)else some false)) λv4=>
   bif v4 then
    some false
   else
    H4 N v1.xIdx 0
def JK(N:Nat):aqP cO->Nat->aqR Bool
 |[],_=>
  some true
 |v6::v7,v4=>
  Option.bind (bif (bL v6.cU==bL (bs []))then some false else (zp N v6.cU).bind λv8=>
  some (!v8)) λv9=>
  bif v9 then
   some false
  else
   (JK N v7 (v4+1))
def Tw(N:Nat)(v1:aw):aqR Bool:=
 Option.bind (bif (v1.az==3)then (zp N v1.au).bind λv2=>
 some (!v2)else some false) λv3=>
 bif v3 then
  some false
 else
  JK N v1.xIdx 0
def Kg(N:Nat)(v1:Int)(v3:Bool):aqR Int:=
 bif v3 then
  some (1:Int)
 else
  bif (v1==11)then
   some (3:Int)
  else
   some (2:Int)
def IT(N:Nat)(v1:Int)(v2:Bool):aqR Int:=
 bif v2 then
  some (0:Int)
 else
  bif (v1==8)then
   Kg N v1 (v1==8)
  else
   bif (v1==12)then
    Kg N v1 (v1==12)
   else
    Kg N v1 (v1==18)
def S4(N:Nat)(v1:Int):aqR Int:=
 bif (v1==1)then
  IT N v1 (v1==1)
 else
  bif (v1==2)then
   IT N v1 (v1==2)
  else
   IT N v1 (v1==3)
def Kx(N:Nat):aqP cO->Nat->aqR Bool
 |[],_=>
  some true
 |v6::v7,v4=>
  bif (decide ((v6.cT.length:Int)>6))then
   some false
  else
   (Kx N v7 (v4+1))
def PU(N:Nat)(v1:aw):aqR Bool:=
 (S4 N v1.az).bind λv2=>
 Option.bind (bif ((v1.bJ.length:Int) !=v2)then some true else some (decide ((v1.xIdx.length:Int)>6))) λv3=>
 bif v3 then
  some false
 else
  Kx N v1.xIdx 0
def IX(N:Nat)(v1:aw):aqR Bool:=
 Option.bind (bif (decide (v1.az>=13))then some (decide (v1.az<=18))else some false) λv2=>
 some v2
def NP(N:Nat)(v1:Int)(v2:Int):aqR Bool:=
 Option.bind (bif (v1==11)then(bif (v2==0)then some true else(bif (v1==16)then some true else(bif (v1==17)then some true else some (v1==18))))else(bif (v1==16)then some true else(bif (v1==17)then some true else some (v1==18)))) λv3=>
 some v3
def Mj(N:Nat)(v1:aw):aqP aw->Nat->aqR Bool
 |[],_=>
  some true
 |v7::v8,v5=>
  (IX N v7).bind λv9=>
  Option.bind (NP N v1.az (v5:Int)) λv10=>
  bif (v9==v10)then
   (Mj N v1 v8 (v5+1))
  else
   some false
def Tr(N:Nat)(v1:aw):aqR Bool:=
 Option.bind (bif (v1.az==1)then (uS N v1.ax).bind λv2=>
 some (!v2)else(bif (v1.az==12)then (uS N v1.ax).bind λv3=>
 some (!v3)else some false)) λv4=>
 bif v4 then
  some false
 else
  Mj N v1 v1.bJ 0
def Kl(N:Nat)(jB:aqR Bool):aqP bz->Nat->aqR Bool
 |[],_=>
  jB
 |aL::aQ,v11=>
  (wG N aL).bind λbu=>
  bif bu then
   (Kl N jB aQ (v11+1))
  else
   some false
def KC(N:Nat):aqP cO->Nat->aqR Bool
 |[],_=>
  some true
 |v8::v9,v6=>
  (wG N v8.bo).bind λv10=>
  bif v10 then
   Kl N (KC N v9 (v6+1)) v8.cT 0
  else
   some false
def Tm(N:Nat)(v1:aw):aqR Bool:=
 Option.bind (bif (v1.az==1)then (Fl N v1.ax v1.dt).bind λv2=>
 (bif v2 then (wG N v1.bo).bind λv3=>
 some (!v3)else some true)else (wG N v1.bo).bind λv4=>
 some (!v4)) λv5=>
 bif v5 then
  some false
 else
  KC N v1.xIdx 0
def IQ(N:Nat)(acy:aw->aqR Int):aqP aw->Nat->aqR Int
 |[],_=>
  some (0:Int)
 |v9::v10,v7=>
  (acy v9).bind λv11=>
  bif (v11 !=0)then
   some v11
  else
   (IQ N acy v10 (v7+1))
def Ec(N:Nat):Nat->aw->aqR Int
 |0,_=>none
 |d+1,v1=>
  (N3 N v1).bind λv2=>
  bif v2 then
   (Tw N v1).bind λv3=>
   bif v3 then
    (PU N v1).bind λv4=>
    bif v4 then
     (Tr N v1).bind λv5=>
     bif v5 then
      (Tm N v1).bind λv6=>
      bif v6 then
       IQ N (Ec N d) v1.bJ 0
      else
       some (1:Int)
     else
      some (10:Int)
    else
     some (11:Int)
   else
    some (7:Int)
  else
   some (5:Int)
def Zs(N:Nat)(v1:aw):aqR Int:=Ec N N v1
def JI(N:Nat)(v1:aw):aqR Int:=
 (adv N v1).bind λv2=>
 bif (decide (v2>40))then
  some (13:Int)
 else
  (aao N v1).bind λv3=>
  bif (decide (v3>2000))then
   some (2:Int)
  else
   (Zs N v1).bind λv4=>
   some v4
def Jx(N:Nat)(v2:aqP aqQ)(v1:aV):aqP bz->Nat->aqR Int
 |[],_=>
  some (0:Int)
 |v6::v7,v4=>
  (Mr N v6 v2 v1.bm).bind λv8=>
  bif v8 then
   (Jx N v2 v1 v7 (v4+1))
  else
   some (9:Int)
def SS(N:Nat)(v1:aV)(v2:aqP aqQ)(v3:aqP bz):aqR Int:=
 Jx N v2 v1 v3 0
def Ga(N:Nat)(v9:bB):aqP du->Nat->(aqP bz)->aqR (aF×(aqP bz)×Bool)
 |[],_,bu=>
  some (v9.ax,bu,true)
 |aL::aQ,v11,bu=>
  bif (Nat.ble ((bu.length+1)*32) 140737488355328)then
  (λqD=>Ga N v9 aQ (v11+1) qD) (bu++[aL.dG])
  else none
def La(N:Nat)(v2:aqQ):aqP bB->Nat->aqR (aF×(aqP bz)×Bool)
 |[],_=>
  some (dR,[],false)
 |v9::v10,v7=>
  bif (bL v9.au==bL v2)then
   Ga N v9 v9.aS 0 []
  else
   (La N v2 v10 (v7+1))
def CL(N:Nat)(v2:aqQ)(v1:aV):aqP eN->Nat->aqR (aF×(aqP bz)×Bool)
 |[],_=>
  La N v2 v1.aG 0
 |v5::v6,v3=>
  bif (bL v5.au==bL v2)then
   some (v5.ax,v5.aS,true)
  else
   (CL N v2 v1 v6 (v3+1))
def Ja(N:Nat)(v1:aV)(v2:aqQ):aqR (aF×(aqP bz)×Bool):=
 CL N v2 v1 v1.aX 0
def CJ(N:Nat)(v4:aF×(aqP bz)×Bool)(v2:aqP aqQ)(v1:aV):aqP cO->Nat->aqR (aF×Int)
 |[],_=>
  some (v4.1,(0:Int))
 |v7::v8,v5=>
  bif (bL v7.cU==bL (bs []))then
   (Mr N v7.bo v2 v1.bm).bind λv9=>
   bif v9 then
    (CJ N v4 v2 v1 v8 (v5+1))
   else
    some (dR,(9:Int))
  else
   (Ja N v1 v7.cU).bind λv10=>
   bif v10.2.2 then
    bif (v10.1.bg !=3)then
     some (dR,(10:Int))
    else
     bif ((v10.2.1.length:Int) !=(v7.cT.length:Int))then
      some (dR,(11:Int))
     else
      (SS N v1 v2 v7.cT).bind λv11=>
      bif (v11 !=0)then
       some (dR,v11)
      else
       (CJ N v4 v2 v1 v8 (v5+1))
   else
    some (dR,(9:Int))
def Sf(N:Nat)(v1:aV)(v2:aqP aqQ)(v3:aw):aqR (aF×Int):=
 (Ja N v1 v3.au).bind λv4=>
 bif v4.2.2 then
  bif ((v4.2.1.length:Int) !=(v3.xIdx.length:Int))then
   some (dR,(11:Int))
  else
   CJ N v4 v2 v1 v3.xIdx 0
 else
  some (dR,(9:Int))
def mh(N:Nat)(v3:aw)(v1:aV)(v2:aqP aqQ)(aa0:aV->(aqP aqQ)->aw->aqR (aF×Int)):aqP aw->Nat->(aqP aF)->aqR (aF×Int)
 |[],_,v8=>
  Option.bind (bif (v3.az==1)then some true else some (v3.az==12)) λv9=>
  bif v9 then
   some (v3.ax,(0:Int))
  else
   bif (v3.az==2)then
    Option.bind (SS N v1 v2 [v3.bo]) λv10=>
    some ((⟨(3:Int),(0:Int),(0:Int),(0:Int),(0:Int)⟩:aF),v10)
   else
    bif (v3.az==3)then
     (Sf N v1 v2 v3).bind λv11=>
     some (v11.1,v11.2)
    else
     bif (v3.az==11)then
      Option.bind (v8[1]?) λv12=>
      Option.bind (v8[2]?) λaL=>
      bif ((v12.bg==aL.bg)&&((v12.bN==aL.bN)&&((v12.bM==aL.bM)&&((v12.cn==aL.cn)&&((v12.ck==aL.ck)&&true)))))then
       some (v12,(0:Int))
      else
       some (dR,(10:Int))
     else
      bif (v3.az==8)then
       Option.bind (v8[0]?) λaQ=>
       some (aQ,(0:Int))
      else
       bif (decide (v3.az>=16))then
        some (dR,(0:Int))
       else
        Option.bind (v8[0]?) λbu=>
        Option.bind (v8[1]?) λbG=>
        bif ((bu.bg==bG.bg)&&((bu.bN==bG.bN)&&((bu.bM==bG.bM)&&((bu.cn==bG.cn)&&((bu.ck==bG.ck)&&true)))))then
         bif (decide (v3.az>=13))then
          some (dR,(0:Int))
         else
          some (bu,(0:Int))
        else
         some (dR,(10:Int))
 |v6::v7,v4,v8=>
  (aa0 v1 v2 v6).bind λcw=>
  bif (cw.2 !=0)then
   some (dR,cw.2)
  else
   bif (Nat.ble ((v8.length+1)*40) 140737488355328)then
   (λcl=>mh N v3 v1 v2 aa0 v7 (v4+1) cl) (v8++[cw.1])
   else none
def tW(N:Nat):Nat->aV->(aqP aqQ)->aw->aqR (aF×Int)
 |0,_,_,_=>none
 |d+1,v1,v2,v3=>
  mh N v3 v1 v2 (tW N d) v3.bJ 0 []
def EY(N:Nat)(v1:aV)(v2:aqP aqQ)(v3:aw):aqR (aF×Int):=tW N N v1 v2 v3
def vg(N:Nat)(v1:aV)(v2:aqP aqQ)(v3:aw):aqR (aF×Int):=
 (JI N v3).bind λv4=>
 bif (v4 !=0)then
  some (dR,v4)
 else
  (IX N v3).bind λv5=>
  bif v5 then
   some (dR,(10:Int))
  else
   (EY N v1 v2 v3).bind λv6=>
   bif (v6.2 !=0)then
    some (dR,v6.2)
   else
    some (v6.1,(0:Int))
def x6(N:Nat)(v1:aV)(v2:Int)(v3:aqP aqQ):aqR Int:=
 bif (decide ((0:Int)<=v2))then
 Option.bind (v1.aG[(v2).toNat]?) λv4=>
 (BC N v4.au v3).bind λv5=>
 bif (v5 !=0)then
  some v5
 else
  (uS N v4.ax).bind λv6=>
  bif v6 then
   Option.bind (bif (decide ((v4.aS.length:Int)>6))then some true else some (decide ((v4.bR.length:Int)>6))) λv7=>
   bif v7 then
    some (11:Int)
   else
    bif (Nat.ble ((0+v4.aS.length)*48) 140737488355328)then
    bif (Nat.ble ((v4.aS.length+v4.bR.length)*48) 140737488355328)then
    Option.bind (Re N (v4.aS++v4.bR) v1.bm) λv8=>
    bif (v8 !=0)then
     some v8
    else
     (P5 N v4).bind λv9=>
     bif (v9 !=0)then
      some v9
     else
      bif (decide ((v2).toNat<=v1.aG.length))then
      (Oe N v4).bind λv10=>
      Option.bind (vg N (⟨v1.bm,[],v1.aX,((v1.aG.take (v2).toNat).drop 0),[]⟩:aV) v10 v4.bP) λv11=>
      bif (v11.2 !=0)then
       some v11.2
      else
       bif ((v11.1.bg==v4.ax.bg)&&((v11.1.bN==v4.ax.bN)&&((v11.1.bM==v4.ax.bM)&&((v11.1.cn==v4.ax.cn)&&((v11.1.ck==v4.ax.ck)&&true)))))then
        some (0:Int)
       else
        some (10:Int)
      else none
    else none
    else none
  else
   some (10:Int)
 else none
def qA(N:Nat)(v1:aV):aqP aqQ->Nat->Int->aqR (Int×Int)
 |[],_,_=>
  some ((0:Int),(0:Int))
 |v21::fk,cm,da=>
  (Ja N v1 v21).bind λv24=>
  bif v24.2.2 then
   bif (decide (((cm:Int)).toNat<=v1.c9.length))then
   Option.bind (xt N ((v1.c9.take ((cm:Int)).toNat).drop 0) v21) λfK=>
   bif fK then
    some (da,(8:Int))
   else
    (λyA=>qA N v1 fk (cm+1) yA) (aO (da+(1:Int)))
   else none
  else
   some (da,(9:Int))
def oY(N:Nat)(v1:aV):aqP bB->Nat->(aqP aqQ)->Int->aqR (Int×Int)
 |[],_,_,bY=>
  qA N v1 v1.c9 0 bY
 |bu::bG,aL,cw,bY=>
  Option.bind (x6 N v1 (aL:Int) cw) λfg=>
  bif (fg !=0)then
   some (bY,fg)
  else
   bif (Nat.ble ((cw.length+1)*16) 140737488355328)then
   (λqD xJ=>oY N v1 bG (aL+1) qD xJ) (cw++[bu.au]) (aO (bY+(1:Int)))
   else none
def sO(N:Nat)(v1:aV):aqP eN->Nat->(aqP aqQ)->Int->aqR (Int×Int)
 |[],_,v11,v12=>
  oY N v1 v1.aG 0 v11 v12
 |v9::v10,v7,v11,v12=>
  (N9 N v9 v1.bm v11).bind λiE=>
  bif (iE !=0)then
   some (v12,iE)
  else
   bif (Nat.ble ((v11.length+1)*16) 140737488355328)then
   (λgW wA=>sO N v1 v10 (v7+1) gW wA) (v11++[v9.au]) (aO (v12+(1:Int)))
   else none
def EX(N:Nat)(v1:aV):aqP gC->Nat->aqR (Int×Int)
 |[],_=>
  bif (Nat.ble ((0+v1.bm.length)*16) 140737488355328)then
  sO N v1 v1.aX 0 v1.bm (2:Int)
  else none
 |v5::v6,v3=>
  (EN N v5.bo v1.bm).bind λv28=>
  bif (v28 !=0)then
   some ((1:Int),v28)
  else
   (EX N v1 v6 (v3+1))
def Ac(N:Nat)(v1:aV):aqR (Int×Int):=
 (Nd N v1).bind λv2=>
 bif (v2 !=0)then
  some ((0:Int),v2)
 else
  EX N v1 v1.dM 0
def KM(N:Nat)(v2:aqQ):aqP aJ->Nat->aqR (Int64×Bool)
 |[],_=>
  some ((0:Int64),false)
 |v5::v6,v3=>
  bif (bL v5.au==bL v2)then
   some (v5.dt,true)
  else
   (KM N v2 v6 (v3+1))
def aae(N:Nat)(v1:aqP aJ)(v2:aqQ):aqR (Int64×Bool):=
 KM N v2 v1 0
def SA(N:Nat)(v1:bz):aqR Int:=
 (wG N v1).bind λv2=>
 bif v2 then
  some (0:Int)
 else
  some (1:Int)
def uh(N:Nat)(v1:Int64):aqR Int:=
 bif (decide (v1.toInt<0))then
  some (IntKind.u64.wrap ((IntKind.u64.wrap (-(v1+(1:Int64))).toInt)+(1:Int)))
 else
  some (IntKind.u64.wrap v1.toInt)
def NI(N:Nat)(v1:dH)(v2:Int):aqR dH:=
 Option.bind (some (IntKind.u64.wrap ((IntKind.u64.wrap (v1.fX+((v2).tmod (4294967296:Int))))+(0:Int)))) λv3=>
 Option.bind (some (IntKind.u64.wrap ((v3).tdiv (4294967296:Int)))) λv4=>
 Option.bind (some (IntKind.u64.wrap ((v2).tdiv (4294967296:Int)))) λv5=>
 Option.bind (some (IntKind.u64.wrap ((IntKind.u64.wrap (v1.gd+((v5).tmod (4294967296:Int))))+v4))) λv6=>
 Option.bind (some (IntKind.u64.wrap ((v6).tdiv (4294967296:Int)))) λv7=>
 Option.bind (some (IntKind.u64.wrap ((v5).tdiv (4294967296:Int)))) λv8=>
 Option.bind (some (IntKind.u64.wrap ((IntKind.u64.wrap (v1.gM+((v8).tmod (4294967296:Int))))+v7))) λv9=>
 Option.bind (some (IntKind.u64.wrap ((v9).tdiv (4294967296:Int)))) λv10=>
 Option.bind (some (IntKind.u64.wrap ((v8).tdiv (4294967296:Int)))) λv11=>
 Option.bind (some (IntKind.u64.wrap ((IntKind.u64.wrap (v1.gJ+((v11).tmod (4294967296:Int))))+v10))) λv12=>
 Option.bind (some (IntKind.u64.wrap ((v12).tdiv (4294967296:Int)))) λaL=>
 Option.bind (some (IntKind.u64.wrap ((v11).tdiv (4294967296:Int)))) λaQ=>
 Option.bind (some (IntKind.u64.wrap ((IntKind.u64.wrap (v1.gD+((aQ).tmod (4294967296:Int))))+aL))) λbu=>
 Option.bind (some (IntKind.u64.wrap ((bu).tdiv (4294967296:Int)))) λbG=>
 Option.bind (some (IntKind.u64.wrap ((aQ).tdiv (4294967296:Int)))) λcw=>
 Option.bind (some (IntKind.u64.wrap ((IntKind.u64.wrap (v1.gK+((cw).tmod (4294967296:Int))))+bG))) λbY=>
 Option.bind (some (IntKind.u64.wrap ((bY).tdiv (4294967296:Int)))) λcm=>
 Option.bind (some (IntKind.u64.wrap ((cw).tdiv (4294967296:Int)))) λv20=>
 some (⟨((v3).tmod (4294967296:Int)),((v6).tmod (4294967296:Int)),((v9).tmod (4294967296:Int)),((v12).tmod (4294967296:Int)),((bu).tmod (4294967296:Int)),((bY).tmod (4294967296:Int))⟩:dH)
def Lg(N:Nat)(v1:dH)(v2:Int):aqR dH:=
 Option.bind (some (IntKind.u64.wrap ((IntKind.u64.wrap (v1.gd+((v2).tmod (4294967296:Int))))+(0:Int)))) λv3=>
 Option.bind (some (IntKind.u64.wrap ((v3).tdiv (4294967296:Int)))) λv4=>
 Option.bind (some (IntKind.u64.wrap ((v2).tdiv (4294967296:Int)))) λv5=>
 Option.bind (some (IntKind.u64.wrap ((IntKind.u64.wrap (v1.gM+((v5).tmod (4294967296:Int))))+v4))) λv6=>
 Option.bind (some (IntKind.u64.wrap ((v6).tdiv (4294967296:Int)))) λv7=>
 Option.bind (some (IntKind.u64.wrap ((v5).tdiv (4294967296:Int)))) λv8=>
 Option.bind (some (IntKind.u64.wrap ((IntKind.u64.wrap (v1.gJ+((v8).tmod (4294967296:Int))))+v7))) λv9=>
 Option.bind (some (IntKind.u64.wrap ((v9).tdiv (4294967296:Int)))) λv10=>
 Option.bind (some (IntKind.u64.wrap ((v8).tdiv (4294967296:Int)))) λv11=>
 Option.bind (some (IntKind.u64.wrap ((IntKind.u64.wrap (v1.gD+((v11).tmod (4294967296:Int))))+v10))) λv12=>
 Option.bind (some (IntKind.u64.wrap ((v12).tdiv (4294967296:Int)))) λaL=>
 Option.bind (some (IntKind.u64.wrap ((v11).tdiv (4294967296:Int)))) λaQ=>
 Option.bind (some (IntKind.u64.wrap ((IntKind.u64.wrap (v1.gK+((aQ).tmod (4294967296:Int))))+aL))) λbu=>
 Option.bind (some (IntKind.u64.wrap ((bu).tdiv (4294967296:Int)))) λbG=>
 Option.bind (some (IntKind.u64.wrap ((aQ).tdiv (4294967296:Int)))) λcw=>
 some (⟨v1.fX,((v3).tmod (4294967296:Int)),((v6).tmod (4294967296:Int)),((v9).tmod (4294967296:Int)),((v12).tmod (4294967296:Int)),((bu).tmod (4294967296:Int))⟩:dH)
def Rv(N:Nat)(v1:dH)(v2:Int):aqR dH:=
 Option.bind (some (IntKind.u64.wrap ((IntKind.u64.wrap (v1.gM+((v2).tmod (4294967296:Int))))+(0:Int)))) λv3=>
 Option.bind (some (IntKind.u64.wrap ((v3).tdiv (4294967296:Int)))) λv4=>
 Option.bind (some (IntKind.u64.wrap ((v2).tdiv (4294967296:Int)))) λv5=>
 Option.bind (some (IntKind.u64.wrap ((IntKind.u64.wrap (v1.gJ+((v5).tmod (4294967296:Int))))+v4))) λv6=>
 Option.bind (some (IntKind.u64.wrap ((v6).tdiv (4294967296:Int)))) λv7=>
 Option.bind (some (IntKind.u64.wrap ((v5).tdiv (4294967296:Int)))) λv8=>
 Option.bind (some (IntKind.u64.wrap ((IntKind.u64.wrap (v1.gD+((v8).tmod (4294967296:Int))))+v7))) λv9=>
 Option.bind (some (IntKind.u64.wrap ((v9).tdiv (4294967296:Int)))) λv10=>
 Option.bind (some (IntKind.u64.wrap ((v8).tdiv (4294967296:Int)))) λv11=>
 Option.bind (some (IntKind.u64.wrap ((IntKind.u64.wrap (v1.gK+((v11).tmod (4294967296:Int))))+v10))) λv12=>
 Option.bind (some (IntKind.u64.wrap ((v12).tdiv (4294967296:Int)))) λaL=>
 Option.bind (some (IntKind.u64.wrap ((v11).tdiv (4294967296:Int)))) λaQ=>
 some (⟨v1.fX,v1.gd,((v3).tmod (4294967296:Int)),((v6).tmod (4294967296:Int)),((v9).tmod (4294967296:Int)),((v12).tmod (4294967296:Int))⟩:dH)
def Bz(N:Nat)(v1:dH)(v2:Int)(v3:Int):aqR dH:=
 Option.bind (NI N v1 (IntKind.u64.wrap (((v2).tmod (4294967296:Int))*((v3).tmod (4294967296:Int))))) λv4=>
 Option.bind (Lg N v4 (IntKind.u64.wrap (((v2).tmod (4294967296:Int))*(IntKind.u64.wrap ((v3).tdiv (4294967296:Int)))))) λv5=>
 Option.bind (Lg N v5 (IntKind.u64.wrap ((IntKind.u64.wrap ((v2).tdiv (4294967296:Int)))*((v3).tmod (4294967296:Int))))) λv6=>
 Option.bind (Rv N v6 (IntKind.u64.wrap ((IntKind.u64.wrap ((v2).tdiv (4294967296:Int)))*(IntKind.u64.wrap ((v3).tdiv (4294967296:Int)))))) λv7=>
 some v7
def DO(N:Nat)(v2:aqQ):aqP aJ->Nat->aqR (Int64×Bool)
 |[],_=>
  some ((0:Int64),false)
 |v5::v6,v3=>
  bif (bL v5.au==bL v2)then
   some (v5.dt,true)
  else
   (DO N v2 v6 (v3+1))
def acU(N:Nat)(v1:aqP aJ)(v2:aqQ):aqR (Int64×Bool):=
 DO N v2 v1 0
def Tt(N:Nat)(v1:dH)(v2:dH):aqR Bool:=
 bif (v1.gK !=v2.gK)then
  some (decide (v1.gK<v2.gK))
 else
  bif (v1.gD !=v2.gD)then
   some (decide (v1.gD<v2.gD))
  else
   bif (v1.gJ !=v2.gJ)then
    some (decide (v1.gJ<v2.gJ))
   else
    bif (v1.gM !=v2.gM)then
     some (decide (v1.gM<v2.gM))
    else
     bif (v1.gd !=v2.gd)then
      some (decide (v1.gd<v2.gd))
     else
      bif (v1.fX !=v2.fX)then
       some (decide (v1.fX<v2.fX))
      else
       some false
def Hz(N:Nat)(v4:Int)(v2:dH)(v6:Int)(v3:Int)(v8:Int)(v5:Int)(v10:Int)(v7:Int)(v12:Int)(v9:Int)(v11:Int)(aL:Int)(aQ:Int):aqR dH:=
 some (⟨(IntKind.u64.wrap (v4-(IntKind.u64.wrap (v2.fX+(0:Int))))),(IntKind.u64.wrap (v6-(IntKind.u64.wrap (v2.gd+v3)))),(IntKind.u64.wrap (v8-(IntKind.u64.wrap (v2.gM+v5)))),(IntKind.u64.wrap (v10-(IntKind.u64.wrap (v2.gJ+v7)))),(IntKind.u64.wrap (v12-(IntKind.u64.wrap (v2.gD+v9)))),(IntKind.u64.wrap (aQ-(IntKind.u64.wrap (v2.gK+v11))))⟩:dH)
def JF(N:Nat)(v1:dH)(v2:dH)(v4:Int)(v6:Int)(v3:Int)(v8:Int)(v5:Int)(v10:Int)(v7:Int)(v9:Int)(v11:Int)(v12:Int):aqR dH:=
 bif (decide (v1.gK<(IntKind.u64.wrap (v2.gK+v11))))then
  Hz N v4 v2 v6 v3 v8 v5 v10 v7 v12 v9 v11 (1:Int) (IntKind.u64.wrap (v1.gK+(4294967296:Int)))
 else
  Hz N v4 v2 v6 v3 v8 v5 v10 v7 v12 v9 v11 (0:Int) v1.gK
def Ia(N:Nat)(v1:dH)(v2:dH)(v4:Int)(v6:Int)(v3:Int)(v8:Int)(v5:Int)(v7:Int)(v9:Int)(v10:Int):aqR dH:=
 bif (decide (v1.gD<(IntKind.u64.wrap (v2.gD+v9))))then
  JF N v1 v2 v4 v6 v3 v8 v5 v10 v7 v9 (1:Int) (IntKind.u64.wrap (v1.gD+(4294967296:Int)))
 else
  JF N v1 v2 v4 v6 v3 v8 v5 v10 v7 v9 (0:Int) v1.gD
def K7(N:Nat)(v1:dH)(v2:dH)(v4:Int)(v6:Int)(v3:Int)(v5:Int)(v7:Int)(v8:Int):aqR dH:=
 bif (decide (v1.gJ<(IntKind.u64.wrap (v2.gJ+v7))))then
  Ia N v1 v2 v4 v6 v3 v8 v5 v7 (1:Int) (IntKind.u64.wrap (v1.gJ+(4294967296:Int)))
 else
  Ia N v1 v2 v4 v6 v3 v8 v5 v7 (0:Int) v1.gJ
def Mb(N:Nat)(v1:dH)(v2:dH)(v4:Int)(v3:Int)(v5:Int)(v6:Int):aqR dH:=
 bif (decide (v1.gM<(IntKind.u64.wrap (v2.gM+v5))))then
  K7 N v1 v2 v4 v6 v3 v5 (1:Int) (IntKind.u64.wrap (v1.gM+(4294967296:Int)))
 else
  K7 N v1 v2 v4 v6 v3 v5 (0:Int) v1.gM
def L0(N:Nat)(v1:dH)(v2:dH)(v3:Int)(v4:Int):aqR dH:=
 bif (decide (v1.gd<(IntKind.u64.wrap (v2.gd+v3))))then
  Mb N v1 v2 v4 v3 (1:Int) (IntKind.u64.wrap (v1.gd+(4294967296:Int)))
 else
  Mb N v1 v2 v4 v3 (0:Int) v1.gd
def Hn(N:Nat)(v1:dH)(v2:dH):aqR dH:=
 bif (decide (v1.fX<(IntKind.u64.wrap (v2.fX+(0:Int)))))then
  L0 N v1 v2 (1:Int) (IntKind.u64.wrap (v1.fX+(4294967296:Int)))
 else
  L0 N v1 v2 (0:Int) v1.fX
def wT:dH:=⟨(0:Int),(0:Int),(0:Int),(0:Int),(0:Int),(0:Int)⟩
def AL(N:Nat)(v2:aqP aJ):aqP dC->Nat->Int->Int->Int->Int->Int->Int->Int->Int->Int->Int->Int->Int->aqR (Int64×Int)
 |[],_,v20,v21,fk,da,v24,fK,fg,iE,v28,lN,v30,v31=>
  Option.bind (Tt N (⟨v20,v21,fk,da,v24,fK⟩:dH) (⟨fg,iE,v28,lN,v30,v31⟩:dH)) λuM=>
  bif uM then
   Option.bind (Hn N (⟨fg,iE,v28,lN,v30,v31⟩:dH) (⟨v20,v21,fk,da,v24,fK⟩:dH)) λlr=>
   Option.bind (bif (lr.gM !=0)then some true else(bif (lr.gJ !=0)then some true else(bif (lr.gD !=0)then some true else(bif (lr.gK !=0)then some true else some (decide ((IntKind.u64.wrap (lr.fX+(IntKind.u64.wrap (lr.gd*(4294967296:Int)))))>9223372036854775808)))))) λlE=>
   bif lE then
    some ((0:Int64),(3:Int))
   else
    some (((-(Int64.ofInt (IntKind.u64.wrap ((IntKind.u64.wrap (lr.fX+(IntKind.u64.wrap (lr.gd*(4294967296:Int)))))-(1:Int)))))-(1:Int64)),(0:Int))
  else
   Option.bind (Hn N (⟨v20,v21,fk,da,v24,fK⟩:dH) (⟨fg,iE,v28,lN,v30,v31⟩:dH)) λlM=>
   Option.bind (bif (lM.gM !=0)then some true else(bif (lM.gJ !=0)then some true else(bif (lM.gD !=0)then some true else(bif (lM.gK !=0)then some true else some (decide ((IntKind.u64.wrap (lM.fX+(IntKind.u64.wrap (lM.gd*(4294967296:Int)))))>9223372036854775807)))))) λEp=>
   bif Ep then
    some ((0:Int64),(3:Int))
   else
    some ((Int64.ofInt (IntKind.u64.wrap (lM.fX+(IntKind.u64.wrap (lM.gd*(4294967296:Int)))))),(0:Int))
 |bY::cm,bG,v20,v21,fk,da,v24,fK,fg,iE,v28,lN,v30,v31=>
  (acU N v2 bY.au).bind λv37=>
  bif v37.2 then
   bif ((decide (v37.1.toInt<0))==(decide (bY.dU.toInt<0)))then
    (uh N v37.1).bind λMU=>
    (uh N bY.dU).bind λHk=>
    Option.bind (Bz N (⟨v20,v21,fk,da,v24,fK⟩:dH) MU Hk) λv40=>
    (λgW wA Pf Tl Pd Sj Qq Sw Rl Qt SK QV=>AL N v2 cm (bG+1) gW wA Pf Tl Pd Sj Qq Sw Rl Qt SK QV) v40.fX v40.gd v40.gM v40.gJ v40.gD v40.gK fg iE v28 lN v30 v31
   else
    (uh N v37.1).bind λv41=>
    (uh N bY.dU).bind λv42=>
    Option.bind (Bz N (⟨fg,iE,v28,lN,v30,v31⟩:dH) v41 v42) λBA=>
    (λgW wA Pf Tl Pd Sj Qq Sw Rl Qt SK QV=>AL N v2 cm (bG+1) gW wA Pf Tl Pd Sj Qq Sw Rl Qt SK QV) v20 v21 fk da v24 fK BA.fX BA.gd BA.gM BA.gJ BA.gD BA.gK
  else
   some ((0:Int64),(9:Int))
def Us(N:Nat)(v2:aqP aJ)(v1:bz)(v4:Int)(v5:Int)(v6:Int)(v7:Int)(v8:Int)(v9:Int)(v10:Int)(v11:Int)(v12:Int)(aL:Int)(aQ:Int)(bu:Int):aqR (Int64×Int):=
 AL N v2 v1.xL 0 v4 v5 v6 v7 v8 v9 v10 v11 v12 aL aQ bu
def PV(N:Nat)(v1:bz)(v2:aqP aJ):aqR (Int64×Int):=
 (SA N v1).bind λv3=>
 bif (v3 !=0)then
  some ((0:Int64),(1:Int))
 else
  bif (decide (v1.xK.toInt<0))then
   (uh N v1.xK).bind λv44=>
   Option.bind (Bz N wT v44 (1:Int)) λAi=>
   Us N v2 v1 (0:Int) (0:Int) (0:Int) (0:Int) (0:Int) (0:Int) Ai.fX Ai.gd Ai.gM Ai.gJ Ai.gD Ai.gK
  else
   (uh N v1.xK).bind λv46=>
   Option.bind (Bz N wT v46 (1:Int)) λAA=>
   Us N v2 v1 AA.fX AA.gd AA.gM AA.gJ AA.gD AA.gK (0:Int) (0:Int) (0:Int) (0:Int) (0:Int) (0:Int)
def R0(N:Nat)(v1:gC)(v2:aqP aJ):aqR (Bool×Int):=
 (PV N v1.bo v2).bind λv3=>
 bif (v3.2 !=0)then
  some (false,v3.2)
 else
  Option.bind (bif (v3.1.toInt==0)then some true else(bif (decide (v3.1.toInt>0))then some (!v1.G8)else some false)) λv4=>
  some (v4,(0:Int))
def Kz(N:Nat)(v2:aqP aJ):aqP gC->Nat->aqR Int
 |[],_=>
  some (0:Int)
 |v9::v10,v7=>
  (R0 N v9 v2).bind λv11=>
  bif (v11.2 !=0)then
   some v11.2
  else
   bif v11.1 then
    (Kz N v2 v10 (v7+1))
   else
    some (16:Int)
def QU(N:Nat)(v2:aqP aJ)(v1:aV):aqP aqQ->Nat->aqR Int
 |[],_=>
  Kz N v2 v1.dM 0
 |v5::v6,v3=>
  (aae N v2 v5).bind λv12=>
  Option.bind (bif v12.2 then(bif (decide (v12.1.toInt<1))then some true else some (decide (v12.1.toInt>4096)))else some true) λaL=>
  bif aL then
   some (15:Int)
  else
   (QU N v2 v1 v6 (v3+1))
end Go.Proofs.YtpeecnpmcbnahaaGreatDoor
namespace Go.Proofs.YtpeecnpmcbnahaaGreatDoor
end Go.Proofs.YtpeecnpmcbnahaaGreatDoor
namespace Go.Proofs.YtpeecnpmcbnahaaGreatDoor
open Go.RowKit
theorem EF(b:aqQ)(i:Nat):b[i]?=(bL b)[i]?:=by
 unfold bL;rw[aqo];by_cases h:i<b.size
 ·rw[getElem?_pos b i h,aqn (xs:=b.data) (by exact h)];rfl
 ·rw[getElem?_neg b i h,Array.getElem?_eq_none (xs:=b.data) (by exact Nat.le_of_not_lt h)]
theorem tU(b:aqQ):b.size=(bL b).length:=by unfold bL;rw[aqy];rfl
theorem LK{i:Nat}(h:i<9223372036854775807):aO ((i:Int)+1)=((i+1:Nat):Int):=by
 unfold aO;rw[IntKind.wrap_i64]<;>omega
def n6(c:UInt8):Bool:=decide (97<=c.toNat)&&decide (c.toNat<=122)
def jP(c:UInt8):Bool:=n6 c||(decide (48<=c.toNat)&&decide (c.toNat<=57))||c.toNat==95
def uH(l:aqP UInt8):Bool:=n7.any λw=>bL w==l
def Kw(l:aqP UInt8):Bool:=decide (1<=l.length)&&(decide (l.length<=16)&&(!uH l&&((l.take 1).all n6&&l.all jP)))
def iB(s:aqQ):Bool:=Kw (bL s)
theorem aad(c:UInt8):IntKind.i32.wrap (c.toNat:Int)=(c.toNat:Int):=by
 have:=c.toNat_lt;rw[IntKind.wrap_i32]<;>omega
theorem nA{p q:Prop} [Decidable p] [Decidable q](h:p↔q):decide p=decide q:=decide_eq_decide.2 h
theorem bif_and(a b:Bool):(bif a then some b else some false)=some (a&&b):=by cases a<;>rfl
theorem mv(a b:Bool):(bif a then some true else some b)=some (a||b):=by cases a<;>rfl
theorem V8(N:Nat)(c:UInt8):Gf N (c.toNat:Int)=some (n6 c):=by
 unfold Gf n6;rw[bif_and,ap0,nA (q:=97<=c.toNat) (by omega),nA (p:=(c.toNat:Int)<=122) (q:=c.toNat<=122) (by omega)]
theorem ah9(N:Nat)(c:UInt8):MJ N (c.toNat:Int)=some (decide (48<=c.toNat)&&decide (c.toNat<=57)):=by
 unfold MJ;rw[bif_and,ap0,nA (q:=48<=c.toNat) (by omega),nA (p:=(c.toNat:Int)<=57) (q:=c.toNat<=57) (by omega)]
theorem su(n k:Nat):((n:Int)==(k:Int))=(n==k):=by
 rw[Bool.eq_iff_iff,beq_iff_eq,beq_iff_eq];omega
theorem ah2(N:Nat)(c:UInt8):KW N (c.toNat:Int)=some (jP c):=by
 unfold KW jP;rw[V8,ap0,ah9,ap0];have:=su c.toNat 95;rw[show(((c.toNat:Int)==95))=(c.toNat==95)from this];rw[mv,mv,ap0,Bool.or_assoc]
theorem aar(N:Nat)(s:aqQ)(hs:s.size<9223372036854775807):∀(k i:Nat),i<=s.size->s.size-i<k->Fv N s k (i:Int)=some ((i+(((bL s).drop i).takeWhile jP).length:Nat):Int)
 |0,i,_,hk=>absurd hk (aqt _)
 |k+1,i,hi,hk=>by
  rw[Fv];by_cases aN:i<s.size
  ·have J:decide ((i:Int)<(s.size:Int))=true:=aqI (by omega);have h2:decide ((0:Int)<=(i:Int))=true:=aqI (by omega);rw[J,h2];simp only[cond_true,aqs];have hl:i<(bL s).length:=by rw[<-tU];exact aN
   rw[EF,ap5 hl,List.drop_eq_getElem_cons hl,ap0,aad,ah2,ap0,ap0];cases hw:jP (bL s)[i]with
   |true=>
    simp only[cond_true];rw[LK (Nat.lt_trans aN hs),aar N s hs k (i+1) aN (by omega),List.takeWhile_cons_of_pos hw,ap4]
    congr 2;omega
   |false=>
    simp only[cond_false];rw[List.takeWhile_cons_of_neg (by rw[hw];simp)];rfl
  ·have J:decide ((i:Int)<(s.size:Int))=false:=aqJ (by omega);rw[J];simp only[cond_false,ap0];rw[List.drop_eq_nil_of_le (by rw[<-tU];omega)];rfl
theorem akn(N:Nat)(s:aqQ)(hs:s.size<9223372036854775807)(hN:s.size<N):Lm N s=some ((((bL s).takeWhile jP).length:Nat):Int):=by
 unfold Lm;have:=aar N s hs N 0 (Nat.zero_le _) (by omega);rw[aqA,aql]at this;exact this
theorem ZY{α:Type}(p:α->Bool):∀l:aqP α,((l.takeWhile p).length==l.length)=l.all p
 |[]=>rfl
 |x::l=>by
  cases h:p x with
  |true=>
   rw[List.takeWhile_cons_of_pos h,aqL,h,Bool.true_and,<-ZY p l];simp
  |false=>rw[List.takeWhile_cons_of_neg (by rw[h];simp),aqL,h];simp
theorem SE(N:Nat)(v:aqQ):∀(l:aqP aqQ)(k:Nat),∃z:Int,J0 N v l k=some z/\decide (z>=0)=l.any λw=>bL w==bL v
 |[],k=>⟨-1,rfl,rfl⟩
 |w::l,k=>by
  rw[J0,aqM];have hc:(bL v==bL w)=(bL w==bL v):=by rw[Bool.eq_iff_iff,beq_iff_eq,beq_iff_eq];exact eq_comm
  cases h:bL v==bL w with
  |true=>rw[hc]at h;exact⟨k,rfl,by rw[h,Bool.true_or];exact aqI (by omega)⟩
  |false=>
   obtain⟨z,J,h2⟩:=SE N v l (k+1);rw[hc]at h;exact⟨z,J,by rw[h,Bool.false_or];exact h2⟩
theorem afL(N:Nat)(v:aqQ):IU N v=some (uH (bL v)):=by
 unfold IU O0 AH IS;obtain⟨z,J,h2⟩:=SE N v n7 0;rw[ap0,J,ap0,ap0,h2];rfl
theorem Nk{α:Type}{l:aqP α}(h:0<l.length):l.take 1=[l[0]]:=by
 cases l with
 |nil=>cases h
 |cons x l=>rfl
theorem sJ:bL (bs [])=[]:=rfl
theorem Ko(N:Nat)(s:aqQ)(hN:16<N):w5 N s=some (iB s):=by
 unfold w5 iB Kw;have hz:=tU s;by_cases h0:(bL s).length=0
 ·have:bL s=[]:=List.length_eq_zero_iff.1 h0;rw[this];rfl
 have cG:(bL s==bL (bs []))=false:=by
  rw[sJ,beq_eq_false_iff_ne];intro h;rw[h]at h0;exact h0 rfl
 rw[cG,aqI (show 1<=(bL s).length by omega),Bool.true_and];simp only[cond_false];by_cases cM:(bL s).length<=16
 ·rw[aqI (show(s.size:Int)<=16 by omega),aqI cM,Bool.true_and];simp only[cond_true];have hl:0<(bL s).length:=by omega
  rw[EF,ap5 hl,ap0,aad,V8,ap0,akn N s (by omega) (by omega),ap0,afL,ap0];rw[hz,su,ZY];have ht:(bL s).take 1=[(bL s)[0]]:=Nk hl;rw[ht,aqL,List.all_nil,Bool.and_true,bif_and,bif_and,ap0]
  congr 1
  cases uH (bL s)<;>cases n6 (bL s)[0]<;>cases (bL s).all jP<;>rfl
 ·rw[aqJ (show ¬(s.size:Int)<=16 by omega),aqJ cM];rfl
theorem ale(N:Nat)(b:Bool):iX N b=some b:=by cases b<;>rfl
theorem agC(a b:Bool):(bif a then some a else some b)=some (a||b):=by cases a<;>rfl
theorem al1(a b:aqP UInt8):(a==b)=(b==a):=by rw[Bool.eq_iff_iff,beq_iff_eq,beq_iff_eq];exact eq_comm
theorem ajt(N:Nat)(v:aqQ):HY N v=some (uH (bL v)):=by
 simp only[HY,ale,agC,uH,n7,aqM,List.any_nil,Bool.or_false,al1 (bL v)]
theorem Fq(n k:Nat):decide ((n:Int)<(k:Int))= !decide (k<=n):=by
 by_cases h:k<=n
 ·rw[aqI h,aqJ (by omega)];rfl
 ·rw[aqJ h,aqI (by omega)];rfl
theorem lq(n k:Nat):decide ((n:Int)>(k:Int))= !decide (n<=k):=by
 by_cases h:n<=k
 ·rw[aqI h,aqJ (by omega)];rfl
 ·rw[aqJ h,aqI (by omega)];rfl
theorem UQ(n k:Nat):decide ((n:Int)>=(k:Int))=decide (k<=n):=nA (by omega)
theorem we(n k:Nat):decide ((n:Int)<=(k:Int))=decide (n<=k):=nA (by omega)
theorem XV(n k:Nat):((n:Int) !=(k:Int))= !(n==k):=by unfold bne;rw[su]
theorem aed(c:UInt8):(bif (decide ((c.toNat:Int)<97))then(bif (decide ((c.toNat:Int)<48))then some ((c.toNat:Int) !=95)else(bif (decide ((c.toNat:Int)>57))then some ((c.toNat:Int) !=95)else some false))else(bif (decide ((c.toNat:Int)>122))then(bif (decide ((c.toNat:Int)<48))then some ((c.toNat:Int) !=95)else(bif (decide ((c.toNat:Int)>57))then some ((c.toNat:Int) !=95)else some false))else some false))=some (!jP c):=by
 have a1:=Fq c.toNat 97;have a2:=Fq c.toNat 48;have a3:=lq c.toNat 57;have a4:=lq c.toNat 122;have a5:=XV c.toNat 95;simp only[Int.cast_ofNat_Int]at a1 a2 a3 a4 a5;rw[a1,a2,a3,a4,a5];unfold jP n6;cases decide (97<=c.toNat)<;>cases decide (48<=c.toNat)<;>cases decide (c.toNat<=57)<;>cases decide (c.toNat<=122)<;>cases (c.toNat==95)<;>rfl
theorem aaf(N:Nat)(s:aqQ)(hs:s.size<9223372036854775807):∀(k i:Nat),i<=s.size->s.size-i<k->A3 N s k (i:Int)=some (((bL s).drop i).all jP)
 |0,i,_,hk=>absurd hk (aqt _)
 |k+1,i,hi,hk=>by
  rw[A3];by_cases aN:i<s.size
  ·have J:decide ((i:Int)<(s.size:Int))=true:=aqI (by omega);have h2:decide ((0:Int)<=(i:Int))=true:=aqI (by omega);rw[J,h2];simp only[cond_true,aqs];have hl:i<(bL s).length:=by rw[<-tU];exact aN
   rw[EF,ap5 hl,List.drop_eq_getElem_cons hl,ap0,aed,ap0,aqL];cases hw:jP (bL s)[i]with
   |true=>
    simp only[Bool.not_true,cond_false,Bool.true_and];rw[LK (Nat.lt_trans aN hs),aaf N s hs k (i+1) aN (by omega)]
   |false=>rfl
  ·have J:decide ((i:Int)<(s.size:Int))=false:=aqJ (by omega);rw[J];simp only[cond_false];rw[List.drop_eq_nil_of_le (by rw[<-tU];omega)];rfl
theorem aek(N:Nat)(s:aqQ)(hN:16<N):I2 N s=some (iB s):=by
 unfold I2 iB Kw;have hz:=tU s;have a1:=Fq s.size 1;have a2:=lq s.size 16;simp only[Int.cast_ofNat_Int]at a1 a2;rw[a1,a2,hz];cases J:decide (1<=(bL s).length)with
 |false=>rfl
 |true=>
  cases cM:decide ((bL s).length<=16)with
  |false=>rfl
  |true=>
   have mM:=of_decide_eq_true J;have ahL:=of_decide_eq_true cM;have hl:0<(bL s).length:=by omega
   simp only[Bool.not_true,cond_false,Bool.true_and];rw[ajt,ap0,EF,ap5 hl,ap0];have b1:=Fq (bL s)[0].toNat 97;have b2:=lq (bL s)[0].toNat 122;simp only[Int.cast_ofNat_Int]at b1 b2;rw[b1,b2,mv,mv,ap0,Nk hl];have:=aaf N s (by omega) N 0 (Nat.zero_le _) (by omega);rw[aqA]at this;rw[show A3 N s N 0=_ from this,aqL,List.all_nil,Bool.and_true];unfold n6;cases uH (bL s)<;>cases decide (97<=(bL s)[0].toNat)<;>cases decide ((bL s)[0].toNat<=122)<;>rfl
theorem TZ(N:Nat)(v:aqQ):∀(l:aqP aqQ)(k:Nat),Mi N v l k=some (l.any λw=>bL w==bL v)
 |[],_=>rfl
 |w::l,k=>by
  rw[Mi,aqM,TZ N v l (k+1)];cases bL w==bL v<;>rfl
theorem ajB(c:UInt8)(z:Bool):(bif (decide ((c.toNat:Int)>=97))then(bif (decide ((c.toNat:Int)<=122))then some (!true)else(bif z then(bif (decide ((c.toNat:Int)>=48))then(bif (decide ((c.toNat:Int)<=57))then some (!true)else some (!((c.toNat:Int)==95)))else some (!((c.toNat:Int)==95)))else some (!false)))else(bif z then(bif (decide ((c.toNat:Int)>=48))then(bif (decide ((c.toNat:Int)<=57))then some (!true)else some (!((c.toNat:Int)==95)))else some (!((c.toNat:Int)==95)))else some (!false)))=some (!(bif z then jP c else n6 c)):=by
 have a1:=UQ c.toNat 97;have a2:=UQ c.toNat 48;have a3:=we c.toNat 57;have a4:=we c.toNat 122;have a5:=su c.toNat 95;simp only[Int.cast_ofNat_Int]at a1 a2 a3 a4 a5;rw[a1,a2,a3,a4,a5];unfold jP n6;cases decide (97<=c.toNat)<;>cases decide (48<=c.toNat)<;>cases decide (c.toNat<=57)<;>cases decide (c.toNat<=122)<;>cases (c.toNat==95)<;>cases z<;>rfl
theorem acw(N:Nat)(s:aqQ)(hs:s.size<9223372036854775807):∀(k i:Nat),i<=s.size->s.size-i<k->ET N s k (i:Int)=some (bif decide (i>0)then((bL s).drop i).all jP else((bL s).take 1).all n6&&((bL s).drop 1).all jP)
 |0,i,_,hk=>absurd hk (aqt _)
 |k+1,i,hi,hk=>by
  rw[ET];by_cases aN:i<s.size
  ·have J:decide ((i:Int)<(s.size:Int))=true:=aqI (by omega);have h2:decide ((0:Int)<=(i:Int))=true:=aqI (by omega);rw[J,h2];simp only[cond_true,aqs];have hl:i<(bL s).length:=by rw[<-tU];exact aN
   rw[EF,ap5 hl,ap0,ajB,ap0];rw[LK (Nat.lt_trans aN hs),acw N s hs k (i+1) aN (by omega),aqI (show i+1>0 by omega)];simp only[cond_true];by_cases h0:i=0
   ·subst h0;rw[aqJ (show ¬((0:Nat):Int)>0 by omega),aqJ (show ¬0>0 by omega)];simp only[cond_false];rw[Nk hl,aqL,List.all_nil,Bool.and_true];cases n6 (bL s)[0]<;>rfl
   ·rw[aqI (show(i:Int)>0 by omega),aqI (show i>0 by omega)];simp only[cond_true];rw[List.drop_eq_getElem_cons hl,aqL];cases jP (bL s)[i]<;>rfl
  ·have J:decide ((i:Int)<(s.size:Int))=false:=aqJ (by omega);rw[J];simp only[cond_false];have hn:(bL s).drop i=[]:=List.drop_eq_nil_of_le (by rw[<-tU];omega);by_cases h0:i=0
   ·subst h0;rw[aqA]at hn;rw[hn];rfl
   ·rw[aqI (show i>0 by omega),hn];rfl
theorem Ix(N:Nat)(s:aqQ)(hN:16<N):zp N s=some (iB s):=by
 unfold zp iB Kw;have hz:=tU s;have a1:=Fq s.size 1;have a2:=lq s.size 16;simp only[Int.cast_ofNat_Int]at a1 a2;rw[a1,a2,hz];cases J:decide (1<=(bL s).length)with
 |false=>rfl
 |true=>
  cases cM:decide ((bL s).length<=16)with
  |false=>rfl
  |true=>
   have mM:=of_decide_eq_true J;have ahL:=of_decide_eq_true cM;have hl:0<(bL s).length:=by omega
   simp only[Bool.not_true,cond_false,Bool.true_and];have hh:∀l,xt N l s=some (l.any λw=>bL w==bL s):=λl=>TZ N s l 0;unfold WB;rw[ap0,hh,ap0,ap0];have:=acw N s (by omega) N 0 (Nat.zero_le _) (by omega);rw[show ET N s N 0=_ from this];show(bif uH (bL s)then some false else some (((bL s).take 1).all n6&&((bL s).drop 1).all jP))=_;have hw:(bL s).all jP=(jP (bL s)[0]&&((bL s).drop 1).all jP):=by
    have hd:bL s=(bL s)[0]::(bL s).drop 1:=by
     have:=List.drop_eq_getElem_cons hl
     rwa [aqA]at this
    rw[<-aqL,<-hd]
   rw[hw,Nk hl,aqL,List.all_nil,Bool.and_true];unfold jP;cases uH (bL s)<;>cases n6 (bL s)[0]<;>simp
def cZ(t:aF):Bool:=
 bif t.bg==1||t.bg==3 then t.bN==0&&(t.bM==0&&(t.cn==0&&t.ck==0))
 else t.bg==2&&(decide (2<=t.bN)&&(decide (t.bN<=31)&&(decide (0<=t.bM)&&(decide (t.bM<=30)&&(decide (1<=t.cn)&&(decide (t.cn<=4)&&(t.ck==1||t.ck==2)))))))
theorem amn(a:Bool):(bif a then some true else some false)=some a:=by cases a<;>rfl
theorem Qy(a b:Int):decide (a<b)= !decide (b<=a):=by
 by_cases h:b<=a
 ·rw[aqI h,aqJ (by omega)];rfl
 ·rw[aqJ h,aqI (by omega)];rfl
theorem KL(a b:Int):decide (a>b)= !decide (a<=b):=Qy b a
theorem mH(a b:Int):decide (a>=b)=decide (b<=a):=rfl
theorem AM(a b:Int):(a !=b)= !(a==b):=rfl
theorem Dp(N:Nat)(t:aF):uS N t=some (cZ t):=by
 unfold uS cZ;simp only[mv,bif_and,ap0,mH];cases (t.bg==1||t.bg==3)<;>rfl
theorem NF(N:Nat)(t:aF)(h:(t.bg==2)=true):uR N t=some (bif (decide (2<=t.bN)&&(decide (t.bN<=31)&&(decide (0<=t.bM)&&(decide (t.bM<=30)&&(decide (1<=t.cn)&&(decide (t.cn<=4)&&(t.ck==1||t.ck==2)))))))then 0 else 10):=by
 unfold uR;simp only[mv,bif_and,ap0,mH,KL,AM,h,Bool.not_true,Bool.false_or];cases decide (2<=t.bN)<;>cases decide (t.bN<=31)<;>cases decide (0<=t.bM)<;>cases decide (t.bM<=30)<;>cases decide (1<=t.cn)<;>cases decide (t.cn<=4)<;>cases t.ck==1<;>cases t.ck==2<;>rfl
theorem qk(N:Nat)(t:aF):mC N t=some (bif cZ t then 0 else 10):=by
 unfold mC Lz cZ Q5;cases J:t.bg==1 with
 |true=>
  simp only[cond_true,ap0,aqK,Bool.true_and,Bool.true_or,Bool.and_true];cases (t.bN==0&&(t.bM==0&&(t.cn==0&&t.ck==0)))<;>rfl
 |false=>
  cases h3:t.bg==3 with
  |true=>
   simp only[cond_true,cond_false,ap0,aqK,Bool.true_and,Bool.or_true,Bool.and_true];cases (t.bN==0&&(t.bM==0&&(t.cn==0&&t.ck==0)))<;>rfl
  |false=>
   cases h2:t.bg==2 with
   |true=>
    rw[NF N t h2];simp only[cond_true,cond_false,ap0,Bool.true_and,Bool.or_false];cases (decide (2<=t.bN)&&(decide (t.bN<=31)&&(decide (0<=t.bM)&&(decide (t.bM<=30)&&(decide (1<=t.cn)&&(decide (t.cn<=4)&&(t.ck==1||t.ck==2)))))))<;>rfl
   |false=>rfl
def uk:aqR aqQ->aqP dC->Bool
 |_,[]=>true
 |p,m::l=>iB m.au&&(!(m.dU.toInt==0)&&((match p with|none=>true|some q=>Op.bytesLess (bL q) (bL m.au))&&uk (some m.au) l))
theorem ac6(p:aqR aqQ)(m:dC)(l:aqP dC):uk p (m::l)=(iB m.au&&(!(m.dU.toInt==0)&&((match p with|none=>true|some q=>Op.bytesLess (bL q) (bL m.au))&&uk (some m.au) l))):=by cases p<;>rfl
def ju(x:bz):Bool:=uk none x.xL
def tM(x:bz)(k:Nat):aqR aqQ:=bif k==0 then none else(x.xL[k-1]?).map (·.au)
theorem apb{k:Nat}(h0:0<k)(h:k<=maxLen):aO ((k:Int)-1)=((k-1:Nat):Int):=by
 unfold aO;have:(k:Int)-1=((k-1:Nat):Int):=by omega
 rw[this];unfold maxLen at h;rw[IntKind.wrap_i64]<;>omega
theorem abm{x:bz}{k:Nat}{m:dC}{l:aqP dC}(hd:x.xL.drop k=m::l):tM x (k+1)=some m.au:=by
 have:=bI hd;unfold tM;simp [this]
theorem aa3{x:bz}{k:Nat}{m:dC}{l:aqP dC}(hd:x.xL.drop k=m::l)(hm:x.xL.length<=maxLen):
 (bif (decide ((k:Int)>0))then bif (decide ((0:Int)<=(aO ((k:Int)-(1:Int)))))then
 Option.bind (x.xL[((aO ((k:Int)-(1:Int)))).toNat]?) λv7=>
 some (!(Op.bytesLess (bL v7.au) (bL m.au)))
 else none else some false)=some (!(match tM x k with|none=>true|some q=>Op.bytesLess (bL q) (bL m.au))):=by
 have aN:k<x.xL.length:=(ap1.1 (bI hd)).1;by_cases h0:k=0
 ·subst h0;rfl
 ·rw[aqI (show(k:Int)>0 by omega),apb (by omega) (by omega),aqI (show(0:Int)<=((k-1:Nat):Int) by omega)];simp only[cond_true,aqs];have hp:tM x k=(x.xL[k-1]?).map (·.au):=by
    unfold tM;rw[beq_false_of_ne h0];rfl
  rw[hp,ap5 (show k-1<x.xL.length by omega)];rfl
theorem adq(N:Nat)(hN:16<N)(x:bz)(hm:x.xL.length<=maxLen):∀(l:aqP dC)(k:Nat),x.xL.drop k=l->K8 N x l k=some (bif uk (tM x k) l then 0 else 1)
 |[],k,_=>rfl
 |m::l,k,hd=>by
  rw[K8,aek N m.au hN,ap0,ac6,aa3 hd hm,adq N hN x hm l (k+1) (ma hd),abm hd];generalize (match tM x k with|none=>true|some q=>Op.bytesLess (bL q) (bL m.au))=b;cases iB m.au<;>cases (m.dU.toInt==0)<;>cases b<;>cases uk (some m.au) l<;>rfl
theorem Iw(N:Nat)(hN:16<N)(x:bz)(hm:x.xL.length<=maxLen):zB N x=some (bif ju x then 0 else 1):=adq N hN x hm x.xL 0 rfl
theorem aaz(N:Nat)(hN:16<N)(x:bz)(hm:x.xL.length<=maxLen):∀(l:aqP dC)(k:Nat),x.xL.drop k=l->JV N x l k=some (uk (tM x k) l)
 |[],k,_=>rfl
 |m::l,k,hd=>by
  rw[JV,Ix N m.au hN,ap0,ac6,aa3 hd hm,aaz N hN x hm l (k+1) (ma hd),abm hd];generalize (match tM x k with|none=>true|some q=>Op.bytesLess (bL q) (bL m.au))=b;cases iB m.au<;>cases (m.dU.toInt==0)<;>cases b<;>cases uk (some m.au) l<;>rfl
theorem C5(N:Nat)(hN:16<N)(x:bz)(hm:x.xL.length<=maxLen):wG N x=some (ju x):=aaz N hN x hm x.xL 0 rfl
def cJ(t:aF)(v:aA):Bool:=
 bif t.bg==2 then v.xD.toInt==1&&(decide (-(2^(t.bN-1).toNat)<=v.xN.toInt)&&decide (v.xN.toInt<2^(t.bN-1).toNat))
 else decide (v.xN.toInt<=2147483647)&&(decide (-2147483647<=v.xN.toInt)&&(decide (1<=v.xD.toInt)&&(decide (v.xD.toInt<=2147483647)&&
  (bif t.bg==3 then v.xD.toInt==1 else Nat.gcd v.xN.toInt.natAbs v.xD.toInt.toNat==1))))
theorem agV:∀n:Fin 30,(decide ((0:Int)<=(IntKind.u64.wrap (aO (((n.val+2:Nat):Int)-(1:Int))))))=true/\(decide ((0:Int)<=(aO (((n.val+2:Nat):Int)-(1:Int)))))=true/\
 (-(Int64.ofInt ((1:Int)*2^(min ((IntKind.u64.wrap (aO (((n.val+2:Nat):Int)-(1:Int))))).toNat (IntKind.bits .i64))))).toInt= -(2^(n.val+1))/\
 ((Int64.ofInt ((1:Int)*2^(min ((IntKind.u64.wrap (aO (((n.val+2:Nat):Int)-(1:Int))))).toNat (IntKind.bits .i64))))-(1:Int64)).toInt=2^(n.val+1)-1/\
 (-(Int64.ofInt ((1:Int)*2^(min ((aO (((n.val+2:Nat):Int)-(1:Int)))).toNat (IntKind.bits .i64))))).toInt= -(2^(n.val+1))/\
 (Int64.ofInt ((1:Int)*2^(min ((aO (((n.val+2:Nat):Int)-(1:Int)))).toNat (IntKind.bits .i64)))).toInt=2^(n.val+1):=by decide+kernel
theorem Qb{b:Int}(J:2<=b)(h2:b<=31):(decide ((0:Int)<=(IntKind.u64.wrap (aO (b-(1:Int))))))=true/\(decide ((0:Int)<=(aO (b-(1:Int)))))=true/\
 (-(Int64.ofInt ((1:Int)*2^(min ((IntKind.u64.wrap (aO (b-(1:Int))))).toNat (IntKind.bits .i64))))).toInt= -(2^(b-1).toNat)/\
 ((Int64.ofInt ((1:Int)*2^(min ((IntKind.u64.wrap (aO (b-(1:Int))))).toNat (IntKind.bits .i64))))-(1:Int64)).toInt=2^(b-1).toNat-1/\
 (-(Int64.ofInt ((1:Int)*2^(min ((aO (b-(1:Int)))).toNat (IntKind.bits .i64))))).toInt= -(2^(b-1).toNat)/\
 (Int64.ofInt ((1:Int)*2^(min ((aO (b-(1:Int)))).toNat (IntKind.bits .i64)))).toInt=2^(b-1).toNat:=by
 obtain⟨n,rfl⟩:∃n:Nat,b=n:=⟨b.toNat,by omega⟩;have:=agV ⟨n-2,by omega⟩;simp only[show n-2+2=n by omega,show n-2+1=n-1 by omega]at this;rw[show((n:Int)-1).toNat=n-1 by omega];exact this
theorem Q4(N:Nat):∀(k a b:Nat),b<k->Gk N k (a:Int) (b:Int)=some ((Nat.gcd a b:Nat):Int)
 |0,a,b,h=>absurd h (aqt _)
 |k+1,a,b,h=>by
  rw[Gk];by_cases h0:b=0
  ·subst h0;simp
  ·rw[show(((b:Nat):Int) !=0)=true by rw[bne_iff_ne];omega];simp only[cond_true];rw[<-Int.ofNat_tmod,Q4 N k b (a%b) (by have:=Nat.mod_lt a (Nat.pos_of_ne_zero h0);omega)];rw[Nat.gcd_comm a b,Nat.gcd_rec b a,Nat.gcd_comm]
theorem aca(N:Nat):∀(k:Nat)(a b:Int64),0<=a.toInt->0<=b.toInt->b.toInt.toNat<k->∃g:Int64,Hd N k a b=some g/\g.toInt=((Nat.gcd a.toInt.toNat b.toInt.toNat:Nat):Int)
 |0,a,b,_,_,h=>absurd h (aqt _)
 |k+1,a,b,ha,hb,h=>by
  rw[Hd];by_cases h0:b.toInt=0
  ·rw[h0];refine⟨a,rfl,?_⟩;show a.toInt=((Nat.gcd a.toInt.toNat 0:Nat):Int);rw[Nat.gcd_zero_right];omega
  ·rw[show(b.toInt !=0)=true by rw[bne_iff_ne];exact h0];simp only[cond_true];obtain⟨x,hx⟩:∃x:Nat,a.toInt=x:=⟨a.toInt.toNat,by omega⟩;obtain⟨y,hy⟩:∃y:Nat,b.toInt=y:=⟨b.toInt.toNat,by omega⟩;rw[hx,hy];have hyp:0<y:=by omega
   have hm:(x:Int).tmod (y:Int)=((x%y:Nat):Int):=(Int.ofNat_tmod x y).symm;have aN:=Nat.mod_lt x hyp;have kh:b.toInt<2^63:=Int64.toInt_lt b;have mG:(Int64.ofInt ((x%y:Nat):Int)).toInt=((x%y:Nat):Int):=by
    rw[Int64.toInt_ofInt_of_le]
    ·omega
    ·omega
   rw[hm];obtain⟨g,J,h2⟩:=aca N k b (Int64.ofInt ((x%y:Nat):Int)) hb (by rw[mG];omega) (by rw[mG];omega);refine⟨g,J,?_⟩;rw[h2,mG,hy];simp only[aqs];rw[Nat.gcd_comm x y,Nat.gcd_rec y x,Nat.gcd_comm]
theorem mU(z:Int):IntKind.u64.wrap z=z%18446744073709551616:=rfl
theorem PE(N:Nat)(v:Int64):zV N v=some ((v.toInt.natAbs:Nat):Int):=by
 unfold zV;have J:v.toInt<2^63:=Int64.toInt_lt v;have h2: -2^63<=v.toInt:=Int64.le_toInt v;by_cases h:v.toInt<0
 ·rw[aqI h];simp only[cond_true,mU]
  congr 1
  omega
 ·rw[aqJ h];simp only[cond_false,mU]
  congr 1
  omega
theorem qK(N:Nat)(hN:2147483648<N)(t:aF)(v:aA)(ht:cZ t=true):m7 N t v=some (cJ t v):=by
 unfold m7;rw[qk,ht,ap0];unfold cJ;cases h2:t.bg==2 with
 |true=>
  simp only[cond_true];show Option.bind (sB N t v) _=_;unfold cZ at ht;have hk:t.bg=2:=by simpa using h2
  rw[hk]at ht;have rW:(decide (2<=t.bN)&&(decide (t.bN<=31)&&(decide (0<=t.bM)&&(decide (t.bM<=30)&&(decide (1<=t.cn)&&(decide (t.cn<=4)&&(t.ck==1||t.ck==2)))))))=true:=ht;unfold sB;rw[NF N t h2,rW,ap0];simp only[ap3,decide_eq_true_eq]at rW;obtain⟨b1,b2,_⟩:=rW;obtain⟨f1,f2,f3,f4,f5,f6⟩:=Qb b1 b2;unfold Fu CA Bc;rw[bif_and,ap0,ap0,mH,aqI b1,aqI b2];simp only[Bool.and_self,cond_true];rw[f1];simp only[cond_true,ap0];rw[f3,f4];rw[mH,bif_and,nA (p:=v.xN.toInt<=2^(t.bN-1).toNat-1) (q:=v.xN.toInt<2^(t.bN-1).toNat) (by omega)];cases (v.xD.toInt==1)<;>rfl
 |false=>
  simp only[cond_false];show(bif t.bg==3 then _ else _)=_;cases h3:t.bg==3 with
  |true=>
   simp only[cond_true];unfold pR;rw[mH,bif_and,ap0,ap0];by_cases hd:v.xD.toInt=1
   ·rw[hd];simp only[aqK,cond_true,ap0,show decide ((1:Int)<=1)=true from rfl,show decide ((1:Int)<=2147483647)=true from rfl,Bool.and_true];rw[Bool.and_comm]
   ·rw[beq_false_of_ne hd];simp only[cond_false,ap0,Bool.and_false]
  |false=>
   simp only[cond_false];unfold kS NM;rw[mH,mH,bif_and,ap0,ap0,PE,ap0];cases ry:decide (1<=v.xD.toInt)with
   |false=>cases decide (v.xN.toInt<=2147483647)<;>cases decide (-2147483647<=v.xN.toInt)<;>rfl
   |true=>
    cases mE:decide (v.xD.toInt<=2147483647)with
    |false=>cases decide (v.xN.toInt<=2147483647)<;>cases decide (-2147483647<=v.xN.toInt)<;>rfl
    |true=>
     have e1:=of_decide_eq_true ry;have e2:=of_decide_eq_true mE;have hw:IntKind.u64.wrap v.xD.toInt=((v.xD.toInt.toNat:Nat):Int):=by rw[mU];omega
     simp only[cond_true,Bool.true_and];rw[hw];unfold DE;rw[Q4 N N v.xN.toInt.natAbs v.xD.toInt.toNat (by omega),ap0,show((((Nat.gcd v.xN.toInt.natAbs v.xD.toInt.toNat:Nat):Int))==1)=(Nat.gcd v.xN.toInt.natAbs v.xD.toInt.toNat==1)from su _ 1,bif_and,ap0];cases decide (v.xN.toInt<=2147483647)<;>cases decide (-2147483647<=v.xN.toInt)<;>rfl
theorem Ym(N:Nat)(hN:2147483648<N)(t:aF)(v:aA)(ht:cZ t=true):Fl N t v=some (cJ t v):=by
 unfold Fl cJ;cases h2:t.bg==2 with
 |true=>
  simp only[cond_true];unfold cZ at ht;have hk:t.bg=2:=by simpa using h2
  rw[hk]at ht;have rW:(decide (2<=t.bN)&&(decide (t.bN<=31)&&(decide (0<=t.bM)&&(decide (t.bM<=30)&&(decide (1<=t.cn)&&(decide (t.cn<=4)&&(t.ck==1||t.ck==2)))))))=true:=ht;simp only[ap3,decide_eq_true_eq]at rW;obtain⟨b1,b2,_⟩:=rW;obtain⟨f1,f2,f3,f4,f5,f6⟩:=Qb b1 b2;rw[f2];simp only[cond_true];rw[f5,f6,mH,bif_and,bif_and,ap0]
 |false=>
  simp only[cond_false,KL,mv,ap0];cases xd:decide (v.xN.toInt<=2147483647)with
  |false=>rfl
  |true=>
   cases kM:decide (-2147483647<=v.xN.toInt)with
   |false=>rfl
   |true=>
    cases ry:decide (1<=v.xD.toInt)with
    |false=>rfl
    |true=>
     cases mE:decide (v.xD.toInt<=2147483647)with
     |false=>rfl
     |true=>
      have n1:=of_decide_eq_true xd;have n2:=of_decide_eq_true kM;have e1:=of_decide_eq_true ry;have e2:=of_decide_eq_true mE;simp only[Bool.not_true,Bool.or_false,cond_false,Bool.true_and];cases h3:t.bg==3 with
      |true=>rfl
      |false=>
       simp only[cond_false];have anv:(-v.xN).toInt= -v.xN.toInt:=by
        rw[Int64.toInt_neg];rw[Int.bmod_eq_of_le]<;>omega
       have wO:(yM v.xN (-v.xN)).toInt=((v.xN.toInt.natAbs:Nat):Int):=by
        rw[<-Uj,anv];split<;>omega
       unfold Qn;obtain⟨g,g1,g2⟩:=aca N N (yM v.xN (-v.xN)) v.xD (by rw[wO];omega) (by omega) (by omega);rw[g1,ap0,g2,wO,aqs];rw[show((((Nat.gcd v.xN.toInt.natAbs v.xD.toInt.toNat:Nat):Int))==1)=(Nat.gcd v.xN.toInt.natAbs v.xD.toInt.toNat==1)from su _ 1]
def sy(n:Int):Bool:=decide (-9223372036854775808<=n)&&decide (n<=9223372036854775807)
theorem px{n:Int}:sy n=true↔-9223372036854775808<=n/\n<=9223372036854775807:=by
 unfold sy;rw[ap3,decide_eq_true_iff,decide_eq_true_iff]
theorem aeQ(n:Int64):sy n.toInt=true:=by
 rw[px];have J:=n.le_toInt;have h2:=n.toInt_lt;omega
def same(a b:aqQ):Bool:=bL a==bL b
def lt(a b:aqQ):Bool:=Op.bytesLess (bL a) (bL b)
theorem TY{a b:aqQ}(h:(bL a)=(bL b)):a=b:=by
 unfold bL at h;have:a.data=b.data:=Array.toList_inj.mp h;cases a;cases b;simp_all
theorem VU:∀(x y:aqP UInt8),Op.bytesLess x y=decide (x<y)
 |[],[]=>by simp [Op.bytesLess]
 |_::_,[]=>by simp [Op.bytesLess]
 |[],_::_=>by simp [Op.bytesLess]
 |a::x,b::y=>by
  rw[Op.bytesLess,VU x y];simp only[List.cons_lt_cons_iff];by_cases h:a<b<;>by_cases h2:a=b<;>simp_all
theorem apL{a b:aqQ}:lt a b=true↔(bL a)<(bL b):=by unfold lt;rw[VU];simp
inductive Er|arg|range
abbrev X(α:Type):=Except Er α
def ZE:aqP aqQ->aqQ->aqP aqQ
 |[],s=>[s]
 |x::l,s=>if lt s x then x::ZE l s else s::x::l
def ins(l:aqP aqQ)(s:aqQ):aqP aqQ:=if l.any (same · s)then l else(ZE l.reverse s).reverse
set_option linter.unusedSimpArgs false
def kx(l:bz):Prop:=l.xL.length<=maxLen
structure U4(x:cO):Prop where
 mZ:kx x.bo
 at_:∀l∈x.cT,kx l
structure zZ(e:aw):Prop where
 mZ:kx e.bo
 idx:∀x∈e.xIdx,U4 x
 args:e.bJ.length<=maxLen
def mV(e:aw):Prop:=∀x∈dF e,zZ x
def yz(l:bz):Bool:=l.xK.toInt==0&&l.xL.length==0
def rM(x:cO):Bool:=bif bL x.cU==[]then x.cT.length==0 else yz x.bo
def Mc(v:aA):Bool:=v.xN.toInt==0&&v.xD.toInt==0
def H6(t:aF):Bool:=t.bg==0&&(t.bN==0&&(t.bM==0&&(t.cn==0&&t.ck==0)))
def pG(e:aw):Bool:=decide (1<=e.az)&&(decide (e.az<=18)&&((e.az==1||Mc e.dt)&&((e.az==1||(e.az==12||H6 e.ax))&&((e.az==2||yz e.bo)&&((e.az==3||(bL e.au==[]&&e.xIdx.length==0))&&e.xIdx.all rM)))))
def tv(e:aw):Bool:=(!(e.az==3)||iB e.au)&&e.xIdx.all λx=>bL x.cU==[]||iB x.cU
def nY(op:Int):Int:=bif op==1||(op==2||op==3)then 0 else bif op==8||(op==12||op==18)then 1 else bif op==11 then 3 else 2
def oM(e:aw):Bool:=(e.bJ.length:Int)==nY e.az&&(decide (e.xIdx.length<=6)&&e.xIdx.all λx=>decide (x.cT.length<=6))
def eE(e:aw):Bool:=decide (13<=e.az)&&decide (e.az<=18)
def kW(op:Int)(i:Nat):Bool:=(op==11&&i==0)||(op==16||(op==17||op==18))
def vx(op:Int):Nat->aqP aw->Bool
 |_,[]=>true
 |i,a::l=>eE a==kW op i&&vx op (i+1) l
def nO(e:aw):Bool:=(!(e.az==1||e.az==12)||cZ e.ax)&&vx e.az 0 e.bJ
def vC(e:aw):Bool:=(!(e.az==1)||cJ e.ax e.dt)&&(pD e).all ju
def nt(e:aw):Int:=bif pG e then bif tv e then bif oM e then bif nO e then bif vC e then 0 else 1 else 10 else 11 else 7 else 5
theorem uU(n:Nat):((n:Int)==0)=(n==0):=su n 0
theorem KE(n:Nat):decide ((n:Int)>0)= !(n==0):=by
 by_cases h:n=0
 ·subst h;rfl
 ·rw[aqI (show(n:Int)>0 by omega),beq_false_of_ne h];rfl
theorem Uo(N:Nat)(l:bz):EV N l=some (yz l):=by
 unfold EV yz;rw[bif_and,ap0,uU]
theorem akL(N:Nat)(x:cO):Lc N x=some (rM x):=by
 unfold Lc rM;rw[Uo,ap0,uU,sJ];cases bL x.cU==[]<;>rfl
theorem Su{α:Type}(f:α->Bool)(l:aqP α):(l.any λx=> !f x)= !l.all f:=by
 induction l with
 |nil=>rfl
 |cons x l ih=>rw[aqM,aqL,ih];cases f x<;>rfl
theorem aa4(N:Nat):∀(l:aqP cO)(k:Nat),∃z:Int,HJ N l k=some z/\decide (z>=0)=l.any λx=> !rM x
 |[],k=>⟨-1,rfl,rfl⟩
 |x::l,k=>by
  rw[HJ,aqM];unfold QZ;rw[akL,ap0,ap0];cases h: !rM x with
  |true=>exact⟨k,rfl,aqI (by omega)⟩
  |false=>exact aa4 N l (k+1)
theorem aeE(N:Nat)(l:aqP cO):JW N l=some (!l.all rM):=by
 unfold JW OI;obtain⟨z,J,h2⟩:=aa4 N l 0;rw[J,ap0,h2,Su]
theorem Vd(v:aA):((v.xN.toInt==(0:Int64).toInt)&&((v.xD.toInt==(0:Int64).toInt)&&true))=Mc v:=by rw[Bool.and_true];rfl
theorem YH(t:aF):((t.bg==0)&&((t.bN==0)&&((t.bM==0)&&((t.cn==0)&&((t.ck==0)&&true)))))=H6 t:=by rw[Bool.and_true];rfl
theorem td(a b:Bool):(bif a then some false else some b)=some (!a&&b):=by cases a<;>rfl
theorem WE(a b:Bool):(bif a then some b else some true)=some (!a||b):=by cases a<;>rfl
theorem aop(N:Nat)(e:aw):Ka N e=some (pG e):=by
 unfold Ka pG;simp only[KE];simp only[mv,bif_and,td,WE,ap0,KL,Qy,Uo,aeE,Vd,YH,sJ];cases decide (1<=e.az)<;>cases decide (e.az<=18)<;>cases e.az==1<;>cases Mc e.dt<;>cases e.az==12<;>cases H6 e.ax<;>cases e.az==2<;>cases yz e.bo<;>cases e.az==3<;>cases bL e.au==[]<;>cases e.xIdx.length==0<;>cases e.xIdx.all rM<;>rfl
theorem Wn(N:Nat):∀(l:aqP cO)(k:Nat),H4 N l k=some (l.all rM)
 |[],_=>rfl
 |x::l,k=>by
  rw[H4,aqL,Wn N l (k+1)];unfold rM yz;simp only[mv,amn,bif_and,ap0,KE,AM,sJ];cases bL x.cU==[]<;>cases x.cT.length==0<;>cases x.bo.xK.toInt==0<;>cases x.bo.xL.length==0<;>rfl
theorem al0(N:Nat)(e:aw):N3 N e=some (pG e):=by
 unfold N3 pG;simp only[KE];simp only[mv,bif_and,td,WE,ap0,KL,Qy,AM,Wn,Vd,YH,sJ];unfold yz;cases decide (1<=e.az)<;>cases decide (e.az<=18)<;>cases e.az==1<;>cases Mc e.dt<;>cases e.az==12<;>cases H6 e.ax<;>cases e.az==2<;>cases e.bo.xK.toInt==0<;>cases e.bo.xL.length==0<;>cases e.az==3<;>cases bL e.au==[]<;>cases e.xIdx.length==0<;>cases e.xIdx.all rM<;>rfl
theorem anm(N:Nat)(hN:16<N)(x:cO):L7 N x=some (!(bL x.cU==[]||iB x.cU)):=by
 unfold L7;rw[Ko N _ hN,ap0,td,ap0,sJ];cases bL x.cU==[]<;>rfl
theorem Vh(N:Nat)(hN:16<N):∀(l:aqP cO)(k:Nat),∃z:Int,M1 N l k=some z/\decide (z>=0)=l.any λx=> !(bL x.cU==[]||iB x.cU)
 |[],k=>⟨-1,rfl,rfl⟩
 |x::l,k=>by
  rw[M1,aqM,anm N hN,ap0];cases h: !(bL x.cU==[]||iB x.cU)with
  |true=>exact⟨k,rfl,aqI (by omega)⟩
  |false=>exact Vh N hN l (k+1)
theorem afO(N:Nat)(hN:16<N)(e:aw):Lp N e=some (tv e):=by
 unfold Lp tv TI Sb;obtain⟨z,J,h2⟩:=Vh N hN e.xIdx 0;rw[Ko N _ hN,ap0,J];simp only[ap0,h2,Su,bif_and,td];cases e.az==3<;>cases iB e.au<;>cases (e.xIdx.all λx=>bL x.cU==[]||iB x.cU)<;>rfl
theorem YR(N:Nat)(hN:16<N):∀(l:aqP cO)(k:Nat),JK N l k=some (l.all λx=>bL x.cU==[]||iB x.cU)
 |[],_=>rfl
 |x::l,k=>by
  rw[JK,aqL,YR N hN l (k+1),Ix N _ hN,ap0,td,ap0,td,sJ];cases bL x.cU==[]<;>cases iB x.cU<;>rfl
theorem aoX(N:Nat)(hN:16<N)(e:aw):Tw N e=some (tv e):=by
 unfold Tw tv;rw[Ix N _ hN,ap0,YR N hN];simp only[ap0,bif_and,td];cases e.az==3<;>cases iB e.au<;>rfl
theorem Xx(N:Nat):∀(l:aqP cO)(k:Nat),∃z:Int,Ho N l k=some z/\decide (z>=0)=l.any λx=> !decide (x.cT.length<=6)
 |[],k=>⟨-1,rfl,rfl⟩
 |x::l,k=>by
  rw[Ho,aqM];unfold Rs;rw[ap0,show decide ((x.cT.length:Int)>6)= !decide (x.cT.length<=6)from lq _ 6];cases h: !decide (x.cT.length<=6)with
  |true=>exact⟨k,rfl,aqI (by omega)⟩
  |false=>exact Xx N l (k+1)
theorem akW(N:Nat)(op:Int):Iz N op=some (nY op):=by
 unfold Iz GY FY nY;cases op==1<;>cases op==2<;>cases op==3<;>cases op==8<;>cases op==12<;>cases op==18<;>cases op==11<;>rfl
theorem ajO(N:Nat)(op:Int):S4 N op=some (nY op):=by
 unfold S4 IT Kg nY;cases op==1<;>cases op==2<;>cases op==3<;>cases op==8<;>cases op==12<;>cases op==18<;>cases op==11<;>rfl
theorem agi(N:Nat)(e:aw):JM N e=some (oM e):=by
 unfold JM oM Pk Tq;obtain⟨z,J,h2⟩:=Xx N e.xIdx 0;rw[akW,ap0,J,show decide ((e.xIdx.length:Int)>6)= !decide (e.xIdx.length<=6)from lq _ 6];simp only[ap0,h2,Su,mv,td,AM];cases (e.bJ.length:Int)==nY e.az<;>cases decide (e.xIdx.length<=6)<;>cases (e.xIdx.all λx=>decide (x.cT.length<=6))<;>rfl
theorem aaJ(N:Nat):∀(l:aqP cO)(k:Nat),Kx N l k=some (l.all λx=>decide (x.cT.length<=6))
 |[],_=>rfl
 |x::l,k=>by
  rw[Kx,aqL,aaJ N l (k+1),show decide ((x.cT.length:Int)>6)= !decide (x.cT.length<=6)from lq _ 6];cases decide (x.cT.length<=6)<;>rfl
theorem als(N:Nat)(e:aw):PU N e=some (oM e):=by
 unfold PU oM;rw[ajO,ap0,aaJ,show decide ((e.xIdx.length:Int)>6)= !decide (e.xIdx.length<=6)from lq _ 6];simp only[ap0,mv,td,AM];cases (e.bJ.length:Int)==nY e.az<;>cases decide (e.xIdx.length<=6)<;>rfl
theorem ab3(N:Nat)(e:aw):BO N e=some (eE e):=by
 unfold BO eE;rw[bif_and,ap0]
theorem GU(N:Nat)(e:aw):IX N e=some (eE e):=by
 unfold IX eE;rw[mH,bif_and,ap0]
theorem ak4(N:Nat)(op:Int)(i:Nat):K9 N op (i:Int)=some (kW op i):=by
 unfold K9 Ek kW;rw[uU];cases op==16<;>cases op==17<;>cases op==18<;>cases op==11<;>cases i==0<;>rfl
theorem akv(N:Nat)(op:Int)(i:Nat):NP N op (i:Int)=some (kW op i):=by
 unfold NP kW;rw[uU];cases op==16<;>cases op==17<;>cases op==18<;>cases op==11<;>cases i==0<;>rfl
theorem Yn(N:Nat)(e:aw):∀(l:aqP aw)(i:Nat),JP N e l i=some (vx e.az i l)
 |[],_=>rfl
 |a::l,i=>by
  rw[JP,vx,ab3,ap0,ak4,ap0,Yn N e l (i+1)];cases eE a==kW e.az i<;>rfl
theorem WH(N:Nat)(e:aw):∀(l:aqP aw)(i:Nat),Mj N e l i=some (vx e.az i l)
 |[],_=>rfl
 |a::l,i=>by
  rw[Mj,vx,GU,ap0,akv,ap0,WH N e l (i+1)];cases eE a==kW e.az i<;>rfl
theorem afT(b:Bool):((bif b then(0:Int)else 10) !=0)= !b:=by cases b<;>rfl
theorem akh(N:Nat)(e:aw):HE N e=some (nO e):=by
 unfold HE nO;rw[qk,ap0,Yn];simp only[afT];cases e.az==1<;>cases e.az==12<;>cases cZ e.ax<;>rfl
theorem an9(N:Nat)(e:aw):Tr N e=some (nO e):=by
 unfold Tr nO;rw[Dp,ap0,WH];cases e.az==1<;>cases e.az==12<;>cases cZ e.ax<;>rfl
theorem aoN(b:Bool):((bif b then(0:Int)else 1) !=0)= !b:=by cases b<;>rfl
theorem ZI(N:Nat)(hN:16<N):∀l:aqP bz,(∀x∈l,kx x)->uX N l=some (bif l.all ju then 0 else 1)
 |[],_=>rfl
 |x::l,h=>by
  rw[uX,Iw N hN x (h x ap7),ap0,aoN,ZI N hN l (λy hy=>h y (aqa _ hy)),aqL];cases ju x<;>rfl
theorem Yk(N:Nat)(hN:16<N)(c:Bool):∀(l:aqP bz)(k:Nat),(∀x∈l,kx x)->Kl N (some c) l k=some (l.all ju&&c)
 |[],_,_=>rfl
 |x::l,k,h=>by
  rw[Kl,C5 N hN x (h x ap7),ap0,Yk N hN c l (k+1) (λy hy=>h y (aqa _ hy)),aqL];cases ju x<;>rfl
theorem VG(N:Nat)(hN:16<N):∀(l:aqP cO)(k:Nat),(∀x∈l,U4 x)->KC N l k=some ((l.flatMap wi).all ju)
 |[],_,_=>rfl
 |x::l,k,h=>by
  have hx:=h x ap7;rw[KC,C5 N hN _ hx.mZ,ap0,VG N hN l (k+1) (λy hy=>h y (aqa _ hy)),Yk N hN _ _ _ hx.at_,List.flatMap_cons,wi,List.cons_append,aqL,List.all_append];cases ju x.bo<;>rfl
theorem alZ{e:aw}(h:zZ e):∀x∈pD e,kx x:=by
 intro x hx;unfold pD at hx;rcases aqv.1 hx with rfl|hx
 ·exact h.mZ
 ·obtain⟨y,hy,hx⟩:=List.mem_flatMap.1 hx;unfold wi at hx;rcases aqv.1 hx with rfl|hx
  ·exact(h.idx y hy).mZ
  ·exact(h.idx y hy).at_ x hx
theorem agv(N:Nat)(hN:2147483648<N)(e:aw)(h:zZ e)(ht:nO e=true):Tm N e=some (vC e):=by
 unfold Tm vC pD;rw[aqL,C5 N (by omega) _ h.mZ,ap0,VG N (by omega) _ _ h.idx];cases J:e.az==1 with
 |true=>
  have nM:cZ e.ax=true:=by
   unfold nO at ht;rw[J]at ht;simp only[Bool.true_or,Bool.not_true,Bool.false_or,ap3]at ht;exact ht.1
  rw[Ym N hN _ _ nM,ap0];cases cJ e.ax e.dt<;>cases ju e.bo<;>rfl
 |false=>cases ju e.bo<;>rfl
theorem ahM(N:Nat)(hN:2147483648<N)(e:aw)(h:zZ e):FH N e=some (nt e):=by
 unfold FH nt;rw[aop,ap0];cases pG e with
 |false=>rfl
 |true=>
  simp only[cond_true];rw[afO N (by omega),ap0];cases tv e with
  |false=>rfl
  |true=>
   simp only[cond_true];rw[agi,ap0];cases oM e with
   |false=>rfl
   |true=>
    simp only[cond_true];rw[akh,ap0];cases ht:nO e with
    |false=>rfl
    |true=>
     simp only[cond_true];have hf:uX N (pD e)=_:=ZI N (by omega) (pD e) (alZ h);unfold vC SG;rw[ap0,hf];cases J:e.az==1 with
     |true=>
      have nM:cZ e.ax=true:=by
       unfold nO at ht;rw[J]at ht;simp only[Bool.true_or,Bool.not_true,Bool.false_or,ap3]at ht;exact ht.1
      rw[qK N hN _ _ nM,ap0];cases cJ e.ax e.dt<;>cases (pD e).all ju<;>rfl
     |false=>cases (pD e).all ju<;>rfl
end Go.Proofs.YtpeecnpmcbnahaaGreatDoor
