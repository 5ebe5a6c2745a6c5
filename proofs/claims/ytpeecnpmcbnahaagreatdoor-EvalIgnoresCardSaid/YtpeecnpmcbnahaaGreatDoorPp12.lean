/-
  Part 12 of the proof: PE4, PE5, PE6, PE7, PE8, PE9, PAll, ValNames, ValNode, LinP, ValTree, ValTree2, ValidLaw.
-/
import Derived.Test.YtpeecnpmcbnahaaGreatDoorPp11
namespace Go.Proofs.YtpeecnpmcbnahaaGreatDoor
open Go.RowKit
set_option maxRecDepth 100000
set_option maxHeartbeats 0
set_option linter.unusedVariables false
theorem k00{α β:Type}{P:α->β->Prop}(a:α)(b:β)(h:P a b:=by kernel_rfl):∃a b,P a b:=⟨a,b,h⟩
def Wy(v:eX)(r:apf AV):apf AV:=(ar v.fv.bk)::(ar v.fv.cf)::(ar v.fv.bQ)::(ar v.fv.cq)::(ar v.fv.ct)::r
def Nb(N:Nat)(v1:aM)(v2:aD)(v3:aD):aph (aD×Int):=
 Option.bind (ra N v1 ([v2,v3])) λv4=>
 bif (v4 !=0)then
  some (cH,v4)
 else
  (Np N v1 v2.xN v3.xN).bind λv5=>
  bif (v5.2 !=0)then
   some (cH,v5.2)
  else
   (oh N v1 v5.1).bind λv6=>
   some (v6,(0:Int))
theorem acN{N v1 v2 v3}:KP 272 [(.agg [(.fn 277 [])]),(cx v1),(bu v2),(bu v3)] [] (λr=> .bg [(bu r.1),(ar r.2)]) (λ_=>[]) (Nb N v1 v2 v3):=
 fh 0 Tryz.func272 (ax λv4 J=>gA [[],[(13,cK Bz J)],[]] (aC (λh2=>gH [[t0 h2],[]]) λh2=>ax λv5 h3=>gA [[f0 h2],[(22,cK aiA h3)],[]] (aC (λh4=>gH [[t0 h4],[]]) λh4=>ax λv6 h5=>gH [[f0 h4],[(7,cK yI h5)]])))
def Cc(N:Nat)(v1:aM)(v2:aD)(v3:aD):aph (aD×Int):=
 (Nb N v1 v2 v3).bind λv4=>
 some (v4.1,v4.2)
theorem agY{N v1 v2 v3}:KO 236 [(cx v1),(bu v2),(bu v3)] (λr=> .bg [(bu r.1),(ar r.2)]) (Cc N v1 v2 v3):=
 fw Tryz.func236 (ax λv4 J=>gR [[],[(13,oQ [(.agg [(.fn 277 [])]),(cx v1),(bu v2),(bu v3)] [.cells (cx v1).cells, .cells (bu v2).cells, .cells (bu v3).cells, .cells iT] [] (acN _ J))]])
def Fu(N:Nat)(v1:aD)(v2:aD):aph (aD×Int):=
 (j9 N v1).bind λv3=>
 Option.bind (bif v3 then (j9 N v2).bind λv4=>
 some (!v4)else some true) λv5=>
 bif v5 then
  some (cH,(1:Int))
 else
  Option.bind (tV N ((v1.xN*v2.xD)+(v2.xN*v1.xD)) (v1.xD*v2.xD)) λv6=>
  some (v6.1,v6.2)
theorem acA{N v1 v2}:KO 237 [(bu v1),(bu v2)] (λr=> .bg [(bu r.1),(ar r.2)]) (Fu N v1 v2):=
 fw Tryz.func237 (gA [[]] (ax λv3 J=>gG (λv5=>[(13,(aL v5))]) (λ_=>[.cells (bu v1).cells, .cells (bu v2).cells, .cells iT]) (dt (4,cK ni J) (aC (λh2=>ax λv4 h3=>gE [(3,bF (dH h2))] [(16,cK ni h3)]) λh2=>gE [(3,bT (eo h2))] [])) λv5=>bP λh5=>ax λv6 h6=>gR [[f0 h5],[(14,⟨_,_, .eq (lu v1.xN v2.xD)⟩),(29,⟨_,_, .eq (lu v2.xN v1.xD)⟩),(32,⟨_,_, .eq (C3 (v1.xN*v2.xD) (v2.xN*v1.xD))⟩),(47,⟨_,_, .eq (lu v1.xD v2.xD)⟩),(49,cK Dk h6)]]))
def En(N:Nat)(v1:aD)(v2:aD):aph (aD×Int):=
 (j9 N v1).bind λv3=>
 Option.bind (bif v3 then (j9 N v2).bind λv4=>
 some (!v4)else some true) λv5=>
 bif v5 then
  some (cH,(1:Int))
 else
  Option.bind (tV N ((v1.xN*v2.xD)-(v2.xN*v1.xD)) (v1.xD*v2.xD)) λv6=>
  some (v6.1,v6.2)
theorem amP{N v1 v2}:KO 238 [(bu v1),(bu v2)] (λr=> .bg [(bu r.1),(ar r.2)]) (En N v1 v2):=
 fw Tryz.func238 (gA [[]] (ax λv3 J=>gG (λv5=>[(13,(aL v5))]) (λ_=>[.cells (bu v1).cells, .cells (bu v2).cells, .cells iT]) (dt (4,cK ni J) (aC (λh2=>ax λv4 h3=>gE [(3,bF (dH h2))] [(16,cK ni h3)]) λh2=>gE [(3,bT (eo h2))] [])) λv5=>bP λh5=>ax λv6 h6=>gR [[f0 h5],[(14,⟨_,_, .eq (lu v1.xN v2.xD)⟩),(29,⟨_,_, .eq (lu v2.xN v1.xD)⟩),(32,⟨_,_, .eq (xE (v1.xN*v2.xD) (v2.xN*v1.xD))⟩),(47,⟨_,_, .eq (lu v1.xD v2.xD)⟩),(49,cK Dk h6)]]))
def Cx(N:Nat)(v1:aD)(v2:aD):aph (aD×Int):=
 (j9 N v1).bind λv3=>
 Option.bind (bif v3 then (j9 N v2).bind λv4=>
 some (!v4)else some true) λv5=>
 bif v5 then
  some (cH,(1:Int))
 else
  Option.bind (tV N (v1.xN*v2.xN) (v1.xD*v2.xD)) λv6=>
  some (v6.1,v6.2)
theorem am6{N v1 v2}:KO 239 [(bu v1),(bu v2)] (λr=> .bg [(bu r.1),(ar r.2)]) (Cx N v1 v2):=
 fw Tryz.func239 (gA [[]] (ax λv3 J=>gG (λv5=>[(13,(aL v5))]) (λ_=>[.cells (bu v1).cells, .cells (bu v2).cells, .cells iT]) (dt (4,cK ni J) (aC (λh2=>ax λv4 h3=>gE [(3,bF (dH h2))] [(16,cK ni h3)]) λh2=>gE [(3,bT (eo h2))] [])) λv5=>bP λh5=>ax λv6 h6=>gR [[f0 h5],[(14,⟨_,_, .eq (lu v1.xN v2.xN)⟩),(29,⟨_,_, .eq (lu v1.xD v2.xD)⟩),(31,cK Dk h6)]]))
def Es(N:Nat)(v1:aD)(v2:aD):aph (aD×Int):=
 (j9 N v1).bind λv3=>
 Option.bind (bif v3 then (j9 N v2).bind λv4=>
 some (!v4)else some true) λv5=>
 bif v5 then
  some (cH,(1:Int))
 else
  Option.bind (tV N (v1.xN*v2.xD) (v1.xD*v2.xN)) λv6=>
  some (v6.1,v6.2)
theorem ahj{N v1 v2}:KO 240 [(bu v1),(bu v2)] (λr=> .bg [(bu r.1),(ar r.2)]) (Es N v1 v2):=
 fw Tryz.func240 (gA [[]] (ax λv3 J=>gG (λv5=>[(13,(aL v5))]) (λ_=>[.cells (bu v1).cells, .cells (bu v2).cells, .cells iT]) (dt (4,cK ni J) (aC (λh2=>ax λv4 h3=>gE [(3,bF (dH h2))] [(16,cK ni h3)]) λh2=>gE [(3,bT (eo h2))] [])) λv5=>bP λh5=>ax λv6 h6=>gR [[f0 h5],[(14,⟨_,_, .eq (lu v1.xN v2.xD)⟩),(29,⟨_,_, .eq (lu v1.xD v2.xN)⟩),(31,cK Dk h6)]]))
def Jm(N:Nat)(v1:Int)(v2:aM)(v3:aD)(v4:aD):aph (aD×Int):=
 bif (v2.bk==3)then
  (Ds N v1 v3.xN v4.xN).bind λv5=>
  some (v5.1,v5.2)
 else
  Option.bind (bif (v1==4)then some (v2.bk==2)else some false) λv6=>
  bif v6 then
   (C0 N v2 v3 v4).bind λv7=>
   some (v7.1,v7.2)
  else
   Option.bind (bif (v1==5)then some (v2.bk==2)else some false) λv8=>
   bif v8 then
    (DM N v2 v3 v4).bind λv9=>
    some (v9.1,v9.2)
   else
    Option.bind (bif (v1==6)then some (v2.bk==2)else some false) λv10=>
    bif v10 then
     (Eu N v2 v3 v4).bind λv11=>
     some (v11.1,v11.2)
    else
     bif (v2.bk==2)then
      (Cc N v2 v3 v4).bind λv12=>
      some (v12.1,v12.2)
     else
      bif (v1==4)then
       (Fu N v3 v4).bind λaJ=>
       some (aJ.1,aJ.2)
      else
       bif (v1==5)then
        (En N v3 v4).bind λaH=>
        some (aH.1,aH.2)
       else
        bif (v1==6)then
         (Cx N v3 v4).bind λbz=>
         some (bz.1,bz.2)
        else
         (Es N v3 v4).bind λbB=>
         some (bB.1,bB.2)
def SB(v2:aM)(v3:aD)(v4:aD)(l:apf aq):apf aq:= .cells (cx v2).cells:: .cells (bu v3).cells:: .cells (bu v4).cells:: .cells iT::l
theorem anR{N v1 v2 v3 v4}:KO 177 [(ar v1),(cx v2),(bu v3),(bu v4)] (λr=> .bg [(bu r.1),(ar r.2)]) (Jm N v1 v2 v3 v4):=
 fw Tryz.func177 (gA [[],[],[]] (aC (λJ=>ax λv5 h2=>gR [[t0 J],[(16,cK amN h2)]]) λJ=>gA [[f0 J]] (gG (λv6=>[(26,(aL v6))]) (λ_=>(SB v2 v3 v4 [])) (aC (λh3=>gE [(2,bT h3)] []) λh3=>gE [(2,bF h3)] []) λv6=>aC (λh5=>ax λv7 h6=>gR [[t0 h5],[(10,cK aez h6)]]) λh5=>gA [[f0 h5]] (gG (λv8=>[(38,(aL v8))]) (λ_=>(SB v2 v3 v4 [])) (aC (λh7=>gE [(2,bT h7)] []) λh7=>gE [(2,bF h7)] []) λv8=>aC (λh9=>ax λv9 bG=>gR [[t0 h9],[(10,cK aio bG)]]) λh9=>gA [[f0 h9]] (gG (λv10=>[(50,(aL v10))]) (λ_=>(SB v2 v3 v4 [])) (aC (λbH=>gE [(2,bT bH)] []) λbH=>gE [(2,bF bH)] []) λv10=>aC (λcU=>ax λv11 cT=>gR [[t0 cU],[(10,cK afK cT)]]) λcU=>gA [[f0 cU],[]] (aC (λcQ=>ax λv12 cM=>gR [[t0 cQ],[(10,cK agY cM)]]) λcQ=>gA [[f0 cQ],[]] (aC (λeE=>ax λaJ fJ=>gR [[t0 eE],[(7,cK acA fJ)]]) λeE=>gA [[f0 eE],[]] (aC (λgn=>ax λaH gz=>gR [[t0 gn],[(7,cK amP gz)]]) λgn=>gA [[f0 gn],[]] (aC (λjU=>ax λbz lV=>gR [[t0 jU],[(7,cK am6 lV)]]) λjU=>ax λbB gN=>gR [[f0 jU],[(7,cK ahj gN)]])))))))))
def Br(N:Nat)(v2:aM)(v3:aD)(v4:aD)(v1:Int)(v11:Bool):aph (aD×Int):=
 bif v11 then
  (EF N v2 v3 v4).bind λv12=>
  Option.bind (bif ((decide (v12>0))==(v1==9))then some (v12 !=0)else some false) λaJ=>
  bif aJ then
   some (v4,(0:Int))
  else
   some (v3,(0:Int))
 else
  (Jm N v1 v2 v3 v4).bind λaH=>
  some (aH.1,aH.2)
def vO(N:Nat)(v1:Int)(v2:aM)(v3:aD)(v4:aD):aph (aD×Int):=
 Option.bind (bif (decide (v1<4))then some true else some (decide (v1>10))) λv5=>
 bif v5 then
  some (cH,(1:Int))
 else
  (l9 N v2).bind λv6=>
  bif (v6 !=0)then
   some (cH,(10:Int))
  else
   (mD N v2 v3).bind λv7=>
   Option.bind (bif v7 then(bif (v1 !=8)then (mD N v2 v4).bind λv8=>
   some (!v8)else some false)else some true) λv9=>
   bif v9 then
    some (cH,(1:Int))
   else
    bif (v1==8)then
     (HJ N v2 v3).bind λv10=>
     some (v10.1,v10.2)
    else
     bif (v1==9)then
      Br N v2 v3 v4 v1 (v1==9)
     else
      Br N v2 v3 v4 v1 (v1==10)
def Jj(v2:aM)(v3:aD)(v4:aD)(l:apf aq):apf aq:= .cells (cx v2).cells:: .cells (bu v3).cells:: .cells (bu v4).cells:: .cells iT::l
theorem NA{N v1 v2 v3 v4}:KO 115 [(ar v1),(cx v2),(bu v3),(bu v4)] (λr=> .bg [(bu r.1),(ar r.2)]) (vO N v1 v2 v3 v4):=
 fw Tryz.func115 (gA [[]] (gG (λv5=>[(11,(aL v5))]) (λ_=>(Jj v2 v3 v4 [])) (aC (λJ=>gE [(2,bT J)] []) λJ=>gE [(2,bF J)] []) λv5=>bP λh3=>ax λv6 h4=>gA [[f0 h3],[(4,cK o9 h4)]] (bP λh5=>gA [[f0 h5]] (ax λv7 h6=>gG (λv9=>[(24,(aL v9))]) (λ_=>(Jj v2 v3 v4 [])) (dt (7,cK uM h6) (aC (λh7=>dT (4,bF (dH h7)) (aC (λh8=>ax λv8 h9=>gE [(7,bT h8)] [(31,cK uM h9),(37,bT h8)]) λh8=>gE [(7,bF h8)] [(37,bF h8)])) λh7=>gE [(4,bT (eo h7)),(7,uN)] [])) λv9=>bP λbH=>gA [[f0 bH],[],[]] (aC (λbq=>ax λv10 cU=>gR [[t0 bq],[(7,cK aiZ cU)]]) λbq=>mP 1 [[f0 bq],[]] [0,5,6,7,8,48] 4 (λ(v11:Bool)=>⟨73,[(0,(ar v1)),(5,(.ptr 0 0)),(6,(.ptr 1 0)),(7,(.ptr 2 0)),(8,(.ptr 3 0)),(48,(aL v11))],(Jj v2 v3 v4 [])⟩) (Br N v2 v3 v4 v1) (λf1 aW=>aC (λgz=>gm aW (v1==9) [[t0 gz]]) λgz=>gm aW (v1==10) [[f0 gz],[]]) (λv11=>aC (λcT=>ax λv12 cQ=>gA [[t0 cT],[(10,cK Wg cQ)]] (gG (λaJ=>[(63,(aL aJ))]) (λ_=>(Jj v2 v3 v4 [])) (aC (λcM=>gE [(5,bT cM)] []) λcM=>gE [(5,bF cM)] []) λaJ=>bP λfJ=>gR [[f0 fJ],[]])) λcT=>ax λaH gn=>gR [[f0 cT],[(13,cK anR gn)]]))))))
def xg(N:Nat)(v2:apf aI)(v1:aw)(v3:apf aG)(v4:apf (apg×aT))(akA:aw->(apf aI)->(apf aG)->(apf (apg×aT))->aph (Bool×Int×(apf (apg×aT))))(abh:aw->(apf aI)->(apf aG)->(apf (apg×aT))->aph (eX×Int×(apf (apg×aT))))(alh:aw->(apf aI)->(apf aG)->(apf (apg×aT))->aph (eX×Int×(apf (apg×aT))))(v5:Bool):aph (eX×Int×(apf (apg×aT))):=
 bif v5 then
  (J8 N v2 v1 v3 v4).bind λv6=>
  some (v6.1,v6.2.1,v6.2.2)
 else
  bif (v1.az==11)then
   Option.bind (v1.bZ[0]?) λv7=>
   (akA v7 v2 v3 v4).bind λv8=>
   bif (v8.2.1 !=0)then
    some (Bp,v8.2.1,v8.2.2)
   else
    bif v8.1 then
     Option.bind (v1.bZ[1]?) λv9=>
     (abh v9 v2 v3 v8.2.2).bind λv10=>
     some (v10.1,v10.2.1,v10.2.2)
    else
     Option.bind (v1.bZ[2]?) λv11=>
     (abh v11 v2 v3 v8.2.2).bind λv12=>
     some (v12.1,v12.2.1,v12.2.2)
  else
   (alh v1 v2 v3 v4).bind λaJ=>
   some (aJ.1,aJ.2.1,aJ.2.2)
def FB(N:Nat)(v6:eX×Int×(apf (apg×aT)))(v8:eX×Int×(apf (apg×aT)))(v10:Int):aph (eX×eX×Int×(apf (apg×aT))):=
 some (v6.1,v8.1,v10,v8.2.2)
mutual
def lM(N:Nat):Nat->aw->(apf aI)->(apf aG)->(apf (apg×aT))->aph (eX×Int×(apf (apg×aT)))
 |0,_,_,_,_=>none
 |d+1,v1,v2,v3,v4=>
  bif (v1.az==1)then
   xg N v2 v1 v3 v4 (oz N d) (lM N d) (pM N d) (v1.az==1)
  else
   bif (v1.az==2)then
    xg N v2 v1 v3 v4 (oz N d) (lM N d) (pM N d) (v1.az==2)
   else
    xg N v2 v1 v3 v4 (oz N d) (lM N d) (pM N d) (v1.az==3)
def oz(N:Nat):Nat->aw->(apf aI)->(apf aG)->(apf (apg×aT))->aph (Bool×Int×(apf (apg×aT)))
 |0,_,_,_,_=>none
 |d+1,v1,v2,v3,v4=>
  Option.bind ((FW N d) v1 v2 v3 v4) λv5=>
  some (v5.1,v5.2.1,v5.2.2)
def FW(N:Nat):Nat->aw->(apf aI)->(apf aG)->(apf (apg×aT))->aph (Bool×Int×(apf (apg×aT)))
 |0,_,_,_,_=>none
 |d+1,v1,v2,v3,v4=>
  bif (decide (v1.az<16))then
   Option.bind ((ym N d) v1 v2 v3 v4) λv5=>
   bif (v5.2.2.1 !=0)then
    some (false,v5.2.2.1,v5.2.2.2)
   else
    (EF N v5.1.fv v5.1.yVal v5.2.1.yVal).bind λv6=>
    (OC N v1.az v6).bind λv7=>
    some (v7,(0:Int),v5.2.2.2)
  else
   Option.bind (v1.bZ[0]?) λv8=>
   Option.bind ((oz N d) v8 v2 v3 v4) λv9=>
   Option.bind (bif (v9.2.1 !=0)then some true else some (v1.az==18)) λv10=>
   bif v10 then
    Option.bind (bif (v9.2.1==0)then some (!v9.1)else some false) λv11=>
    some (v11,v9.2.1,v9.2.2)
   else
    Option.bind (v1.bZ[1]?) λv12=>
    Option.bind ((oz N d) v12 v2 v3 v9.2.2) λaJ=>
    bif (aJ.2.1 !=0)then
     some (false,aJ.2.1,aJ.2.2)
    else
     bif (v1.az==16)then
      (bif v9.1 then some aJ.1 else some false).bind λaH=>
      some (aH,(0:Int),aJ.2.2)
     else
      (bif v9.1 then some true else some aJ.1).bind λbz=>
      some (bz,(0:Int),aJ.2.2)
def ym(N:Nat):Nat->aw->(apf aI)->(apf aG)->(apf (apg×aT))->aph (eX×eX×Int×(apf (apg×aT)))
 |0,_,_,_,_=>none
 |d+1,v1,v2,v3,v4=>
  Option.bind (v1.bZ[0]?) λv5=>
  Option.bind ((lM N d) v5 v2 v3 v4) λv6=>
  bif (v6.2.1 !=0)then
   some (v6.1,v6.1,v6.2.1,v6.2.2)
  else
   Option.bind (v1.bZ[1]?) λv7=>
   Option.bind ((lM N d) v7 v2 v3 v6.2.2) λv8=>
   Option.bind (bif (v8.2.1==0)then some (!((v6.1.fv.bk==v8.1.fv.bk)&&((v6.1.fv.cf==v8.1.fv.cf)&&((v6.1.fv.bQ==v8.1.fv.bQ)&&((v6.1.fv.cq==v8.1.fv.cq)&&((v6.1.fv.ct==v8.1.fv.ct)&&true))))))else some false) λv9=>
   bif v9 then
    FB N v6 v8 (10:Int)
   else
    FB N v6 v8 v8.2.1
def pM(N:Nat):Nat->aw->(apf aI)->(apf aG)->(apf (apg×aT))->aph (eX×Int×(apf (apg×aT)))
 |0,_,_,_,_=>none
 |d+1,v1,v2,v3,v4=>
  Option.bind (bif (v1.az==8)then some true else some (v1.az==12)) λv5=>
  bif v5 then
   Option.bind (v1.bZ[0]?) λv6=>
   Option.bind ((lM N d) v6 v2 v3 v4) λv7=>
   bif (v7.2.1 !=0)then
    some (v7.1,v7.2.1,v7.2.2)
   else
    bif (v1.az==12)then
     (Kl N v7.1.fv v1.aB v7.1.yVal).bind λv8=>
     some ((⟨v8.1,v1.aB⟩:eX),v8.2,v7.2.2)
    else
     Option.bind (vO N (8:Int) v7.1.fv v7.1.yVal v7.1.yVal) λv9=>
     some ((⟨v9.1,v7.1.fv⟩:eX),v9.2,v7.2.2)
  else
   Option.bind ((ym N d) v1 v2 v3 v4) λv10=>
   bif (v10.2.2.1 !=0)then
    some (Bp,v10.2.2.1,v10.2.2.2)
   else
    (vO N v1.az v10.1.fv v10.1.yVal v10.2.1.yVal).bind λv11=>
    some ((⟨v11.1,v10.1.fv⟩:eX),v11.2,v10.2.2.2)
end
def BM(N:Nat)(v1:aw)(v2:apf aI)(v3:apf aG)(v4:apf (apg×aT)):aph (eX×Int×(apf (apg×aT))):=lM N N v1 v2 v3 v4
theorem aer(N:Nat):∀d:Nat,(∀{v1:aw}{v2:apf aI}{v3:apf aG}{v4:apf (apg×aT)}{r:eX×Int×(apf (apg×aT))},lM N d v1 v2 v3 v4=some r->KH 65 [(aP v1),(.ptr 0 0),(.ptr 1 0),(.ptr 2 0)] ([.cells [(.fn 68 [(.ptr 3 0),(.ptr 4 0)])], .cells [(.d (.sl (aS v2)))], .cells [(.ptr 5 0)], .cells [(.mp 6)], .cells [(.d (.sl (aX v3)))], .cells [(.fn 65 [(.ptr 0 0),(.ptr 1 0),(.ptr 2 0)]),(.fn 63 [(.ptr 2 0)])], .map (bU bW v4)]) (.bg [(dC r.1),(ar r.2.1)]) ([.cells [(.fn 68 [(.ptr 3 0),(.ptr 4 0)])], .cells [(.d (.sl (aS v2)))], .cells [(.ptr 5 0)], .cells [(.mp 6)], .cells [(.d (.sl (aX v3)))], .cells [(.fn 65 [(.ptr 0 0),(.ptr 1 0),(.ptr 2 0)]),(.fn 63 [(.ptr 2 0)])], .map (bU bW r.2.2)]))/\(∀{v1:aw}{v2:apf aI}{v3:apf aG}{v4:apf (apg×aT)}{r:Bool×Int×(apf (apg×aT))},oz N d v1 v2 v3 v4=some r->KH 63 [(aP v1),(.ptr 0 0)] ([.cells [(.ptr 1 0)], .cells [(.fn 65 [(.ptr 2 0),(.ptr 3 0),(.ptr 0 0)]),(.fn 63 [(.ptr 0 0)])], .cells [(.fn 68 [(.ptr 4 0),(.ptr 5 0)])], .cells [(.d (.sl (aS v2)))], .cells [(.mp 6)], .cells [(.d (.sl (aX v3)))], .map (bU bW v4)]) (.bg [(aL r.1),(ar r.2.1)]) ([.cells [(.ptr 1 0)], .cells [(.fn 65 [(.ptr 2 0),(.ptr 3 0),(.ptr 0 0)]),(.fn 63 [(.ptr 0 0)])], .cells [(.fn 68 [(.ptr 4 0),(.ptr 5 0)])], .cells [(.d (.sl (aS v2)))], .cells [(.mp 6)], .cells [(.d (.sl (aX v3)))], .map (bU bW r.2.2)]))/\(∀{v1:aw}{v2:apf aI}{v3:apf aG}{v4:apf (apg×aT)}{r:Bool×Int×(apf (apg×aT))},FW N d v1 v2 v3 v4=some r->KH 64 [(.ptr 0 0),(aP v1)] ([.cells [(.fn 65 [(.ptr 1 0),(.ptr 2 0),(.ptr 3 0)]),(.fn 63 [(.ptr 3 0)])], .cells [(.fn 68 [(.ptr 4 0),(.ptr 5 0)])], .cells [(.d (.sl (aS v2)))], .cells [(.ptr 0 0)], .cells [(.mp 6)], .cells [(.d (.sl (aX v3)))], .map (bU bW v4)]) (.bg [(aL r.1),(ar r.2.1)]) ([.cells [(.fn 65 [(.ptr 1 0),(.ptr 2 0),(.ptr 3 0)]),(.fn 63 [(.ptr 3 0)])], .cells [(.fn 68 [(.ptr 4 0),(.ptr 5 0)])], .cells [(.d (.sl (aS v2)))], .cells [(.ptr 0 0)], .cells [(.mp 6)], .cells [(.d (.sl (aX v3)))], .map (bU bW r.2.2)]))/\(∀{v1:aw}{v2:apf aI}{v3:apf aG}{v4:apf (apg×aT)}{r:eX×eX×Int×(apf (apg×aT))},ym N d v1 v2 v3 v4=some r->KH 110 [(.ptr 0 0),(aP v1)] ([.cells [(.fn 65 [(.ptr 1 0),(.ptr 2 0),(.ptr 3 0)]),(.fn 63 [(.ptr 3 0)])], .cells [(.fn 68 [(.ptr 4 0),(.ptr 5 0)])], .cells [(.d (.sl (aS v2)))], .cells [(.ptr 0 0)], .cells [(.mp 6)], .cells [(.d (.sl (aX v3)))], .map (bU bW v4)]) (.bg [(dC r.1),(dC r.2.1),(ar r.2.2.1)]) ([.cells [(.fn 65 [(.ptr 1 0),(.ptr 2 0),(.ptr 3 0)]),(.fn 63 [(.ptr 3 0)])], .cells [(.fn 68 [(.ptr 4 0),(.ptr 5 0)])], .cells [(.d (.sl (aS v2)))], .cells [(.ptr 0 0)], .cells [(.mp 6)], .cells [(.d (.sl (aX v3)))], .map (bU bW r.2.2.2)]))/\(∀{v1:aw}{v2:apf aI}{v3:apf aG}{v4:apf (apg×aT)}{r:eX×Int×(apf (apg×aT))},pM N d v1 v2 v3 v4=some r->KH 67 [(.ptr 0 0),(aP v1)] ([.cells [(.fn 65 [(.ptr 1 0),(.ptr 2 0),(.ptr 3 0)]),(.fn 63 [(.ptr 3 0)])], .cells [(.fn 68 [(.ptr 4 0),(.ptr 5 0)])], .cells [(.d (.sl (aS v2)))], .cells [(.ptr 0 0)], .cells [(.mp 6)], .cells [(.d (.sl (aX v3)))], .map (bU bW v4)]) (.bg [(dC r.1),(ar r.2.1)]) ([.cells [(.fn 65 [(.ptr 1 0),(.ptr 2 0),(.ptr 3 0)]),(.fn 63 [(.ptr 3 0)])], .cells [(.fn 68 [(.ptr 4 0),(.ptr 5 0)])], .cells [(.d (.sl (aS v2)))], .cells [(.ptr 0 0)], .cells [(.mp 6)], .cells [(.d (.sl (aX v3)))], .map (bU bW r.2.2)])):=by
 intro d
 induction d with
 |zero=>exact⟨(by intro v1 v2 v3 v4 r U;rw[lM]at U;cases U),(by intro v1 v2 v3 v4 r U;rw[oz]at U;cases U),(by intro v1 v2 v3 v4 r U;rw[FW]at U;cases U),(by intro v1 v2 v3 v4 r U;rw[ym]at U;cases U),(by intro v1 v2 v3 v4 r U;rw[pM]at U;cases U)⟩
 |succ d ih=>
  have tH:= @ih.1;have OW:= @ih.2.1;have ado:= @ih.2.2.1;have ZX:= @ih.2.2.2.1;have afd:= @ih.2.2.2.2;refine⟨?_,?_,?_,?_,?_⟩
  ·intro v1 v2 v3 v4 r U;rw[lM]at U;refine Cn 7 Tryz.func65 ?_;refine FN ck r 1 [[],[],[]] [1,2,3,4,5,10,11] 9 (λ(v5:Bool)=>⟨67,[(1,(.ptr 0 0)),(2,(.ptr 1 0)),(3,(.ptr 2 0)),(4,(.ptr 7 0)),(5,(.ptr 8 0)),(10,(ar v1.az)),(11,(aL v5))],[.cells [(.fn 68 [(.ptr 3 0),(.ptr 4 0)])], .cells [(.d (.sl (aS v2)))], .cells [(.ptr 5 0)], .cells [(.mp 6)], .cells [(.d (.sl (aX v3)))], .cells [(.fn 65 [(.ptr 0 0),(.ptr 1 0),(.ptr 2 0)]),(.fn 63 [(.ptr 2 0)])], .map (bU bW v4), .cells (aP v1).cells, .cells dp]⟩) (xg N v2 v1 v3 v4 (oz N d) (lM N d) (pM N d)) ?_ ?_
   ·intro f1 aW;apply bc U<;>intro cU U
    ·exact mm ck aW (v1.az==1) [[(0,bT cU)]] U
    refine je ck [[(0,bF cU)],[]] ?_;apply bc U<;>intro cT U
    ·exact mm ck aW (v1.az==2) [[(0,bT cT)]] U
    exact mm ck aW (v1.az==3) [[(0,bF cT)],[]] U
   intro v5 U;rw[xg]at U;apply bc U<;>intro J U
   ·obtain⟨v6,h2,U⟩:=cp U;cases U;exact nh ck [[(0,bT J)],[(10,oR [(.fn 68 [(.ptr 3 0),(.ptr 4 0)]),(.d (.sl (aS v2))),(aP v1)] [.cells [(.fn 68 [(.ptr 3 0),(.ptr 4 0)])], .cells [(.d (.sl (aS v2)))], .cells [(.ptr 5 0)], .cells [(.mp 6)], .cells [(.d (.sl (aX v3)))], .cells [(.fn 65 [(.ptr 0 0),(.ptr 1 0),(.ptr 2 0)]),(.fn 63 [(.ptr 2 0)])], .map (bU bW v4), .cells (aP v1).cells, .cells dp] [3,4,6] (anl _ h2))]]
   refine je ck [[(0,bF J)],[]] ?_;apply bc U<;>intro h3 U
   ·refine je ck [[(0,bT h3)]] ?_;obtain⟨v7,h4,v8,h5,U⟩:=k01 U;refine AD ck [(19,oE (k:=0) (mY h4)),(25,oR [(aP v7),(.ptr 2 0)] [.cells [(.fn 68 [(.ptr 3 0),(.ptr 4 0)])], .cells [(.d (.sl (aS v2)))], .cells [(.ptr 5 0)], .cells [(.mp 6)], .cells [(.d (.sl (aX v3)))], .cells [(.fn 65 [(.ptr 0 0),(.ptr 1 0),(.ptr 2 0)]),(.fn 63 [(.ptr 2 0)])], .map (bU bW v4), .cells (aP v1).cells, .cells dp] [2,5,0,1,3,4,6] (OW h5))] [(7,(aL v8.1)),(8,(ar v8.2.1))] [.cells [(.fn 68 [(.ptr 3 0),(.ptr 4 0)])], .cells [(.d (.sl (aS v2)))], .cells [(.ptr 5 0)], .cells [(.mp 6)], .cells [(.d (.sl (aX v3)))], .cells [(.fn 65 [(.ptr 0 0),(.ptr 1 0),(.ptr 2 0)]),(.fn 63 [(.ptr 2 0)])], .map (bU bW v8.2.2), .cells (aP v1).cells, .cells dp] ?_;refine je ck [[]] ?_;apply bc U<;>intro h6 U
    ·cases U;exact nh ck [[(0,bT h6)],[]]
    refine je ck [[(0,bF h6)],[]] ?_;apply bc U<;>intro h7 U
    ·refine je ck [[(0,bT h7)]] ?_;obtain⟨v9,h8,v10,h9,U⟩:=k01 U;refine AD ck [(19,oE (k:=1) (mY h8)),(25,oR [(aP v9),(.ptr 0 0),(.ptr 1 0),(.ptr 2 0)] [.cells [(.fn 68 [(.ptr 3 0),(.ptr 4 0)])], .cells [(.d (.sl (aS v2)))], .cells [(.ptr 5 0)], .cells [(.mp 6)], .cells [(.d (.sl (aX v3)))], .cells [(.fn 65 [(.ptr 0 0),(.ptr 1 0),(.ptr 2 0)]),(.fn 63 [(.ptr 2 0)])], .map (bU bW v8.2.2), .cells (aP v1).cells, .cells dp] [0,1,2,3,4,5,6] (tH h9))] [(6,(ar v10.2.1))] [.cells [(.fn 68 [(.ptr 3 0),(.ptr 4 0)])], .cells [(.d (.sl (aS v2)))], .cells [(.ptr 5 0)], .cells [(.mp 6)], .cells [(.d (.sl (aX v3)))], .cells [(.fn 65 [(.ptr 0 0),(.ptr 1 0),(.ptr 2 0)]),(.fn 63 [(.ptr 2 0)])], .map (bU bW v10.2.2), .cells (aP v1).cells, .cells (dC v10.1).cells] ?_;cases U;exact nh ck []
    refine je ck [[(0,bF h7)]] ?_;obtain⟨v11,bG,v12,bH,U⟩:=k01 U;refine AD ck [(19,oE (k:=2) (mY bG)),(25,oR [(aP v11),(.ptr 0 0),(.ptr 1 0),(.ptr 2 0)] [.cells [(.fn 68 [(.ptr 3 0),(.ptr 4 0)])], .cells [(.d (.sl (aS v2)))], .cells [(.ptr 5 0)], .cells [(.mp 6)], .cells [(.d (.sl (aX v3)))], .cells [(.fn 65 [(.ptr 0 0),(.ptr 1 0),(.ptr 2 0)]),(.fn 63 [(.ptr 2 0)])], .map (bU bW v8.2.2), .cells (aP v1).cells, .cells dp] [0,1,2,3,4,5,6] (tH bH))] [(6,(ar v12.2.1))] [.cells [(.fn 68 [(.ptr 3 0),(.ptr 4 0)])], .cells [(.d (.sl (aS v2)))], .cells [(.ptr 5 0)], .cells [(.mp 6)], .cells [(.d (.sl (aX v3)))], .cells [(.fn 65 [(.ptr 0 0),(.ptr 1 0),(.ptr 2 0)]),(.fn 63 [(.ptr 2 0)])], .map (bU bW v12.2.2), .cells (aP v1).cells, .cells (dC v12.1).cells] ?_;cases U;exact nh ck []
   obtain⟨aJ,bq,U⟩:=cp U;cases U;exact nh ck [[(0,bF h3)],[(7,oR [(.ptr 5 0),(aP v1)] [.cells [(.fn 68 [(.ptr 3 0),(.ptr 4 0)])], .cells [(.d (.sl (aS v2)))], .cells [(.ptr 5 0)], .cells [(.mp 6)], .cells [(.d (.sl (aX v3)))], .cells [(.fn 65 [(.ptr 0 0),(.ptr 1 0),(.ptr 2 0)]),(.fn 63 [(.ptr 2 0)])], .map (bU bW v4), .cells (aP v1).cells, .cells dp] [5,0,1,2,3,4,6] (afd bq))]]
  ·intro v1 v2 v3 v4 r U;rw[oz]at U;refine Cn 7 Tryz.func63 ?_;obtain⟨v5,J,U⟩:=cp U;cases U;exact nh ck [[],[(7,oR [(.ptr 1 0),(aP v1)] [.cells [(.ptr 1 0)], .cells [(.fn 65 [(.ptr 2 0),(.ptr 3 0),(.ptr 0 0)]),(.fn 63 [(.ptr 0 0)])], .cells [(.fn 68 [(.ptr 4 0),(.ptr 5 0)])], .cells [(.d (.sl (aS v2)))], .cells [(.mp 6)], .cells [(.d (.sl (aX v3)))], .map (bU bW v4), .cells (aP v1).cells] [1,2,3,0,4,5,6] (ado J))]]
  ·intro v1 v2 v3 v4 r U;rw[FW]at U;refine Cn 7 Tryz.func64 ?_;refine je ck [[],[]] ?_;apply bc U<;>intro J U
   ·obtain⟨v5,h2,U⟩:=cp U;refine je ck [[(0,bT J)],[(7,oR [(.ptr 0 0),(aP v1)] [.cells [(.fn 65 [(.ptr 1 0),(.ptr 2 0),(.ptr 3 0)]),(.fn 63 [(.ptr 3 0)])], .cells [(.fn 68 [(.ptr 4 0),(.ptr 5 0)])], .cells [(.d (.sl (aS v2)))], .cells [(.ptr 0 0)], .cells [(.mp 6)], .cells [(.d (.sl (aX v3)))], .map (bU bW v4), .cells (aP v1).cells] [0,1,2,3,4,5,6] (ZX h2))],[]] ?_;apply bc U<;>intro h3 U
    ·cases U;exact nh ck [[(0,bT h3)],[]]
    obtain⟨v6,h4,v7,h5,U⟩:=k01 U;cases U;exact nh ck [[(0,bF h3)],[(25,cK Wg h4),(28,cK alc h5)]]
   refine je ck [[(0,bF J)]] ?_;obtain⟨v8,h6,v9,h7,U⟩:=k01 U;refine AD ck [(19,oE (k:=0) (mY h6)),(25,oR [(aP v8),(.ptr 3 0)] [.cells [(.fn 65 [(.ptr 1 0),(.ptr 2 0),(.ptr 3 0)]),(.fn 63 [(.ptr 3 0)])], .cells [(.fn 68 [(.ptr 4 0),(.ptr 5 0)])], .cells [(.d (.sl (aS v2)))], .cells [(.ptr 0 0)], .cells [(.mp 6)], .cells [(.d (.sl (aX v3)))], .map (bU bW v4), .cells (aP v1).cells] [3,0,1,2,4,5,6] (OW h7))] [(9,(aL v9.1)),(10,(ar v9.2.1))] [.cells [(.fn 65 [(.ptr 1 0),(.ptr 2 0),(.ptr 3 0)]),(.fn 63 [(.ptr 3 0)])], .cells [(.fn 68 [(.ptr 4 0),(.ptr 5 0)])], .cells [(.d (.sl (aS v2)))], .cells [(.ptr 0 0)], .cells [(.mp 6)], .cells [(.d (.sl (aX v3)))], .map (bU bW v9.2.2), .cells (aP v1).cells] ?_;obtain⟨v10,h9,U⟩:=cp U;refine C5 ck [(53,(aL v10))] [.cells [(.fn 65 [(.ptr 1 0),(.ptr 2 0),(.ptr 3 0)]),(.fn 63 [(.ptr 3 0)])], .cells [(.fn 68 [(.ptr 4 0),(.ptr 5 0)])], .cells [(.d (.sl (aS v2)))], .cells [(.ptr 0 0)], .cells [(.mp 6)], .cells [(.d (.sl (aX v3)))], .map (bU bW v9.2.2), .cells (aP v1).cells] ?_ ?_
   ·apply bc h9<;>intro h8 h9
    ·cases h9;exact k00 [(2,bT h8)] []
    cases h9;exact k00 [(2,bF h8)] []
   apply bc U<;>intro bG U
   ·refine je ck [[(0,bT bG)]] ?_;obtain⟨v11,bq,U⟩:=cp U;refine C5 ck [(4,(aL v11)),(5,(ar v9.2.1))] [.cells [(.fn 65 [(.ptr 1 0),(.ptr 2 0),(.ptr 3 0)]),(.fn 63 [(.ptr 3 0)])], .cells [(.fn 68 [(.ptr 4 0),(.ptr 5 0)])], .cells [(.d (.sl (aS v2)))], .cells [(.ptr 0 0)], .cells [(.mp 6)], .cells [(.d (.sl (aX v3)))], .map (bU bW v9.2.2), .cells (aP v1).cells] ?_ ?_
    ·apply bc bq<;>intro bH bq
     ·cases bq;exact k00 [(2,bT bH)] []
     cases bq;exact k00 [(2,bF bH)] []
    cases U;exact nh ck []
   refine je ck [[(0,bF bG)]] ?_;obtain⟨v12,cU,aJ,cT,U⟩:=k01 U;refine AD ck [(19,oE (k:=1) (mY cU)),(25,oR [(aP v12),(.ptr 3 0)] [.cells [(.fn 65 [(.ptr 1 0),(.ptr 2 0),(.ptr 3 0)]),(.fn 63 [(.ptr 3 0)])], .cells [(.fn 68 [(.ptr 4 0),(.ptr 5 0)])], .cells [(.d (.sl (aS v2)))], .cells [(.ptr 0 0)], .cells [(.mp 6)], .cells [(.d (.sl (aX v3)))], .map (bU bW v9.2.2), .cells (aP v1).cells] [3,0,1,2,4,5,6] (OW cT))] [(11,(aL aJ.1)),(10,(ar aJ.2.1))] [.cells [(.fn 65 [(.ptr 1 0),(.ptr 2 0),(.ptr 3 0)]),(.fn 63 [(.ptr 3 0)])], .cells [(.fn 68 [(.ptr 4 0),(.ptr 5 0)])], .cells [(.d (.sl (aS v2)))], .cells [(.ptr 0 0)], .cells [(.mp 6)], .cells [(.d (.sl (aX v3)))], .map (bU bW aJ.2.2), .cells (aP v1).cells] ?_;refine je ck [[]] ?_;apply bc U<;>intro cQ U
   ·cases U;exact nh ck [[(0,bT cQ)],[]]
   refine je ck [[(0,bF cQ)],[]] ?_;apply bc U<;>intro cM U
   ·refine je ck [[(0,bT cM)]] ?_;obtain⟨aH,fJ,U⟩:=cp U;refine C5 ck [(4,(aL aH)),(5,(ar (0:Int)))] [.cells [(.fn 65 [(.ptr 1 0),(.ptr 2 0),(.ptr 3 0)]),(.fn 63 [(.ptr 3 0)])], .cells [(.fn 68 [(.ptr 4 0),(.ptr 5 0)])], .cells [(.d (.sl (aS v2)))], .cells [(.ptr 0 0)], .cells [(.mp 6)], .cells [(.d (.sl (aX v3)))], .map (bU bW aJ.2.2), .cells (aP v1).cells] ?_ ?_
    ·apply bc fJ<;>intro eE fJ
     ·cases fJ;exact k00 [(1,bT eE)] []
     cases fJ;exact k00 [(1,bF eE)] []
    cases U;exact nh ck []
   refine je ck [[(0,bF cM)]] ?_;obtain⟨bz,gz,U⟩:=cp U;refine C5 ck [(4,(aL bz)),(5,(ar (0:Int)))] [.cells [(.fn 65 [(.ptr 1 0),(.ptr 2 0),(.ptr 3 0)]),(.fn 63 [(.ptr 3 0)])], .cells [(.fn 68 [(.ptr 4 0),(.ptr 5 0)])], .cells [(.d (.sl (aS v2)))], .cells [(.ptr 0 0)], .cells [(.mp 6)], .cells [(.d (.sl (aX v3)))], .map (bU bW aJ.2.2), .cells (aP v1).cells] ?_ ?_
   ·apply bc gz<;>intro gn gz
    ·cases gz;exact k00 [(1,bT gn)] []
    cases gz;exact k00 [(1,bF gn)] []
   cases U;exact nh ck []
  ·intro v1 v2 v3 v4 r U;rw[ym]at U;refine qU 7 Tryz.func110 rfl (by kernel_rfl) (aoz rfl) ?_;refine l6 (s':=⟨51,[(0,(.ptr 0 0)),(1,(aP v1))],[.cells [(.fn 65 [(.ptr 1 0),(.ptr 2 0),(.ptr 3 0)]),(.fn 63 [(.ptr 3 0)])], .cells [(.fn 68 [(.ptr 4 0),(.ptr 5 0)])], .cells [(.d (.sl (aS v2)))], .cells [(.ptr 0 0)], .cells [(.mp 6)], .cells [(.d (.sl (aX v3)))], .map (bU bW v4)]⟩) (by kernel_rfl) ?_;refine aA ?_;refine rg [] [(3,(.ptr 7 0)),(4,(.ptr 8 0)),(5,(.ptr 9 0))] [.cells [(.fn 65 [(.ptr 1 0),(.ptr 2 0),(.ptr 3 0)]),(.fn 63 [(.ptr 3 0)])], .cells [(.fn 68 [(.ptr 4 0),(.ptr 5 0)])], .cells [(.d (.sl (aS v2)))], .cells [(.ptr 0 0)], .cells [(.mp 6)], .cells [(.d (.sl (aX v3)))], .map (bU bW v4), .cells (aP v1).cells, .cells dp, .cells dp] (by kernel_rfl) ?_;refine aA ?_;obtain⟨v5,J,v6,h2,U⟩:=k01 U;refine ro 2 ck (.node 0 [] (.node 1 [] (.node 2 [] (.node 3 [] (.node 4 [] (.node 5 [] (.node 6 [(19,oE (k:=0) (mY J))] (.node 7 [] (.node 8 [(25,oR [(aP v5),(.ptr 1 0),(.ptr 2 0),(.ptr 3 0)] [.cells [(.fn 65 [(.ptr 1 0),(.ptr 2 0),(.ptr 3 0)]),(.fn 63 [(.ptr 3 0)])], .cells [(.fn 68 [(.ptr 4 0),(.ptr 5 0)])], .cells [(.d (.sl (aS v2)))], .cells [(.ptr 0 0)], .cells [(.mp 6)], .cells [(.d (.sl (aX v3)))], .map (bU bW v4), .cells (aP v1).cells, .cells dp, .cells dp] [1,2,3,4,5,0,6] (tH h2))] (.node 9 [] (.node 10 [] (.node 11 [] (.node 12 [] (.node 13 [] (.node 14 [] .nil .nil) .nil) .nil) .nil) .nil) .nil) (.node 12 [] (.node 8 [(25,oR [(aP v5),(.ptr 1 0),(.ptr 2 0),(.ptr 3 0)] [.cells [(.fn 65 [(.ptr 1 0),(.ptr 2 0),(.ptr 3 0)]),(.fn 63 [(.ptr 3 0)])], .cells [(.fn 68 [(.ptr 4 0),(.ptr 5 0)])], .cells [(.d (.sl (aS v2)))], .cells [(.ptr 0 0)], .cells [(.mp 6)], .cells [(.d (.sl (aX v3)))], .map (bU bW v4), .cells (aP v1).cells, .cells dp, .cells dp, .cells dp] [1,2,3,4,5,0,6] (tH h2))] (.node 9 [] (.node 10 [] (.node 11 [] (.node 13 [] (.node 14 [] .nil .nil) .nil) .nil) .nil) .nil) .nil) .nil)) .nil) .nil) .nil) .nil) .nil) .nil) .nil) .nil) [(7,(.ptr 10 0)),(8,(ar v6.2.1))] [.cells [(.fn 65 [(.ptr 1 0),(.ptr 2 0),(.ptr 3 0)]),(.fn 63 [(.ptr 3 0)])], .cells [(.fn 68 [(.ptr 4 0),(.ptr 5 0)])], .cells [(.d (.sl (aS v2)))], .cells [(.ptr 0 0)], .cells [(.mp 6)], .cells [(.d (.sl (aX v3)))], .map (bU bW v6.2.2), .cells (aP v1).cells, .cells dp, .cells dp, .cells (dC v6.1).cells] (by kernel_rfl) ?_
   refine aA ?_;refine aA ?_;refine rg [] [(23,(aL (v6.2.1 !=0)))] [.cells [(.fn 65 [(.ptr 1 0),(.ptr 2 0),(.ptr 3 0)]),(.fn 63 [(.ptr 3 0)])], .cells [(.fn 68 [(.ptr 4 0),(.ptr 5 0)])], .cells [(.d (.sl (aS v2)))], .cells [(.ptr 0 0)], .cells [(.mp 6)], .cells [(.d (.sl (aX v3)))], .map (bU bW v6.2.2), .cells (aP v1).cells, .cells dp, .cells dp, .cells (dC v6.1).cells] (by kernel_rfl) ?_;rcases ee (v6.2.1 !=0)with h3|h3
   ·replace U:=(dk h3).symm.trans U;refine eK (t:=(v6.2.1 !=0)) (by kernel_rfl) h3 ?_;refine aA ?_;refine rt 2 ck [] [(6,(ar v6.2.1))] [.cells [(.fn 65 [(.ptr 1 0),(.ptr 2 0),(.ptr 3 0)]),(.fn 63 [(.ptr 3 0)])], .cells [(.fn 68 [(.ptr 4 0),(.ptr 5 0)])], .cells [(.d (.sl (aS v2)))], .cells [(.ptr 0 0)], .cells [(.mp 6)], .cells [(.d (.sl (aX v3)))], .map (bU bW v6.2.2), .cells (aP v1).cells, .cells (dC v6.1).cells, .cells (dC v6.1).cells, .cells (dC v6.1).cells] (by kernel_rfl) ?_;refine cY (c9 ?_);have hr:=aoK U;subst hr;exact jt (by kernel_rfl)
   replace U:=(eu h3).symm.trans U;refine eH (t:=(v6.2.1 !=0)) (by kernel_rfl) h3 ?_;refine dy ?_;refine bE ?_;refine aA ?_;obtain⟨v7,h4,v8,h5,U⟩:=k01 U;refine ro 2 ck (.node 0 [] (.node 1 [] (.node 2 [] (.node 3 [] (.node 4 [] (.node 5 [] (.node 6 [(19,oE (k:=1) (mY h4))] (.node 7 [] (.node 8 [(25,oR [(aP v7),(.ptr 1 0),(.ptr 2 0),(.ptr 3 0)] [.cells [(.fn 65 [(.ptr 1 0),(.ptr 2 0),(.ptr 3 0)]),(.fn 63 [(.ptr 3 0)])], .cells [(.fn 68 [(.ptr 4 0),(.ptr 5 0)])], .cells [(.d (.sl (aS v2)))], .cells [(.ptr 0 0)], .cells [(.mp 6)], .cells [(.d (.sl (aX v3)))], .map (bU bW v6.2.2), .cells (aP v1).cells, .cells dp, .cells dp, .cells (dC v6.1).cells] [1,2,3,4,5,0,6] (tH h5))] (.node 9 [] (.node 10 [] (.node 11 [] (.node 12 [] (.node 13 [] (.node 14 [] .nil .nil) .nil) .nil) .nil) .nil) .nil) (.node 12 [] (.node 8 [(25,oR [(aP v7),(.ptr 1 0),(.ptr 2 0),(.ptr 3 0)] [.cells [(.fn 65 [(.ptr 1 0),(.ptr 2 0),(.ptr 3 0)]),(.fn 63 [(.ptr 3 0)])], .cells [(.fn 68 [(.ptr 4 0),(.ptr 5 0)])], .cells [(.d (.sl (aS v2)))], .cells [(.ptr 0 0)], .cells [(.mp 6)], .cells [(.d (.sl (aX v3)))], .map (bU bW v6.2.2), .cells (aP v1).cells, .cells dp, .cells dp, .cells (dC v6.1).cells, .cells dp] [1,2,3,4,5,0,6] (tH h5))] (.node 9 [] (.node 10 [] (.node 11 [] (.node 13 [] (.node 14 [] .nil .nil) .nil) .nil) .nil) .nil) .nil) .nil)) .nil) .nil) .nil) .nil) .nil) .nil) .nil) .nil) [(9,(.ptr 11 0)),(8,(ar v8.2.1))] [.cells [(.fn 65 [(.ptr 1 0),(.ptr 2 0),(.ptr 3 0)]),(.fn 63 [(.ptr 3 0)])], .cells [(.fn 68 [(.ptr 4 0),(.ptr 5 0)])], .cells [(.d (.sl (aS v2)))], .cells [(.ptr 0 0)], .cells [(.mp 6)], .cells [(.d (.sl (aX v3)))], .map (bU bW v8.2.2), .cells (aP v1).cells, .cells dp, .cells dp, .cells (dC v6.1).cells, .cells (dC v8.1).cells] (by kernel_rfl) ?_
   refine aA ?_;refine aA ?_;obtain⟨v9,h7,U⟩:=cp U;refine Ai [(47,(aL v9))] [.cells [(.fn 65 [(.ptr 1 0),(.ptr 2 0),(.ptr 3 0)]),(.fn 63 [(.ptr 3 0)])], .cells [(.fn 68 [(.ptr 4 0),(.ptr 5 0)])], .cells [(.d (.sl (aS v2)))], .cells [(.ptr 0 0)], .cells [(.mp 6)], .cells [(.d (.sl (aX v3)))], .map (bU bW v8.2.2), .cells (aP v1).cells, .cells dp, .cells dp, .cells (dC v6.1).cells, .cells (dC v8.1).cells] ?_ ?_
   ·rcases ee (v8.2.1==0)with h6|h6
    ·replace h7:=(dk h6).symm.trans h7;have he:=aoK h7;subst he;exact⟨[(9,bT h6),(12,bT h6),(15,bT h6),(18,bT h6),(21,bT h6),(25,bT h6)],by kernel_rfl⟩
    replace h7:=(eu h6).symm.trans h7;have he:=aoK h7;subst he;exact⟨[(9,bF h6),(12,bF h6),(15,bF h6),(18,bF h6),(21,bF h6),(25,bF h6)],by kernel_rfl⟩
   refine Dd [4,5,7,8,9] 12 (λ(v10:Int)=>⟨51,[(4,(.ptr 8 0)),(5,(.ptr 9 0)),(7,(.ptr 10 0)),(8,(ar v10)),(9,(.ptr 11 0))],[.cells [(.fn 65 [(.ptr 1 0),(.ptr 2 0),(.ptr 3 0)]),(.fn 63 [(.ptr 3 0)])], .cells [(.fn 68 [(.ptr 4 0),(.ptr 5 0)])], .cells [(.d (.sl (aS v2)))], .cells [(.ptr 0 0)], .cells [(.mp 6)], .cells [(.d (.sl (aX v3)))], .map (bU bW v8.2.2), .cells (aP v1).cells, .cells dp, .cells dp, .cells (dC v6.1).cells, .cells (dC v8.1).cells]⟩) (λ(v10:Int)=>FB N v6 v8 v10=some r) (aoz rfl) ?_ ?_
   ·rcases ee v9 with h8|h8
    ·replace U:=(dk h8).symm.trans U;refine eK (t:=v9) (by kernel_rfl) h8 ?_;refine re [] [(8,(ar (10:Int)))] [.cells [(.fn 65 [(.ptr 1 0),(.ptr 2 0),(.ptr 3 0)]),(.fn 63 [(.ptr 3 0)])], .cells [(.fn 68 [(.ptr 4 0),(.ptr 5 0)])], .cells [(.d (.sl (aS v2)))], .cells [(.ptr 0 0)], .cells [(.mp 6)], .cells [(.d (.sl (aX v3)))], .map (bU bW v8.2.2), .cells (aP v1).cells, .cells dp, .cells dp, .cells (dC v6.1).cells, .cells (dC v8.1).cells] (by kernel_rfl) ?_;refine bE ?_;exact⟨(10:Int),by kernel_rfl,U⟩
    replace U:=(eu h8).symm.trans U;refine eH (t:=v9) (by kernel_rfl) h8 ?_;refine dy ?_;refine bE ?_;exact⟨v8.2.1,by kernel_rfl,U⟩
   rintro v10 U
   try dsimp only at U
   rw[FB]at U;refine aA ?_;refine rt 2 ck [] [(6,(ar v10))] [.cells [(.fn 65 [(.ptr 1 0),(.ptr 2 0),(.ptr 3 0)]),(.fn 63 [(.ptr 3 0)])], .cells [(.fn 68 [(.ptr 4 0),(.ptr 5 0)])], .cells [(.d (.sl (aS v2)))], .cells [(.ptr 0 0)], .cells [(.mp 6)], .cells [(.d (.sl (aX v3)))], .map (bU bW v8.2.2), .cells (aP v1).cells, .cells (dC v6.1).cells, .cells (dC v8.1).cells, .cells (dC v6.1).cells, .cells (dC v8.1).cells] (by kernel_rfl) ?_;refine cY ?_;have hr:=aoK U;subst hr;exact jt (by kernel_rfl)
  intro v1 v2 v3 v4 r U;rw[pM]at U;refine qU 7 Tryz.func67 rfl (by kernel_rfl) (aoz rfl) ?_;refine l6 (s':=⟨100,[(0,(.ptr 0 0)),(1,(aP v1))],[.cells [(.fn 65 [(.ptr 1 0),(.ptr 2 0),(.ptr 3 0)]),(.fn 63 [(.ptr 3 0)])], .cells [(.fn 68 [(.ptr 4 0),(.ptr 5 0)])], .cells [(.d (.sl (aS v2)))], .cells [(.ptr 0 0)], .cells [(.mp 6)], .cells [(.d (.sl (aX v3)))], .map (bU bW v4)]⟩) (by kernel_rfl) ?_;refine aA ?_;refine rg [] [(3,(.ptr 7 0)),(4,(.ptr 8 0))] [.cells [(.fn 65 [(.ptr 1 0),(.ptr 2 0),(.ptr 3 0)]),(.fn 63 [(.ptr 3 0)])], .cells [(.fn 68 [(.ptr 4 0),(.ptr 5 0)])], .cells [(.d (.sl (aS v2)))], .cells [(.ptr 0 0)], .cells [(.mp 6)], .cells [(.d (.sl (aX v3)))], .map (bU bW v4), .cells (aP v1).cells, .cells dp] (by kernel_rfl) ?_;refine aA ?_;refine aA ?_;obtain⟨v5,h2,U⟩:=cp U;refine Ai [(22,(aL v5))] [.cells [(.fn 65 [(.ptr 1 0),(.ptr 2 0),(.ptr 3 0)]),(.fn 63 [(.ptr 3 0)])], .cells [(.fn 68 [(.ptr 4 0),(.ptr 5 0)])], .cells [(.d (.sl (aS v2)))], .cells [(.ptr 0 0)], .cells [(.mp 6)], .cells [(.d (.sl (aX v3)))], .map (bU bW v4), .cells (aP v1).cells, .cells dp] ?_ ?_
  ·rcases ee (v1.az==8)with J|J
   ·replace h2:=(dk J).symm.trans h2;have he:=aoK h2;subst he;exact⟨[(12,bT J),(15,bT J),(18,bT J),(22,bT J)],by kernel_rfl⟩
   replace h2:=(eu J).symm.trans h2;have he:=aoK h2;subst he;exact⟨[(12,bF J),(15,bF J),(18,bF J),(22,bF J)],by kernel_rfl⟩
  rcases ee v5 with h3|h3
  ·replace U:=(dk h3).symm.trans U;refine eK (t:=v5) (by kernel_rfl) h3 ?_;refine aA ?_;obtain⟨v6,h4,v7,h5,U⟩:=k01 U;refine ro 2 ck (.node 0 [] (.node 1 [] (.node 2 [] (.node 3 [] (.node 4 [] (.node 5 [] (.node 6 [(19,oE (k:=0) (mY h4))] (.node 7 [] (.node 8 [(25,oR [(aP v6),(.ptr 1 0),(.ptr 2 0),(.ptr 3 0)] [.cells [(.fn 65 [(.ptr 1 0),(.ptr 2 0),(.ptr 3 0)]),(.fn 63 [(.ptr 3 0)])], .cells [(.fn 68 [(.ptr 4 0),(.ptr 5 0)])], .cells [(.d (.sl (aS v2)))], .cells [(.ptr 0 0)], .cells [(.mp 6)], .cells [(.d (.sl (aX v3)))], .map (bU bW v4), .cells (aP v1).cells, .cells dp] [1,2,3,4,5,0,6] (tH h5))] (.node 9 [] (.node 10 [] (.node 11 [] (.node 12 [] (.node 13 [] (.node 14 [] .nil .nil) .nil) .nil) .nil) .nil) .nil) (.node 12 [] (.node 8 [(25,oR [(aP v6),(.ptr 1 0),(.ptr 2 0),(.ptr 3 0)] [.cells [(.fn 65 [(.ptr 1 0),(.ptr 2 0),(.ptr 3 0)]),(.fn 63 [(.ptr 3 0)])], .cells [(.fn 68 [(.ptr 4 0),(.ptr 5 0)])], .cells [(.d (.sl (aS v2)))], .cells [(.ptr 0 0)], .cells [(.mp 6)], .cells [(.d (.sl (aX v3)))], .map (bU bW v4), .cells (aP v1).cells, .cells dp, .cells dp] [1,2,3,4,5,0,6] (tH h5))] (.node 9 [] (.node 10 [] (.node 11 [] (.node 13 [] (.node 14 [] .nil .nil) .nil) .nil) .nil) .nil) .nil) .nil)) .nil) .nil) .nil) .nil) .nil) .nil) .nil) .nil) [(6,(.ptr 9 0)),(7,(ar v7.2.1))] [.cells [(.fn 65 [(.ptr 1 0),(.ptr 2 0),(.ptr 3 0)]),(.fn 63 [(.ptr 3 0)])], .cells [(.fn 68 [(.ptr 4 0),(.ptr 5 0)])], .cells [(.d (.sl (aS v2)))], .cells [(.ptr 0 0)], .cells [(.mp 6)], .cells [(.d (.sl (aX v3)))], .map (bU bW v7.2.2), .cells (aP v1).cells, .cells dp, .cells (dC v7.1).cells] (by kernel_rfl) ?_
   refine aA ?_;refine aA ?_;refine rg [] [(36,(aL (v7.2.1 !=0)))] [.cells [(.fn 65 [(.ptr 1 0),(.ptr 2 0),(.ptr 3 0)]),(.fn 63 [(.ptr 3 0)])], .cells [(.fn 68 [(.ptr 4 0),(.ptr 5 0)])], .cells [(.d (.sl (aS v2)))], .cells [(.ptr 0 0)], .cells [(.mp 6)], .cells [(.d (.sl (aX v3)))], .map (bU bW v7.2.2), .cells (aP v1).cells, .cells dp, .cells (dC v7.1).cells] (by kernel_rfl) ?_;rcases ee (v7.2.1 !=0)with h6|h6
   ·replace U:=(dk h6).symm.trans U;refine eK (t:=(v7.2.1 !=0)) (by kernel_rfl) h6 ?_;refine aA ?_;refine rg [] [(5,(ar v7.2.1))] [.cells [(.fn 65 [(.ptr 1 0),(.ptr 2 0),(.ptr 3 0)]),(.fn 63 [(.ptr 3 0)])], .cells [(.fn 68 [(.ptr 4 0),(.ptr 5 0)])], .cells [(.d (.sl (aS v2)))], .cells [(.ptr 0 0)], .cells [(.mp 6)], .cells [(.d (.sl (aX v3)))], .map (bU bW v7.2.2), .cells (aP v1).cells, .cells (dC v7.1).cells, .cells (dC v7.1).cells] (by kernel_rfl) ?_;refine cY (c9 (c9 ?_));have hr:=aoK U;subst hr;exact jt (by kernel_rfl)
   replace U:=(eu h6).symm.trans U;refine eH (t:=(v7.2.1 !=0)) (by kernel_rfl) h6 ?_;refine dy ?_;refine bE ?_;refine aA ?_;refine aA ?_;refine rg [] [(41,(aL (v1.az==12)))] [.cells [(.fn 65 [(.ptr 1 0),(.ptr 2 0),(.ptr 3 0)]),(.fn 63 [(.ptr 3 0)])], .cells [(.fn 68 [(.ptr 4 0),(.ptr 5 0)])], .cells [(.d (.sl (aS v2)))], .cells [(.ptr 0 0)], .cells [(.mp 6)], .cells [(.d (.sl (aX v3)))], .map (bU bW v7.2.2), .cells (aP v1).cells, .cells dp, .cells (dC v7.1).cells] (by kernel_rfl) ?_;rcases ee (v1.az==12)with h7|h7
   ·replace U:=(dk h7).symm.trans U;refine eK (t:=(v1.az==12)) (by kernel_rfl) h7 ?_;refine aA ?_;obtain⟨v8,h8,U⟩:=cp U;refine rg [(19,cK ald h8)] [(8,(.ptr 10 0)),(9,(ar v8.2))] [.cells [(.fn 65 [(.ptr 1 0),(.ptr 2 0),(.ptr 3 0)]),(.fn 63 [(.ptr 3 0)])], .cells [(.fn 68 [(.ptr 4 0),(.ptr 5 0)])], .cells [(.d (.sl (aS v2)))], .cells [(.ptr 0 0)], .cells [(.mp 6)], .cells [(.d (.sl (aX v3)))], .map (bU bW v7.2.2), .cells (aP v1).cells, .cells dp, .cells (dC v7.1).cells, .cells (bu v8.1).cells] (by kernel_rfl) ?_;refine aA ?_;refine rg [] [(5,(ar v8.2))] [.cells [(.fn 65 [(.ptr 1 0),(.ptr 2 0),(.ptr 3 0)]),(.fn 63 [(.ptr 3 0)])], .cells [(.fn 68 [(.ptr 4 0),(.ptr 5 0)])], .cells [(.d (.sl (aS v2)))], .cells [(.ptr 0 0)], .cells [(.mp 6)], .cells [(.d (.sl (aX v3)))], .map (bU bW v7.2.2), .cells (aP v1).cells, .cells [(bC v8.1.xN),(bC v8.1.xD),(ar v1.aB.bk),(ar v1.aB.cf),(ar v1.aB.bQ),(ar v1.aB.cq),(ar v1.aB.ct)], .cells (dC v7.1).cells, .cells (bu v8.1).cells] (by kernel_rfl) ?_;refine cY (c9 (c9 ?_));have hr:=aoK U;subst hr;exact jt (by kernel_rfl)
   replace U:=(eu h7).symm.trans U;refine eH (t:=(v1.az==12)) (by kernel_rfl) h7 ?_;refine dy ?_;refine bE ?_;refine aA ?_;obtain⟨v9,h9,U⟩:=cp U;refine rg [(19,cK NA h9)] [(10,(.ptr 10 0)),(7,(ar v9.2))] [.cells [(.fn 65 [(.ptr 1 0),(.ptr 2 0),(.ptr 3 0)]),(.fn 63 [(.ptr 3 0)])], .cells [(.fn 68 [(.ptr 4 0),(.ptr 5 0)])], .cells [(.d (.sl (aS v2)))], .cells [(.ptr 0 0)], .cells [(.mp 6)], .cells [(.d (.sl (aX v3)))], .map (bU bW v7.2.2), .cells (aP v1).cells, .cells dp, .cells (dC v7.1).cells, .cells (bu v9.1).cells] (by kernel_rfl) ?_;refine aA ?_;refine rg [] [(5,(ar v9.2))] [.cells [(.fn 65 [(.ptr 1 0),(.ptr 2 0),(.ptr 3 0)]),(.fn 63 [(.ptr 3 0)])], .cells [(.fn 68 [(.ptr 4 0),(.ptr 5 0)])], .cells [(.d (.sl (aS v2)))], .cells [(.ptr 0 0)], .cells [(.mp 6)], .cells [(.d (.sl (aX v3)))], .map (bU bW v7.2.2), .cells (aP v1).cells, .cells ((bC v9.1.xN)::(bC v9.1.xD)::Wy v7.1 []), .cells (dC v7.1).cells, .cells (bu v9.1).cells] (by kernel_rfl) ?_;refine cY (c9 ?_);have hr:=aoK U;subst hr;exact jt (by kernel_rfl)
  replace U:=(eu h3).symm.trans U;refine eH (t:=v5) (by kernel_rfl) h3 ?_;refine dy ?_;refine bE ?_;refine aA ?_;obtain⟨v10,bG,U⟩:=cp U;refine rg [(7,oR [(.ptr 0 0),(aP v1)] [.cells [(.fn 65 [(.ptr 1 0),(.ptr 2 0),(.ptr 3 0)]),(.fn 63 [(.ptr 3 0)])], .cells [(.fn 68 [(.ptr 4 0),(.ptr 5 0)])], .cells [(.d (.sl (aS v2)))], .cells [(.ptr 0 0)], .cells [(.mp 6)], .cells [(.d (.sl (aX v3)))], .map (bU bW v4), .cells (aP v1).cells, .cells dp] [0,1,2,3,4,5,6] (ZX bG))] [(11,(.ptr 9 0)),(12,(.ptr 10 0)),(13,(ar v10.2.2.1))] [.cells [(.fn 65 [(.ptr 1 0),(.ptr 2 0),(.ptr 3 0)]),(.fn 63 [(.ptr 3 0)])], .cells [(.fn 68 [(.ptr 4 0),(.ptr 5 0)])], .cells [(.d (.sl (aS v2)))], .cells [(.ptr 0 0)], .cells [(.mp 6)], .cells [(.d (.sl (aX v3)))], .map (bU bW v10.2.2.2), .cells (aP v1).cells, .cells dp, .cells (dC v10.1).cells, .cells (dC v10.2.1).cells] (by kernel_rfl) ?_;refine aA ?_;refine aA ?_;refine rg [] [(80,(aL (v10.2.2.1 !=0)))] [.cells [(.fn 65 [(.ptr 1 0),(.ptr 2 0),(.ptr 3 0)]),(.fn 63 [(.ptr 3 0)])], .cells [(.fn 68 [(.ptr 4 0),(.ptr 5 0)])], .cells [(.d (.sl (aS v2)))], .cells [(.ptr 0 0)], .cells [(.mp 6)], .cells [(.d (.sl (aX v3)))], .map (bU bW v10.2.2.2), .cells (aP v1).cells, .cells dp, .cells (dC v10.1).cells, .cells (dC v10.2.1).cells] (by kernel_rfl) ?_;rcases ee (v10.2.2.1 !=0)with bH|bH
  ·replace U:=(dk bH).symm.trans U;refine eK (t:=(v10.2.2.1 !=0)) (by kernel_rfl) bH ?_;refine aA ?_;refine rg [] [(5,(ar v10.2.2.1))] [.cells [(.fn 65 [(.ptr 1 0),(.ptr 2 0),(.ptr 3 0)]),(.fn 63 [(.ptr 3 0)])], .cells [(.fn 68 [(.ptr 4 0),(.ptr 5 0)])], .cells [(.d (.sl (aS v2)))], .cells [(.ptr 0 0)], .cells [(.mp 6)], .cells [(.d (.sl (aX v3)))], .map (bU bW v10.2.2.2), .cells (aP v1).cells, .cells dp, .cells (dC v10.1).cells, .cells (dC v10.2.1).cells] (by kernel_rfl) ?_;refine cY (c9 ?_);have hr:=aoK U;subst hr;exact jt (by kernel_rfl)
  replace U:=(eu bH).symm.trans U;refine eH (t:=(v10.2.2.1 !=0)) (by kernel_rfl) bH ?_;refine dy ?_;refine bE ?_;refine aA ?_;obtain⟨v11,bq,U⟩:=cp U;refine rg [(25,cK NA bq)] [(14,(.ptr 11 0)),(13,(ar v11.2))] [.cells [(.fn 65 [(.ptr 1 0),(.ptr 2 0),(.ptr 3 0)]),(.fn 63 [(.ptr 3 0)])], .cells [(.fn 68 [(.ptr 4 0),(.ptr 5 0)])], .cells [(.d (.sl (aS v2)))], .cells [(.ptr 0 0)], .cells [(.mp 6)], .cells [(.d (.sl (aX v3)))], .map (bU bW v10.2.2.2), .cells (aP v1).cells, .cells dp, .cells (dC v10.1).cells, .cells (dC v10.2.1).cells, .cells (bu v11.1).cells] (by kernel_rfl) ?_;refine aA ?_;refine rg [] [(5,(ar v11.2))] [.cells [(.fn 65 [(.ptr 1 0),(.ptr 2 0),(.ptr 3 0)]),(.fn 63 [(.ptr 3 0)])], .cells [(.fn 68 [(.ptr 4 0),(.ptr 5 0)])], .cells [(.d (.sl (aS v2)))], .cells [(.ptr 0 0)], .cells [(.mp 6)], .cells [(.d (.sl (aX v3)))], .map (bU bW v10.2.2.2), .cells (aP v1).cells, .cells ((bC v11.1.xN)::(bC v11.1.xD)::Wy v10.1 []), .cells (dC v10.1).cells, .cells (dC v10.2.1).cells, .cells (bu v11.1).cells] (by kernel_rfl) ?_;refine cY ?_;have hr:=aoK U;subst hr;exact jt (by kernel_rfl)
theorem gZ(N:Nat)(v1:aw)(v2:apf aI)(v3:apf aG)(v4:apf (apg×aT))(r:eX×Int×(apf (apg×aT)))(U:BM N v1 v2 v3 v4=some r):KH 65 [(aP v1),(.ptr 0 0),(.ptr 1 0),(.ptr 2 0)] ([.cells [(.fn 68 [(.ptr 3 0),(.ptr 4 0)])], .cells [(.d (.sl (aS v2)))], .cells [(.ptr 5 0)], .cells [(.mp 6)], .cells [(.d (.sl (aX v3)))], .cells [(.fn 65 [(.ptr 0 0),(.ptr 1 0),(.ptr 2 0)]),(.fn 63 [(.ptr 2 0)])], .map (bU bW v4)]) (.bg [(dC r.1),(ar r.2.1)]) ([.cells [(.fn 68 [(.ptr 3 0),(.ptr 4 0)])], .cells [(.d (.sl (aS v2)))], .cells [(.ptr 5 0)], .cells [(.mp 6)], .cells [(.d (.sl (aX v3)))], .cells [(.fn 65 [(.ptr 0 0),(.ptr 1 0),(.ptr 2 0)]),(.fn 63 [(.ptr 2 0)])], .map (bU bW r.2.2)]):=(aer N N).1 U
def JV(N:Nat)(v1:Int)(v2:Bool):aph (Int×Bool):=
 bif v2 then
  some ((4:Int),true)
 else
  bif (v1==2)then
   some ((6:Int),true)
  else
   bif (v1==3)then
    some ((9:Int),true)
   else
    bif (v1==4)then
     some ((10:Int),true)
    else
     some ((0:Int),false)
def HA(N:Nat)(v1:Int):aph (Int×Bool):=
 bif (v1==1)then
  JV N v1 (v1==1)
 else
  JV N v1 (v1==5)
theorem ajY{N v1}:KO 124 [(ar v1)] (λr=> .bg [(ar r.1),(aL r.2)]) (HA N v1):=
 fw Tryz.func124 (mP 1 [[],[],[]] [4,5] 0 (λ(v2:Bool)=>⟨14,[(4,(ar v1)),(5,(aL v2))],[]⟩) (JV N v1) (λf1 aW=>aC (λh5=>gm aW (v1==1) [[t0 h5]]) λh5=>gm aW (v1==5) [[f0 h5],[]]) (λv2=>jJ λ_=>jJ λ_=>jJ λ_=>bP λh4=>gR [[f0 h4],[]]))
def Vk(N:Nat)(v1:aM):aph aD:=
 (l9 N v1).bind λv2=>
 bif (v2 !=0)then
  some cH
 else
  some (⟨(0:Int64),(1:Int64)⟩:aD)
theorem akF{N v1}:KO 183 [(cx v1)] bu (Vk N v1):=
 fw Tryz.func183 (ax λv2 J=>gA [[],[(4,cK o9 J)]] (bP λh2=>gR [[f0 h2],[]]))
def To(N:Nat)(v1:aM):aph (aD×Int):=
 (l9 N v1).bind λv2=>
 bif (v2 !=0)then
  some (cH,(10:Int))
 else
  bif (v1.bk !=2)then
   some ((⟨(1:Int64),(1:Int64)⟩:aD),(0:Int))
  else
   bif (decide ((0:Int)<=v1.bQ))then
   Option.bind (ta N v1 (⟨(Int64.ofInt ((1:Int)*2^(min (v1.bQ).toNat (IntKind.bits .i64)))),(1:Int64)⟩:aD)) λv3=>
   bif v3 then
    some ((⟨(Int64.ofInt ((1:Int)*2^(min (v1.bQ).toNat (IntKind.bits .i64)))),(1:Int64)⟩:aD),(0:Int))
   else
    some (cH,(3:Int))
   else none
theorem ae8{N v1}:KO 184 [(cx v1)] (λr=> .bg [(bu r.1),(ar r.2)]) (To N v1):=
 fw Tryz.func184 (ax λv2 J=>gA [[],[(4,cK o9 J)]] (jJ λ_=>bP λh3=>dD λh4=>ax λv3 h5=>gA [[f0 h3],[(7,⟨_,_, .nn (b:=v1.bQ) (of_decide_eq_true h4)⟩),(8,⟨_,_, .eq (ky ((1:Int)*2^(min (v1.bQ).toNat (IntKind.bits .i64))))⟩)],[(7,cK O5 h5)]] (rp λh6=>gR [[t0 (eo h6)],[]])))
def Qf(N:Nat)(v2:aM)(v1:Int)(v4:Bool):aph (aD×Bool):=
 bif v4 then
  (Vk N v2).bind λv5=>
  some (v5,true)
 else
  bif (v1==2)then
   (To N v2).bind λv6=>
   some (v6.1,(v6.2==0))
  else
   some (cH,false)
def XO(N:Nat)(v1:Int)(v2:aM):aph (aD×Bool):=
 (l9 N v2).bind λv3=>
 bif (v3 !=0)then
  some (cH,false)
 else
  bif (v1==1)then
   Qf N v2 v1 (v1==1)
  else
   Qf N v2 v1 (v1==5)
theorem agJ{N v1 v2}:KO 125 [(ar v1),(cx v2)] (λr=> .bg [(bu r.1),(aL r.2)]) (XO N v1 v2):=
 fw Tryz.func125 (ax λv3 J=>gA [[],[(4,cK o9 J)]] (bP λh2=>mP 1 [[f0 h2],[],[]] [3,4,12,13] 2 (λ(v4:Bool)=>⟨29,[(3,(.ptr 0 0)),(4,(.ptr 1 0)),(12,(ar v1)),(13,(aL v4))],[.cells (cx v2).cells, .cells iT]⟩) (Qf N v2 v1) (λf1 aW=>aC (λh7=>gm aW (v1==1) [[t0 h7]]) λh7=>gm aW (v1==5) [[f0 h7],[]]) (λv4=>aC (λh3=>ax λv5 h4=>gR [[t0 h3],[(4,cK akF h4)]]) λh3=>gA [[f0 h3],[]] (qw λh5=>ax λv6 h6=>gR [[t0 h5],[(4,cK ae8 h6)],[]]))))
def SZ(N:Nat)(v4:Int×Bool)(v2:aM):apf aD->Nat->Int64->Int64->aph (aD×Int)
 |[],_,bB,cA=>
  some ((⟨bB,cA⟩:aD),(0:Int))
 |aH::bz,v12,bB,cA=>
  Option.bind (vO N v4.1 v2 (⟨bB,cA⟩:aD) aH) λbR=>
  bif (bR.2 !=0)then
   some (cH,bR.2)
  else
   (λgP sS=>SZ N v4 v2 bz (v12+1) gP sS) bR.1.xN bR.1.xD
def Wu(N:Nat)(v3:apf aD)(v1:Int)(v2:aM)(v4:Int×Bool):apf aD->Nat->aph (aD×Int)
 |[],_=>
  bif ((v3.length:Int)==0)then
   (XO N v1 v2).bind λv10=>
   bif v10.2 then
    some (v10.1,(0:Int))
   else
    some (cH,(1:Int))
  else
   Option.bind (v3[0]?) λv11=>
   bif (decide (1<=v3.length))then
   SZ N v4 v2 (v3.drop 1) 0 v11.xN v11.xD
   else none
 |v8::v9,v6=>
  (mD N v2 v8).bind λcl=>
  bif cl then
   (Wu N v3 v1 v2 v4 v9 (v6+1))
  else
   some (cH,(1:Int))
def B6(N:Nat)(v1:Int)(v2:aM)(v3:apf aD):aph (aD×Int):=
 (HA N v1).bind λv4=>
 bif v4.2 then
  (l9 N v2).bind λv5=>
  bif (v5 !=0)then
   some (cH,(10:Int))
  else
   Wu N v3 v1 v2 v4 v3 0
 else
  some (cH,(1:Int))
theorem aa4{N v1 v2 v3}:KO 76 [(ar v1),(cx v2),(.d (.sl (dK v3)))] (λr=> .bg [(bu r.1),(ar r.2)]) (B6 N v1 v2 v3):=
 fw Tryz.func76 (ax λv4 J=>gA [[],[(4,cK ajY J)],[]] (lS λh2=>ax λv5 h3=>gA [[f0 (dH h2)],[(4,cK o9 h3)]] (bP λh4=>gA [[f0 h4],[(4,oL v3 lH)]] (gT zl 2 v3 λh6=>ff 1 [] [0,2,4,6,8,33,34,35] 2 (λv6=>⟨83,[(0,(ar v1)),(2,(.d (.sl (dK v3)))),(4,(.ptr 0 0)),(6,(.ptr 1 0)),(8,(ar v4.1)),(33,(.d (.sl (dK v3)))),(34,(ar (v3.length:Int))),(35,(ar (v6:Int)))],[.cells (cx v2).cells, .cells iT]⟩) (λv6 h7 f1=>gA [[],[f0 (cy h7)],[(4,oL v3 lH)]] (aC (λh8=>ax λv10 h9=>gA [[t0 h8],[(7,cK agJ h9)],[]] (rp λbG=>gR [[t0 (eo bG)],[]])) λh8=>ax λv11 bH=>dD λbq=>gA [[f0 h8],[(4,oE (k:=0) (qz bH))],[(4,⟨_,_, .QL (xs:=dK v3) (lo:=1) (by decide) (by rw[lH];exact(of_decide_eq_true bq)) O4 aec⟩),(7,oL ((v3.drop 1)) lH)]] (gT zl 62 (v3.drop 1) λcT=>M7 2 [] [4,6,8,14,62,63,64] 3 (λv12(bB:Int64)(cA:Int64)=>⟨83,[(4,(.ptr 0 0)),(6,(.ptr 1 0)),(8,(ar v4.1)),(14,(.ptr 2 0)),(62,(.d (.sl (dK (v3.drop 1))))),(63,(ar ((v3.drop 1).length:Int))),(64,(ar (v12:Int)))],[.cells (cx v2).cells, .cells iT, .cells [(bC bB),(bC cA)]]⟩) (λv12 bB cA cQ f2=>gR [[],[f0 (cy cQ)],[]]) (λv12 aH bz bB cA cQ f2 fe=>ax λbR cM=>gA [[],[t0 (cz cQ)],[(1,⟨_,_, .el (xs:=dK (v3.drop 1)) (i:=(v12:Int)) (Int.natCast_nonneg _) (qz (bI cQ))⟩)],[(13,cK NA cM)],[]] (bP λeE=>gb fe (bR.1.xN,bR.1.xD) [[f0 eE],[],[(2,oq (cF cQ rfl cT))]] cQ))))) (λv6 v8 v9 h7 f1 aW=>ax λcl fJ=>gA [[],[t0 (cz h7)],[(1,oE (qz (bI h7)))],[(7,cK uM fJ)]] (lS λgn=>gb aW () [[f0 (dH gn)],[(2,oq (cF h7 rfl h6))]] h7))))))
def tL(N:Nat)(v1:bD)(v3:apf aI)(v4:apf aG):apf (apf Int)->Int64->Int64->Bool->(apf (apg×aT))->aph (aD×Int×(apf (apg×aT)))
 |[],v11,v12,_,aH=>
  some ((⟨v11,v12⟩:aD),(0:Int),aH)
 |bz::bB,v11,v12,aJ,aH=>
  (IC N v1.bY bz v3).bind λcA=>
  (wm N cA v4 aH).bind λbR=>
  (BM N v1.bV bR v4 aH).bind λcl=>
  bif (cl.2.1 !=0)then
   some (cH,cl.2.1,cl.2.2)
  else
   bif aJ then
    (λcg fi vG Sr=>tL N v1 v3 v4 bB cg fi vG Sr) cl.1.yVal.xN cl.1.yVal.xD false cl.2.2
   else
    Option.bind (B6 N v1.dm v1.aB ([(⟨v11,v12⟩:aD),cl.1.yVal])) λv20=>
    bif (v20.2 !=0)then
     some (cH,v20.2,cl.2.2)
    else
     (λcg fi vG Sr=>tL N v1 v3 v4 bB cg fi vG Sr) v20.1.xN v20.1.xD aJ cl.2.2
def Bw(N:Nat)(v1:bD)(v2:apf Int)(v3:apf aI)(v4:apf aG)(v5:apf (apg×aT)):aph (aD×Int×(apf (apg×aT))):=
 Option.bind (bif (v1.dm==0)then some true else some (v1.dm==5)) λv6=>
 bif v6 then
  (wm N v3 v4 v5).bind λv7=>
  (BM N v1.bV v7 v4 v5).bind λv8=>
  some (v8.1.yVal,v8.2.1,v8.2.2)
 else
  (BH N v2).bind λv9=>
  (EB N v9).bind λv10=>
  tL N v1 v3 v4 v10 (0:Int64) (0:Int64) true v5
def og(v4:apf aG)(v5:apf (apg×aT))(v1:bD)(v3:apf aI)(l:apf aq):apf aq:= .cells [(.mp 2)]:: .cells [(.d (.sl (aX v4)))]:: .map (bU bW v5):: .cells [(.fn 68 [(.ptr 0 0),(.ptr 1 0)])]:: .cells (fF v1).cells:: .cells [(.d (.sl (aS v3)))]:: .cells iT:: .cells [(ar (0:Int))]::l
def ER(v4:apf aG)(aH:apf (apg×aT))(v1:bD)(v3:apf aI)(v11:Int64)(v12:Int64)(aJ:Bool)(cw:Code)(cu:Code)(v9:(apf Int))(l:apf aq):apf aq:=og v4 aH v1 v3 (.cells [(bC v11),(bC v12)]:: .cells [(aL aJ)]:: .lp .busy 42 cw cu (dc 83 [(4,(.ptr 3 0)),(5,(.ptr 4 0)),(7,(.ptr 5 0)),(8,(.ptr 6 0)),(9,(.ptr 7 0)),(12,(.ptr 8 0)),(13,(.ptr 9 0)),(41,(.fn 121 [(.bj [[(.sl (bw v9))]] 0 0)]))])::l)
def qY(v4:apf aG)(v8:eX×Int×(apf (apg×aT)))(v1:bD)(v3:apf aI)(l:apf aq):apf aq:= .cells [(.mp 2)]:: .cells [(.d (.sl (aX v4)))]:: .map (bU bW v8.2.2):: .cells [(.fn 68 [(.ptr 0 0),(.ptr 1 0)])]:: .cells (fF v1).cells:: .cells [(.d (.sl (aS v3)))]:: .cells iT::l
def SA(v4:apf aG)(cl:eX×Int×(apf (apg×aT)))(v1:bD)(v3:apf aI)(v11:Int64)(v12:Int64)(aJ:Bool)(cw:Code)(cu:Code)(v9:(apf Int))(bR:(apf aI))(l:apf aq):apf aq:=qY v4 cl v1 v3 (.cells [(ar (0:Int))]:: .cells [(bC v11),(bC v12)]:: .cells [(aL aJ)]:: .lp .busy 42 cw cu (dc 83 [(4,(.ptr 3 0)),(5,(.ptr 4 0)),(7,(.ptr 5 0)),(8,(.ptr 6 0)),(9,(.ptr 7 0)),(12,(.ptr 8 0)),(13,(.ptr 9 0)),(41,(.fn 121 [(.bj [[(.sl (bw v9))]] 0 0)]))]):: .cells [(.fn 68 [(.ptr 0 0),(.ptr 1 0)])]:: .cells [(.d (.sl (aS bR)))]:: .cells [(.fn 65 [(.ptr 11 0),(.ptr 12 0),(.ptr 14 0)]),(.fn 63 [(.ptr 14 0)])]:: .cells [(.ptr 13 0)]:: .cells (dC cl.1).cells::l)
def HF(v4:apf aG)(v5:apf (apg×aT))(v1:bD)(v3:apf aI)(l:apf aq):apf aq:=og v4 v5 v1 v3 (.cells dp::l)
def Ks(v4:apf aG)(aH:apf (apg×aT))(v1:bD)(v3:apf aI)(v11:Int64)(v12:Int64)(aJ:Bool)(cw:Code)(cu:Code)(v9:(apf Int))(l:apf aq):apf aq:=ER v4 aH v1 v3 v11 v12 aJ cw cu v9 (.cells dp::l)
def LY(v4:apf aG)(v5:apf (apg×aT))(v1:bD)(v3:apf aI)(v7:(apf aI))(l:apf aq):apf aq:=og v4 v5 v1 v3 (.cells [(.fn 68 [(.ptr 0 0),(.ptr 1 0)])]:: .cells [(.d (.sl (aS v7)))]:: .cells [(.fn 65 [(.ptr 8 0),(.ptr 9 0),(.ptr 11 0)]),(.fn 63 [(.ptr 11 0)])]:: .cells [(.ptr 10 0)]::l)
def HT(v4:apf aG)(aH:apf (apg×aT))(v1:bD)(v3:apf aI)(v11:Int64)(v12:Int64)(aJ:Bool)(cw:Code)(cu:Code)(v9:(apf Int))(bR:(apf aI))(l:apf aq):apf aq:=ER v4 aH v1 v3 v11 v12 aJ cw cu v9 (.cells [(.fn 68 [(.ptr 0 0),(.ptr 1 0)])]:: .cells [(.d (.sl (aS bR)))]:: .cells [(.fn 65 [(.ptr 11 0),(.ptr 12 0),(.ptr 14 0)]),(.fn 63 [(.ptr 14 0)])]:: .cells [(.ptr 13 0)]::l)
def XZ(v4:apf aG)(cl:eX×Int×(apf (apg×aT)))(v1:bD)(v3:apf aI)(v20:aD×Int)(aJ:Bool)(cw:Code)(cu:Code)(v9:(apf Int))(bR:(apf aI))(l:apf aq):apf aq:=qY v4 cl v1 v3 (.cells [(ar (0:Int))]:: .cells (bu v20.1).cells:: .cells [(aL aJ)]:: .lp .busy 42 cw cu (dc 83 [(4,(.ptr 3 0)),(5,(.ptr 4 0)),(7,(.ptr 5 0)),(8,(.ptr 6 0)),(9,(.ptr 7 0)),(12,(.ptr 8 0)),(13,(.ptr 9 0)),(41,(.fn 121 [(.bj [[(.sl (bw v9))]] 0 0)]))]):: .cells [(.fn 68 [(.ptr 0 0),(.ptr 1 0)])]:: .cells [(.d (.sl (aS bR)))]:: .cells [(.fn 65 [(.ptr 11 0),(.ptr 12 0),(.ptr 14 0)]),(.fn 63 [(.ptr 14 0)])]:: .cells [(.ptr 13 0)]:: .cells (dC cl.1).cells::l)
def SF(v4:apf aG)(v5:apf (apg×aT))(v1:bD)(v3:apf aI)(v7:(apf aI))(l:apf aq):apf aq:=HF v4 v5 v1 v3 (.cells [(.fn 68 [(.ptr 0 0),(.ptr 1 0)])]:: .cells [(.d (.sl (aS v7)))]:: .cells [(.fn 65 [(.ptr 9 0),(.ptr 10 0),(.ptr 12 0)]),(.fn 63 [(.ptr 12 0)])]:: .cells [(.ptr 11 0)]::l)
def MR(v4:apf aG)(aH:apf (apg×aT))(v1:bD)(v3:apf aI)(v11:Int64)(v12:Int64)(aJ:Bool)(cw:Code)(cu:Code)(v9:(apf Int))(bR:(apf aI))(l:apf aq):apf aq:=Ks v4 aH v1 v3 v11 v12 aJ cw cu v9 (.cells [(.fn 68 [(.ptr 0 0),(.ptr 1 0)])]:: .cells [(.d (.sl (aS bR)))]:: .cells [(.fn 65 [(.ptr 12 0),(.ptr 13 0),(.ptr 15 0)]),(.fn 63 [(.ptr 15 0)])]:: .cells [(.ptr 14 0)]::l)
def Lj(v4:apf aG)(v5:apf (apg×aT))(v1:bD)(v3:apf aI)(l:apf aq):apf aq:=og v4 v5 v1 v3 (.cells iT:: .cells [(aL true)]::l)
def Rn(v4:apf aG)(l:apf aq):apf aq:= .cells [(.mp 2)]:: .cells [(.d (.sl (aX v4)))]::l
def abR(v4:apf aG)(aH:apf (apg×aT))(v1:bD)(v3:apf aI)(v11:Int64)(v12:Int64)(aJ:Bool)(cw:Code)(cu:Code)(v9:(apf Int))(l:apf aq):apf aq:=og v4 aH v1 v3 (.cells [(bC v11),(bC v12)]:: .cells [(aL aJ)]:: .lp .ready 42 cw cu (dc 83 [(4,(.ptr 3 0)),(5,(.ptr 4 0)),(7,(.ptr 5 0)),(8,(.ptr 6 0)),(9,(.ptr 7 0)),(12,(.ptr 8 0)),(13,(.ptr 9 0)),(41,(.fn 121 [(.bj [[(.sl (bw v9))]] 0 0)]))])::l)
theorem abB(N:Nat)(v1:bD)(v2:apf Int)(v3:apf aI)(v4:apf aG)(v5:apf (apg×aT))(r:aD×Int×(apf (apg×aT)))(U:Bw N v1 v2 v3 v4 v5=some r):KH 74 [(.fn 68 [(.ptr 0 0),(.ptr 1 0)]),(fF v1),(.d (.sl (bw v2))),(.d (.sl (aS v3)))] ([.cells [(.mp 2)], .cells [(.d (.sl (aX v4)))], .map (bU bW v5)]) (.bg [(bu r.1),(ar r.2.1)]) ([.cells [(.mp 2)], .cells [(.d (.sl (aX v4)))], .map (bU bW r.2.2)]):=by
 rw[Bw]at U;refine qU 3 Tryz.func74 rfl (by kernel_rfl) (aoz rfl) ?_;refine l6 (s':=⟨83,[(0,(.fn 68 [(.ptr 0 0),(.ptr 1 0)])),(1,(fF v1)),(2,(.d (.sl (bw v2)))),(3,(.d (.sl (aS v3))))],(Rn v4 [.map (bU bW v5)])⟩) (by kernel_rfl) ?_;refine aA ?_;refine rg [] [(4,(.ptr 3 0)),(5,(.ptr 4 0)),(7,(.ptr 5 0)),(8,(.ptr 6 0)),(9,(.ptr 7 0))] (og v4 v5 v1 v3 []) (by kernel_rfl) ?_;refine aA ?_;refine aA ?_;obtain⟨v6,h2,U⟩:=cp U;refine Ai [(24,(aL v6))] (og v4 v5 v1 v3 []) ?_ ?_
 ·rcases ee (v1.dm==0)with J|J
  ·replace h2:=(dk J).symm.trans h2;have he:=aoK h2;subst he;exact⟨[(12,bT J),(15,bT J),(18,bT J),(22,bT J)],by kernel_rfl⟩
  replace h2:=(eu J).symm.trans h2;have he:=aoK h2;subst he;exact⟨[(12,bF J),(15,bF J),(18,bF J),(22,bF J)],by kernel_rfl⟩
 rcases ee v6 with h3|h3
 ·replace U:=(dk h3).symm.trans U;refine eK (t:=v6) (by kernel_rfl) h3 ?_;refine aA ?_;obtain⟨v7,h4,v8,h5,U⟩:=k01 U;refine ro 7 ck (.node 0 [] (.node 1 [] (.node 6 [] (.node 2 [(7,oX (aZ (aZ (ep c6))) (aZ (aZ (ep (aZ (aZ (aZ (aZ c6))))))) [(.fn 68 [(.ptr 0 0),(.ptr 1 0)]),(.d (.sl (aS v3)))] (og v4 v5 v1 v3 []) [0,1,2] (jK h4))] (.node 3 [] (.node 4 [] (.node 5 [] (.node 7 [] (.node 8 [(25,oR [(aP v1.bV),(.ptr 8 0),(.ptr 9 0),(.ptr 11 0)] (LY v4 v5 v1 v3 v7 []) [8,9,11,0,1,10,2] (gZ N v1.bV v7 v4 v5 v8 h5))] (.node 9 [] (.node 10 [] (.node 11 [] (.node 12 [] (.node 13 [] (.node 14 [] .nil .nil) .nil) .nil) .nil) .nil) .nil) (.node 12 [] (.node 8 [(25,oR [(aP v1.bV),(.ptr 8 0),(.ptr 9 0),(.ptr 11 0)] (LY v4 v5 v1 v3 v7 [.cells dp]) [8,9,11,0,1,10,2] (gZ N v1.bV v7 v4 v5 v8 h5))] (.node 9 [] (.node 10 [] (.node 11 [] (.node 13 [] (.node 14 [] .nil .nil) .nil) .nil) .nil) .nil) .nil) .nil)) .nil) .nil) .nil) .nil) (.node 7 [] (.node 2 [(7,oX (aZ (aZ (ep c6))) (aZ (aZ (ep (aZ (aZ (aZ (aZ c6))))))) [(.fn 68 [(.ptr 0 0),(.ptr 1 0)]),(.d (.sl (aS v3)))] (og v4 v5 v1 v3 []) [0,1,2] (jK h4))] (.node 3 [] (.node 4 [] (.node 5 [] (.node 8 [(25,oR [(aP v1.bV),(.ptr 8 0),(.ptr 9 0),(.ptr 11 0)] (LY v4 v5 v1 v3 v7 []) [8,9,11,0,1,10,2] (gZ N v1.bV v7 v4 v5 v8 h5))] (.node 9 [] (.node 10 [] (.node 11 [] (.node 12 [] (.node 13 [] (.node 14 [] .nil .nil) .nil) .nil) .nil) .nil) .nil) (.node 12 [] (.node 8 [(25,oR [(aP v1.bV),(.ptr 8 0),(.ptr 9 0),(.ptr 11 0)] (LY v4 v5 v1 v3 v7 [.cells dp]) [8,9,11,0,1,10,2] (gZ N v1.bV v7 v4 v5 v8 h5))] (.node 9 [] (.node 10 [] (.node 11 [] (.node 13 [] (.node 14 [] .nil .nil) .nil) .nil) .nil) .nil) .nil) .nil)) .nil) .nil) .nil) (.node 12 [] (.node 2 [(7,oX (aZ (aZ (ep c6))) (aZ (aZ (ep (aZ (aZ (aZ (aZ c6))))))) [(.fn 68 [(.ptr 0 0),(.ptr 1 0)]),(.d (.sl (aS v3)))] (HF v4 v5 v1 v3 []) [0,1,2] (jK h4))] (.node 3 [] (.node 4 [] (.node 5 [] (.node 8 [(25,oR [(aP v1.bV),(.ptr 9 0),(.ptr 10 0),(.ptr 12 0)] (SF v4 v5 v1 v3 v7 []) [9,10,12,0,1,11,2] (gZ N v1.bV v7 v4 v5 v8 h5))] (.node 9 [] (.node 10 [] (.node 11 [] (.node 13 [] (.node 14 [] .nil .nil) .nil) .nil) .nil) .nil) .nil) .nil) .nil) .nil) .nil) .nil)) (.node 12 [] (.node 2 [(7,oX (aZ (aZ (ep c6))) (aZ (aZ (ep (aZ (aZ (aZ (aZ c6))))))) [(.fn 68 [(.ptr 0 0),(.ptr 1 0)]),(.d (.sl (aS v3)))] (HF v4 v5 v1 v3 []) [0,1,2] (jK h4))] (.node 3 [] (.node 4 [] (.node 5 [] (.node 7 [] (.node 8 [(25,oR [(aP v1.bV),(.ptr 9 0),(.ptr 10 0),(.ptr 12 0)] (SF v4 v5 v1 v3 v7 []) [9,10,12,0,1,11,2] (gZ N v1.bV v7 v4 v5 v8 h5))] (.node 9 [] (.node 10 [] (.node 11 [] (.node 13 [] (.node 14 [] .nil .nil) .nil) .nil) .nil) .nil) .nil) .nil) .nil) .nil) .nil) (.node 7 [] (.node 2 [(7,oX (aZ (aZ (ep c6))) (aZ (aZ (ep (aZ (aZ (aZ (aZ c6))))))) [(.fn 68 [(.ptr 0 0),(.ptr 1 0)]),(.d (.sl (aS v3)))] (HF v4 v5 v1 v3 []) [0,1,2] (jK h4))] (.node 3 [] (.node 4 [] (.node 5 [] (.node 8 [(25,oR [(aP v1.bV),(.ptr 9 0),(.ptr 10 0),(.ptr 12 0)] (SF v4 v5 v1 v3 v7 []) [9,10,12,0,1,11,2] (gZ N v1.bV v7 v4 v5 v8 h5))] (.node 9 [] (.node 10 [] (.node 11 [] (.node 13 [] (.node 14 [] .nil .nil) .nil) .nil) .nil) .nil) .nil) .nil) .nil) .nil) .nil) .nil)) .nil))) .nil) .nil) .nil) [(10,(.ptr 12 0)),(11,(ar v8.2.1))] (qY v4 v8 v1 v3 [.cells [(ar (0:Int))], .cells [(.fn 68 [(.ptr 0 0),(.ptr 1 0)])], .cells [(.d (.sl (aS v7)))], .cells [(.fn 65 [(.ptr 8 0),(.ptr 9 0),(.ptr 11 0)]),(.fn 63 [(.ptr 11 0)])], .cells [(.ptr 10 0)], .cells (dC v8.1).cells]) (by kernel_rfl) ?_
  refine aA ?_;refine rg [] [] (Rn v4 [.map (bU bW v8.2.2), .cells [(.fn 68 [(.ptr 0 0),(.ptr 1 0)])], .cells (fF v1).cells, .cells [(.d (.sl (aS v3)))], .cells (bu v8.1.yVal).cells, .cells [(ar v8.2.1)], .cells [(.fn 68 [(.ptr 0 0),(.ptr 1 0)])], .cells [(.d (.sl (aS v7)))], .cells [(.fn 65 [(.ptr 8 0),(.ptr 9 0),(.ptr 11 0)]),(.fn 63 [(.ptr 11 0)])], .cells [(.ptr 10 0)], .cells (dC v8.1).cells]) (by kernel_rfl) ?_;refine cY (c9 ?_);have hr:=aoK U;subst hr;exact jt (by kernel_rfl)
 replace U:=(eu h3).symm.trans U;refine eH (t:=v6) (by kernel_rfl) h3 ?_;refine dy ?_;refine bE ?_;refine aA ?_;refine rg [] [(12,(.ptr 8 0))] (og v4 v5 v1 v3 [.cells iT]) (by kernel_rfl) ?_;refine aA ?_;refine rg [] [(13,(.ptr 9 0))] (Lj v4 v5 v1 v3 []) (by kernel_rfl) ?_;refine aA ?_;refine aA ?_;obtain⟨v9,h6,U⟩:=cp U;refine rg [(4,oQ [(.d (.sl (bw v2)))] (Lj v4 v5 v1 v3 []) [] (TD h6))] [(41,(.fn 121 [(.bj [[(.sl (bw v9))]] 0 0)]))] (Lj v4 v5 v1 v3 []) (by kernel_rfl) ?_;refine gp ?_;obtain⟨v10,h7,U⟩:=cp U;refine gx [4,5,7,8,9,12,13,41] 10 (aoz rfl) (s':=⟨83,[(4,(.ptr 3 0)),(5,(.ptr 4 0)),(7,(.ptr 5 0)),(8,(.ptr 6 0)),(9,(.ptr 7 0)),(12,(.ptr 8 0)),(13,(.ptr 9 0)),(41,(.fn 121 [(.bj [[(.sl (bw v9))]] 0 0)]))],(Lj v4 v5 v1 v3 [])⟩) (by kernel_rfl) ?_;refine vL (m:=10) (enc:=pY) (xs:=v10) (by kernel_rfl) (S6 h7) (λ((v11,v12,aJ,aH):Int64×Int64×Bool×(apf (apg×aT)))=>(og v4 aH v1 v3 [.cells [(bC v11),(bC v12)], .cells [(aL aJ)]])) (λ((v11,v12,aJ,aH):Int64×Int64×Bool×(apf (apg×aT))) l=>tL N v1 v3 v4 l v11 v12 aJ aH=some r) ((0:Int64),(0:Int64),true,v5) (by kernel_rfl) U (by rintro⟨v11,v12,aJ,aH⟩;rfl) (by rintro⟨v11,v12,aJ,aH⟩;kernel_rfl) (by kernel_rfl) rfl ?_ ?_
 ·rintro⟨v11,v12,aJ,aH⟩ bz bB U h8 cw cu
  try dsimp only at U
  rw[tL]at U;refine gx [4,5,7,8,9,12,13,42] 11 (aoC _) (s':=⟨83,[(4,(.ptr 3 0)),(5,(.ptr 4 0)),(7,(.ptr 5 0)),(8,(.ptr 6 0)),(9,(.ptr 7 0)),(12,(.ptr 8 0)),(13,(.ptr 9 0)),(42,(.d (.sl (bw bz))))],(abR v4 aH v1 v3 v11 v12 aJ cw cu v9 [])⟩) (by kernel_rfl) ?_;refine re [] [(14,(.d (.sl (bw bz))))] (abR v4 aH v1 v3 v11 v12 aJ cw cu v9 []) (by kernel_rfl) ?_;refine bE ?_;refine⟨(og v4 aH v1 v3 [.cells [(bC v11),(bC v12)], .cells [(aL aJ)]]),[],rfl,(by kernel_rfl),?_⟩;refine gx [4,5,7,8,9,12,13,14] 11 (aoz rfl) (s':=⟨83,[(4,(.ptr 3 0)),(5,(.ptr 4 0)),(7,(.ptr 5 0)),(8,(.ptr 6 0)),(9,(.ptr 7 0)),(12,(.ptr 8 0)),(13,(.ptr 9 0)),(14,(.d (.sl (bw bz))))],(ER v4 aH v1 v3 v11 v12 aJ cw cu v9 [])⟩) (by kernel_rfl) ?_;refine gp ?_;refine aA ?_;obtain⟨cA,h9,bR,bG,U⟩:=k01 U;obtain⟨cl,bH,U⟩:=cp U;refine ro 7 ck (.node 0 [] (.node 1 [] (.node 2 [] (.node 3 [] (.node 4 [] (.node 5 [(16,cK aar h9)] (.node 10 [] (.node 6 [(19,oX (aZ (aZ (ep c6))) (aZ (aZ (ep (aZ (aZ (aZ (aZ c6))))))) [(.fn 68 [(.ptr 0 0),(.ptr 1 0)]),(.d (.sl (aS cA)))] (ER v4 aH v1 v3 v11 v12 aJ cw cu v9 []) [0,1,2] (jK bG))] (.node 7 [] (.node 8 [] (.node 9 [] (.node 11 [] (.node 12 [(37,oR [(aP v1.bV),(.ptr 11 0),(.ptr 12 0),(.ptr 14 0)] (HT v4 aH v1 v3 v11 v12 aJ cw cu v9 bR []) [11,12,14,0,1,13,2] (gZ N v1.bV bR v4 aH cl bH))] (.node 13 [] (.node 14 [] (.node 15 [] (.node 16 [] (.node 17 [] (.node 18 [] .nil .nil) .nil) .nil) .nil) .nil) .nil) (.node 16 [] (.node 12 [(37,oR [(aP v1.bV),(.ptr 11 0),(.ptr 12 0),(.ptr 14 0)] (HT v4 aH v1 v3 v11 v12 aJ cw cu v9 bR [.cells dp]) [11,12,14,0,1,13,2] (gZ N v1.bV bR v4 aH cl bH))] (.node 13 [] (.node 14 [] (.node 15 [] (.node 17 [] (.node 18 [] .nil .nil) .nil) .nil) .nil) .nil) .nil) .nil)) .nil) .nil) .nil) .nil) (.node 11 [] (.node 6 [(19,oX (aZ (aZ (ep c6))) (aZ (aZ (ep (aZ (aZ (aZ (aZ c6))))))) [(.fn 68 [(.ptr 0 0),(.ptr 1 0)]),(.d (.sl (aS cA)))] (ER v4 aH v1 v3 v11 v12 aJ cw cu v9 []) [0,1,2] (jK bG))] (.node 7 [] (.node 8 [] (.node 9 [] (.node 12 [(37,oR [(aP v1.bV),(.ptr 11 0),(.ptr 12 0),(.ptr 14 0)] (HT v4 aH v1 v3 v11 v12 aJ cw cu v9 bR []) [11,12,14,0,1,13,2] (gZ N v1.bV bR v4 aH cl bH))] (.node 13 [] (.node 14 [] (.node 15 [] (.node 16 [] (.node 17 [] (.node 18 [] .nil .nil) .nil) .nil) .nil) .nil) .nil) (.node 16 [] (.node 12 [(37,oR [(aP v1.bV),(.ptr 11 0),(.ptr 12 0),(.ptr 14 0)] (HT v4 aH v1 v3 v11 v12 aJ cw cu v9 bR [.cells dp]) [11,12,14,0,1,13,2] (gZ N v1.bV bR v4 aH cl bH))] (.node 13 [] (.node 14 [] (.node 15 [] (.node 17 [] (.node 18 [] .nil .nil) .nil) .nil) .nil) .nil) .nil) .nil)) .nil) .nil) .nil) (.node 16 [] (.node 6 [(19,oX (aZ (aZ (ep c6))) (aZ (aZ (ep (aZ (aZ (aZ (aZ c6))))))) [(.fn 68 [(.ptr 0 0),(.ptr 1 0)]),(.d (.sl (aS cA)))] (Ks v4 aH v1 v3 v11 v12 aJ cw cu v9 []) [0,1,2] (jK bG))] (.node 7 [] (.node 8 [] (.node 9 [] (.node 12 [(37,oR [(aP v1.bV),(.ptr 12 0),(.ptr 13 0),(.ptr 15 0)] (MR v4 aH v1 v3 v11 v12 aJ cw cu v9 bR []) [12,13,15,0,1,14,2] (gZ N v1.bV bR v4 aH cl bH))] (.node 13 [] (.node 14 [] (.node 15 [] (.node 17 [] (.node 18 [] .nil .nil) .nil) .nil) .nil) .nil) .nil) .nil) .nil) .nil) .nil) .nil)) (.node 16 [] (.node 6 [(19,oX (aZ (aZ (ep c6))) (aZ (aZ (ep (aZ (aZ (aZ (aZ c6))))))) [(.fn 68 [(.ptr 0 0),(.ptr 1 0)]),(.d (.sl (aS cA)))] (Ks v4 aH v1 v3 v11 v12 aJ cw cu v9 []) [0,1,2] (jK bG))] (.node 7 [] (.node 8 [] (.node 9 [] (.node 11 [] (.node 12 [(37,oR [(aP v1.bV),(.ptr 12 0),(.ptr 13 0),(.ptr 15 0)] (MR v4 aH v1 v3 v11 v12 aJ cw cu v9 bR []) [12,13,15,0,1,14,2] (gZ N v1.bV bR v4 aH cl bH))] (.node 13 [] (.node 14 [] (.node 15 [] (.node 17 [] (.node 18 [] .nil .nil) .nil) .nil) .nil) .nil) .nil) .nil) .nil) .nil) .nil) (.node 11 [] (.node 6 [(19,oX (aZ (aZ (ep c6))) (aZ (aZ (ep (aZ (aZ (aZ (aZ c6))))))) [(.fn 68 [(.ptr 0 0),(.ptr 1 0)]),(.d (.sl (aS cA)))] (Ks v4 aH v1 v3 v11 v12 aJ cw cu v9 []) [0,1,2] (jK bG))] (.node 7 [] (.node 8 [] (.node 9 [] (.node 12 [(37,oR [(aP v1.bV),(.ptr 12 0),(.ptr 13 0),(.ptr 15 0)] (MR v4 aH v1 v3 v11 v12 aJ cw cu v9 bR []) [12,13,15,0,1,14,2] (gZ N v1.bV bR v4 aH cl bH))] (.node 13 [] (.node 14 [] (.node 15 [] (.node 17 [] (.node 18 [] .nil .nil) .nil) .nil) .nil) .nil) .nil) .nil) .nil) .nil) .nil) .nil)) .nil))) .nil) .nil) .nil) .nil) .nil) .nil) .nil) [(15,(.ptr 15 0)),(16,(ar cl.2.1))] (SA v4 cl v1 v3 v11 v12 aJ cw cu v9 bR []) (by kernel_rfl) ?_
  refine aA ?_;refine aA ?_;refine rg [] [(60,(aL (cl.2.1 !=0)))] (SA v4 cl v1 v3 v11 v12 aJ cw cu v9 bR []) (by kernel_rfl) ?_;rcases ee (cl.2.1 !=0)with bq|bq
  ·replace U:=(dk bq).symm.trans U;refine eK (t:=(cl.2.1 !=0)) (by kernel_rfl) bq ?_;refine aA ?_;refine rg [] [] (qY v4 cl v1 v3 [.cells [(ar cl.2.1)], .cells [(bC v11),(bC v12)], .cells [(aL aJ)], .lp .busy 42 cw cu (dc 83 [(4,(.ptr 3 0)),(5,(.ptr 4 0)),(7,(.ptr 5 0)),(8,(.ptr 6 0)),(9,(.ptr 7 0)),(12,(.ptr 8 0)),(13,(.ptr 9 0)),(41,(.fn 121 [(.bj [[(.sl (bw v9))]] 0 0)]))]), .cells [(.fn 68 [(.ptr 0 0),(.ptr 1 0)])], .cells [(.d (.sl (aS bR)))], .cells [(.fn 65 [(.ptr 11 0),(.ptr 12 0),(.ptr 14 0)]),(.fn 63 [(.ptr 14 0)])], .cells [(.ptr 13 0)], .cells (dC cl.1).cells]) (by kernel_rfl) ?_;refine cY (c9 (fa ?_));refine DA (qY v4 cl v1 v3 [.cells [(ar cl.2.1)], .cells [(bC v11),(bC v12)], .cells [(aL aJ)]]) rfl (by kernel_rfl) (by kernel_rfl) ?_;refine(fa (c9 ?_));have hr:=aoK U;subst hr;exact jt (by kernel_rfl)
  replace U:=(eu bq).symm.trans U;refine eH (t:=(cl.2.1 !=0)) (by kernel_rfl) bq ?_;refine dy ?_;refine bE ?_;refine aA ?_;refine aA ?_;refine rg [] [(63,(aL aJ))] (SA v4 cl v1 v3 v11 v12 aJ cw cu v9 bR []) (by kernel_rfl) ?_;rcases ee aJ with cU|cU
  ·replace U:=(dk cU).symm.trans U;refine eK (t:=aJ) (by kernel_rfl) cU ?_;refine aA ?_;refine rg [] [] (qY v4 cl v1 v3 [.cells [(ar (0:Int))], .cells (bu cl.1.yVal).cells, .cells [(aL false)], .lp .busy 42 cw cu (dc 83 [(4,(.ptr 3 0)),(5,(.ptr 4 0)),(7,(.ptr 5 0)),(8,(.ptr 6 0)),(9,(.ptr 7 0)),(12,(.ptr 8 0)),(13,(.ptr 9 0)),(41,(.fn 121 [(.bj [[(.sl (bw v9))]] 0 0)]))]), .cells [(.fn 68 [(.ptr 0 0),(.ptr 1 0)])], .cells [(.d (.sl (aS bR)))], .cells [(.fn 65 [(.ptr 11 0),(.ptr 12 0),(.ptr 14 0)]),(.fn 63 [(.ptr 14 0)])], .cells [(.ptr 13 0)], .cells (dC cl.1).cells]) (by kernel_rfl) ?_;refine o7 (kW (rE rfl ?_));refine zQ (qY v4 cl v1 v3 [.cells [(ar (0:Int))], .cells (bu cl.1.yVal).cells, .cells [(aL false)]]) rfl (by kernel_rfl) (by kernel_rfl) ?_;exact⟨(cl.1.yVal.xN,cl.1.yVal.xD,false,cl.2.2),(by kernel_rfl),U⟩
  replace U:=(eu cU).symm.trans U;refine eH (t:=aJ) (by kernel_rfl) cU ?_;refine dy ?_;refine bE ?_;refine aA ?_;obtain⟨v20,cT,U⟩:=cp U;refine rg [(25,cK aa4 cT)] [(16,(ar v20.2))] (XZ v4 cl v1 v3 v20 aJ cw cu v9 bR []) (by kernel_rfl) ?_;refine aA ?_;refine rg [] [(79,(aL (v20.2 !=0)))] (XZ v4 cl v1 v3 v20 aJ cw cu v9 bR []) (by kernel_rfl) ?_;rcases ee (v20.2 !=0)with cQ|cQ
  ·replace U:=(dk cQ).symm.trans U;refine eK (t:=(v20.2 !=0)) (by kernel_rfl) cQ ?_;refine aA ?_;refine rg [] [] (qY v4 cl v1 v3 [.cells [(ar v20.2)], .cells (bu v20.1).cells, .cells [(aL aJ)], .lp .busy 42 cw cu (dc 83 [(4,(.ptr 3 0)),(5,(.ptr 4 0)),(7,(.ptr 5 0)),(8,(.ptr 6 0)),(9,(.ptr 7 0)),(12,(.ptr 8 0)),(13,(.ptr 9 0)),(41,(.fn 121 [(.bj [[(.sl (bw v9))]] 0 0)]))]), .cells [(.fn 68 [(.ptr 0 0),(.ptr 1 0)])], .cells [(.d (.sl (aS bR)))], .cells [(.fn 65 [(.ptr 11 0),(.ptr 12 0),(.ptr 14 0)]),(.fn 63 [(.ptr 14 0)])], .cells [(.ptr 13 0)], .cells (dC cl.1).cells]) (by kernel_rfl) ?_;refine cY (fa ?_);refine DA (qY v4 cl v1 v3 [.cells [(ar v20.2)], .cells (bu v20.1).cells, .cells [(aL aJ)]]) rfl (by kernel_rfl) (by kernel_rfl) ?_;refine(fa (c9 ?_));have hr:=aoK U;subst hr;exact jt (by kernel_rfl)
  replace U:=(eu cQ).symm.trans U;refine eH (t:=(v20.2 !=0)) (by kernel_rfl) cQ ?_;refine dy ?_;refine iK ?_;refine zQ (qY v4 cl v1 v3 [.cells [(ar (0:Int))], .cells (bu v20.1).cells, .cells [(aL aJ)]]) rfl (by kernel_rfl) (by kernel_rfl) ?_;exact⟨(v20.1.xN,v20.1.xD,aJ,cl.2.2),(by kernel_rfl),U⟩
 rintro⟨v11,v12,aJ,aH⟩ U
 try dsimp only at U
 rw[tL]at U;refine iK ?_;refine bE ?_;refine aA ?_;refine rg [] [] (Rn v4 [.map (bU bW aH), .cells [(.fn 68 [(.ptr 0 0),(.ptr 1 0)])], .cells (fF v1).cells, .cells [(.d (.sl (aS v3)))], .cells [(bC v11),(bC v12)], .cells [(ar (0:Int))], .cells [(bC v11),(bC v12)], .cells [(aL aJ)], .gone]) (by kernel_rfl) ?_;refine cY ?_;have hr:=aoK U;subst hr;exact jt (by kernel_rfl)
def kK:bp:=⟨(0:Int64),[]⟩
def uH(N:Nat)(bB:apf aD)(iw:(apf aD)->(apf (apg×aT))->aph (aT×Int))(v21:aD×Int×(apf (apg×aT)))(v24:Int)(fZ:Int64)(ft:Int64):aph (aT×Int):=
 bif (v24 !=0)then
  some (mF,v24)
 else
  bif (Nat.ble ((bB.length+1)*16) 140737488355328)then
  iw (bB++[(⟨fZ,ft⟩:aD)]) v21.2.2
  else none
def sB(N:Nat)(v6:bD)(v7:(apf Int)×aM×Int)(v2:apf aI)(v9:(apf Int)×Int)(aJ:(apf aG)×(apf (apg×aT))):apf (apf Int)->(apf aD)->(apf (apg×aT))->aph (aT×Int)
 |[],bB,_=>
  some ((⟨v6.aB,v7.1,bB⟩:aT),(0:Int))
 |bR::cl,bB,cA=>
  (IC N v6.aU bR v2).bind λv20=>
  (Bw N v6 v9.1 v20 aJ.1 cA).bind λv21=>
  Option.bind (bif (v21.2.1==0)then(bif (v6.dm==5)then bif (decide ((0:Int)<=(aQ ((bR.length:Int)-(1:Int)))))then
  Option.bind (bR[((aQ ((bR.length:Int)-(1:Int)))).toNat]?) λfA=>
  some (decide (fA>0))
  else none else some false)else some false) λdV=>
  bif dV then
   bif (decide ((0:Int)<=(aQ ((bB.length:Int)-(1:Int)))))then
   Option.bind (bB[((aQ ((bB.length:Int)-(1:Int)))).toNat]?) λjQ=>
   Option.bind (B6 N (1:Int) v6.aB ([jQ,v21.1])) λv28=>
   uH N bB (λcg fi=>sB N v6 v7 v2 v9 aJ cl cg fi) v21 v28.2 v28.1.xN v28.1.xD
   else none
  else
   uH N bB (λcg fi=>sB N v6 v7 v2 v9 aJ cl cg fi) v21 v21.2.1 v21.1.xN v21.1.xD
def Af(N:Nat)(v1:aV)(v2:apf aI)(v3:apf aG)(v4:Int):aph (aT×Int):=
 Option.bind (bif (decide (v4<0))then some true else some (decide (v4>=(v1.aO.length:Int)))) λv5=>
 bif v5 then
  some (mF,(9:Int))
 else
  bif (decide ((0:Int)<=v4))then
  Option.bind (v1.aO[(v4).toNat]?) λv6=>
  (zp N v1 v2 v6.au).bind λv7=>
  bif (v7.2.2 !=0)then
   some (mF,v7.2.2)
  else
   (Sk N v6.bY).bind λv8=>
   (C9 N v8 v2).bind λv9=>
   bif (v9.2 !=0)then
    some (mF,v9.2)
   else
    (OF N v7.1).bind λv10=>
    bif (Nat.ble ((v10.length+v9.1.length)*8) 140737488355328)then
    Option.bind (Cf N (v10.length+v9.1.length) (65536:Int) (v10++v9.1)) λv11=>
    bif (decide (v11>65536))then
     some (mF,(2:Int))
    else
     (KZ N v1 v2 v3 v6.bV).bind λv12=>
     bif (v12 !=0)then
      some (mF,v12)
     else
      (Gv N v3).bind λaJ=>
      (BH N v7.1).bind λaH=>
      (EB N aH).bind λbz=>
      sB N v6 v7 v2 v9 aJ bz [] aJ.2
    else none
  else none
def uL(v1:aV)(v2:apf aI)(l:apf aq):apf aq:= .cells (dU v1).cells:: .cells [(.d (.sl (aS v2)))]:: .cells zc1::l
def L8(v1:aV)(v2:apf aI)(v6:bD)(v7:(apf Int)×aM×Int)(v9:(apf Int)×Int)(aJ:(apf aG)×(apf (apg×aT)))(l:apf aq):apf aq:= .cells (dU v1).cells:: .cells [(.d (.sl (aS v2)))]:: .cells [(ar (0:Int)),(ar (0:Int)),(ar (0:Int)),(ar (0:Int)),(ar (0:Int)),(.d (.sl (bw []))),(.d (.sl (dK [])))]:: .cells [(ar (0:Int))]:: .cells (fF v6).cells:: .cells (cx v7.2.1).cells:: .cells [(.d (.sl (bw v9.1)))]:: .gone:: .cells [(.d (.sl (aX aJ.1)))]::l
def CU(v1:aV)(v2:apf aI)(v6:bD)(v7:(apf Int)×aM×Int)(v9:(apf Int)×Int)(aJ:(apf aG)×(apf (apg×aT)))(v21:aD×Int×(apf (apg×aT)))(bB:apf aD)(cw:Code)(cu:Code)(aH:(apf Int))(l:apf aq):apf aq:=L8 v1 v2 v6 v7 v9 aJ (.map (bU bW v21.2.2):: .cells [(.mp 9)]:: .cells [(.fn 68 [(.ptr 10 0),(.ptr 8 0)])]:: .cells [(ar v6.aB.bk),(ar v6.aB.cf),(ar v6.aB.bQ),(ar v6.aB.cq),(ar v6.aB.ct),(.d (.sl (bw v7.1))),(.own 13 (dK bB))]:: .front 58 2 bB.length:: .lp .busy 86 cw cu (dc 142 [(5,(.ptr 1 0)),(8,(.ptr 2 0)),(9,(.ptr 3 0)),(10,(.ptr 4 0)),(14,(.ptr 6 0)),(16,(.ptr 11 0)),(17,(.ptr 12 0)),(85,(.fn 121 [(.bj [[(.sl (bw aH))]] 0 0)]))])::l)
def uv(v1:aV)(v2:apf aI)(v6:bD)(v7:(apf Int)×aM×Int)(v9:(apf Int)×Int)(l:apf aq):apf aq:=uL v1 v2 (.cells [(ar (0:Int))]:: .cells (fF v6).cells:: .cells (cx v7.2.1).cells:: .cells [(.d (.sl (bw v9.1)))]::l)
def DV(v1:aV)(v2:apf aI)(v6:bD)(v7:(apf Int)×aM×Int)(v9:(apf Int)×Int)(aJ:(apf aG)×(apf (apg×aT)))(cA:apf (apg×aT))(bB:apf aD)(l:apf aq):apf aq:=L8 v1 v2 v6 v7 v9 aJ (.map (bU bW cA):: .cells [(.mp 9)]:: .cells [(.fn 68 [(.ptr 10 0),(.ptr 8 0)])]:: .cells [(ar v6.aB.bk),(ar v6.aB.cf),(ar v6.aB.bQ),(ar v6.aB.cq),(ar v6.aB.ct),(.d (.sl (bw v7.1))),(.own 13 (dK bB))]:: .front 58 2 bB.length::l)
def R3(v1:aV)(v2:apf aI)(v6:bD)(v7:(apf Int)×aM×Int)(v9:(apf Int)×Int)(v10:apf Int)(aJ:(apf aG)×(apf (apg×aT)))(l:apf aq):apf aq:=uv v1 v2 v6 v7 v9 (.vec 3 1 (cd ((v10++v9.1).map eF)):: .cells [(.d (.sl (aX aJ.1)))]:: .map (bU bW aJ.2):: .cells [(.mp 9)]:: .cells [(.fn 68 [(.ptr 10 0),(.ptr 8 0)])]:: .cells [(ar v6.aB.bk),(ar v6.aB.cf),(ar v6.aB.bQ),(ar v6.aB.cq),(ar v6.aB.ct),(.d (.sl (bw v7.1))),(.d (.v (.slice none 0 0)))]::l)
def R9(v1:aV)(v2:apf aI)(v6:bD)(v7:(apf Int)×aM×Int)(v9:(apf Int)×Int)(aJ:(apf aG)×(apf (apg×aT)))(cA:apf (apg×aT))(bB:apf aD)(cw:Code)(cu:Code)(aH:(apf Int))(l:apf aq):apf aq:=DV v1 v2 v6 v7 v9 aJ cA bB (.lp .busy 86 cw cu (dc 142 [(5,(.ptr 1 0)),(8,(.ptr 2 0)),(9,(.ptr 3 0)),(10,(.ptr 4 0)),(14,(.ptr 6 0)),(16,(.ptr 11 0)),(17,(.ptr 12 0)),(85,(.fn 121 [(.bj [[(.sl (bw aH))]] 0 0)]))])::l)
def vR(v1:aV)(v2:apf aI)(v6:bD)(v7:(apf Int)×aM×Int)(v9:(apf Int)×Int)(v10:apf Int)(l:apf aq):apf aq:=uv v1 v2 v6 v7 v9 (.vec 3 1 (cd ((v10++v9.1).map eF))::l)
def Da(v1:aV)(v2:apf aI)(l:apf aq):apf aq:=uL v1 v2 (.cells [(ar (0:Int))]::l)
def aad(v1:aV)(v2:apf aI)(v6:bD)(v7:(apf Int)×aM×Int)(v9:(apf Int)×Int)(aJ:(apf aG)×(apf (apg×aT)))(v21:aD×Int×(apf (apg×aT)))(bB:apf aD)(fZ:Int64)(ft:Int64)(l:apf aq):apf aq:=L8 v1 v2 v6 v7 v9 aJ (.map (bU bW v21.2.2):: .cells [(.mp 9)]:: .cells [(.fn 68 [(.ptr 10 0),(.ptr 8 0)])]:: .cells [(ar v6.aB.bk),(ar v6.aB.cf),(ar v6.aB.bQ),(ar v6.aB.cq),(ar v6.aB.ct),(.d (.sl (bw v7.1))),(.own 13 (dK (bB++[(⟨fZ,ft⟩:aD)])))]:: .front 58 2 (bB++[(⟨fZ,ft⟩:aD)]).length::l)
theorem ajh{N v1 v2 v3 v4 r}(U:Af N v1 v2 v3 v4=some r):KF 44 [(dU v1),(.d (.sl (aS v2))),(.d (.sl (aX v3))),(ar v4)] (.bg [(iz r.1),(ar r.2)]):=by
 rw[Af]at U;refine ru Tryz.func44 rfl (by kernel_rfl) ?_;refine gx [0,1,2,3] 0 (aoC _) (s':=⟨142,[(0,(dU v1)),(1,(.d (.sl (aS v2)))),(2,(.d (.sl (aX v3)))),(3,(ar v4))],[]⟩) (by kernel_rfl) ?_;refine aA ?_;refine rg [] [(4,(.ptr 0 0)),(5,(.ptr 1 0)),(8,(.ptr 2 0)),(9,(.ptr 3 0))] (Da v1 v2 []) (by kernel_rfl) ?_;refine aA ?_;refine aA ?_;obtain⟨v5,h2,U⟩:=cp U;refine Ai [(29,(aL v5))] (Da v1 v2 []) ?_ ?_
 ·rcases ee (decide (v4<0))with J|J
  ·replace h2:=(dk J).symm.trans h2;have he:=aoK h2;subst he;exact⟨[(9,bT J),(12,bT J),(15,bT J),(18,bT J),(21,bT J),(25,bT J)],by kernel_rfl⟩
  replace h2:=(eu J).symm.trans h2;have he:=aoK h2;subst he;exact⟨[(9,bF J),(12,bF J),(15,bF J),(18,bF J),(19,oL v1.aO nw),(21,bF J),(25,bF J)],by kernel_rfl⟩
 rcases ee v5 with h3|h3
 ·replace U:=(dk h3).symm.trans U;refine eK (t:=v5) (by kernel_rfl) h3 ?_;refine aA ?_;refine rg [] [] (uL v1 v2 [.cells [(ar (9:Int))]]) (by kernel_rfl) ?_;refine cY (c9 ?_);have hr:=aoK U;subst hr;exact gD (by kernel_rfl)
 replace U:=(eu h3).symm.trans U;refine eH (t:=v5) (by kernel_rfl) h3 ?_;refine dy ?_;refine bE ?_;refine aA ?_;have h5:=na U;replace U:=(dk h5).symm.trans U;obtain⟨v6,h4,U⟩:=cp U;refine rg [(10,⟨_,_, .el (xs:=iH v1.aO) (i:=v4) (of_decide_eq_true h5) (sQ h4)⟩)] [(10,(.ptr 4 0))] (Da v1 v2 [.cells (fF v6).cells]) (by kernel_rfl) ?_;refine aA ?_;obtain⟨v7,h6,U⟩:=cp U;refine rg [(13,cK M6 h6)] [(11,(.d (.sl (bw v7.1)))),(13,(ar v7.2.2))] (Da v1 v2 [.cells (fF v6).cells, .cells (cx v7.2.1).cells]) (by kernel_rfl) ?_;refine aA ?_;refine aA ?_;refine rg [] [(46,(aL (v7.2.2 !=0)))] (Da v1 v2 [.cells (fF v6).cells, .cells (cx v7.2.1).cells]) (by kernel_rfl) ?_;rcases ee (v7.2.2 !=0)with h7|h7
 ·replace U:=(dk h7).symm.trans U;refine eK (t:=(v7.2.2 !=0)) (by kernel_rfl) h7 ?_;refine aA ?_;refine rg [] [] (uL v1 v2 [.cells [(ar v7.2.2)], .cells (fF v6).cells, .cells (cx v7.2.1).cells]) (by kernel_rfl) ?_;refine cY (c9 ?_);have hr:=aoK U;subst hr;exact gD (by kernel_rfl)
 replace U:=(eu h7).symm.trans U;refine eH (t:=(v7.2.2 !=0)) (by kernel_rfl) h7 ?_;refine dy ?_;refine bE ?_;refine aA ?_;obtain⟨v8,h8,v9,h9,U⟩:=k01 U;refine rd ck (by kernel_rfl) [(7,cK an7 h8),(13,cK Vo h9)] [(14,(.ptr 6 0)),(13,(ar v9.2))] (uv v1 v2 v6 v7 v9 []) (by kernel_rfl) ?_;refine aA ?_;refine aA ?_;refine rg [] [(58,(aL (v9.2 !=0)))] (uv v1 v2 v6 v7 v9 []) (by kernel_rfl) ?_;rcases ee (v9.2 !=0)with bG|bG
 ·replace U:=(dk bG).symm.trans U;refine eK (t:=(v9.2 !=0)) (by kernel_rfl) bG ?_;refine aA ?_;refine rg [] [] (uL v1 v2 [.cells [(ar v9.2)], .cells (fF v6).cells, .cells (cx v7.2.1).cells, .cells [(.d (.sl (bw v9.1)))]]) (by kernel_rfl) ?_;refine cY (c9 ?_);have hr:=aoK U;subst hr;exact gD (by kernel_rfl)
 replace U:=(eu bG).symm.trans U;refine eH (t:=(v9.2 !=0)) (by kernel_rfl) bG ?_;refine dy ?_;refine bE ?_;refine aA ?_;refine aA ?_;obtain⟨v10,bH,U⟩:=cp U;have bq:=na U;replace U:=(dk bq).symm.trans U;obtain⟨v11,cU,U⟩:=cp U;refine ro 2 ck (.node 0 [] (.node 1 [(4,oX c6 (wV (xs:=(v10.map eF)) c6) [(.d (.sl (bw v7.1)))] (uv v1 v2 v6 v7 v9 []) [] (S1 bH))] (.node 2 [] (.node 3 [(10,⟨_,_, .pr (.ap (cd ((v10++v9.1).map eF)) (cd (v9.1.map eF)) (v10.length+v9.1.length) (v10.length+v9.1.length)) (Hd (f:=eF) (h:=(uv v1 v2 v6 v7 v9 [.vec 3 1 (cd (v10.map eF))])) (y:=(.d (.sl (bw v9.1)))) (k:=1) rfl (by rw[<-ny];rfl) (λc hc=>F4 c (by rw[ny];exact hc)) rfl rfl (lW bq (by decide)).1 (lW bq (by decide)).2)⟩)] (.node 4 [(13,oX (wV (xs:=((v10++v9.1).map eF)) c6) (wV (xs:=((v10++v9.1).map eF)) c6) [(.vec 7 0 (v10.length+v9.1.length) (v10.length+v9.1.length) 1),(ar (65536:Int))] (vR v1 v2 v6 v7 v9 v10 []) [7] (aaF cU))] (.node 5 [] .nil .nil) .nil) .nil) .nil) (.node 2 [] (.node 1 [(4,oX c6 (wV (xs:=(v10.map eF)) c6) [(.d (.sl (bw v7.1)))] (uv v1 v2 v6 v7 v9 []) [] (S1 bH))] (.node 3 [(10,⟨_,_, .pr (.ap (cd ((v10++v9.1).map eF)) (cd (v9.1.map eF)) (v10.length+v9.1.length) (v10.length+v9.1.length)) (Hd (f:=eF) (h:=(uv v1 v2 v6 v7 v9 [.vec 3 1 (cd (v10.map eF))])) (y:=(.d (.sl (bw v9.1)))) (k:=1) rfl (by rw[<-ny];rfl) (λc hc=>F4 c (by rw[ny];exact hc)) rfl rfl (lW bq (by decide)).1 (lW bq (by decide)).2)⟩)] (.node 4 [(13,oX (wV (xs:=((v10++v9.1).map eF)) c6) (wV (xs:=((v10++v9.1).map eF)) c6) [(.vec 7 0 (v10.length+v9.1.length) (v10.length+v9.1.length) 1),(ar (65536:Int))] (vR v1 v2 v6 v7 v9 v10 []) [7] (aaF cU))] (.node 5 [] .nil .nil) .nil) .nil) .nil) .nil)) .nil) [(66,(aL (decide (v11>65536))))] (vR v1 v2 v6 v7 v9 v10 []) (by kernel_rfl) ?_
 rcases ee (decide (v11>65536))with cT|cT
 ·replace U:=(dk cT).symm.trans U;refine eK (t:=(decide (v11>65536))) (by kernel_rfl) cT ?_;refine aA ?_;refine rg [] [] (uL v1 v2 [.cells [(ar (2:Int))], .cells (fF v6).cells, .cells (cx v7.2.1).cells, .cells [(.d (.sl (bw v9.1)))], .vec 3 1 (cd ((v10++v9.1).map eF))]) (by kernel_rfl) ?_;refine cY (c9 ?_);have hr:=aoK U;subst hr;exact gD (by kernel_rfl)
 replace U:=(eu cT).symm.trans U;refine eH (t:=(decide (v11>65536))) (by kernel_rfl) cT ?_;refine dy ?_;refine bE ?_;refine aA ?_;refine aA ?_;obtain⟨v12,cQ,U⟩:=cp U;refine rg [(16,cK anF cQ)] [(15,(ar v12))] (vR v1 v2 v6 v7 v9 v10 []) (by kernel_rfl) ?_;refine aA ?_;refine rg [] [(75,(aL (v12 !=0)))] (vR v1 v2 v6 v7 v9 v10 []) (by kernel_rfl) ?_;rcases ee (v12 !=0)with cM|cM
 ·replace U:=(dk cM).symm.trans U;refine eK (t:=(v12 !=0)) (by kernel_rfl) cM ?_;refine aA ?_;refine rg [] [] (uL v1 v2 [.cells [(ar v12)], .cells (fF v6).cells, .cells (cx v7.2.1).cells, .cells [(.d (.sl (bw v9.1)))], .vec 3 1 (cd ((v10++v9.1).map eF))]) (by kernel_rfl) ?_;refine cY (c9 ?_);have hr:=aoK U;subst hr;exact gD (by kernel_rfl)
 replace U:=(eu cM).symm.trans U;refine eH (t:=(v12 !=0)) (by kernel_rfl) cM ?_;refine dy ?_;refine bE ?_;refine aA ?_;obtain⟨aJ,eE,U⟩:=cp U;refine rg [(4,oX c6 (aZ (ep (aZ c6))) [(.d (.sl (aX v3)))] (vR v1 v2 v6 v7 v9 v10 []) [] (zU N v3 aJ eE))] [(16,(.ptr 11 0))] (vR v1 v2 v6 v7 v9 v10 [.cells [(.d (.sl (aX aJ.1)))], .map (bU bW aJ.2), .cells [(.mp 9)], .cells [(.fn 68 [(.ptr 10 0),(.ptr 8 0)])]]) (by kernel_rfl) ?_;refine aA ?_;refine rg [] [(17,(.ptr 12 0))] (R3 v1 v2 v6 v7 v9 v10 aJ []) (by kernel_rfl) ?_;refine aA ?_;refine aA ?_;obtain⟨aH,fJ,U⟩:=cp U;refine rg [(4,oQ [(.d (.sl (bw v7.1)))] (R3 v1 v2 v6 v7 v9 v10 aJ []) [] (TD fJ))] [(85,(.fn 121 [(.bj [[(.sl (bw aH))]] 0 0)]))] (R3 v1 v2 v6 v7 v9 v10 aJ []) (by kernel_rfl) ?_;refine gp ?_;obtain⟨bz,gn,U⟩:=cp U;refine aeg 7 ?_;refine ajw 12 6 58 2 [] rfl (.inr ⟨rfl,rfl⟩) ?_;refine gx [5,8,9,10,14,16,17,85] 14 (aoz rfl) (s':=⟨142,[(5,(.ptr 1 0)),(8,(.ptr 2 0)),(9,(.ptr 3 0)),(10,(.ptr 4 0)),(14,(.ptr 6 0)),(16,(.ptr 11 0)),(17,(.ptr 12 0)),(85,(.fn 121 [(.bj [[(.sl (bw aH))]] 0 0)]))],(L8 v1 v2 v6 v7 v9 aJ [.map (bU bW aJ.2), .cells [(.mp 9)], .cells [(.fn 68 [(.ptr 10 0),(.ptr 8 0)])], .cells [(ar v6.aB.bk),(ar v6.aB.cf),(ar v6.aB.bQ),(ar v6.aB.cq),(ar v6.aB.ct),(.d (.sl (bw v7.1))),(.own 13 (dK []))], .front 58 2 0])⟩) (by kernel_rfl) ?_
 refine vL (m:=14) (enc:=pY) (xs:=bz) (by kernel_rfl) (S6 gn) (λ((bB,cA):(apf aD)×(apf (apg×aT)))=>(DV v1 v2 v6 v7 v9 aJ cA bB [])) (λ((bB,cA):(apf aD)×(apf (apg×aT))) l=>sB N v6 v7 v2 v9 aJ l bB cA=some r) ([],aJ.2) (by kernel_rfl) U (by rintro⟨bB,cA⟩;rfl) (by rintro⟨bB,cA⟩;kernel_rfl) (by kernel_rfl) rfl ?_ ?_
 ·rintro⟨bB,cA⟩ bR cl U gz cw cu
  try dsimp only at U
  rw[sB]at U;refine gx [5,8,9,10,14,16,17,86] 15 (aoC _) (s':=⟨142,[(5,(.ptr 1 0)),(8,(.ptr 2 0)),(9,(.ptr 3 0)),(10,(.ptr 4 0)),(14,(.ptr 6 0)),(16,(.ptr 11 0)),(17,(.ptr 12 0)),(86,(.d (.sl (bw bR))))],(DV v1 v2 v6 v7 v9 aJ cA bB [.lp .ready 86 cw cu (dc 142 [(5,(.ptr 1 0)),(8,(.ptr 2 0)),(9,(.ptr 3 0)),(10,(.ptr 4 0)),(14,(.ptr 6 0)),(16,(.ptr 11 0)),(17,(.ptr 12 0)),(85,(.fn 121 [(.bj [[(.sl (bw aH))]] 0 0)]))])])⟩) (by kernel_rfl) ?_;refine re [] [(18,(.d (.sl (bw bR))))] (DV v1 v2 v6 v7 v9 aJ cA bB [.lp .ready 86 cw cu (dc 142 [(5,(.ptr 1 0)),(8,(.ptr 2 0)),(9,(.ptr 3 0)),(10,(.ptr 4 0)),(14,(.ptr 6 0)),(16,(.ptr 11 0)),(17,(.ptr 12 0)),(85,(.fn 121 [(.bj [[(.sl (bw aH))]] 0 0)]))])]) (by kernel_rfl) ?_;refine bE ?_;refine⟨(DV v1 v2 v6 v7 v9 aJ cA bB []),[],rfl,(by kernel_rfl),?_⟩;refine gx [5,8,9,10,14,16,17,18] 15 (aoz rfl) (s':=⟨142,[(5,(.ptr 1 0)),(8,(.ptr 2 0)),(9,(.ptr 3 0)),(10,(.ptr 4 0)),(14,(.ptr 6 0)),(16,(.ptr 11 0)),(17,(.ptr 12 0)),(18,(.d (.sl (bw bR))))],(R9 v1 v2 v6 v7 v9 aJ cA bB cw cu aH [])⟩) (by kernel_rfl) ?_;refine gp ?_;refine aA ?_;obtain⟨v20,jU,v21,lV,U⟩:=k01 U;refine ro 2 ck (.node 0 [] (.node 1 [] (.node 2 [] (.node 3 [] (.node 4 [] (.node 5 [] (.node 6 [] (.node 7 [(22,cK aar jU)] (.node 8 [(25,oR [(.fn 68 [(.ptr 10 0),(.ptr 8 0)]),(fF v6),(.d (.sl (bw v9.1))),(.d (.sl (aS v20)))] (R9 v1 v2 v6 v7 v9 aJ cA bB cw cu aH []) [10,8,9] (abB N v6 v9.1 v20 aJ.1 cA v21 lV))] (.node 9 [] (.node 10 [] (.node 11 [] (.node 12 [] (.node 13 [] (.node 14 [] .nil .nil) .nil) .nil) .nil) .nil) .nil) (.node 12 [] (.node 8 [(25,oR [(.fn 68 [(.ptr 10 0),(.ptr 8 0)]),(fF v6),(.d (.sl (bw v9.1))),(.d (.sl (aS v20)))] (R9 v1 v2 v6 v7 v9 aJ cA bB cw cu aH [.cells iT]) [10,8,9] (abB N v6 v9.1 v20 aJ.1 cA v21 lV))] (.node 9 [] (.node 10 [] (.node 11 [] (.node 13 [] (.node 14 [] .nil .nil) .nil) .nil) .nil) .nil) .nil) .nil)) .nil) .nil) .nil) .nil) .nil) .nil) .nil) .nil) [(19,(.ptr 15 0)),(20,(ar v21.2.1))] (CU v1 v2 v6 v7 v9 aJ v21 bB cw cu aH [.cells (bu v21.1).cells]) (by kernel_rfl) ?_
  refine aA ?_;refine aA ?_;obtain⟨dV,ig,U⟩:=cp U;refine Ai [(114,(aL dV))] (CU v1 v2 v6 v7 v9 aJ v21 bB cw cu aH [.cells (bu v21.1).cells]) ?_ ?_
  ·rcases ee (v21.2.1==0)with gN|gN
   ·replace ig:=(dk gN).symm.trans ig;rcases ee (v6.dm==5)with gV|gV
    ·replace ig:=(dk gV).symm.trans ig;have od:=na ig;replace ig:=(dk od).symm.trans ig;obtain⟨fA,nM,ig⟩:=cp ig;have he:=aoK ig;subst he;exact⟨[(9,bT gN),(12,bT gN),(15,bT gN),(19,bT gN),(24,bT gV),(27,bT gV),(30,bT gV),(31,oL bR gi),(33,bT gV),(36,bT gV),(37,⟨_,_, .el (xs:=bw bR) (i:=(aQ ((bR.length:Int)-(1:Int)))) (of_decide_eq_true od) (jN nM)⟩),(39,bT gV),(42,bT gV),(46,bT gV)],by kernel_rfl⟩
    replace ig:=(eu gV).symm.trans ig;have he:=aoK ig;subst he;exact⟨[(9,bT gN),(12,bT gN),(15,bT gN),(19,bT gN),(24,bF gV),(27,bF gV),(30,bF gV),(33,bF gV),(36,bF gV),(39,bF gV),(42,bF gV),(46,bF gV)],by kernel_rfl⟩
   replace ig:=(eu gN).symm.trans ig;have he:=aoK ig;subst he;exact⟨[(9,bF gN),(12,bF gN),(15,bF gN),(19,bF gN),(24,bF rfl),(27,bF rfl),(30,bF rfl),(33,bF rfl),(36,bF rfl),(39,bF rfl),(42,bF rfl),(46,bF rfl)],by kernel_rfl⟩
  refine Dd [8,9,17,19,20] 16 (λ((v24,fZ,ft):Int×Int64×Int64)=>⟨142,[(8,(.ptr 2 0)),(9,(.ptr 3 0)),(17,(.ptr 12 0)),(19,(.ptr 15 0)),(20,(ar v24))],(CU v1 v2 v6 v7 v9 aJ v21 bB cw cu aH [.cells [(bC fZ),(bC ft)]])⟩) (λ((v24,fZ,ft):Int×Int64×Int64)=>uH N bB (λcg fi=>sB N v6 v7 v2 v9 aJ cl cg fi) v21 v24 fZ ft=some r) (aoz rfl) ?_ ?_
  ·rcases ee dV with nL|nL
   ·replace U:=(dk nL).symm.trans U;refine eK (t:=dV) (by kernel_rfl) nL ?_;have Kt:=na U;replace U:=(dk Kt).symm.trans U;obtain⟨jQ,E0,v28,FG,U⟩:=k01 U;refine Xj ck (by kernel_rfl) [(19,oL bB lH),(25,⟨_,_, .el (xs:=dK bB) (i:=(aQ ((bB.length:Int)-(1:Int)))) (of_decide_eq_true Kt) (qz E0)⟩),(37,cK aa4 FG)] [(20,(ar v28.2)),(130,(ar v28.2)),(129,(bu v28.1)),(115,(.bg [(bu v28.1),(ar v28.2)])),(128,(.bg [(bu v28.1),(ar v28.2)])),(127,(.full (dK [jQ,v21.1]))),(126,(bu v21.1)),(125,(bu jQ)),(124,(.bj [yH jQ] 0 0)),(123,(ar (aQ ((bB.length:Int)-(1:Int))))),(122,(ar (bB.length:Int))),(121,(.own 13 (dK bB))),(120,(.ptr 12 6)),(119,(.own 13 (dK bB))),(118,(.ptr 12 6)),(117,(cx v6.aB)),(116,(.ptr 4 1))] (CU v1 v2 v6 v7 v9 aJ v21 bB cw cu aH [.cells (bu v28.1).cells]) (by kernel_rfl) ?_;refine bE ?_;exact⟨(v28.2,v28.1.xN,v28.1.xD),by kernel_rfl,U⟩
   replace U:=(eu nL).symm.trans U;refine eH (t:=dV) (by kernel_rfl) nL ?_;refine dy ?_;refine bE ?_;exact⟨(v21.2.1,v21.1.xN,v21.1.xD),by kernel_rfl,U⟩
  rintro⟨v24,fZ,ft⟩ U
  try dsimp only at U
  rw[uH]at U;refine aA ?_;refine aA ?_;refine rg [] [(132,(aL (v24 !=0)))] (CU v1 v2 v6 v7 v9 aJ v21 bB cw cu aH [.cells [(bC fZ),(bC ft)]]) (by kernel_rfl) ?_;rcases ee (v24 !=0)with mC|mC
  ·replace U:=(dk mC).symm.trans U;refine eK (t:=(v24 !=0)) (by kernel_rfl) mC ?_;refine aA ?_;refine rg [] [] (uL v1 v2 [.cells [(ar v24)], .cells (fF v6).cells, .cells (cx v7.2.1).cells, .cells [(.d (.sl (bw v9.1)))], .gone, .cells [(.d (.sl (aX aJ.1)))], .map (bU bW v21.2.2), .cells [(.mp 9)], .cells [(.fn 68 [(.ptr 10 0),(.ptr 8 0)])], .cells [(ar v6.aB.bk),(ar v6.aB.cf),(ar v6.aB.bQ),(ar v6.aB.cq),(ar v6.aB.ct),(.d (.sl (bw v7.1))),(.own 13 (dK bB))], .front 58 2 bB.length, .lp .busy 86 cw cu (dc 142 [(5,(.ptr 1 0)),(8,(.ptr 2 0)),(9,(.ptr 3 0)),(10,(.ptr 4 0)),(14,(.ptr 6 0)),(16,(.ptr 11 0)),(17,(.ptr 12 0)),(85,(.fn 121 [(.bj [[(.sl (bw aH))]] 0 0)]))]), .cells [(bC fZ),(bC ft)]]) (by kernel_rfl) ?_;refine cY (c9 (fa ?_));refine DA [.cells (dU v1).cells, .cells [(.d (.sl (aS v2)))], .cells [(ar (0:Int)),(ar (0:Int)),(ar (0:Int)),(ar (0:Int)),(ar (0:Int)),(.d (.sl (bw []))),(.d (.sl (dK [])))], .cells [(ar v24)], .cells (fF v6).cells, .cells (cx v7.2.1).cells, .cells [(.d (.sl (bw v9.1)))], .gone, .cells [(.d (.sl (aX aJ.1)))], .map (bU bW v21.2.2), .cells [(.mp 9)], .cells [(.fn 68 [(.ptr 10 0),(.ptr 8 0)])], .cells [(ar v6.aB.bk),(ar v6.aB.cf),(ar v6.aB.bQ),(ar v6.aB.cq),(ar v6.aB.ct),(.d (.sl (bw v7.1))),(.own 13 (dK bB))], .front 58 2 bB.length] rfl (by kernel_rfl) (by kernel_rfl) ?_
   refine(fa (c9 ?_));have hr:=aoK U;subst hr;exact gD (by kernel_rfl)
  replace U:=(eu mC).symm.trans U;refine eH (t:=(v24 !=0)) (by kernel_rfl) mC ?_;refine dy ?_;refine bE ?_;have rh:=na U;replace U:=(dk rh).symm.trans U;refine re [(13,oA zl bB ([(⟨fZ,ft⟩:aD)]) rh)] [(140,(.ptr 12 6)),(139,(.own 13 (dK (bB++[(⟨fZ,ft⟩:aD)])))),(138,(.full (dK [(⟨fZ,ft⟩:aD)]))),(137,(.agg [(bC fZ),(bC ft)])),(136,(.own 13 (dK bB))),(135,(.ptr 12 6))] (aad v1 v2 v6 v7 v9 aJ v21 bB fZ ft [.lp .busy 86 cw cu (dc 142 [(5,(.ptr 1 0)),(8,(.ptr 2 0)),(9,(.ptr 3 0)),(10,(.ptr 4 0)),(14,(.ptr 6 0)),(16,(.ptr 11 0)),(17,(.ptr 12 0)),(85,(.fn 121 [(.bj [[(.sl (bw aH))]] 0 0)]))]), .cells [(bC fZ),(bC ft)]]) (by kernel_rfl) ?_;refine iK ?_;refine zQ (aad v1 v2 v6 v7 v9 aJ v21 bB fZ ft []) rfl (by kernel_rfl) (by kernel_rfl) ?_;exact⟨((bB++[(⟨fZ,ft⟩:aD)]),v21.2.2),(by kernel_rfl),U⟩
 rintro⟨bB,cA⟩ U
 try dsimp only at U
 rw[sB]at U;refine iK ?_;refine bE ?_;refine aA ?_;refine rg [] [] [.cells (dU v1).cells, .cells [(.d (.sl (aS v2)))], .cells [(ar v6.aB.bk),(ar v6.aB.cf),(ar v6.aB.bQ),(ar v6.aB.cq),(ar v6.aB.ct),(.d (.sl (bw v7.1))),(.own 13 (dK bB))], .cells [(ar (0:Int))], .cells (fF v6).cells, .cells (cx v7.2.1).cells, .cells [(.d (.sl (bw v9.1)))], .gone, .cells [(.d (.sl (aX aJ.1)))], .map (bU bW cA), .cells [(.mp 9)], .cells [(.fn 68 [(.ptr 10 0),(.ptr 8 0)])], .cells [(ar v6.aB.bk),(ar v6.aB.cf),(ar v6.aB.bQ),(ar v6.aB.cq),(ar v6.aB.ct),(.d (.sl (bw v7.1))),(.own 13 (dK bB))], .front 58 2 bB.length, .gone] (by kernel_rfl) ?_;refine cY ?_;have hr:=aoK U;subst hr;exact gD (by kernel_rfl)
def Eo(N:Nat)(v1:aV)(v2:apf aI):apf bD->Nat->(apf aG)->aph ((apf aG)×Int)
 |[],_,v10=>
  some (v10,(0:Int))
 |v8::v9,v6,v10=>
  Option.bind (Af N v1 v2 v10 (v6:Int)) λv11=>
  bif (v11.2 !=0)then
   some ([],v11.2)
  else
   bif (Nat.ble ((v10.length+1)*104) 140737488355328)then
   (λcg=>Eo N v1 v2 v9 (v6+1) cg) (v10++[(⟨v8.au,v11.1⟩:aG)])
   else none
def EM(N:Nat)(v1:aV)(v2:apf aI)(v3:apf aG):aph ((apf aG)×Int):=
 (C8 N v1 v2).bind λv4=>
 bif (v4 !=0)then
  some ([],v4)
 else
  (DS N v1 v2 v3).bind λv5=>
  bif (v5.2 !=0)then
   some ([],v5.2)
  else
   Eo N v1 v2 v1.aO 0 v5.1
theorem ahK{N v1 v2 v3}:KO 26 [(dU v1),(.d (.sl (aS v2))),(.d (.sl (aX v3)))] (λr=> .bg [(.d (.sl (aX r.1))),(ar r.2)]) (EM N v1 v2 v3):=
 fw Tryz.func26 (ax λv4 J=>gA [[],[(7,cK aiJ J)],[]] (bP λh2=>ax λv5 h3=>gA [[f0 h2],[(10,oX c6 (ajp c6) [(dU v1),(.d (.sl (aS v2))),(.d (.sl (aX v3)))] [.cells (dU v1).cells] [] (ahN h3))],[]] (bP λh4=>gA [[f0 h4],[(7,oL v1.aO nw)]] (gT Fs 32 v1.aO λh6=>gY 1 [] [1,3,9,32,33,34] 2 (λv6(v10:apf aG)=>⟨59,[(1,(.d (.sl (aS v2)))),(3,(.ptr 0 0)),(9,(.own 1 (aX v10))),(32,(.d (.sl (iH v1.aO)))),(33,(ar (v1.aO.length:Int))),(34,(ar (v6:Int)))],[.cells (dU v1).cells, .front 40 8 v10.length]⟩) (λv6 v10 h7 f1=>gR [[],[f0 (cy h7)],[]]) (λv6 v8 v9 v10 h7 f1 aW=>ax λv11 h8=>gA [[],[t0 (cz h7)],[(4,oE (sQ (bI h7)))],[(13,cL (ajh h8))],[]] (bP λh9=>dD λbG=>gb aW (v10++[(⟨v8.au,v11.1⟩:aG)]) [[f0 h9],[(19,oA vq v10 ([(⟨v8.au,v11.1⟩:aG)]) bG)],[(2,oq (cF h7 rfl h6))]] h7))))))
def Kv(N:Nat)(v4:(apf aG)×Int):apf apg->Nat->(apf aG)->aph ((apf aG)×Int)
 |[],_,v9=>
  some (v9,(0:Int))
 |v7::v8,v5,v9=>
  (uK N v4.1 v7).bind λv10=>
  (Gm N v10.1).bind λv11=>
  bif (Nat.ble ((v9.length+1)*104) 140737488355328)then
  (λcg=>Kv N v4 v8 (v5+1) cg) (v9++[(⟨v7,v11⟩:aG)])
  else none
def mz(N:Nat)(v1:aV)(v2:apf aI)(v3:apf aG):aph ((apf aG)×Int):=
 (EM N v1 v2 v3).bind λv4=>
 bif (v4.2 !=0)then
  some ([],v4.2)
 else
  Kv N v4 v1.di 0 []
theorem NB{N v1 v2 v3}:KO 10 [(dU v1),(.d (.sl (aS v2))),(.d (.sl (aX v3)))] (λr=> .bg [(.d (.sl (aX r.1))),(ar r.2)]) (mz N v1 v2 v3):=
 fw Tryz.func10 (ax λv4 J=>gA [[],[(10,cK ahK J)],[]] (bP λh2=>gA [[f0 h2],[],[(7,oL v1.di jX)]] (li (λ_=>(sK 10 40 8 [] (.inr (by kernel_rfl)) ·)) (gT sk 26 v1.di λh4=>gY 1 [] [8,10,26,27,28] 2 (λv5(v9:apf aG)=>⟨47,[(8,(.d (.sl (aX v4.1)))),(10,(.own 1 (aX v9))),(26,(.d (.sl (dS v1.di)))),(27,(ar (v1.di.length:Int))),(28,(ar (v5:Int)))],[.cells (dU v1).cells, .front 40 8 v9.length]⟩) (λv5 v9 h5 f1=>gR [[],[f0 (cy h5)],[]]) (λv5 v7 v8 v9 h5 f1 aW=>ax λv10 h6=>ax λv11 h7=>dD λh8=>gb aW (v9++[(⟨v7,v11⟩:aG)]) [[],[t0 (cz h5)],[(1,oE (tg (bI h5)))],[(7,cK Hb h6)],[(10,cK Yz h7),(19,oA vq v9 ([(⟨v7,v11⟩:aG)]) h8)],[(2,oq (cF h5 rfl h4))]] h5)))))
def Mm(N:Nat)(v1:apf aG)(v2:apf aI)(v3:aw):aph (aD×aM×Int):=
 (zn N v3).bind λv4=>
 bif (v4 !=0)then
  some (cH,dY,v4)
 else
  (Bg N v3).bind λv5=>
  bif v5 then
   some (cH,dY,(10:Int))
  else
   (Gv N v1).bind λv6=>
   (wm N v2 v6.1 v6.2).bind λv7=>
   (BM N v3 v7 v6.1 v6.2).bind λv8=>
   bif (v8.2.1 !=0)then
    some (cH,dY,v8.2.1)
   else
    some (v8.1.yVal,v8.1.fv,(0:Int))
def mN(v3:aw)(l:apf aq):apf aq:= .cells (aP v3).cells:: .cells iT:: .cells x9::l
def Gb(v3:aw)(v6:(apf aG)×(apf (apg×aT)))(l:apf aq):apf aq:=mN v3 (.cells [(.d (.sl (aX v6.1)))]:: .map (bU bW v6.2):: .cells [(.mp 4)]:: .cells dp::l)
def B9(v3:aw)(v6:(apf aG)×(apf (apg×aT)))(l:apf aq):apf aq:=mN v3 (.cells dp:: .cells [(.d (.sl (aX v6.1)))]:: .map (bU bW v6.2):: .cells [(.mp 5)]::l)
def Ly(v3:aw)(v6:(apf aG)×(apf (apg×aT)))(v7:(apf aI))(l:apf aq):apf aq:=mN v3 (.cells [(.d (.sl (aX v6.1)))]:: .map (bU bW v6.2):: .cells [(.mp 4)]:: .cells [(.fn 68 [(.ptr 5 0),(.ptr 3 0)])]:: .cells [(.d (.sl (aS v7)))]:: .cells [(.fn 65 [(.ptr 6 0),(.ptr 7 0),(.ptr 9 0)]),(.fn 63 [(.ptr 9 0)])]:: .cells [(.ptr 8 0)]::l)
def JT(v3:aw)(v6:(apf aG)×(apf (apg×aT)))(v7:(apf aI))(l:apf aq):apf aq:=Gb v3 v6 (.cells [(.fn 68 [(.ptr 5 0),(.ptr 3 0)])]:: .cells [(.d (.sl (aS v7)))]:: .cells [(.fn 65 [(.ptr 7 0),(.ptr 8 0),(.ptr 10 0)]),(.fn 63 [(.ptr 10 0)])]:: .cells [(.ptr 9 0)]::l)
def Gz(v3:aw)(v6:(apf aG)×(apf (apg×aT)))(v7:(apf aI))(l:apf aq):apf aq:=B9 v3 v6 (.cells [(.fn 68 [(.ptr 6 0),(.ptr 4 0)])]:: .cells [(.d (.sl (aS v7)))]:: .cells [(.fn 65 [(.ptr 7 0),(.ptr 8 0),(.ptr 10 0)]),(.fn 63 [(.ptr 10 0)])]:: .cells [(.ptr 9 0)]::l)
def O8(v3:aw)(v6:(apf aG)×(apf (apg×aT)))(v8:eX×Int×(apf (apg×aT)))(v7:(apf aI))(l:apf aq):apf aq:=mN v3 (.cells [(.d (.sl (aX v6.1)))]:: .map (bU bW v8.2.2):: .cells [(.mp 4)]:: .cells [(.fn 68 [(.ptr 5 0),(.ptr 3 0)])]:: .cells [(.d (.sl (aS v7)))]:: .cells [(.fn 65 [(.ptr 6 0),(.ptr 7 0),(.ptr 9 0)]),(.fn 63 [(.ptr 9 0)])]:: .cells [(.ptr 8 0)]:: .cells (dC v8.1).cells::l)
def Ry(v3:aw)(l:apf aq):apf aq:=mN v3 (.cells dp::l)
def RQ(v3:aw)(v6:(apf aG)×(apf (apg×aT)))(v7:(apf aI))(l:apf aq):apf aq:=Ly v3 v6 v7 (.cells dp::l)
def O1(v3:aw)(v6:(apf aG)×(apf (apg×aT)))(l:apf aq):apf aq:=mN v3 (.cells [(.d (.sl (aX v6.1)))]:: .map (bU bW v6.2):: .cells [(.mp 4)]::l)
theorem Xp{N v1 v2 v3 r}(U:Mm N v1 v2 v3=some r):KF 24 [(.d (.sl (aX v1))),(.d (.sl (aS v2))),(aP v3)] (.bg [(bu r.1),(cx r.2.1),(ar r.2.2)]):=by
 rw[Mm]at U;refine ru Tryz.func24 rfl (by kernel_rfl) ?_;refine gx [0,1,2] 0 (aoC _) (s':=⟨44,[(0,(.d (.sl (aX v1)))),(1,(.d (.sl (aS v2)))),(2,(aP v3))],[]⟩) (by kernel_rfl) ?_;refine aA ?_;refine rg [] [(5,(.ptr 0 0)),(6,(.ptr 1 0)),(7,(.ptr 2 0))] (mN v3 []) (by kernel_rfl) ?_;refine aA ?_;refine aA ?_;obtain⟨v4,J,U⟩:=cp U;refine rg [(4,cL (TC J))] [(9,(ar v4))] (mN v3 []) (by kernel_rfl) ?_;refine aA ?_;refine rg [] [(15,(aL (v4 !=0)))] (mN v3 []) (by kernel_rfl) ?_;rcases ee (v4 !=0)with h2|h2
 ·replace U:=(dk h2).symm.trans U;refine eK (t:=(v4 !=0)) (by kernel_rfl) h2 ?_;refine aA ?_;refine rg [] [(8,(ar v4))] (mN v3 []) (by kernel_rfl) ?_;refine cY (c9 ?_);have hr:=aoK U;subst hr;exact gD (by kernel_rfl)
 replace U:=(eu h2).symm.trans U;refine eH (t:=(v4 !=0)) (by kernel_rfl) h2 ?_;refine dy ?_;refine bE ?_;refine aA ?_;refine aA ?_;obtain⟨v5,h3,U⟩:=cp U;refine rg [(4,cK Ps h3)] [(20,(aL v5))] (mN v3 []) (by kernel_rfl) ?_;rcases ee v5 with h4|h4
 ·replace U:=(dk h4).symm.trans U;refine eK (t:=v5) (by kernel_rfl) h4 ?_;refine aA ?_;refine rg [] [(8,(ar (10:Int)))] (mN v3 []) (by kernel_rfl) ?_;refine cY (c9 ?_);have hr:=aoK U;subst hr;exact gD (by kernel_rfl)
 replace U:=(eu h4).symm.trans U;refine eH (t:=v5) (by kernel_rfl) h4 ?_;refine dy ?_;refine bE ?_;refine aA ?_;obtain⟨v6,h5,v7,h6,U⟩:=k01 U;obtain⟨v8,h7,U⟩:=cp U;refine ro 14 ck (.node 0 [] (.node 2 [] (.node 1 [(4,oX c6 (aZ (ep (aZ c6))) [(.d (.sl (aX v1)))] (mN v3 []) [] (zU N v1 v6 h5))] (.node 3 [(10,oX (aZ (aZ (ep c6))) (aZ (aZ (ep (aZ (aZ (aZ (aZ c6))))))) [(.fn 68 [(.ptr 5 0),(.ptr 3 0)]),(.d (.sl (aS v2)))] (O1 v3 v6 []) [5,3,4] (jK h6))] (.node 4 [] (.node 5 [] (.node 6 [] (.node 7 [] (.node 8 [(25,oR [(aP v3),(.ptr 6 0),(.ptr 7 0),(.ptr 9 0)] (Ly v3 v6 v7 []) [6,7,9,5,3,8,4] (gZ N v3 v7 v6.1 v6.2 v8 h7))] (.node 9 [] (.node 10 [] (.node 11 [] (.node 12 [] (.node 13 [] (.node 14 [] .nil .nil) .nil) .nil) .nil) .nil) .nil) (.node 12 [] (.node 8 [(25,oR [(aP v3),(.ptr 6 0),(.ptr 7 0),(.ptr 9 0)] (RQ v3 v6 v7 []) [6,7,9,5,3,8,4] (gZ N v3 v7 v6.1 v6.2 v8 h7))] (.node 9 [] (.node 10 [] (.node 11 [] (.node 13 [] (.node 14 [] .nil .nil) .nil) .nil) .nil) .nil) .nil) .nil)) .nil) .nil) .nil) .nil) (.node 7 [] (.node 3 [(10,oX (aZ (aZ (ep c6))) (aZ (aZ (ep (aZ (aZ (aZ (aZ c6))))))) [(.fn 68 [(.ptr 5 0),(.ptr 3 0)]),(.d (.sl (aS v2)))] (O1 v3 v6 []) [5,3,4] (jK h6))] (.node 4 [] (.node 5 [] (.node 6 [] (.node 8 [(25,oR [(aP v3),(.ptr 6 0),(.ptr 7 0),(.ptr 9 0)] (Ly v3 v6 v7 []) [6,7,9,5,3,8,4] (gZ N v3 v7 v6.1 v6.2 v8 h7))] (.node 9 [] (.node 10 [] (.node 11 [] (.node 12 [] (.node 13 [] (.node 14 [] .nil .nil) .nil) .nil) .nil) .nil) .nil) (.node 12 [] (.node 8 [(25,oR [(aP v3),(.ptr 6 0),(.ptr 7 0),(.ptr 9 0)] (RQ v3 v6 v7 []) [6,7,9,5,3,8,4] (gZ N v3 v7 v6.1 v6.2 v8 h7))] (.node 9 [] (.node 10 [] (.node 11 [] (.node 13 [] (.node 14 [] .nil .nil) .nil) .nil) .nil) .nil) .nil) .nil)) .nil) .nil) .nil) (.node 12 [] (.node 3 [(10,oX (aZ (aZ (ep c6))) (aZ (aZ (ep (aZ (aZ (aZ (aZ c6))))))) [(.fn 68 [(.ptr 5 0),(.ptr 3 0)]),(.d (.sl (aS v2)))] (Gb v3 v6 []) [5,3,4] (jK h6))] (.node 4 [] (.node 5 [] (.node 6 [] (.node 8 [(25,oR [(aP v3),(.ptr 7 0),(.ptr 8 0),(.ptr 10 0)] (JT v3 v6 v7 []) [7,8,10,5,3,9,4] (gZ N v3 v7 v6.1 v6.2 v8 h7))] (.node 9 [] (.node 10 [] (.node 11 [] (.node 13 [] (.node 14 [] .nil .nil) .nil) .nil) .nil) .nil) .nil) .nil) .nil) .nil) .nil) .nil)) (.node 12 [] (.node 3 [(10,oX (aZ (aZ (ep c6))) (aZ (aZ (ep (aZ (aZ (aZ (aZ c6))))))) [(.fn 68 [(.ptr 5 0),(.ptr 3 0)]),(.d (.sl (aS v2)))] (Gb v3 v6 []) [5,3,4] (jK h6))] (.node 4 [] (.node 5 [] (.node 6 [] (.node 7 [] (.node 8 [(25,oR [(aP v3),(.ptr 7 0),(.ptr 8 0),(.ptr 10 0)] (JT v3 v6 v7 []) [7,8,10,5,3,9,4] (gZ N v3 v7 v6.1 v6.2 v8 h7))] (.node 9 [] (.node 10 [] (.node 11 [] (.node 13 [] (.node 14 [] .nil .nil) .nil) .nil) .nil) .nil) .nil) .nil) .nil) .nil) .nil) (.node 7 [] (.node 3 [(10,oX (aZ (aZ (ep c6))) (aZ (aZ (ep (aZ (aZ (aZ (aZ c6))))))) [(.fn 68 [(.ptr 5 0),(.ptr 3 0)]),(.d (.sl (aS v2)))] (Gb v3 v6 []) [5,3,4] (jK h6))] (.node 4 [] (.node 5 [] (.node 6 [] (.node 8 [(25,oR [(aP v3),(.ptr 7 0),(.ptr 8 0),(.ptr 10 0)] (JT v3 v6 v7 []) [7,8,10,5,3,9,4] (gZ N v3 v7 v6.1 v6.2 v8 h7))] (.node 9 [] (.node 10 [] (.node 11 [] (.node 13 [] (.node 14 [] .nil .nil) .nil) .nil) .nil) .nil) .nil) .nil) .nil) .nil) .nil) .nil)) .nil))) (.node 7 [] (.node 1 [(4,oX c6 (aZ (ep (aZ c6))) [(.d (.sl (aX v1)))] (mN v3 []) [] (zU N v1 v6 h5))] (.node 3 [(10,oX (aZ (aZ (ep c6))) (aZ (aZ (ep (aZ (aZ (aZ (aZ c6))))))) [(.fn 68 [(.ptr 5 0),(.ptr 3 0)]),(.d (.sl (aS v2)))] (O1 v3 v6 []) [5,3,4] (jK h6))] (.node 4 [] (.node 5 [] (.node 6 [] (.node 8 [(25,oR [(aP v3),(.ptr 6 0),(.ptr 7 0),(.ptr 9 0)] (Ly v3 v6 v7 []) [6,7,9,5,3,8,4] (gZ N v3 v7 v6.1 v6.2 v8 h7))] (.node 9 [] (.node 10 [] (.node 11 [] (.node 12 [] (.node 13 [] (.node 14 [] .nil .nil) .nil) .nil) .nil) .nil) .nil) (.node 12 [] (.node 8 [(25,oR [(aP v3),(.ptr 6 0),(.ptr 7 0),(.ptr 9 0)] (RQ v3 v6 v7 []) [6,7,9,5,3,8,4] (gZ N v3 v7 v6.1 v6.2 v8 h7))] (.node 9 [] (.node 10 [] (.node 11 [] (.node 13 [] (.node 14 [] .nil .nil) .nil) .nil) .nil) .nil) .nil) .nil)) .nil) .nil) .nil) (.node 12 [] (.node 3 [(10,oX (aZ (aZ (ep c6))) (aZ (aZ (ep (aZ (aZ (aZ (aZ c6))))))) [(.fn 68 [(.ptr 5 0),(.ptr 3 0)]),(.d (.sl (aS v2)))] (Gb v3 v6 []) [5,3,4] (jK h6))] (.node 4 [] (.node 5 [] (.node 6 [] (.node 8 [(25,oR [(aP v3),(.ptr 7 0),(.ptr 8 0),(.ptr 10 0)] (JT v3 v6 v7 []) [7,8,10,5,3,9,4] (gZ N v3 v7 v6.1 v6.2 v8 h7))] (.node 9 [] (.node 10 [] (.node 11 [] (.node 13 [] (.node 14 [] .nil .nil) .nil) .nil) .nil) .nil) .nil) .nil) .nil) .nil) .nil) .nil)) (.node 12 [] (.node 1 [(4,oX c6 (aZ (ep (aZ c6))) [(.d (.sl (aX v1)))] (Ry v3 []) [] (zU N v1 v6 h5))] (.node 3 [(10,oX (aZ (aZ (ep c6))) (aZ (aZ (ep (aZ (aZ (aZ (aZ c6))))))) [(.fn 68 [(.ptr 6 0),(.ptr 4 0)]),(.d (.sl (aS v2)))] (B9 v3 v6 []) [6,4,5] (jK h6))] (.node 4 [] (.node 5 [] (.node 6 [] (.node 8 [(25,oR [(aP v3),(.ptr 7 0),(.ptr 8 0),(.ptr 10 0)] (Gz v3 v6 v7 []) [7,8,10,6,4,9,5] (gZ N v3 v7 v6.1 v6.2 v8 h7))] (.node 9 [] (.node 10 [] (.node 11 [] (.node 13 [] (.node 14 [] .nil .nil) .nil) .nil) .nil) .nil) .nil) .nil) .nil) .nil) .nil) .nil) .nil)) (.node 12 [] (.node 1 [(4,oX c6 (aZ (ep (aZ c6))) [(.d (.sl (aX v1)))] (Ry v3 []) [] (zU N v1 v6 h5))] (.node 3 [(10,oX (aZ (aZ (ep c6))) (aZ (aZ (ep (aZ (aZ (aZ (aZ c6))))))) [(.fn 68 [(.ptr 6 0),(.ptr 4 0)]),(.d (.sl (aS v2)))] (B9 v3 v6 []) [6,4,5] (jK h6))] (.node 4 [] (.node 5 [] (.node 6 [] (.node 7 [] (.node 8 [(25,oR [(aP v3),(.ptr 7 0),(.ptr 8 0),(.ptr 10 0)] (Gz v3 v6 v7 []) [7,8,10,6,4,9,5] (gZ N v3 v7 v6.1 v6.2 v8 h7))] (.node 9 [] (.node 10 [] (.node 11 [] (.node 13 [] (.node 14 [] .nil .nil) .nil) .nil) .nil) .nil) .nil) .nil) .nil) .nil) .nil) (.node 7 [] (.node 3 [(10,oX (aZ (aZ (ep c6))) (aZ (aZ (ep (aZ (aZ (aZ (aZ c6))))))) [(.fn 68 [(.ptr 6 0),(.ptr 4 0)]),(.d (.sl (aS v2)))] (B9 v3 v6 []) [6,4,5] (jK h6))] (.node 4 [] (.node 5 [] (.node 6 [] (.node 8 [(25,oR [(aP v3),(.ptr 7 0),(.ptr 8 0),(.ptr 10 0)] (Gz v3 v6 v7 []) [7,8,10,6,4,9,5] (gZ N v3 v7 v6.1 v6.2 v8 h7))] (.node 9 [] (.node 10 [] (.node 11 [] (.node 13 [] (.node 14 [] .nil .nil) .nil) .nil) .nil) .nil) .nil) .nil) .nil) .nil) .nil) .nil)) (.node 7 [] (.node 1 [(4,oX c6 (aZ (ep (aZ c6))) [(.d (.sl (aX v1)))] (Ry v3 []) [] (zU N v1 v6 h5))] (.node 3 [(10,oX (aZ (aZ (ep c6))) (aZ (aZ (ep (aZ (aZ (aZ (aZ c6))))))) [(.fn 68 [(.ptr 6 0),(.ptr 4 0)]),(.d (.sl (aS v2)))] (B9 v3 v6 []) [6,4,5] (jK h6))] (.node 4 [] (.node 5 [] (.node 6 [] (.node 8 [(25,oR [(aP v3),(.ptr 7 0),(.ptr 8 0),(.ptr 10 0)] (Gz v3 v6 v7 []) [7,8,10,6,4,9,5] (gZ N v3 v7 v6.1 v6.2 v8 h7))] (.node 9 [] (.node 10 [] (.node 11 [] (.node 13 [] (.node 14 [] .nil .nil) .nil) .nil) .nil) .nil) .nil) .nil) .nil) .nil) .nil) .nil) .nil)) .nil))) .nil) .nil) [(10,(.ptr 10 0)),(11,(ar v8.2.1))] (O8 v3 v6 v8 v7 []) (by kernel_rfl) ?_
 refine aA ?_;refine aA ?_;refine rg [] [(36,(aL (v8.2.1 !=0)))] (O8 v3 v6 v8 v7 []) (by kernel_rfl) ?_;rcases ee (v8.2.1 !=0)with h8|h8
 ·replace U:=(dk h8).symm.trans U;refine eK (t:=(v8.2.1 !=0)) (by kernel_rfl) h8 ?_;refine aA ?_;refine rg [] [(8,(ar v8.2.1))] (O8 v3 v6 v8 v7 []) (by kernel_rfl) ?_;refine cY (c9 ?_);have hr:=aoK U;subst hr;exact gD (by kernel_rfl)
 replace U:=(eu h8).symm.trans U;refine eH (t:=(v8.2.1 !=0)) (by kernel_rfl) h8 ?_;refine dy ?_;refine bE ?_;refine aA ?_;refine rt 2 ck [] [(8,(ar (0:Int)))] [.cells (aP v3).cells, .cells (bu v8.1.yVal).cells, .cells (cx v8.1.fv).cells, .cells [(.d (.sl (aX v6.1)))], .map (bU bW v8.2.2), .cells [(.mp 4)], .cells [(.fn 68 [(.ptr 5 0),(.ptr 3 0)])], .cells [(.d (.sl (aS v7)))], .cells [(.fn 65 [(.ptr 6 0),(.ptr 7 0),(.ptr 9 0)]),(.fn 63 [(.ptr 9 0)])], .cells [(.ptr 8 0)], .cells (dC v8.1).cells] (by kernel_rfl) ?_;refine cY ?_;have hr:=aoK U;subst hr;exact gD (by kernel_rfl)
def KS(N:Nat)(v2:apf aD):apf aD->Nat->aph Bool
 |[],_=>
  some true
 |v5::v6,v3=>
  Option.bind (v2[((v3:Int)).toNat]?) λv7=>
  bif ((v5.xN.toInt==v7.xN.toInt)&&((v5.xD.toInt==v7.xD.toInt)&&true))then
   (KS N v2 v6 (v3+1))
  else
   some false
def EO(N:Nat)(v1:apf aD)(v2:apf aD):aph Bool:=
 bif ((v1.length:Int) !=(v2.length:Int))then
  some false
 else
  KS N v2 v1 0
theorem Zv{N v1 v2}:KO 25 [(.d (.sl (dK v1))),(.d (.sl (dK v2)))] aL (EO N v1 v2):=
 fw Tryz.func25 (gA [[],[(4,oL v1 lH),(10,oL v2 lH)]] (jJ λ_=>gT zl 0 v1 λh3=>ff 1 [] [0,1,5] 0 (λv3=>⟨26,[(0,(.d (.sl (dK v1)))),(1,(.d (.sl (dK v2)))),(5,(ar (v3:Int)))],[]⟩) (λv3 h4 f1=>gR [[(7,oL v1 lH)],[f0 (cy h4)],[]]) (λv3 v5 v6 h4 f1 aW=>ax λv7 h5=>gA [[(7,oL v1 lH)],[t0 (cz h4)],[(7,oE (qz (bI h4))),(19,oE (qz h5))]] (lS λh7=>gb aW () [[f0 (dH h7)],[(5,oq (cF h4 rfl h3))]] h4))))
def w8(N:Nat):aph Bool:=
 Option.bind (mz N (⟨[(bs [110])],[],[(⟨(bs [97]),(⟨(1:Int),(0:Int),(0:Int),(0:Int),(0:Int)⟩:aM),[(⟨(0:Int64),[(⟨(bs [110]),(1:Int64)⟩:dw)]⟩:bp)]⟩:dX)],[(⟨(bs [115]),(⟨(1:Int),(0:Int),(0:Int),(0:Int),(0:Int)⟩:aM),[],[(⟨(bs [105]),(⟨(0:Int64),[(⟨(bs [110]),(1:Int64)⟩:dw)]⟩:bp)⟩:dg)],(1:Int),(⟨(3:Int),(bs [97]),cH,dY,kK,[(⟨(⟨(0:Int64),[(⟨(bs [105]),(1:Int64)⟩:dw)]⟩:bp),(bs []),[]⟩:cJ)],[]⟩:aw)⟩:bD)],[(bs [115])]⟩:aV) ([(⟨(bs [110]),(3:Int64)⟩:aI)]) ([(⟨(bs [97]),(⟨(⟨(1:Int),(0:Int),(0:Int),(0:Int),(0:Int)⟩:aM),[(3:Int)],[(⟨(1:Int64),(2:Int64)⟩:aD),(⟨(1:Int64),(3:Int64)⟩:aD),(⟨(1:Int64),(6:Int64)⟩:aD)]⟩:aT)⟩:aG)])) λv1=>
 Option.bind (Mm N ([(⟨(bs [97]),(⟨(⟨(1:Int),(0:Int),(0:Int),(0:Int),(0:Int)⟩:aM),[(3:Int)],[(⟨(1:Int64),(2:Int64)⟩:aD),(⟨(1:Int64),(3:Int64)⟩:aD),(⟨(1:Int64),(6:Int64)⟩:aD)]⟩:aT)⟩:aG),(⟨(bs [98]),(⟨(⟨(3:Int),(0:Int),(0:Int),(0:Int),(0:Int)⟩:aM),[(1:Int)],[(⟨(7:Int64),(1:Int64)⟩:aD)]⟩:aT)⟩:aG)]) [] (⟨(3:Int),(bs [97]),cH,dY,kK,[(⟨kK,(bs [98]),[kK]⟩:cJ)],[]⟩:aw)) λv2=>
 Option.bind (Mm N [] ([(⟨(bs [105]),(0:Int64)⟩:aI)]) (⟨(11:Int),(bs []),cH,dY,kK,[],[(⟨(13:Int),(bs []),cH,dY,kK,[],[(⟨(2:Int),(bs []),cH,dY,(⟨(0:Int64),[(⟨(bs [105]),(1:Int64)⟩:dw)]⟩:bp),[],[]⟩:aw),(⟨(2:Int),(bs []),cH,dY,(⟨(1:Int64),[]⟩:bp),[],[]⟩:aw)]⟩:aw),(⟨(1:Int),(bs []),(⟨(1:Int64),(1:Int64)⟩:aD),(⟨(1:Int),(0:Int),(0:Int),(0:Int),(0:Int)⟩:aM),kK,[],[]⟩:aw),(⟨(7:Int),(bs []),cH,dY,kK,[],[(⟨(1:Int),(bs []),(⟨(1:Int64),(1:Int64)⟩:aD),(⟨(1:Int),(0:Int),(0:Int),(0:Int),(0:Int)⟩:aM),kK,[],[]⟩:aw),(⟨(1:Int),(bs []),(⟨(0:Int64),(1:Int64)⟩:aD),(⟨(1:Int),(0:Int),(0:Int),(0:Int),(0:Int)⟩:aM),kK,[],[]⟩:aw)]⟩:aw)]⟩:aw)) λv3=>
 Option.bind (bif (v1.2==0)then(bif ((v1.1.length:Int)==1)then Option.bind (v1.1[0]?) λv4=>
 Option.bind (EO N v4.fb.eI ([(⟨(1:Int64),(1:Int64)⟩:aD)])) λv5=>
 (bif v5 then(bif (v2.2.2==0)then(bif ((v2.1.xN.toInt==(1:Int64).toInt)&&((v2.1.xD.toInt==(6:Int64).toInt)&&true))then(bif ((v2.2.1.bk==1)&&((v2.2.1.cf==0)&&((v2.2.1.bQ==0)&&((v2.2.1.cq==0)&&((v2.2.1.ct==0)&&true)))))then(bif (v3.2.2==0)then some ((v3.1.xN.toInt==(1:Int64).toInt)&&((v3.1.xD.toInt==(1:Int64).toInt)&&true))else some false)else some false)else some false)else some false)else some false)else some false)else some false) λv6=>
 some v6
theorem Lt{N}:KO 9 [] aL (w8 N):=
 fw Tryz.func9 (ax λv1 J=>ax λv2 h2=>ax λv3 h3=>gA [[],[],[],[],[],[],[],[],[(16,cK NB J)],[(25,cL (Xp h2))],[],[],[(14,⟨_,_, .eq (congrArg AV.full (pI [(⟨(2:Int),(bs []),cH,dY,(⟨(0:Int64),[(⟨(bs [105]),(1:Int64)⟩:dw)]⟩:bp),[],[]⟩:aw),(⟨(2:Int),(bs []),cH,dY,(⟨(1:Int64),[]⟩:bp),[],[]⟩:aw)]).symm)⟩)],[(20,⟨_,_, .eq (congrArg AV.full (pI [(⟨(1:Int),(bs []),(⟨(1:Int64),(1:Int64)⟩:aD),(⟨(1:Int),(0:Int),(0:Int),(0:Int),(0:Int)⟩:aM),kK,[],[]⟩:aw),(⟨(1:Int),(bs []),(⟨(0:Int64),(1:Int64)⟩:aD),(⟨(1:Int),(0:Int),(0:Int),(0:Int),(0:Int)⟩:aM),kK,[],[]⟩:aw)]).symm)⟩),(26,⟨_,_, .eq (congrArg AV.full (pI [(⟨(13:Int),(bs []),cH,dY,kK,[],[(⟨(2:Int),(bs []),cH,dY,(⟨(0:Int64),[(⟨(bs [105]),(1:Int64)⟩:dw)]⟩:bp),[],[]⟩:aw),(⟨(2:Int),(bs []),cH,dY,(⟨(1:Int64),[]⟩:bp),[],[]⟩:aw)]⟩:aw),(⟨(1:Int),(bs []),(⟨(1:Int64),(1:Int64)⟩:aD),(⟨(1:Int),(0:Int),(0:Int),(0:Int),(0:Int)⟩:aM),kK,[],[]⟩:aw),(⟨(7:Int),(bs []),cH,dY,kK,[],[(⟨(1:Int),(bs []),(⟨(1:Int64),(1:Int64)⟩:aD),(⟨(1:Int),(0:Int),(0:Int),(0:Int),(0:Int)⟩:aM),kK,[],[]⟩:aw),(⟨(1:Int),(bs []),(⟨(0:Int64),(1:Int64)⟩:aD),(⟨(1:Int),(0:Int),(0:Int),(0:Int),(0:Int)⟩:aM),kK,[],[]⟩:aw)]⟩:aw)]).symm)⟩),(31,cL (Xp h3))]] (gG (λv6=>[(0,(aL v6))]) (λ_=>[.cells [(ar (1:Int)),(ar (0:Int)),(ar (0:Int)),(ar (0:Int)),(ar (0:Int))], .cells [(ar (3:Int)),(ar (0:Int)),(ar (0:Int)),(ar (0:Int)),(ar (0:Int))], .cells [(bC (0:Int64)),(.full (gv [(⟨(bs [110]),(1:Int64)⟩:dw)]))], .cells [(bC (0:Int64)),(.full (gv [(⟨(bs [105]),(1:Int64)⟩:dw)]))], .cells [(dq (bs [115])),(ar (1:Int)),(ar (0:Int)),(ar (0:Int)),(ar (0:Int)),(ar (0:Int)),(.d (.v (.slice none 0 0))),(.full (hJ [(⟨(bs [105]),(⟨(0:Int64),[(⟨(bs [110]),(1:Int64)⟩:dw)]⟩:bp)⟩:dg)])),(ar (1:Int)),(ar (3:Int)),(dq (bs [97])),(bC (0:Int64)),(bC (0:Int64)),(ar (0:Int)),(ar (0:Int)),(ar (0:Int)),(ar (0:Int)),(ar (0:Int)),(bC (0:Int64)),(.d (.v (.slice none 0 0))),(.full (eQ [(⟨(⟨(0:Int64),[(⟨(bs [105]),(1:Int64)⟩:dw)]⟩:bp),(bs []),[]⟩:cJ)])),(.d (.v (.slice none 0 0)))], .cells [(.full (dS [(bs [110])])),(.d (.v (.slice none 0 0))),(.full (ko [(⟨(bs [97]),(⟨(1:Int),(0:Int),(0:Int),(0:Int),(0:Int)⟩:aM),[(⟨(0:Int64),[(⟨(bs [110]),(1:Int64)⟩:dw)]⟩:bp)]⟩:dX)])),(.full (iH [(⟨(bs [115]),(⟨(1:Int),(0:Int),(0:Int),(0:Int),(0:Int)⟩:aM),[],[(⟨(bs [105]),(⟨(0:Int64),[(⟨(bs [110]),(1:Int64)⟩:dw)]⟩:bp)⟩:dg)],(1:Int),(⟨(3:Int),(bs [97]),cH,dY,kK,[(⟨(⟨(0:Int64),[(⟨(bs [105]),(1:Int64)⟩:dw)]⟩:bp),(bs []),[]⟩:cJ)],[]⟩:aw)⟩:bD)])),(.full (dS [(bs [115])]))], .cells [(dq (bs [97])),(ar (1:Int)),(ar (0:Int)),(ar (0:Int)),(ar (0:Int)),(ar (0:Int)),(.full (bw [(3:Int)])),(.full (dK [(⟨(1:Int64),(2:Int64)⟩:aD),(⟨(1:Int64),(3:Int64)⟩:aD),(⟨(1:Int64),(6:Int64)⟩:aD)]))], .cells [(dq (bs [98])),(ar (3:Int)),(ar (0:Int)),(ar (0:Int)),(ar (0:Int)),(ar (0:Int)),(.full (bw [(1:Int)])),(.full (dK [(⟨(7:Int64),(1:Int64)⟩:aD)]))], .cells (bu v2.1).cells, .cells (cx v2.2.1).cells, .cells [(ar (1:Int)),(dq (bs [])),(bC (1:Int64)),(bC (1:Int64)),(ar (1:Int)),(ar (0:Int)),(ar (0:Int)),(ar (0:Int)),(ar (0:Int)),(bC (0:Int64)),(.d (.v (.slice none 0 0))),(.d (.v (.slice none 0 0))),(.d (.v (.slice none 0 0)))], .cells [(ar (1:Int)),(dq (bs [])),(bC (0:Int64)),(bC (1:Int64)),(ar (1:Int)),(ar (0:Int)),(ar (0:Int)),(ar (0:Int)),(ar (0:Int)),(bC (0:Int64)),(.d (.v (.slice none 0 0))),(.d (.v (.slice none 0 0))),(.d (.v (.slice none 0 0)))], .cells [(ar (13:Int)),(dq (bs [])),(bC (0:Int64)),(bC (0:Int64)),(ar (0:Int)),(ar (0:Int)),(ar (0:Int)),(ar (0:Int)),(ar (0:Int)),(bC (0:Int64)),(.d (.v (.slice none 0 0))),(.d (.v (.slice none 0 0))),(.full (iQ [(⟨(2:Int),(bs []),cH,dY,(⟨(0:Int64),[(⟨(bs [105]),(1:Int64)⟩:dw)]⟩:bp),[],[]⟩:aw),(⟨(2:Int),(bs []),cH,dY,(⟨(1:Int64),[]⟩:bp),[],[]⟩:aw)]))], .cells (bu v3.1).cells, .cells (cx v3.2.1).cells]) (aC (λh4=>dT (2,bT h4) (dt (13,oL v1.1 gW) (aC (λh5=>ax λv4 h6=>ax λv5 h7=>dT (7,bT h5) (dt (28,oE (k:=0) (mO h6)) (dt (46,cK Zv h7) (aC (λh8=>dT (17,bT h8) (aC (λh9=>dT (21,bT h9) (aC (λbG=>dT (26,bT bG) (aC (λbH=>dT (31,bT bH) (aC (λbq=>gE [(35,bT bq)] []) λbq=>gE [(35,bF bq)] [])) λbH=>gE [(31,bF bH),(35,bF rfl)] [])) λbG=>gE [(26,bF bG),(31,bF rfl),(35,bF rfl)] [])) λh9=>gE [(21,bF h9),(26,bF rfl),(31,bF rfl),(35,bF rfl)] [])) λh8=>gE [(17,bF h8),(21,bF rfl),(26,bF rfl),(31,bF rfl),(35,bF rfl)] [])))) λh5=>gE [(7,bF h5),(17,bF rfl),(21,bF rfl),(26,bF rfl),(31,bF rfl),(35,bF rfl)] []))) λh4=>gE [(2,bF h4),(7,bF rfl),(17,bF rfl),(21,bF rfl),(26,bF rfl),(31,bF rfl),(35,bF rfl)] []) λv6=>gR []))
def uV(N:Nat)(v2:apf Int):apf Int->Nat->aph Bool
 |[],_=>
  some true
 |v5::v6,v3=>
  Option.bind (v2[((v3:Int)).toNat]?) λv7=>
  bif (v5 !=v7)then
   some false
  else
   (uV N v2 v6 (v3+1))
def uh(N:Nat)(v1:apf Int)(v2:apf Int):aph Bool:=
 bif ((v1.length:Int) !=(v2.length:Int))then
  some false
 else
  uV N v2 v1 0
theorem afC{N v1 v2}:KO 16 [(.d (.sl (bw v1))),(.d (.sl (bw v2)))] aL (uh N v1 v2):=
 fw Tryz.func16 (gA [[],[(4,oL v1 gi),(10,oL v2 gi)]] (jJ λ_=>gT nV 0 v1 λh3=>ff 1 [] [0,1,5] 0 (λv3=>⟨26,[(0,(.d (.sl (bw v1)))),(1,(.d (.sl (bw v2)))),(5,(ar (v3:Int)))],[]⟩) (λv3 h4 f1=>gR [[(7,oL v1 gi)],[f0 (cy h4)],[]]) (λv3 v5 v6 h4 f1 aW=>ax λv7 h5=>gA [[(7,oL v1 gi)],[t0 (cz h4)],[(7,oE (jN (bI h4))),(19,oE (jN h5))]] (bP λh7=>gb aW () [[f0 h7],[(5,oq (cF h4 rfl h3))]] h4))))
def Jv(N:Nat)(v1:aT)(v2:aT):aph Bool:=
 Option.bind (bif ((v1.aB.bk==v2.aB.bk)&&((v1.aB.cf==v2.aB.cf)&&((v1.aB.bQ==v2.aB.bQ)&&((v1.aB.cq==v2.aB.cq)&&((v1.aB.ct==v2.aB.ct)&&true)))))then (uh N v1.aU v2.aU).bind λv3=>
 (bif v3 then (EO N v1.eI v2.eI).bind λv4=>
 some v4 else some false)else some false) λv5=>
 some v5
theorem am5{N v1 v2}:KO 20 [(iz v1),(iz v2)] aL (Jv N v1 v2):=
 fw Tryz.func20 (gA [[]] (gG (λv5=>[(4,(aL v5))]) (λ_=>[.cells (iz v1).cells, .cells (iz v2).cells]) (aC (λJ=>ax λv3 h2=>dT (5,bT J) (dt (31,cK afC h2) (aC (λh3=>ax λv4 h4=>gE [(12,bT h3)] [(52,cK Zv h4)]) λh3=>gE [(12,bF h3)] []))) λJ=>gE [(5,bF J),(12,bF rfl)] []) λv5=>gR []))
def Jl(N:Nat)(v2:apf aG):apf aG->Nat->aph Bool
 |[],_=>
  some true
 |v5::v6,v3=>
  Option.bind (v2[((v3:Int)).toNat]?) λv7=>
  Option.bind (bif (bL v5.au==bL v7.au)then (Jv N v5.fb v7.fb).bind λv8=>
  some (!v8)else some true) λv9=>
  bif v9 then
   some false
  else
   (Jl N v2 v6 (v3+1))
def I8(N:Nat)(v1:apf aG)(v2:apf aG):aph Bool:=
 bif ((v1.length:Int) !=(v2.length:Int))then
  some false
 else
  Jl N v2 v1 0
theorem ajP{N v1 v2}:KO 11 [(.d (.sl (aX v1))),(.d (.sl (aX v2)))] aL (I8 N v1 v2):=
 fw Tryz.func11 (gA [[],[(4,oL v1 gW),(10,oL v2 gW)]] (jJ λ_=>gT vq 0 v1 λh3=>ff 1 [] [0,1,5] 0 (λv3=>⟨42,[(0,(.d (.sl (aX v1)))),(1,(.d (.sl (aX v2)))),(5,(ar (v3:Int)))],[]⟩) (λv3 h4 f1=>gR [[(7,oL v1 gW)],[f0 (cy h4)],[]]) (λv3 v5 v6 h4 f1 aW=>gA [[(7,oL v1 gW)],[t0 (cz h4)]] (ax λv7 h5=>gG (λv9=>[(41,(aL v9))]) (λ_=>[]) (dt (7,oE (mO (bI h4))) (dt (22,oE (mO h5)) (aC (λh7=>ax λv8 h8=>gE [(11,bF (dH h7))] [(43,oE (mO (bI h4))),(58,oE (mO h5)),(67,cK am5 h8)]) λh7=>gE [(11,bT (eo h7))] []))) λv9=>bP λbG=>gb aW () [[f0 bG],[(5,oq (cF h4 rfl h3))]] h4))))
def AY(N:Nat)(v1:aV)(v2:apf aI)(v3:apf aG)(v8:aG)(aH:apf aG):apf dX->Nat->aph Bool
 |[],_=>
  Option.bind (mz N v1 v2 (v3.drop 1)) λv21=>
  bif (Nat.ble (([v8].length+aH.length)*104) 140737488355328)then
  Option.bind (mz N v1 v2 ([v8]++aH)) λfA=>
  Option.bind (bif (v21.2==fA.2)then (I8 N v21.1 fA.1).bind λdV=>
  (bif dV then (w8 N).bind λv24=>
  some v24 else some false)else some false) λfZ=>
  some fZ
  else none
 |cl::v20,cA=>
  bif (bL cl.au==bL v8.au)then
   (w8 N).bind λft=>
   some ft
  else
   (AY N v1 v2 v3 v8 aH v20 (cA+1))
def Bl(N:Nat)(v3:apf aG)(v1:aV)(v2:apf aI)(v8:aG):Nat->(apf aG)->Int->aph Bool
 |0,_,_=>none
 |aJ+1,aH,bz=>
  bif (decide (bz>=0))then
   bif (decide ((0:Int)<=bz))then
   Option.bind ((v3.drop 1)[(bz).toNat]?) λbB=>
   bif (Nat.ble ((aH.length+1)*104) 140737488355328)then
   (λgP sS=>Bl N v3 v1 v2 v8 aJ gP sS) (aH++[bB]) (aQ (bz-(1:Int)))
   else none
   else none
  else
   AY N v1 v2 v3 v8 aH v1.aY 0
def zA(N:Nat)(v9:Nat)(v3:apf aG)(v11:aG)(iw:aph Bool):Nat->Int->aph Bool
 |0,_=>none
 |jQ+1,v28=>
  bif (decide (v28<(v9:Int)))then
   bif (decide ((0:Int)<=v28))then
   Option.bind ((v3.drop 1)[(v28).toNat]?) λoJ=>
   bif (bL oJ.au==bL v11.au)then
    (w8 N).bind λv30=>
    some v30
   else
    (λth=>zA N v9 v3 v11 iw jQ th) (aQ (v28+(1:Int)))
   else none
  else
   iw
def yU(N:Nat)(v3:apf aG)(v1:aV)(v2:apf aI)(v8:aG):apf aG->Nat->aph Bool
 |[],_=>
  Bl N v3 v1 v2 v8 N [] (aQ (((v3.drop 1).length:Int)-(1:Int)))
 |v11::v12,v9=>
  zA N v9 v3 v11 (yU N v3 v1 v2 v8 v12 (v9+1)) N (0:Int)
def RB(N:Nat)(v1:aV)(v2:apf aI)(v3:apf aG):aph Bool:=
 Option.bind (J3 N v1 v2 (8:Int64)) λv4=>
 Option.bind (bif v4 then (Qm N v3).bind λv5=>
 (bif v5 then some ((v3.length:Int)==0)else some true)else some true) λv6=>
 bif v6 then
  (w8 N).bind λv7=>
  some v7
 else
  Option.bind (v3[0]?) λv8=>
  bif (decide (1<=v3.length))then
  yU N v3 v1 v2 v8 (v3.drop 1) 0
  else none
def Et(v1:aV)(v8:aG)(l:apf aq):apf aq:= .cells (dU v1).cells:: .cells (OG v8).cells::l
theorem ajO{N v1 v2 v3}:KO 3 [(dU v1),(.d (.sl (aS v2))),(.d (.sl (aX v3)))] aL (RB N v1 v2 v3):=
 fw Tryz.func3 (gA [[]] (ax λv4 J=>gG (λv6=>[(31,(aL v6))]) (λ_=>[.cells (dU v1).cells]) (dt (7,cK ahi J) (aC (λh2=>ax λv5 h3=>dT (4,bF (dH h2)) (dt (19,cK anT h3) (aC (λh4=>gE [(9,bF (dH h4))] [(34,oL v3 gW)]) λh4=>gE [(9,bT (eo h4))] []))) λh2=>gE [(4,bT (eo h2)),(9,bT rfl)] [])) λv6=>aC (λh6=>ax λv7 h7=>gR [[t0 h6],[(1,cK Lt h7)]]) λh6=>ax λv8 h8=>dD λh9=>gA [[f0 h6],[(4,oE (k:=0) (mO h8)),(13,⟨_,_, .QL (xs:=aX v3) (lo:=1) (by decide) (by rw[gW];exact(of_decide_eq_true h9)) J9 afV⟩)],[]] (gT vq 8 (v3.drop 1) λbH=>ff 1 [] [1,3,7,8,9] 2 (λv9=>⟨120,[(1,(.d (.sl (aS v2)))),(3,(.ptr 0 0)),(7,(.ptr 1 0)),(8,(.d (.sl (aX (v3.drop 1))))),(9,(ar (v9:Int)))],(Et v1 v8 [])⟩) (λv9 bq f1=>gA [[(7,oL ((v3.drop 1)) gW)],[f0 (cy bq)],[],[(4,oL ((v3.drop 1)) gW)]] (li (λ_=>(sK 11 40 8 [] (.inr (by kernel_rfl)) ·)) (VF 2 [] [1,3,7,8,11,12] 3 (λ(aH:apf aG)(bz:Int)=>⟨120,[(1,(.d (.sl (aS v2)))),(3,(.ptr 0 0)),(7,(.ptr 1 0)),(8,(.d (.sl (aX (v3.drop 1))))),(11,(.own 2 (aX aH))),(12,(ar bz))],(Et v1 v8 [.front 40 8 aH.length])⟩) (Bl N v3 v1 v2 v8) (λaJ aH bz f2 fe=>gA [[]] (aC (λcU=>dD λcQ=>ax λbB cT=>dD λcM=>Ay fe ((aH++[bB]),(aQ (bz-(1:Int)))) [[t0 cU],[(10,⟨_,_, .el (xs:=aX (v3.drop 1)) (i:=bz) (of_decide_eq_true cQ) (mO cT)⟩),(19,oA vq aH ([bB]) cM)],[]]) λcU=>gA [[f0 cU],[]] (gB Lu 0 2 v1.aY λfJ=>ff 3 [] [1,3,7,8,11,13] 3 (λcA=>⟨120,[(1,(.d (.sl (aS v2)))),(3,(.ptr 0 0)),(7,(.ptr 1 0)),(8,(.d (.sl (aX (v3.drop 1))))),(11,(.own 2 (aX aH))),(13,(ar (cA:Int)))],(Et v1 v8 [.front 40 8 aH.length])⟩) (λcA gn f3=>ax λv21 gz=>dD λjU=>ax λfA lV=>gA [[(10,oL v1.aY pn)],[f0 (cy gn)],[(10,cK NB gz)],[(16,⟨_,_, .app (xs:=aX [v8]) (ys:=aX aH) (zs:=aX ([v8]++aH)) (n:=([v8]++aH).length) rfl J9 J9 (by rw[(gW (l:=[v8])),(gW (l:=aH))];exact(lW jU (by decide)).1) (by rw[(gW (l:=[v8])),(gW (l:=aH))];exact(lW jU (by decide)).2) aaB (by first|(rw[(gW (l:=[v8])),(gW (l:=aH))];done)|(rw[(gW (l:=[v8])),(gW (l:=aH))];rfl)|(rw[(gW (l:=[v8])),(gW (l:=aH)),aos];done)|(rw[(gW (l:=[v8])),(gW (l:=aH)),aos];rfl)|(rw[(gW (l:=[v8])),(gW (l:=aH)),aoL]))⟩),(19,cK NB lV)]] (gG (λfZ=>[(6,(aL fZ))]) (λ_=>(Et v1 v8 [.front 40 8 aH.length, .front 40 8 ([v8]++aH).length])) (aC (λgN=>ax λdV gV=>dT (3,bT gN) (dt (19,cK ajP gV) (aC (λnM=>ax λv24 od=>gE [(8,bT nM)] [(28,cK Lt od)]) λnM=>gE [(8,bF nM)] []))) λgN=>gE [(3,bF gN),(8,bF rfl)] []) λfZ=>gR [])) (λcA cl v20 gn f3 lO=>gA [[(10,oL v1.aY pn)],[t0 (cz gn)],[(10,oE (BC (bI gn)))]] (aC (λmC=>ax λft rh=>gR [[t0 mC],[(1,cK Lt rh)]]) λmC=>gb lO () [[f0 mC],[(5,oq (cF gn rfl fJ))]] gn)))))))) (λv9 v11 v12 bq f1 aW=>Me 4 [[(7,oL ((v3.drop 1)) gW)],[t0 (cz bq)],[]] [1,3,7,8,9,10] 2 (λ(v28:Int)=>⟨120,[(1,(.d (.sl (aS v2)))),(3,(.ptr 0 0)),(7,(.ptr 1 0)),(8,(.d (.sl (aX (v3.drop 1))))),(9,(ar (v9:Int))),(10,(ar v28))],(Et v1 v8 [])⟩) (zA N v9 v3 v11 (yU N v3 v1 v2 v8 v12 (v9+1))) (λjQ v28 f4 lE=>gA [[]] (aC (λnL=>dD λKt=>ax λoJ E0=>gA [[t0 nL],[(7,⟨_,_, .el (xs:=aX (v3.drop 1)) (i:=v28) (of_decide_eq_true Kt) (mO E0)⟩),(22,⟨_,_, .el (xs:=aX (v3.drop 1)) (i:=(v9:Int)) (Int.natCast_nonneg _) (mO (bI bq))⟩)]] (aC (λFG=>ax λv30 h34=>gR [[t0 FG],[(1,cK Lt h34)]]) λFG=>Ay lE (aQ (v28+(1:Int))) [[f0 FG],[]])) λnL=>gb aW () [[f0 nL],[(5,oq (cF bq rfl bH))]] bq))))))
def Oz(N:Nat)(v1:aV)(v2:apf aI)(v3:apf aG):aph ((apf aG)×Int):=
 (EM N v1 v2 v3).bind λv4=>
 bif (v4.2 !=0)then
  some ([],v4.2)
 else
  bif (decide ((0:Int)<=(v1.aY.length:Int)))then
  bif (decide (((v1.aY.length:Int)).toNat<=v4.1.length))then
  some ((v4.1.drop ((v1.aY.length:Int)).toNat),(0:Int))
  else none
  else none
def Ba(N:Nat)(v1:aM):aph Bool:=
 Option.bind (bif (v1.bk==1)then some true else some (v1.bk==3)) λv2=>
 bif v2 then
  Option.bind (bif (v1.cf==0)then(bif (v1.bQ==0)then(bif (v1.cq==0)then some (v1.ct==0)else some false)else some false)else some false) λv3=>
  some v3
 else
  Option.bind (bif (v1.bk==2)then(bif (decide (v1.cf>=2))then(bif (decide (v1.cf<=31))then(bif (decide (v1.bQ>=0))then(bif (decide (v1.bQ<=30))then(bif (decide (v1.cq>=1))then(bif (decide (v1.cq<=4))then(bif (v1.ct==1)then some true else some (v1.ct==2))else some false)else some false)else some false)else some false)else some false)else some false)else some false) λv4=>
  some v4
def Mi(N:Nat):Nat->Int64->Int64->aph Int64
 |0,_,_=>none
 |v3+1,v4,v5=>
  bif (v5.toInt !=0)then
   (λcg fi=>Mi N v3 cg fi) v5 (Int64.ofInt ((v4.toInt).tmod v5.toInt))
  else
   some v4
def abl(N:Nat)(v1:Int64)(v2:Int64):aph Int64:=
 Mi N N v1 v2
def Ss(N:Nat)(v1:aM)(v2:aD):aph Bool:=
 bif (v1.bk==2)then
  bif (decide ((0:Int)<=(aQ (v1.cf-(1:Int)))))then
  Option.bind (bif (v2.xD.toInt==1)then(bif (decide (v2.xN.toInt>=(-(Int64.ofInt ((1:Int)*2^(min ((aQ (v1.cf-(1:Int)))).toNat (IntKind.bits .i64))))).toInt))then some (decide (v2.xN.toInt<(Int64.ofInt ((1:Int)*2^(min ((aQ (v1.cf-(1:Int)))).toNat (IntKind.bits .i64)))).toInt))else some false)else some false) λv3=>
  some v3
  else none
 else
  Option.bind (bif (decide (v2.xN.toInt>2147483647))then some true else(bif (decide (v2.xN.toInt<(-2147483647:Int)))then some true else(bif (decide (v2.xD.toInt<1))then some true else some (decide (v2.xD.toInt>2147483647))))) λv4=>
  bif v4 then
   some false
  else
   bif (v1.bk==3)then
    some (v2.xD.toInt==1)
   else
    Option.bind (abl N (vZ v2.xN (-v2.xN)) v2.xD) λv5=>
    some (v5.toInt==1)
def SV(N:Nat):aph ((apf apg)):=
 some [(bs [115,105,122,101]),(bs [119,104,101,114,101]),(bs [105,110]),(bs [100,101,102]),(bs [111,117,116]),(bs [115,117,109]),(bs [112,114,111,100]),(bs [109,105,110]),(bs [109,97,120]),(bs [115,99,97,110]),(bs [111,118,101,114]),(bs [105,102]),(bs [99,97,115,116]),(bs [102,114,97,99]),(bs [105,110,116]),(bs [102,105,120]),(bs [99,101,105,108]),(bs [102,108,111,111,114]),(bs [122,101,114,111]),(bs [101,118,101,110]),(bs [115,97,116]),(bs [119,114,97,112])]
def JE(N:Nat)(v2:apg):apf apg->Nat->aph Bool
 |[],_=>
  some false
 |v5::v6,v3=>
  bif (bL v5==bL v2)then
   some true
  else
   (JE N v2 v6 (v3+1))
def xZ(N:Nat)(v1:apf apg)(v2:apg):aph Bool:=
 JE N v2 v1 0
def Dc(N:Nat)(v1:apg):Nat->Int->aph Bool
 |0,_=>none
 |v5+1,v6=>
  bif (decide (v6<(v1.size:Int)))then
   bif (decide ((0:Int)<=v6))then
   Option.bind (v1[(v6).toNat]?) λv7=>
   Option.bind (bif (decide ((v7.toNat:Int)>=97))then(bif (decide ((v7.toNat:Int)<=122))then some (!true)else(bif (decide (v6>0))then(bif (decide ((v7.toNat:Int)>=48))then(bif (decide ((v7.toNat:Int)<=57))then some (!true)else some (!((v7.toNat:Int)==95)))else some (!((v7.toNat:Int)==95)))else some (!false)))else(bif (decide (v6>0))then(bif (decide ((v7.toNat:Int)>=48))then(bif (decide ((v7.toNat:Int)<=57))then some (!true)else some (!((v7.toNat:Int)==95)))else some (!((v7.toNat:Int)==95)))else some (!false))) λv8=>
   bif v8 then
    some false
   else
    (λcg=>Dc N v1 v5 cg) (aQ (v6+(1:Int)))
   else none
  else
   some true
def AT(N:Nat)(v1:apg):aph Bool:=
 Option.bind (bif (decide ((v1.size:Int)<1))then some true else(bif (decide ((v1.size:Int)>16))then some true else (SV N).bind λv2=>
 (xZ N v2 v1).bind λv3=>
 some v3)) λv4=>
 bif v4 then
  some false
 else
  Dc N v1 N (0:Int)
def Bo(N:Nat)(v1:apg)(v2:apf apg):aph Int:=
 (AT N v1).bind λv3=>
 bif v3 then
  (xZ N v2 v1).bind λv4=>
  bif v4 then
   some (8:Int)
  else
   some (0:Int)
 else
  some (7:Int)
def Hf(N:Nat)(v1:aV):apf apg->Nat->aph Int
 |[],_=>
  some (0:Int)
 |v5::v6,v3=>
  bif (decide (((v3:Int)).toNat<=v1.bm.length))then
  Option.bind (Bo N v5 ((v1.bm.take ((v3:Int)).toNat).drop 0)) λv7=>
  bif (v7 !=0)then
   some v7
  else
   (Hf N v1 v6 (v3+1))
  else none
def K7(N:Nat)(v1:aV):aph Int:=
 Option.bind (bif (decide ((v1.bm.length:Int)>64))then some true else(bif (decide ((v1.aY.length:Int)>64))then some true else(bif (decide ((v1.aO.length:Int)>64))then some true else(bif (decide ((v1.di.length:Int)>64))then some true else some (decide ((v1.dF.length:Int)>256)))))) λv2=>
 bif v2 then
  some (2:Int)
 else
  Hf N v1 v1.bm 0
def JB(N:Nat)(v1:bp):apf dw->Nat->aph Bool
 |[],_=>
  some true
 |v4::v5,v2=>
  (AT N v4.au).bind λv6=>
  Option.bind (bif v6 then(bif (v4.dM.toInt==0)then some true else(bif (decide ((v2:Int)>0))then bif (decide ((0:Int)<=(aQ ((v2:Int)-(1:Int)))))then
  Option.bind (v1.xL[((aQ ((v2:Int)-(1:Int)))).toNat]?) λv7=>
  some (!(Op.bytesLess (bL v7.au) (bL v4.au)))
  else none else some false))else some true) λv8=>
  bif v8 then
   some false
  else
   (JB N v1 v5 (v2+1))
def w5(N:Nat)(v1:bp):aph Bool:=
 JB N v1 v1.xL 0
def GN(N:Nat)(v2:apf apg)(v3:apf apg):apf dw->Nat->aph Bool
 |[],_=>
  some true
 |v6::v7,v4=>
  (xZ N v2 v6.au).bind λv8=>
  Option.bind (bif v8 then some false else (xZ N v3 v6.au).bind λv9=>
  some (!v9)) λv10=>
  bif v10 then
   some false
  else
   (GN N v2 v3 v7 (v4+1))
def IG(N:Nat)(v1:bp)(v2:apf apg)(v3:apf apg):aph Bool:=
 GN N v2 v3 v1.xL 0
def Fw(N:Nat)(v1:bp)(v2:apf apg):aph Int:=
 (w5 N v1).bind λv3=>
 bif v3 then
  Option.bind (IG N v1 [] v2) λv4=>
  bif v4 then
   some (0:Int)
  else
   some (9:Int)
 else
  some (1:Int)
def KG(N:Nat)(v2:apf apg):apf bp->Nat->aph Int
 |[],_=>
  some (0:Int)
 |v8::v9,v6=>
  (Fw N v8 v2).bind λv10=>
  bif (v10 !=0)then
   some v10
  else
   (KG N v2 v9 (v6+1))
def QK(N:Nat)(v1:dX)(v2:apf apg)(v3:apf apg):aph Int:=
 (Bo N v1.au v3).bind λv4=>
 bif (v4 !=0)then
  some v4
 else
  (Ba N v1.aB).bind λv5=>
  bif v5 then
   bif (decide ((v1.aU.length:Int)>6))then
    some (11:Int)
   else
    KG N v2 v1.aU 0
  else
   some (10:Int)
def HZ(N:Nat)(v2:apf apg):apf dg->Nat->(apf apg)->aph Int
 |[],_,_=>
  some (0:Int)
 |v5::v6,v3,v7=>
  (Bo N v5.au v7).bind λv8=>
  bif (v8 !=0)then
   some v8
  else
   (Fw N v5.dR v2).bind λv9=>
   bif (v9 !=0)then
    some v9
   else
    bif (Nat.ble ((v7.length+1)*16) 140737488355328)then
    (λcg=>HZ N v2 v6 (v3+1) cg) (v7++[v5.au])
    else none
def MW(N:Nat)(v1:apf dg)(v2:apf apg):aph Int:=
 bif (Nat.ble ((0+v2.length)*16) 140737488355328)then
 HZ N v2 v1 0 v2
 else none
def M5(N:Nat)(v1:bD):aph Int:=
 Option.bind (bif (decide (v1.dm<0))then some true else some (decide (v1.dm>5))) λv2=>
 bif v2 then
  some (1:Int)
 else
  Option.bind (bif (v1.dm==0)then some true else some (v1.dm==5)) λv3=>
  Option.bind (bif (v3==((v1.bY.length:Int)==0))then(bif (v1.dm==5)then some ((v1.aU.length:Int)==0)else some false)else some true) λv4=>
  bif v4 then
   some (11:Int)
  else
   some (0:Int)
def F0(N:Nat):apf dg->Nat->(apf apg)->aph ((apf apg))
 |[],_,v11=>
  some v11
 |v9::v10,v7,v11=>
  bif (Nat.ble ((v11.length+1)*16) 140737488355328)then
  (λgP=>F0 N v10 (v7+1) gP) (v11++[v9.au])
  else none
def EZ(N:Nat)(v1:bD):apf dg->Nat->(apf apg)->aph ((apf apg))
 |[],_,v6=>
  F0 N v1.bY 0 v6
 |v4::v5,v2,v6=>
  bif (Nat.ble ((v6.length+1)*16) 140737488355328)then
  (λcg=>EZ N v1 v5 (v2+1) cg) (v6++[v4.au])
  else none
def NR(N:Nat)(v1:bD):aph ((apf apg)):=
 EZ N v1 v1.aU 0 []
def BE(N:Nat)(v2:Int)(Wz:aw->Int->aph Int):apf aw->Nat->Int->aph Int
 |[],_,v7=>
  some v7
 |v5::v6,v3,v7=>
  bif (decide (v2>1))then
   Option.bind (Wz v5 (aQ (v2-(1:Int)))) λv8=>
   (λcg=>BE N v2 Wz v6 (v3+1) cg) (if(aQ ((1:Int)+v8))>v7 then(aQ ((1:Int)+v8))else v7)
  else
   some v7
def w9(N:Nat):Nat->aw->Int->aph Int
 |0,_,_=>none
 |d+1,v1,v2=>
  BE N v2 (w9 N d) v1.bZ 0 (1:Int)
def XE(N:Nat)(v1:aw)(v2:Int):aph Int:=w9 N N v1 v2
def Xg(N:Nat)(v1:aw):aph Int:=
 Option.bind (XE N v1 (41:Int)) λv2=>
 some v2
def B3(N:Nat)(v2:Int)(aaE:aw->Int->aph Int):apf aw->Nat->Int->aph Int
 |[],_,v7=>
  some v7
 |v5::v6,v3,v7=>
  bif (decide (v7<=v2))then
   Option.bind (aaE v5 (aQ (v2-v7))) λv8=>
   (λcg=>B3 N v2 aaE v6 (v3+1) cg) (aQ (v7+v8))
  else
   some v7
def yT(N:Nat):Nat->aw->Int->aph Int
 |0,_,_=>none
 |d+1,v1,v2=>
  B3 N v2 (yT N d) v1.bZ 0 (1:Int)
def Vb(N:Nat)(v1:aw)(v2:Int):aph Int:=yT N N v1 v2
def VB(N:Nat)(v1:aw):aph Int:=
 Option.bind (Vb N v1 (2000:Int)) λv2=>
 some (if(2001:Int)<v2 then(2001:Int)else v2)
def K6(N:Nat):apf cJ->Nat->aph Bool
 |[],_=>
  some true
 |v7::v8,v5=>
  Option.bind (bif (bL v7.cP==bL (bs []))then(bif (decide ((v7.cN.length:Int)>0))then some true else some false)else(bif (v7.bx.xK.toInt !=0)then some true else some (decide ((v7.bx.xL.length:Int)>0)))) λv9=>
  bif v9 then
   some false
  else
   (K6 N v8 (v5+1))
def Oe(N:Nat)(v1:aw):aph Bool:=
 Option.bind (bif (decide (v1.az<1))then some true else some (decide (v1.az>18))) λv2=>
 bif v2 then
  some false
 else
  Option.bind (bif (v1.az !=1)then(bif ((v1.de.xN.toInt==(0:Int64).toInt)&&((v1.de.xD.toInt==(0:Int64).toInt)&&true))then(bif (v1.az !=12)then some (!((v1.aB.bk==0)&&((v1.aB.cf==0)&&((v1.aB.bQ==0)&&((v1.aB.cq==0)&&((v1.aB.ct==0)&&true))))))else some false)else some true)else some false) λv3=>
  bif v3 then
   some false
  else
   Option.bind (bif (v1.az !=2)then(bif (v1.bx.xK.toInt !=0)then some true else(bif (decide ((v1.bx.xL.length:Int)>0))then some true else(bif (v1.az !=3)then(bif (bL v1.au==bL (bs []))then some (decide ((v1.xIdx.length:Int)>0))else some true)else some false)))else(bif (v1.az !=3)then(bif (bL v1.au==bL (bs []))then some (decide ((v1.xIdx.length:Int)>0))else some true)else some false)) λv4=>
   bif v4 then
    some false
   else
    K6 N v1.xIdx 0
def LH(N:Nat):apf cJ->Nat->aph Bool
 |[],_=>
  some true
 |v6::v7,v4=>
  Option.bind (bif (bL v6.cP==bL (bs []))then some false else (AT N v6.cP).bind λv8=>
  some (!v8)) λv9=>
  bif v9 then
   some false
  else
   (LH N v7 (v4+1))
def Pg(N:Nat)(v1:aw):aph Bool:=
 Option.bind (bif (v1.az==3)then (AT N v1.au).bind λv2=>
 some (!v2)else some false) λv3=>
 bif v3 then
  some false
 else
  LH N v1.xIdx 0
def Ia(N:Nat)(v1:Int)(v3:Bool):aph Int:=
 bif v3 then
  some (1:Int)
 else
  bif (v1==11)then
   some (3:Int)
  else
   some (2:Int)
def L0(N:Nat)(v1:Int)(v2:Bool):aph Int:=
 bif v2 then
  some (0:Int)
 else
  bif (v1==8)then
   Ia N v1 (v1==8)
  else
   bif (v1==12)then
    Ia N v1 (v1==12)
   else
    Ia N v1 (v1==18)
def Q0(N:Nat)(v1:Int):aph Int:=
 bif (v1==1)then
  L0 N v1 (v1==1)
 else
  bif (v1==2)then
   L0 N v1 (v1==2)
  else
   L0 N v1 (v1==3)
def Kw(N:Nat):apf cJ->Nat->aph Bool
 |[],_=>
  some true
 |v6::v7,v4=>
  bif (decide ((v6.cN.length:Int)>6))then
   some false
  else
   (Kw N v7 (v4+1))
def Sm(N:Nat)(v1:aw):aph Bool:=
 (Q0 N v1.az).bind λv2=>
 Option.bind (bif ((v1.bZ.length:Int) !=v2)then some true else some (decide ((v1.xIdx.length:Int)>6))) λv3=>
 bif v3 then
  some false
 else
  Kw N v1.xIdx 0
def LF(N:Nat)(v1:aw):aph Bool:=
 Option.bind (bif (decide (v1.az>=13))then some (decide (v1.az<=18))else some false) λv2=>
 some v2
def O3(N:Nat)(v1:Int)(v2:Int):aph Bool:=
 Option.bind (bif (v1==11)then(bif (v2==0)then some true else(bif (v1==16)then some true else(bif (v1==17)then some true else some (v1==18))))else(bif (v1==16)then some true else(bif (v1==17)then some true else some (v1==18)))) λv3=>
 some v3
def Jr(N:Nat)(v1:aw):apf aw->Nat->aph Bool
 |[],_=>
  some true
 |v7::v8,v5=>
  (LF N v7).bind λv9=>
  Option.bind (O3 N v1.az (v5:Int)) λv10=>
  bif (v9==v10)then
   (Jr N v1 v8 (v5+1))
  else
   some false
def NI(N:Nat)(v1:aw):aph Bool:=
 Option.bind (bif (v1.az==1)then (Ba N v1.aB).bind λv2=>
 some (!v2)else(bif (v1.az==12)then (Ba N v1.aB).bind λv3=>
 some (!v3)else some false)) λv4=>
 bif v4 then
  some false
 else
  Jr N v1 v1.bZ 0
def LU(N:Nat)(iw:aph Bool):apf bp->Nat->aph Bool
 |[],_=>
  iw
 |aJ::aH,v11=>
  (w5 N aJ).bind λbz=>
  bif bz then
   (LU N iw aH (v11+1))
  else
   some false
def GA(N:Nat):apf cJ->Nat->aph Bool
 |[],_=>
  some true
 |v8::v9,v6=>
  (w5 N v8.bx).bind λv10=>
  bif v10 then
   LU N (GA N v9 (v6+1)) v8.cN 0
  else
   some false
def Ow(N:Nat)(v1:aw):aph Bool:=
 Option.bind (bif (v1.az==1)then (Ss N v1.aB v1.de).bind λv2=>
 (bif v2 then (w5 N v1.bx).bind λv3=>
 some (!v3)else some true)else (w5 N v1.bx).bind λv4=>
 some (!v4)) λv5=>
 bif v5 then
  some false
 else
  GA N v1.xIdx 0
def IS(N:Nat)(TR:aw->aph Int):apf aw->Nat->aph Int
 |[],_=>
  some (0:Int)
 |v9::v10,v7=>
  (TR v9).bind λv11=>
  bif (v11 !=0)then
   some v11
  else
   (IS N TR v10 (v7+1))
def FL(N:Nat):Nat->aw->aph Int
 |0,_=>none
 |d+1,v1=>
  (Oe N v1).bind λv2=>
  bif v2 then
   (Pg N v1).bind λv3=>
   bif v3 then
    (Sm N v1).bind λv4=>
    bif v4 then
     (NI N v1).bind λv5=>
     bif v5 then
      (Ow N v1).bind λv6=>
      bif v6 then
       IS N (FL N d) v1.bZ 0
      else
       some (1:Int)
     else
      some (10:Int)
    else
     some (11:Int)
   else
    some (7:Int)
  else
   some (5:Int)
def WV(N:Nat)(v1:aw):aph Int:=FL N N v1
def L4(N:Nat)(v1:aw):aph Int:=
 (Xg N v1).bind λv2=>
 bif (decide (v2>40))then
  some (13:Int)
 else
  (VB N v1).bind λv3=>
  bif (decide (v3>2000))then
   some (2:Int)
  else
   (WV N v1).bind λv4=>
   some v4
def LK(N:Nat)(v2:apf apg)(v1:aV):apf bp->Nat->aph Int
 |[],_=>
  some (0:Int)
 |v6::v7,v4=>
  (IG N v6 v2 v1.bm).bind λv8=>
  bif v8 then
   (LK N v2 v1 v7 (v4+1))
  else
   some (9:Int)
def Sp(N:Nat)(v1:aV)(v2:apf apg)(v3:apf bp):aph Int:=
 LK N v2 v1 v3 0
def Fb(N:Nat)(v9:bD):apf dg->Nat->(apf bp)->aph (aM×(apf bp)×Bool)
 |[],_,bz=>
  some (v9.aB,bz,true)
 |aJ::aH,v11,bz=>
  bif (Nat.ble ((bz.length+1)*32) 140737488355328)then
  (λpC=>Fb N v9 aH (v11+1) pC) (bz++[aJ.dR])
  else none
def JG(N:Nat)(v2:apg):apf bD->Nat->aph (aM×(apf bp)×Bool)
 |[],_=>
  some (dY,[],false)
 |v9::v10,v7=>
  bif (bL v9.au==bL v2)then
   Fb N v9 v9.aU 0 []
  else
   (JG N v2 v10 (v7+1))
def E3(N:Nat)(v2:apg)(v1:aV):apf dX->Nat->aph (aM×(apf bp)×Bool)
 |[],_=>
  JG N v2 v1.aO 0
 |v5::v6,v3=>
  bif (bL v5.au==bL v2)then
   some (v5.aB,v5.aU,true)
  else
   (E3 N v2 v1 v6 (v3+1))
def Jp(N:Nat)(v1:aV)(v2:apg):aph (aM×(apf bp)×Bool):=
 E3 N v2 v1 v1.aY 0
def Cq(N:Nat)(v4:aM×(apf bp)×Bool)(v2:apf apg)(v1:aV):apf cJ->Nat->aph (aM×Int)
 |[],_=>
  some (v4.1,(0:Int))
 |v7::v8,v5=>
  bif (bL v7.cP==bL (bs []))then
   (IG N v7.bx v2 v1.bm).bind λv9=>
   bif v9 then
    (Cq N v4 v2 v1 v8 (v5+1))
   else
    some (dY,(9:Int))
  else
   (Jp N v1 v7.cP).bind λv10=>
   bif v10.2.2 then
    bif (v10.1.bk !=3)then
     some (dY,(10:Int))
    else
     bif ((v10.2.1.length:Int) !=(v7.cN.length:Int))then
      some (dY,(11:Int))
     else
      (Sp N v1 v2 v7.cN).bind λv11=>
      bif (v11 !=0)then
       some (dY,v11)
      else
       (Cq N v4 v2 v1 v8 (v5+1))
   else
    some (dY,(9:Int))
def Ro(N:Nat)(v1:aV)(v2:apf apg)(v3:aw):aph (aM×Int):=
 (Jp N v1 v3.au).bind λv4=>
 bif v4.2.2 then
  bif ((v4.2.1.length:Int) !=(v3.xIdx.length:Int))then
   some (dY,(11:Int))
  else
   Cq N v4 v2 v1 v3.xIdx 0
 else
  some (dY,(9:Int))
def oH(N:Nat)(v3:aw)(v1:aV)(v2:apf apg)(ab3:aV->(apf apg)->aw->aph (aM×Int)):apf aw->Nat->(apf aM)->aph (aM×Int)
 |[],_,v8=>
  Option.bind (bif (v3.az==1)then some true else some (v3.az==12)) λv9=>
  bif v9 then
   some (v3.aB,(0:Int))
  else
   bif (v3.az==2)then
    Option.bind (Sp N v1 v2 [v3.bx]) λv10=>
    some ((⟨(3:Int),(0:Int),(0:Int),(0:Int),(0:Int)⟩:aM),v10)
   else
    bif (v3.az==3)then
     (Ro N v1 v2 v3).bind λv11=>
     some (v11.1,v11.2)
    else
     bif (v3.az==11)then
      Option.bind (v8[1]?) λv12=>
      Option.bind (v8[2]?) λaJ=>
      bif ((v12.bk==aJ.bk)&&((v12.cf==aJ.cf)&&((v12.bQ==aJ.bQ)&&((v12.cq==aJ.cq)&&((v12.ct==aJ.ct)&&true)))))then
       some (v12,(0:Int))
      else
       some (dY,(10:Int))
     else
      bif (v3.az==8)then
       Option.bind (v8[0]?) λaH=>
       some (aH,(0:Int))
      else
       bif (decide (v3.az>=16))then
        some (dY,(0:Int))
       else
        Option.bind (v8[0]?) λbz=>
        Option.bind (v8[1]?) λbB=>
        bif ((bz.bk==bB.bk)&&((bz.cf==bB.cf)&&((bz.bQ==bB.bQ)&&((bz.cq==bB.cq)&&((bz.ct==bB.ct)&&true)))))then
         bif (decide (v3.az>=13))then
          some (dY,(0:Int))
         else
          some (bz,(0:Int))
        else
         some (dY,(10:Int))
 |v6::v7,v4,v8=>
  (ab3 v1 v2 v6).bind λcA=>
  bif (cA.2 !=0)then
   some (dY,cA.2)
  else
   bif (Nat.ble ((v8.length+1)*40) 140737488355328)then
   (λcg=>oH N v3 v1 v2 ab3 v7 (v4+1) cg) (v8++[cA.1])
   else none
def Ad(N:Nat):Nat->aV->(apf apg)->aw->aph (aM×Int)
 |0,_,_,_=>none
 |d+1,v1,v2,v3=>
  oH N v3 v1 v2 (Ad N d) v3.bZ 0 []
def H4(N:Nat)(v1:aV)(v2:apf apg)(v3:aw):aph (aM×Int):=Ad N N v1 v2 v3
def vN(N:Nat)(v1:aV)(v2:apf apg)(v3:aw):aph (aM×Int):=
 (L4 N v3).bind λv4=>
 bif (v4 !=0)then
  some (dY,v4)
 else
  (LF N v3).bind λv5=>
  bif v5 then
   some (dY,(10:Int))
  else
   (H4 N v1 v2 v3).bind λv6=>
   bif (v6.2 !=0)then
    some (dY,v6.2)
   else
    some (v6.1,(0:Int))
def vT(N:Nat)(v1:aV)(v2:Int)(v3:apf apg):aph Int:=
 bif (decide ((0:Int)<=v2))then
 Option.bind (v1.aO[(v2).toNat]?) λv4=>
 (Bo N v4.au v3).bind λv5=>
 bif (v5 !=0)then
  some v5
 else
  (Ba N v4.aB).bind λv6=>
  bif v6 then
   Option.bind (bif (decide ((v4.aU.length:Int)>6))then some true else some (decide ((v4.bY.length:Int)>6))) λv7=>
   bif v7 then
    some (11:Int)
   else
    bif (Nat.ble ((0+v4.aU.length)*48) 140737488355328)then
    bif (Nat.ble ((v4.aU.length+v4.bY.length)*48) 140737488355328)then
    Option.bind (MW N (v4.aU++v4.bY) v1.bm) λv8=>
    bif (v8 !=0)then
     some v8
    else
     (M5 N v4).bind λv9=>
     bif (v9 !=0)then
      some v9
     else
      bif (decide ((v2).toNat<=v1.aO.length))then
      (NR N v4).bind λv10=>
      Option.bind (vN N (⟨v1.bm,[],v1.aY,((v1.aO.take (v2).toNat).drop 0),[]⟩:aV) v10 v4.bV) λv11=>
      bif (v11.2 !=0)then
       some v11.2
      else
       bif ((v11.1.bk==v4.aB.bk)&&((v11.1.cf==v4.aB.cf)&&((v11.1.bQ==v4.aB.bQ)&&((v11.1.cq==v4.aB.cq)&&((v11.1.ct==v4.aB.ct)&&true)))))then
        some (0:Int)
       else
        some (10:Int)
      else none
    else none
    else none
  else
   some (10:Int)
 else none
def qo(N:Nat)(v1:aV):apf apg->Nat->Int->aph (Int×Int)
 |[],_,_=>
  some ((0:Int),(0:Int))
 |v21::fA,cl,dV=>
  (Jp N v1 v21).bind λv24=>
  bif v24.2.2 then
   bif (decide (((cl:Int)).toNat<=v1.di.length))then
   Option.bind (xZ N ((v1.di.take ((cl:Int)).toNat).drop 0) v21) λfZ=>
   bif fZ then
    some (dV,(8:Int))
   else
    (λth=>qo N v1 fA (cl+1) th) (aQ (dV+(1:Int)))
   else none
  else
   some (dV,(9:Int))
def oP(N:Nat)(v1:aV):apf bD->Nat->(apf apg)->Int->aph (Int×Int)
 |[],_,_,bR=>
  qo N v1 v1.di 0 bR
 |bz::bB,aJ,cA,bR=>
  Option.bind (vT N v1 (aJ:Int) cA) λft=>
  bif (ft !=0)then
   some (bR,ft)
  else
   bif (Nat.ble ((cA.length+1)*16) 140737488355328)then
   (λpC ye=>oP N v1 bB (aJ+1) pC ye) (cA++[bz.au]) (aQ (bR+(1:Int)))
   else none
def sb(N:Nat)(v1:aV):apf dX->Nat->(apf apg)->Int->aph (Int×Int)
 |[],_,v11,v12=>
  oP N v1 v1.aO 0 v11 v12
 |v9::v10,v7,v11,v12=>
  (QK N v9 v1.bm v11).bind λjQ=>
  bif (jQ !=0)then
   some (v12,jQ)
  else
   bif (Nat.ble ((v11.length+1)*16) 140737488355328)then
   (λgP sS=>sb N v1 v10 (v7+1) gP sS) (v11++[v9.au]) (aQ (v12+(1:Int)))
   else none
def Cv(N:Nat)(v1:aV):apf gF->Nat->aph (Int×Int)
 |[],_=>
  bif (Nat.ble ((0+v1.bm.length)*16) 140737488355328)then
  sb N v1 v1.aY 0 v1.bm (2:Int)
  else none
 |v5::v6,v3=>
  (Fw N v5.bx v1.bm).bind λv28=>
  bif (v28 !=0)then
   some ((1:Int),v28)
  else
   (Cv N v1 v6 (v3+1))
def yJ(N:Nat)(v1:aV):aph (Int×Int):=
 (K7 N v1).bind λv2=>
 bif (v2 !=0)then
  some ((0:Int),v2)
 else
  Cv N v1 v1.dF 0
def H8(N:Nat)(v2:apg):apf aI->Nat->aph (Int64×Bool)
 |[],_=>
  some ((0:Int64),false)
 |v5::v6,v3=>
  bif (bL v5.au==bL v2)then
   some (v5.de,true)
  else
   (H8 N v2 v6 (v3+1))
def Tc(N:Nat)(v1:apf aI)(v2:apg):aph (Int64×Bool):=
 H8 N v2 v1 0
def RY(N:Nat)(v1:bp):aph Int:=
 (w5 N v1).bind λv2=>
 bif v2 then
  some (0:Int)
 else
  some (1:Int)
def uI(N:Nat)(v1:Int64):aph Int:=
 bif (decide (v1.toInt<0))then
  some (IntKind.u64.wrap ((IntKind.u64.wrap (-(v1+(1:Int64))).toInt)+(1:Int)))
 else
  some (IntKind.u64.wrap v1.toInt)
def P2(N:Nat)(v1:dz)(v2:Int):aph dz:=
 Option.bind (some (IntKind.u64.wrap ((IntKind.u64.wrap (v1.fE+((v2).tmod (4294967296:Int))))+(0:Int)))) λv3=>
 Option.bind (some (IntKind.u64.wrap ((v3).tdiv (4294967296:Int)))) λv4=>
 Option.bind (some (IntKind.u64.wrap ((v2).tdiv (4294967296:Int)))) λv5=>
 Option.bind (some (IntKind.u64.wrap ((IntKind.u64.wrap (v1.fQ+((v5).tmod (4294967296:Int))))+v4))) λv6=>
 Option.bind (some (IntKind.u64.wrap ((v6).tdiv (4294967296:Int)))) λv7=>
 Option.bind (some (IntKind.u64.wrap ((v5).tdiv (4294967296:Int)))) λv8=>
 Option.bind (some (IntKind.u64.wrap ((IntKind.u64.wrap (v1.gC+((v8).tmod (4294967296:Int))))+v7))) λv9=>
 Option.bind (some (IntKind.u64.wrap ((v9).tdiv (4294967296:Int)))) λv10=>
 Option.bind (some (IntKind.u64.wrap ((v8).tdiv (4294967296:Int)))) λv11=>
 Option.bind (some (IntKind.u64.wrap ((IntKind.u64.wrap (v1.gy+((v11).tmod (4294967296:Int))))+v10))) λv12=>
 Option.bind (some (IntKind.u64.wrap ((v12).tdiv (4294967296:Int)))) λaJ=>
 Option.bind (some (IntKind.u64.wrap ((v11).tdiv (4294967296:Int)))) λaH=>
 Option.bind (some (IntKind.u64.wrap ((IntKind.u64.wrap (v1.gJ+((aH).tmod (4294967296:Int))))+aJ))) λbz=>
 Option.bind (some (IntKind.u64.wrap ((bz).tdiv (4294967296:Int)))) λbB=>
 Option.bind (some (IntKind.u64.wrap ((aH).tdiv (4294967296:Int)))) λcA=>
 Option.bind (some (IntKind.u64.wrap ((IntKind.u64.wrap (v1.gw+((cA).tmod (4294967296:Int))))+bB))) λbR=>
 Option.bind (some (IntKind.u64.wrap ((bR).tdiv (4294967296:Int)))) λcl=>
 Option.bind (some (IntKind.u64.wrap ((cA).tdiv (4294967296:Int)))) λv20=>
 some (⟨((v3).tmod (4294967296:Int)),((v6).tmod (4294967296:Int)),((v9).tmod (4294967296:Int)),((v12).tmod (4294967296:Int)),((bz).tmod (4294967296:Int)),((bR).tmod (4294967296:Int))⟩:dz)
def Ht(N:Nat)(v1:dz)(v2:Int):aph dz:=
 Option.bind (some (IntKind.u64.wrap ((IntKind.u64.wrap (v1.fQ+((v2).tmod (4294967296:Int))))+(0:Int)))) λv3=>
 Option.bind (some (IntKind.u64.wrap ((v3).tdiv (4294967296:Int)))) λv4=>
 Option.bind (some (IntKind.u64.wrap ((v2).tdiv (4294967296:Int)))) λv5=>
 Option.bind (some (IntKind.u64.wrap ((IntKind.u64.wrap (v1.gC+((v5).tmod (4294967296:Int))))+v4))) λv6=>
 Option.bind (some (IntKind.u64.wrap ((v6).tdiv (4294967296:Int)))) λv7=>
 Option.bind (some (IntKind.u64.wrap ((v5).tdiv (4294967296:Int)))) λv8=>
 Option.bind (some (IntKind.u64.wrap ((IntKind.u64.wrap (v1.gy+((v8).tmod (4294967296:Int))))+v7))) λv9=>
 Option.bind (some (IntKind.u64.wrap ((v9).tdiv (4294967296:Int)))) λv10=>
 Option.bind (some (IntKind.u64.wrap ((v8).tdiv (4294967296:Int)))) λv11=>
 Option.bind (some (IntKind.u64.wrap ((IntKind.u64.wrap (v1.gJ+((v11).tmod (4294967296:Int))))+v10))) λv12=>
 Option.bind (some (IntKind.u64.wrap ((v12).tdiv (4294967296:Int)))) λaJ=>
 Option.bind (some (IntKind.u64.wrap ((v11).tdiv (4294967296:Int)))) λaH=>
 Option.bind (some (IntKind.u64.wrap ((IntKind.u64.wrap (v1.gw+((aH).tmod (4294967296:Int))))+aJ))) λbz=>
 Option.bind (some (IntKind.u64.wrap ((bz).tdiv (4294967296:Int)))) λbB=>
 Option.bind (some (IntKind.u64.wrap ((aH).tdiv (4294967296:Int)))) λcA=>
 some (⟨v1.fE,((v3).tmod (4294967296:Int)),((v6).tmod (4294967296:Int)),((v9).tmod (4294967296:Int)),((v12).tmod (4294967296:Int)),((bz).tmod (4294967296:Int))⟩:dz)
def SD(N:Nat)(v1:dz)(v2:Int):aph dz:=
 Option.bind (some (IntKind.u64.wrap ((IntKind.u64.wrap (v1.gC+((v2).tmod (4294967296:Int))))+(0:Int)))) λv3=>
 Option.bind (some (IntKind.u64.wrap ((v3).tdiv (4294967296:Int)))) λv4=>
 Option.bind (some (IntKind.u64.wrap ((v2).tdiv (4294967296:Int)))) λv5=>
 Option.bind (some (IntKind.u64.wrap ((IntKind.u64.wrap (v1.gy+((v5).tmod (4294967296:Int))))+v4))) λv6=>
 Option.bind (some (IntKind.u64.wrap ((v6).tdiv (4294967296:Int)))) λv7=>
 Option.bind (some (IntKind.u64.wrap ((v5).tdiv (4294967296:Int)))) λv8=>
 Option.bind (some (IntKind.u64.wrap ((IntKind.u64.wrap (v1.gJ+((v8).tmod (4294967296:Int))))+v7))) λv9=>
 Option.bind (some (IntKind.u64.wrap ((v9).tdiv (4294967296:Int)))) λv10=>
 Option.bind (some (IntKind.u64.wrap ((v8).tdiv (4294967296:Int)))) λv11=>
 Option.bind (some (IntKind.u64.wrap ((IntKind.u64.wrap (v1.gw+((v11).tmod (4294967296:Int))))+v10))) λv12=>
 Option.bind (some (IntKind.u64.wrap ((v12).tdiv (4294967296:Int)))) λaJ=>
 Option.bind (some (IntKind.u64.wrap ((v11).tdiv (4294967296:Int)))) λaH=>
 some (⟨v1.fE,v1.fQ,((v3).tmod (4294967296:Int)),((v6).tmod (4294967296:Int)),((v9).tmod (4294967296:Int)),((v12).tmod (4294967296:Int))⟩:dz)
def Av(N:Nat)(v1:dz)(v2:Int)(v3:Int):aph dz:=
 Option.bind (P2 N v1 (IntKind.u64.wrap (((v2).tmod (4294967296:Int))*((v3).tmod (4294967296:Int))))) λv4=>
 Option.bind (Ht N v4 (IntKind.u64.wrap (((v2).tmod (4294967296:Int))*(IntKind.u64.wrap ((v3).tdiv (4294967296:Int)))))) λv5=>
 Option.bind (Ht N v5 (IntKind.u64.wrap ((IntKind.u64.wrap ((v2).tdiv (4294967296:Int)))*((v3).tmod (4294967296:Int))))) λv6=>
 Option.bind (SD N v6 (IntKind.u64.wrap ((IntKind.u64.wrap ((v2).tdiv (4294967296:Int)))*(IntKind.u64.wrap ((v3).tdiv (4294967296:Int)))))) λv7=>
 some v7
def Ca(N:Nat)(v2:apg):apf aI->Nat->aph (Int64×Bool)
 |[],_=>
  some ((0:Int64),false)
 |v5::v6,v3=>
  bif (bL v5.au==bL v2)then
   some (v5.de,true)
  else
   (Ca N v2 v6 (v3+1))
def abk(N:Nat)(v1:apf aI)(v2:apg):aph (Int64×Bool):=
 Ca N v2 v1 0
def Qz(N:Nat)(v1:dz)(v2:dz):aph Bool:=
 bif (v1.gw !=v2.gw)then
  some (decide (v1.gw<v2.gw))
 else
  bif (v1.gJ !=v2.gJ)then
   some (decide (v1.gJ<v2.gJ))
  else
   bif (v1.gy !=v2.gy)then
    some (decide (v1.gy<v2.gy))
   else
    bif (v1.gC !=v2.gC)then
     some (decide (v1.gC<v2.gC))
    else
     bif (v1.fQ !=v2.fQ)then
      some (decide (v1.fQ<v2.fQ))
     else
      bif (v1.fE !=v2.fE)then
       some (decide (v1.fE<v2.fE))
      else
       some false
def JR(N:Nat)(v4:Int)(v2:dz)(v6:Int)(v3:Int)(v8:Int)(v5:Int)(v10:Int)(v7:Int)(v12:Int)(v9:Int)(v11:Int)(aJ:Int)(aH:Int):aph dz:=
 some (⟨(IntKind.u64.wrap (v4-(IntKind.u64.wrap (v2.fE+(0:Int))))),(IntKind.u64.wrap (v6-(IntKind.u64.wrap (v2.fQ+v3)))),(IntKind.u64.wrap (v8-(IntKind.u64.wrap (v2.gC+v5)))),(IntKind.u64.wrap (v10-(IntKind.u64.wrap (v2.gy+v7)))),(IntKind.u64.wrap (v12-(IntKind.u64.wrap (v2.gJ+v9)))),(IntKind.u64.wrap (aH-(IntKind.u64.wrap (v2.gw+v11))))⟩:dz)
def K3(N:Nat)(v1:dz)(v2:dz)(v4:Int)(v6:Int)(v3:Int)(v8:Int)(v5:Int)(v10:Int)(v7:Int)(v9:Int)(v11:Int)(v12:Int):aph dz:=
 bif (decide (v1.gw<(IntKind.u64.wrap (v2.gw+v11))))then
  JR N v4 v2 v6 v3 v8 v5 v10 v7 v12 v9 v11 (1:Int) (IntKind.u64.wrap (v1.gw+(4294967296:Int)))
 else
  JR N v4 v2 v6 v3 v8 v5 v10 v7 v12 v9 v11 (0:Int) v1.gw
def JL(N:Nat)(v1:dz)(v2:dz)(v4:Int)(v6:Int)(v3:Int)(v8:Int)(v5:Int)(v7:Int)(v9:Int)(v10:Int):aph dz:=
 bif (decide (v1.gJ<(IntKind.u64.wrap (v2.gJ+v9))))then
  K3 N v1 v2 v4 v6 v3 v8 v5 v10 v7 v9 (1:Int) (IntKind.u64.wrap (v1.gJ+(4294967296:Int)))
 else
  K3 N v1 v2 v4 v6 v3 v8 v5 v10 v7 v9 (0:Int) v1.gJ
def Ho(N:Nat)(v1:dz)(v2:dz)(v4:Int)(v6:Int)(v3:Int)(v5:Int)(v7:Int)(v8:Int):aph dz:=
 bif (decide (v1.gy<(IntKind.u64.wrap (v2.gy+v7))))then
  JL N v1 v2 v4 v6 v3 v8 v5 v7 (1:Int) (IntKind.u64.wrap (v1.gy+(4294967296:Int)))
 else
  JL N v1 v2 v4 v6 v3 v8 v5 v7 (0:Int) v1.gy
def LV(N:Nat)(v1:dz)(v2:dz)(v4:Int)(v3:Int)(v5:Int)(v6:Int):aph dz:=
 bif (decide (v1.gC<(IntKind.u64.wrap (v2.gC+v5))))then
  Ho N v1 v2 v4 v6 v3 v5 (1:Int) (IntKind.u64.wrap (v1.gC+(4294967296:Int)))
 else
  Ho N v1 v2 v4 v6 v3 v5 (0:Int) v1.gC
def Hy(N:Nat)(v1:dz)(v2:dz)(v3:Int)(v4:Int):aph dz:=
 bif (decide (v1.fQ<(IntKind.u64.wrap (v2.fQ+v3))))then
  LV N v1 v2 v4 v3 (1:Int) (IntKind.u64.wrap (v1.fQ+(4294967296:Int)))
 else
  LV N v1 v2 v4 v3 (0:Int) v1.fQ
def JF(N:Nat)(v1:dz)(v2:dz):aph dz:=
 bif (decide (v1.fE<(IntKind.u64.wrap (v2.fE+(0:Int)))))then
  Hy N v1 v2 (1:Int) (IntKind.u64.wrap (v1.fE+(4294967296:Int)))
 else
  Hy N v1 v2 (0:Int) v1.fE
def xe:dz:=⟨(0:Int),(0:Int),(0:Int),(0:Int),(0:Int),(0:Int)⟩
def AM(N:Nat)(v2:apf aI):apf dw->Nat->Int->Int->Int->Int->Int->Int->Int->Int->Int->Int->Int->Int->aph (Int64×Int)
 |[],_,v20,v21,fA,dV,v24,fZ,ft,jQ,v28,oJ,v30,v31=>
  Option.bind (Qz N (⟨v20,v21,fA,dV,v24,fZ⟩:dz) (⟨ft,jQ,v28,oJ,v30,v31⟩:dz)) λF7=>
  bif F7 then
   Option.bind (JF N (⟨ft,jQ,v28,oJ,v30,v31⟩:dz) (⟨v20,v21,fA,dV,v24,fZ⟩:dz)) λmX=>
   Option.bind (bif (mX.gC !=0)then some true else(bif (mX.gy !=0)then some true else(bif (mX.gJ !=0)then some true else(bif (mX.gw !=0)then some true else some (decide ((IntKind.u64.wrap (mX.fE+(IntKind.u64.wrap (mX.fQ*(4294967296:Int)))))>9223372036854775808)))))) λv34=>
   bif v34 then
    some ((0:Int64),(3:Int))
   else
    some (((-(Int64.ofInt (IntKind.u64.wrap ((IntKind.u64.wrap (mX.fE+(IntKind.u64.wrap (mX.fQ*(4294967296:Int)))))-(1:Int)))))-(1:Int64)),(0:Int))
  else
   Option.bind (JF N (⟨v20,v21,fA,dV,v24,fZ⟩:dz) (⟨ft,jQ,v28,oJ,v30,v31⟩:dz)) λve=>
   Option.bind (bif (ve.gC !=0)then some true else(bif (ve.gy !=0)then some true else(bif (ve.gJ !=0)then some true else(bif (ve.gw !=0)then some true else some (decide ((IntKind.u64.wrap (ve.fE+(IntKind.u64.wrap (ve.fQ*(4294967296:Int)))))>9223372036854775807)))))) λv36=>
   bif v36 then
    some ((0:Int64),(3:Int))
   else
    some ((Int64.ofInt (IntKind.u64.wrap (ve.fE+(IntKind.u64.wrap (ve.fQ*(4294967296:Int)))))),(0:Int))
 |bR::cl,bB,v20,v21,fA,dV,v24,fZ,ft,jQ,v28,oJ,v30,v31=>
  (abk N v2 bR.au).bind λv37=>
  bif v37.2 then
   bif ((decide (v37.1.toInt<0))==(decide (bR.dM.toInt<0)))then
    (uI N v37.1).bind λv38=>
    (uI N bR.dM).bind λv39=>
    Option.bind (Av N (⟨v20,v21,fA,dV,v24,fZ⟩:dz) v38 v39) λv40=>
    (λgP sS Oy P0 NF PU Rp Qi OA RN Pc N4=>AM N v2 cl (bB+1) gP sS Oy P0 NF PU Rp Qi OA RN Pc N4) v40.fE v40.fQ v40.gC v40.gy v40.gJ v40.gw ft jQ v28 oJ v30 v31
   else
    (uI N v37.1).bind λv41=>
    (uI N bR.dM).bind λv42=>
    Option.bind (Av N (⟨ft,jQ,v28,oJ,v30,v31⟩:dz) v41 v42) λzd=>
    (λgP sS Oy P0 NF PU Rp Qi OA RN Pc N4=>AM N v2 cl (bB+1) gP sS Oy P0 NF PU Rp Qi OA RN Pc N4) v20 v21 fA dV v24 fZ zd.fE zd.fQ zd.gC zd.gy zd.gJ zd.gw
  else
   some ((0:Int64),(9:Int))
def YZ(N:Nat)(v2:apf aI)(v1:bp)(v4:Int)(v5:Int)(v6:Int)(v7:Int)(v8:Int)(v9:Int)(v10:Int)(v11:Int)(v12:Int)(aJ:Int)(aH:Int)(bz:Int):aph (Int64×Int):=
 AM N v2 v1.xL 0 v4 v5 v6 v7 v8 v9 v10 v11 v12 aJ aH bz
def N8(N:Nat)(v1:bp)(v2:apf aI):aph (Int64×Int):=
 (RY N v1).bind λv3=>
 bif (v3 !=0)then
  some ((0:Int64),(1:Int))
 else
  bif (decide (v1.xK.toInt<0))then
   (uI N v1.xK).bind λv44=>
   Option.bind (Av N xe v44 (1:Int)) λzV=>
   YZ N v2 v1 (0:Int) (0:Int) (0:Int) (0:Int) (0:Int) (0:Int) zV.fE zV.fQ zV.gC zV.gy zV.gJ zV.gw
  else
   (uI N v1.xK).bind λv46=>
   Option.bind (Av N xe v46 (1:Int)) λzB=>
   YZ N v2 v1 zB.fE zB.fQ zB.gC zB.gy zB.gJ zB.gw (0:Int) (0:Int) (0:Int) (0:Int) (0:Int) (0:Int)
def RL(N:Nat)(v1:gF)(v2:apf aI):aph (Bool×Int):=
 (N8 N v1.bx v2).bind λv3=>
 bif (v3.2 !=0)then
  some (false,v3.2)
 else
  Option.bind (bif (v3.1.toInt==0)then some true else(bif (decide (v3.1.toInt>0))then some (!v1.FF)else some false)) λv4=>
  some (v4,(0:Int))
def Mc(N:Nat)(v2:apf aI):apf gF->Nat->aph Int
 |[],_=>
  some (0:Int)
 |v9::v10,v7=>
  (RL N v9 v2).bind λv11=>
  bif (v11.2 !=0)then
   some v11.2
  else
   bif v11.1 then
    (Mc N v2 v10 (v7+1))
   else
    some (16:Int)
def MB(N:Nat)(v2:apf aI)(v1:aV):apf apg->Nat->aph Int
 |[],_=>
  Mc N v2 v1.dF 0
 |v5::v6,v3=>
  (Tc N v2 v5).bind λv12=>
  Option.bind (bif v12.2 then(bif (decide (v12.1.toInt<1))then some true else some (decide (v12.1.toInt>4096)))else some true) λaJ=>
  bif aJ then
   some (15:Int)
  else
   (MB N v2 v1 v6 (v3+1))
end Go.Proofs.YtpeecnpmcbnahaaGreatDoor
namespace Go.Proofs.YtpeecnpmcbnahaaGreatDoor
end Go.Proofs.YtpeecnpmcbnahaaGreatDoor
namespace Go.Proofs.YtpeecnpmcbnahaaGreatDoor
open Go.RowKit
theorem CC(b:apg)(i:Nat):b[i]?=(bL b)[i]?:=by
 unfold bL;rw[aoO];by_cases h:i<b.size
 ·rw[getElem?_pos b i h,aoN (xs:=b.data) (by exact h)];rfl
 ·rw[getElem?_neg b i h,Array.getElem?_eq_none (xs:=b.data) (by exact Nat.le_of_not_lt h)]
theorem rV(b:apg):b.size=(bL b).length:=by unfold bL;rw[aoY];rfl
theorem Iv{i:Nat}(h:i<9223372036854775807):aQ ((i:Int)+1)=((i+1:Nat):Int):=by
 unfold aQ;rw[IntKind.wrap_i64]<;>omega
def nI(c:UInt8):Bool:=decide (97<=c.toNat)&&decide (c.toNat<=122)
def jL(c:UInt8):Bool:=nI c||(decide (48<=c.toNat)&&decide (c.toNat<=57))||c.toNat==95
def tX(l:apf UInt8):Bool:=nA.any λw=>bL w==l
def Jc(l:apf UInt8):Bool:=decide (1<=l.length)&&(decide (l.length<=16)&&(!tX l&&((l.take 1).all nI&&l.all jL)))
def ij(s:apg):Bool:=Jc (bL s)
theorem ZB(c:UInt8):IntKind.i32.wrap (c.toNat:Int)=(c.toNat:Int):=by
 have:=c.toNat_lt;rw[IntKind.wrap_i32]<;>omega
theorem m6{p q:Prop} [Decidable p] [Decidable q](h:p↔q):decide p=decide q:=decide_eq_decide.2 h
theorem gU(a b:Bool):(bif a then some b else some false)=some (a&&b):=by cases a<;>rfl
theorem mL(a b:Bool):(bif a then some true else some b)=some (a||b):=by cases a<;>rfl
theorem T5(N:Nat)(c:UInt8):CB N (c.toNat:Int)=some (nI c):=by
 unfold CB nI;rw[gU,aoq,m6 (q:=97<=c.toNat) (by omega),m6 (p:=(c.toNat:Int)<=122) (q:=c.toNat<=122) (by omega)]
theorem am0(N:Nat)(c:UInt8):Lb N (c.toNat:Int)=some (decide (48<=c.toNat)&&decide (c.toNat<=57)):=by
 unfold Lb;rw[gU,aoq,m6 (q:=48<=c.toNat) (by omega),m6 (p:=(c.toNat:Int)<=57) (q:=c.toNat<=57) (by omega)]
theorem qF(n k:Nat):((n:Int)==(k:Int))=(n==k):=by
 rw[Bool.eq_iff_iff,beq_iff_eq,beq_iff_eq];omega
theorem amc(N:Nat)(c:UInt8):KV N (c.toNat:Int)=some (jL c):=by
 unfold KV jL;rw[T5,aoq,am0,aoq];have:=qF c.toNat 95;rw[show(((c.toNat:Int)==95))=(c.toNat==95)from this];rw[mL,mL,aoq,Bool.or_assoc]
theorem T2(N:Nat)(s:apg)(hs:s.size<9223372036854775807):∀(k i:Nat),i<=s.size->s.size-i<k->Dw N s k (i:Int)=some ((i+(((bL s).drop i).takeWhile jL).length:Nat):Int)
 |0,i,_,hk=>absurd hk (aoT _)
 |k+1,i,hi,hk=>by
  rw[Dw];by_cases aN:i<s.size
  ·have J:decide ((i:Int)<(s.size:Int))=true:=ao8 (by omega);have h2:decide ((0:Int)<=(i:Int))=true:=ao8 (by omega);rw[J,h2];simp only[cond_true,aoS];have hl:i<(bL s).length:=by rw[<-rV];exact aN
   rw[CC,aov hl,List.drop_eq_getElem_cons hl,aoq,ZB,amc,aoq,aoq];cases hw:jL (bL s)[i]with
   |true=>
    simp only[cond_true];rw[Iv (Nat.lt_trans aN hs),T2 N s hs k (i+1) aN (by omega),List.takeWhile_cons_of_pos hw,aou]
    congr 2;omega
   |false=>
    simp only[cond_false];rw[List.takeWhile_cons_of_neg (by rw[hw];simp)];rfl
  ·have J:decide ((i:Int)<(s.size:Int))=false:=ao9 (by omega);rw[J];simp only[cond_false,aoq];rw[List.drop_eq_nil_of_le (by rw[<-rV];omega)];rfl
theorem aft(N:Nat)(s:apg)(hs:s.size<9223372036854775807)(hN:s.size<N):IZ N s=some ((((bL s).takeWhile jL).length:Nat):Int):=by
 unfold IZ;have:=T2 N s hs N 0 (Nat.zero_le _) (by omega);rw[ao0,aoL]at this;exact this
theorem aaI{α:Type}(p:α->Bool):∀l:apf α,((l.takeWhile p).length==l.length)=l.all p
 |[]=>rfl
 |x::l=>by
  cases h:p x with
  |true=>
   rw[List.takeWhile_cons_of_pos h,apb,h,Bool.true_and,<-aaI p l];simp
  |false=>rw[List.takeWhile_cons_of_neg (by rw[h];simp),apb,h];simp
theorem ND(N:Nat)(v:apg):∀(l:apf apg)(k:Nat),∃z:Int,GY N v l k=some z/\decide (z>=0)=l.any λw=>bL w==bL v
 |[],k=>⟨-1,rfl,rfl⟩
 |w::l,k=>by
  rw[GY,apc];have hc:(bL v==bL w)=(bL w==bL v):=by rw[Bool.eq_iff_iff,beq_iff_eq,beq_iff_eq];exact eq_comm
  cases h:bL v==bL w with
  |true=>rw[hc]at h;exact⟨k,rfl,by rw[h,Bool.true_or];exact ao8 (by omega)⟩
  |false=>
   obtain⟨z,J,h2⟩:=ND N v l (k+1);rw[hc]at h;exact⟨z,J,by rw[h,Bool.false_or];exact h2⟩
theorem ajk(N:Nat)(v:apg):Hq N v=some (tX (bL v)):=by
 unfold Hq QM Ab Mn;obtain⟨z,J,h2⟩:=ND N v nA 0;rw[aoq,J,aoq,aoq,h2];rfl
theorem Mu{α:Type}{l:apf α}(h:0<l.length):l.take 1=[l[0]]:=by
 cases l with
 |nil=>cases h
 |cons x l=>rfl
theorem sL:bL (bs [])=[]:=rfl
theorem Hx(N:Nat)(s:apg)(hN:16<N):vF N s=some (ij s):=by
 unfold vF ij Jc;have hz:=rV s;by_cases h0:(bL s).length=0
 ·have:bL s=[]:=List.length_eq_zero_iff.1 h0;rw[this];rfl
 have cE:(bL s==bL (bs []))=false:=by
  rw[sL,beq_eq_false_iff_ne];intro h;rw[h]at h0;exact h0 rfl
 rw[cE,ao8 (show 1<=(bL s).length by omega),Bool.true_and];simp only[cond_false];by_cases cM:(bL s).length<=16
 ·rw[ao8 (show(s.size:Int)<=16 by omega),ao8 cM,Bool.true_and];simp only[cond_true];have hl:0<(bL s).length:=by omega
  rw[CC,aov hl,aoq,ZB,T5,aoq,aft N s (by omega) (by omega),aoq,ajk,aoq];rw[hz,qF,aaI];have ht:(bL s).take 1=[(bL s)[0]]:=Mu hl;rw[ht,apb,List.all_nil,Bool.and_true,gU,gU,aoq]
  congr 1
  cases tX (bL s)<;>cases nI (bL s)[0]<;>cases (bL s).all jL<;>rfl
 ·rw[ao9 (show ¬(s.size:Int)<=16 by omega),ao9 cM];rfl
theorem alD(N:Nat)(b:Bool):iG N b=some b:=by cases b<;>rfl
theorem alg(a b:Bool):(bif a then some a else some b)=some (a||b):=by cases a<;>rfl
theorem am9(a b:apf UInt8):(a==b)=(b==a):=by rw[Bool.eq_iff_iff,beq_iff_eq,beq_iff_eq];exact eq_comm
theorem aeB(N:Nat)(v:apg):Mk N v=some (tX (bL v)):=by
 simp only[Mk,alD,alg,tX,nA,apc,List.any_nil,Bool.or_false,am9 (bL v)]
theorem E9(n k:Nat):decide ((n:Int)<(k:Int))= !decide (k<=n):=by
 by_cases h:k<=n
 ·rw[ao8 h,ao9 (by omega)];rfl
 ·rw[ao9 h,ao8 (by omega)];rfl
theorem kL(n k:Nat):decide ((n:Int)>(k:Int))= !decide (n<=k):=by
 by_cases h:n<=k
 ·rw[ao8 h,ao9 (by omega)];rfl
 ·rw[ao9 h,ao8 (by omega)];rfl
theorem abV(n k:Nat):decide ((n:Int)>=(k:Int))=decide (k<=n):=m6 (by omega)
theorem vA(n k:Nat):decide ((n:Int)<=(k:Int))=decide (n<=k):=m6 (by omega)
theorem Xq(n k:Nat):((n:Int) !=(k:Int))= !(n==k):=by unfold bne;rw[qF]
theorem anQ(c:UInt8):(bif (decide ((c.toNat:Int)<97))then(bif (decide ((c.toNat:Int)<48))then some ((c.toNat:Int) !=95)else(bif (decide ((c.toNat:Int)>57))then some ((c.toNat:Int) !=95)else some false))else(bif (decide ((c.toNat:Int)>122))then(bif (decide ((c.toNat:Int)<48))then some ((c.toNat:Int) !=95)else(bif (decide ((c.toNat:Int)>57))then some ((c.toNat:Int) !=95)else some false))else some false))=some (!jL c):=by
 have a1:=E9 c.toNat 97;have a2:=E9 c.toNat 48;have a3:=kL c.toNat 57;have a4:=kL c.toNat 122;have a5:=Xq c.toNat 95;simp only[Int.cast_ofNat_Int]at a1 a2 a3 a4 a5;rw[a1,a2,a3,a4,a5];unfold jL nI;cases decide (97<=c.toNat)<;>cases decide (48<=c.toNat)<;>cases decide (c.toNat<=57)<;>cases decide (c.toNat<=122)<;>cases (c.toNat==95)<;>rfl
theorem Vr(N:Nat)(s:apg)(hs:s.size<9223372036854775807):∀(k i:Nat),i<=s.size->s.size-i<k->yW N s k (i:Int)=some (((bL s).drop i).all jL)
 |0,i,_,hk=>absurd hk (aoT _)
 |k+1,i,hi,hk=>by
  rw[yW];by_cases aN:i<s.size
  ·have J:decide ((i:Int)<(s.size:Int))=true:=ao8 (by omega);have h2:decide ((0:Int)<=(i:Int))=true:=ao8 (by omega);rw[J,h2];simp only[cond_true,aoS];have hl:i<(bL s).length:=by rw[<-rV];exact aN
   rw[CC,aov hl,List.drop_eq_getElem_cons hl,aoq,anQ,aoq,apb];cases hw:jL (bL s)[i]with
   |true=>
    simp only[Bool.not_true,cond_false,Bool.true_and];rw[Iv (Nat.lt_trans aN hs),Vr N s hs k (i+1) aN (by omega)]
   |false=>rfl
  ·have J:decide ((i:Int)<(s.size:Int))=false:=ao9 (by omega);rw[J];simp only[cond_false];rw[List.drop_eq_nil_of_le (by rw[<-rV];omega)];rfl
theorem agV(N:Nat)(s:apg)(hN:16<N):Gy N s=some (ij s):=by
 unfold Gy ij Jc;have hz:=rV s;have a1:=E9 s.size 1;have a2:=kL s.size 16;simp only[Int.cast_ofNat_Int]at a1 a2;rw[a1,a2,hz];cases J:decide (1<=(bL s).length)with
 |false=>rfl
 |true=>
  cases cM:decide ((bL s).length<=16)with
  |false=>rfl
  |true=>
   have ml:=of_decide_eq_true J;have afz:=of_decide_eq_true cM;have hl:0<(bL s).length:=by omega
   simp only[Bool.not_true,cond_false,Bool.true_and];rw[aeB,aoq,CC,aov hl,aoq];have b1:=E9 (bL s)[0].toNat 97;have b2:=kL (bL s)[0].toNat 122;simp only[Int.cast_ofNat_Int]at b1 b2;rw[b1,b2,mL,mL,aoq,Mu hl];have:=Vr N s (by omega) N 0 (Nat.zero_le _) (by omega);rw[ao0]at this;rw[show yW N s N 0=_ from this,apb,List.all_nil,Bool.and_true];unfold nI;cases tX (bL s)<;>cases decide (97<=(bL s)[0].toNat)<;>cases decide ((bL s)[0].toNat<=122)<;>rfl
theorem SN(N:Nat)(v:apg):∀(l:apf apg)(k:Nat),JE N v l k=some (l.any λw=>bL w==bL v)
 |[],_=>rfl
 |w::l,k=>by
  rw[JE,apc,SN N v l (k+1)];cases bL w==bL v<;>rfl
theorem akg(c:UInt8)(z:Bool):(bif (decide ((c.toNat:Int)>=97))then(bif (decide ((c.toNat:Int)<=122))then some (!true)else(bif z then(bif (decide ((c.toNat:Int)>=48))then(bif (decide ((c.toNat:Int)<=57))then some (!true)else some (!((c.toNat:Int)==95)))else some (!((c.toNat:Int)==95)))else some (!false)))else(bif z then(bif (decide ((c.toNat:Int)>=48))then(bif (decide ((c.toNat:Int)<=57))then some (!true)else some (!((c.toNat:Int)==95)))else some (!((c.toNat:Int)==95)))else some (!false)))=some (!(bif z then jL c else nI c)):=by
 have a1:=abV c.toNat 97;have a2:=abV c.toNat 48;have a3:=vA c.toNat 57;have a4:=vA c.toNat 122;have a5:=qF c.toNat 95;simp only[Int.cast_ofNat_Int]at a1 a2 a3 a4 a5;rw[a1,a2,a3,a4,a5];unfold jL nI;cases decide (97<=c.toNat)<;>cases decide (48<=c.toNat)<;>cases decide (c.toNat<=57)<;>cases decide (c.toNat<=122)<;>cases (c.toNat==95)<;>cases z<;>rfl
theorem YN(N:Nat)(s:apg)(hs:s.size<9223372036854775807):∀(k i:Nat),i<=s.size->s.size-i<k->Dc N s k (i:Int)=some (bif decide (i>0)then((bL s).drop i).all jL else((bL s).take 1).all nI&&((bL s).drop 1).all jL)
 |0,i,_,hk=>absurd hk (aoT _)
 |k+1,i,hi,hk=>by
  rw[Dc];by_cases aN:i<s.size
  ·have J:decide ((i:Int)<(s.size:Int))=true:=ao8 (by omega);have h2:decide ((0:Int)<=(i:Int))=true:=ao8 (by omega);rw[J,h2];simp only[cond_true,aoS];have hl:i<(bL s).length:=by rw[<-rV];exact aN
   rw[CC,aov hl,aoq,akg,aoq];rw[Iv (Nat.lt_trans aN hs),YN N s hs k (i+1) aN (by omega),ao8 (show i+1>0 by omega)];simp only[cond_true];by_cases h0:i=0
   ·subst h0;rw[ao9 (show ¬((0:Nat):Int)>0 by omega),ao9 (show ¬0>0 by omega)];simp only[cond_false];rw[Mu hl,apb,List.all_nil,Bool.and_true];cases nI (bL s)[0]<;>rfl
   ·rw[ao8 (show(i:Int)>0 by omega),ao8 (show i>0 by omega)];simp only[cond_true];rw[List.drop_eq_getElem_cons hl,apb];cases jL (bL s)[i]<;>rfl
  ·have J:decide ((i:Int)<(s.size:Int))=false:=ao9 (by omega);rw[J];simp only[cond_false];have hn:(bL s).drop i=[]:=List.drop_eq_nil_of_le (by rw[<-rV];omega);by_cases h0:i=0
   ·subst h0;rw[ao0]at hn;rw[hn];rfl
   ·rw[ao8 (show i>0 by omega),hn];rfl
theorem HY(N:Nat)(s:apg)(hN:16<N):AT N s=some (ij s):=by
 unfold AT ij Jc;have hz:=rV s;have a1:=E9 s.size 1;have a2:=kL s.size 16;simp only[Int.cast_ofNat_Int]at a1 a2;rw[a1,a2,hz];cases J:decide (1<=(bL s).length)with
 |false=>rfl
 |true=>
  cases cM:decide ((bL s).length<=16)with
  |false=>rfl
  |true=>
   have ml:=of_decide_eq_true J;have afz:=of_decide_eq_true cM;have hl:0<(bL s).length:=by omega
   simp only[Bool.not_true,cond_false,Bool.true_and];have hh:∀l,xZ N l s=some (l.any λw=>bL w==bL s):=λl=>SN N s l 0;unfold SV;rw[aoq,hh,aoq,aoq];have:=YN N s (by omega) N 0 (Nat.zero_le _) (by omega);rw[show Dc N s N 0=_ from this];show(bif tX (bL s)then some false else some (((bL s).take 1).all nI&&((bL s).drop 1).all jL))=_;have hw:(bL s).all jL=(jL (bL s)[0]&&((bL s).drop 1).all jL):=by
    have hd:bL s=(bL s)[0]::(bL s).drop 1:=by
     have:=List.drop_eq_getElem_cons hl
     rwa [ao0]at this
    rw[<-apb,<-hd]
   rw[hw,Mu hl,apb,List.all_nil,Bool.and_true];unfold jL;cases tX (bL s)<;>cases nI (bL s)[0]<;>simp
def db(t:aM):Bool:=
 bif t.bk==1||t.bk==3 then t.cf==0&&(t.bQ==0&&(t.cq==0&&t.ct==0))
 else t.bk==2&&(decide (2<=t.cf)&&(decide (t.cf<=31)&&(decide (0<=t.bQ)&&(decide (t.bQ<=30)&&(decide (1<=t.cq)&&(decide (t.cq<=4)&&(t.ct==1||t.ct==2)))))))
theorem amp(a:Bool):(bif a then some true else some false)=some a:=by cases a<;>rfl
theorem O0(a b:Int):decide (a<b)= !decide (b<=a):=by
 by_cases h:b<=a
 ·rw[ao8 h,ao9 (by omega)];rfl
 ·rw[ao9 h,ao8 (by omega)];rfl
theorem KE(a b:Int):decide (a>b)= !decide (a<=b):=O0 b a
theorem mH(a b:Int):decide (a>=b)=decide (b<=a):=rfl
theorem zF(a b:Int):(a !=b)= !(a==b):=rfl
theorem Hc(N:Nat)(t:aM):Ba N t=some (db t):=by
 unfold Ba db;simp only[mL,gU,aoq,mH];cases (t.bk==1||t.bk==3)<;>rfl
theorem SC(N:Nat)(t:aM)(h:(t.bk==2)=true):tE N t=some (bif (decide (2<=t.cf)&&(decide (t.cf<=31)&&(decide (0<=t.bQ)&&(decide (t.bQ<=30)&&(decide (1<=t.cq)&&(decide (t.cq<=4)&&(t.ct==1||t.ct==2)))))))then 0 else 10):=by
 unfold tE;simp only[mL,gU,aoq,mH,KE,zF,h,Bool.not_true,Bool.false_or];cases decide (2<=t.cf)<;>cases decide (t.cf<=31)<;>cases decide (0<=t.bQ)<;>cases decide (t.bQ<=30)<;>cases decide (1<=t.cq)<;>cases decide (t.cq<=4)<;>cases t.ct==1<;>cases t.ct==2<;>rfl
theorem pw(N:Nat)(t:aM):l9 N t=some (bif db t then 0 else 10):=by
 unfold l9 J7 db Sx;cases J:t.bk==1 with
 |true=>
  simp only[cond_true,aoq,apa,Bool.true_and,Bool.true_or,Bool.and_true];cases (t.cf==0&&(t.bQ==0&&(t.cq==0&&t.ct==0)))<;>rfl
 |false=>
  cases h3:t.bk==3 with
  |true=>
   simp only[cond_true,cond_false,aoq,apa,Bool.true_and,Bool.or_true,Bool.and_true];cases (t.cf==0&&(t.bQ==0&&(t.cq==0&&t.ct==0)))<;>rfl
  |false=>
   cases h2:t.bk==2 with
   |true=>
    rw[SC N t h2];simp only[cond_true,cond_false,aoq,Bool.true_and,Bool.or_false];cases (decide (2<=t.cf)&&(decide (t.cf<=31)&&(decide (0<=t.bQ)&&(decide (t.bQ<=30)&&(decide (1<=t.cq)&&(decide (t.cq<=4)&&(t.ct==1||t.ct==2)))))))<;>rfl
   |false=>rfl
def tI:aph apg->apf dw->Bool
 |_,[]=>true
 |p,m::l=>ij m.au&&(!(m.dM.toInt==0)&&((match p with|none=>true|some q=>Op.bytesLess (bL q) (bL m.au))&&tI (some m.au) l))
theorem abn(p:aph apg)(m:dw)(l:apf dw):tI p (m::l)=(ij m.au&&(!(m.dM.toInt==0)&&((match p with|none=>true|some q=>Op.bytesLess (bL q) (bL m.au))&&tI (some m.au) l))):=by cases p<;>rfl
def jj(x:bp):Bool:=tI none x.xL
def sU(x:bp)(k:Nat):aph apg:=bif k==0 then none else(x.xL[k-1]?).map (·.au)
theorem amk{k:Nat}(h0:0<k)(h:k<=maxLen):aQ ((k:Int)-1)=((k-1:Nat):Int):=by
 unfold aQ;have:(k:Int)-1=((k-1:Nat):Int):=by omega
 rw[this];unfold maxLen at h;rw[IntKind.wrap_i64]<;>omega
theorem TT{x:bp}{k:Nat}{m:dw}{l:apf dw}(hd:x.xL.drop k=m::l):sU x (k+1)=some m.au:=by
 have:=bI hd;unfold sU;simp [this]
theorem abZ{x:bp}{k:Nat}{m:dw}{l:apf dw}(hd:x.xL.drop k=m::l)(hm:x.xL.length<=maxLen):
 (bif (decide ((k:Int)>0))then bif (decide ((0:Int)<=(aQ ((k:Int)-(1:Int)))))then
 Option.bind (x.xL[((aQ ((k:Int)-(1:Int)))).toNat]?) λv7=>
 some (!(Op.bytesLess (bL v7.au) (bL m.au)))
 else none else some false)=some (!(match sU x k with|none=>true|some q=>Op.bytesLess (bL q) (bL m.au))):=by
 have aN:k<x.xL.length:=(aor.1 (bI hd)).1;by_cases h0:k=0
 ·subst h0;rfl
 ·rw[ao8 (show(k:Int)>0 by omega),amk (by omega) (by omega),ao8 (show(0:Int)<=((k-1:Nat):Int) by omega)];simp only[cond_true,aoS];have hp:sU x k=(x.xL[k-1]?).map (·.au):=by
    unfold sU;rw[beq_false_of_ne h0];rfl
  rw[hp,aov (show k-1<x.xL.length by omega)];rfl
theorem YG(N:Nat)(hN:16<N)(x:bp)(hm:x.xL.length<=maxLen):∀(l:apf dw)(k:Nat),x.xL.drop k=l->Km N x l k=some (bif tI (sU x k) l then 0 else 1)
 |[],k,_=>rfl
 |m::l,k,hd=>by
  rw[Km,agV N m.au hN,aoq,abn,abZ hd hm,YG N hN x hm l (k+1) (ma hd),TT hd];generalize (match sU x k with|none=>true|some q=>Op.bytesLess (bL q) (bL m.au))=b;cases ij m.au<;>cases (m.dM.toInt==0)<;>cases b<;>cases tI (some m.au) l<;>rfl
theorem KY(N:Nat)(hN:16<N)(x:bp)(hm:x.xL.length<=maxLen):AB N x=some (bif jj x then 0 else 1):=YG N hN x hm x.xL 0 rfl
theorem Tp(N:Nat)(hN:16<N)(x:bp)(hm:x.xL.length<=maxLen):∀(l:apf dw)(k:Nat),x.xL.drop k=l->JB N x l k=some (tI (sU x k) l)
 |[],k,_=>rfl
 |m::l,k,hd=>by
  rw[JB,HY N m.au hN,aoq,abn,abZ hd hm,Tp N hN x hm l (k+1) (ma hd),TT hd];generalize (match sU x k with|none=>true|some q=>Op.bytesLess (bL q) (bL m.au))=b;cases ij m.au<;>cases (m.dM.toInt==0)<;>cases b<;>cases tI (some m.au) l<;>rfl
theorem Gi(N:Nat)(hN:16<N)(x:bp)(hm:x.xL.length<=maxLen):w5 N x=some (jj x):=Tp N hN x hm x.xL 0 rfl
def dJ(t:aM)(v:aD):Bool:=
 bif t.bk==2 then v.xD.toInt==1&&(decide (-(2^(t.cf-1).toNat)<=v.xN.toInt)&&decide (v.xN.toInt<2^(t.cf-1).toNat))
 else decide (v.xN.toInt<=2147483647)&&(decide (-2147483647<=v.xN.toInt)&&(decide (1<=v.xD.toInt)&&(decide (v.xD.toInt<=2147483647)&&
  (bif t.bk==3 then v.xD.toInt==1 else Nat.gcd v.xN.toInt.natAbs v.xD.toInt.toNat==1))))
theorem agl:∀n:Fin 30,(decide ((0:Int)<=(IntKind.u64.wrap (aQ (((n.val+2:Nat):Int)-(1:Int))))))=true/\(decide ((0:Int)<=(aQ (((n.val+2:Nat):Int)-(1:Int)))))=true/\
 (-(Int64.ofInt ((1:Int)*2^(min ((IntKind.u64.wrap (aQ (((n.val+2:Nat):Int)-(1:Int))))).toNat (IntKind.bits .i64))))).toInt= -(2^(n.val+1))/\
 ((Int64.ofInt ((1:Int)*2^(min ((IntKind.u64.wrap (aQ (((n.val+2:Nat):Int)-(1:Int))))).toNat (IntKind.bits .i64))))-(1:Int64)).toInt=2^(n.val+1)-1/\
 (-(Int64.ofInt ((1:Int)*2^(min ((aQ (((n.val+2:Nat):Int)-(1:Int)))).toNat (IntKind.bits .i64))))).toInt= -(2^(n.val+1))/\
 (Int64.ofInt ((1:Int)*2^(min ((aQ (((n.val+2:Nat):Int)-(1:Int)))).toNat (IntKind.bits .i64)))).toInt=2^(n.val+1):=by decide+kernel
theorem PK{b:Int}(J:2<=b)(h2:b<=31):(decide ((0:Int)<=(IntKind.u64.wrap (aQ (b-(1:Int))))))=true/\(decide ((0:Int)<=(aQ (b-(1:Int)))))=true/\
 (-(Int64.ofInt ((1:Int)*2^(min ((IntKind.u64.wrap (aQ (b-(1:Int))))).toNat (IntKind.bits .i64))))).toInt= -(2^(b-1).toNat)/\
 ((Int64.ofInt ((1:Int)*2^(min ((IntKind.u64.wrap (aQ (b-(1:Int))))).toNat (IntKind.bits .i64))))-(1:Int64)).toInt=2^(b-1).toNat-1/\
 (-(Int64.ofInt ((1:Int)*2^(min ((aQ (b-(1:Int)))).toNat (IntKind.bits .i64))))).toInt= -(2^(b-1).toNat)/\
 (Int64.ofInt ((1:Int)*2^(min ((aQ (b-(1:Int)))).toNat (IntKind.bits .i64)))).toInt=2^(b-1).toNat:=by
 obtain⟨n,rfl⟩:∃n:Nat,b=n:=⟨b.toNat,by omega⟩;have:=agl ⟨n-2,by omega⟩;simp only[show n-2+2=n by omega,show n-2+1=n-1 by omega]at this;rw[show((n:Int)-1).toNat=n-1 by omega];exact this
theorem Nn(N:Nat):∀(k a b:Nat),b<k->DH N k (a:Int) (b:Int)=some ((Nat.gcd a b:Nat):Int)
 |0,a,b,h=>absurd h (aoT _)
 |k+1,a,b,h=>by
  rw[DH];by_cases h0:b=0
  ·subst h0;simp
  ·rw[show(((b:Nat):Int) !=0)=true by rw[bne_iff_ne];omega];simp only[cond_true];rw[<-Int.ofNat_tmod,Nn N k b (a%b) (by have:=Nat.mod_lt a (Nat.pos_of_ne_zero h0);omega)];rw[Nat.gcd_comm a b,Nat.gcd_rec b a,Nat.gcd_comm]
theorem aa7(N:Nat):∀(k:Nat)(a b:Int64),0<=a.toInt->0<=b.toInt->b.toInt.toNat<k->∃g:Int64,Mi N k a b=some g/\g.toInt=((Nat.gcd a.toInt.toNat b.toInt.toNat:Nat):Int)
 |0,a,b,_,_,h=>absurd h (aoT _)
 |k+1,a,b,ha,hb,h=>by
  rw[Mi];by_cases h0:b.toInt=0
  ·rw[h0];refine⟨a,rfl,?_⟩;show a.toInt=((Nat.gcd a.toInt.toNat 0:Nat):Int);rw[Nat.gcd_zero_right];omega
  ·rw[show(b.toInt !=0)=true by rw[bne_iff_ne];exact h0];simp only[cond_true];obtain⟨x,hx⟩:∃x:Nat,a.toInt=x:=⟨a.toInt.toNat,by omega⟩;obtain⟨y,hy⟩:∃y:Nat,b.toInt=y:=⟨b.toInt.toNat,by omega⟩;rw[hx,hy];have hyp:0<y:=by omega
   have hm:(x:Int).tmod (y:Int)=((x%y:Nat):Int):=(Int.ofNat_tmod x y).symm;have aN:=Nat.mod_lt x hyp;have jZ:b.toInt<2^63:=Int64.toInt_lt b;have mf:(Int64.ofInt ((x%y:Nat):Int)).toInt=((x%y:Nat):Int):=by
    rw[Int64.toInt_ofInt_of_le]
    ·omega
    ·omega
   rw[hm];obtain⟨g,J,h2⟩:=aa7 N k b (Int64.ofInt ((x%y:Nat):Int)) hb (by rw[mf];omega) (by rw[mf];omega);refine⟨g,J,?_⟩;rw[h2,mf,hy];simp only[aoS];rw[Nat.gcd_comm x y,Nat.gcd_rec y x,Nat.gcd_comm]
theorem mj(z:Int):IntKind.u64.wrap z=z%18446744073709551616:=rfl
theorem QF(N:Nat)(v:Int64):BG N v=some ((v.toInt.natAbs:Nat):Int):=by
 unfold BG;have J:v.toInt<2^63:=Int64.toInt_lt v;have h2: -2^63<=v.toInt:=Int64.le_toInt v;by_cases h:v.toInt<0
 ·rw[ao8 h];simp only[cond_true,mj]
  congr 1
  omega
 ·rw[ao9 h];simp only[cond_false,mj]
  congr 1
  omega
theorem ql(N:Nat)(hN:2147483648<N)(t:aM)(v:aD)(ht:db t=true):mD N t v=some (dJ t v):=by
 unfold mD;rw[pw,ht,aoq];unfold dJ;cases h2:t.bk==2 with
 |true=>
  simp only[cond_true];show Option.bind (ta N t v) _=_;unfold db at ht;have hk:t.bk=2:=by simpa using h2
  rw[hk]at ht;have qu:(decide (2<=t.cf)&&(decide (t.cf<=31)&&(decide (0<=t.bQ)&&(decide (t.bQ<=30)&&(decide (1<=t.cq)&&(decide (t.cq<=4)&&(t.ct==1||t.ct==2)))))))=true:=ht;unfold ta;rw[SC N t h2,qu,aoq];simp only[aot,decide_eq_true_eq]at qu;obtain⟨b1,b2,_⟩:=qu;obtain⟨f1,f2,f3,f4,f5,f6⟩:=PK b1 b2;unfold Ga Ci A0;rw[gU,aoq,aoq,mH,ao8 b1,ao8 b2];simp only[Bool.and_self,cond_true];rw[f1];simp only[cond_true,aoq];rw[f3,f4];rw[mH,gU,m6 (p:=v.xN.toInt<=2^(t.cf-1).toNat-1) (q:=v.xN.toInt<2^(t.cf-1).toNat) (by omega)];cases (v.xD.toInt==1)<;>rfl
 |false=>
  simp only[cond_false];show(bif t.bk==3 then _ else _)=_;cases h3:t.bk==3 with
  |true=>
   simp only[cond_true];unfold pW;rw[mH,gU,aoq,aoq];by_cases hd:v.xD.toInt=1
   ·rw[hd];simp only[apa,cond_true,aoq,show decide ((1:Int)<=1)=true from rfl,show decide ((1:Int)<=2147483647)=true from rfl,Bool.and_true];rw[Bool.and_comm]
   ·rw[beq_false_of_ne hd];simp only[cond_false,aoq,Bool.and_false]
  |false=>
   simp only[cond_false];unfold j9 OH;rw[mH,mH,gU,aoq,aoq,QF,aoq];cases vr:decide (1<=v.xD.toInt)with
   |false=>cases decide (v.xN.toInt<=2147483647)<;>cases decide (-2147483647<=v.xN.toInt)<;>rfl
   |true=>
    cases nB:decide (v.xD.toInt<=2147483647)with
    |false=>cases decide (v.xN.toInt<=2147483647)<;>cases decide (-2147483647<=v.xN.toInt)<;>rfl
    |true=>
     have e1:=of_decide_eq_true vr;have e2:=of_decide_eq_true nB;have hw:IntKind.u64.wrap v.xD.toInt=((v.xD.toInt.toNat:Nat):Int):=by rw[mj];omega
     simp only[cond_true,Bool.true_and];rw[hw];unfold DU;rw[Nn N N v.xN.toInt.natAbs v.xD.toInt.toNat (by omega),aoq,show((((Nat.gcd v.xN.toInt.natAbs v.xD.toInt.toNat:Nat):Int))==1)=(Nat.gcd v.xN.toInt.natAbs v.xD.toInt.toNat==1)from qF _ 1,gU,aoq];cases decide (v.xN.toInt<=2147483647)<;>cases decide (-2147483647<=v.xN.toInt)<;>rfl
theorem agv(N:Nat)(hN:2147483648<N)(t:aM)(v:aD)(ht:db t=true):Ss N t v=some (dJ t v):=by
 unfold Ss dJ;cases h2:t.bk==2 with
 |true=>
  simp only[cond_true];unfold db at ht;have hk:t.bk=2:=by simpa using h2
  rw[hk]at ht;have qu:(decide (2<=t.cf)&&(decide (t.cf<=31)&&(decide (0<=t.bQ)&&(decide (t.bQ<=30)&&(decide (1<=t.cq)&&(decide (t.cq<=4)&&(t.ct==1||t.ct==2)))))))=true:=ht;simp only[aot,decide_eq_true_eq]at qu;obtain⟨b1,b2,_⟩:=qu;obtain⟨f1,f2,f3,f4,f5,f6⟩:=PK b1 b2;rw[f2];simp only[cond_true];rw[f5,f6,mH,gU,gU,aoq]
 |false=>
  simp only[cond_false,KE,mL,aoq];cases vK:decide (v.xN.toInt<=2147483647)with
  |false=>rfl
  |true=>
   cases ku:decide (-2147483647<=v.xN.toInt)with
   |false=>rfl
   |true=>
    cases vr:decide (1<=v.xD.toInt)with
    |false=>rfl
    |true=>
     cases nB:decide (v.xD.toInt<=2147483647)with
     |false=>rfl
     |true=>
      have n1:=of_decide_eq_true vK;have n2:=of_decide_eq_true ku;have e1:=of_decide_eq_true vr;have e2:=of_decide_eq_true nB;simp only[Bool.not_true,Bool.or_false,cond_false,Bool.true_and];cases h3:t.bk==3 with
      |true=>rfl
      |false=>
       simp only[cond_false];have akV:(-v.xN).toInt= -v.xN.toInt:=by
        rw[Int64.toInt_neg];rw[Int.bmod_eq_of_le]<;>omega
       have xF:(vZ v.xN (-v.xN)).toInt=((v.xN.toInt.natAbs:Nat):Int):=by
        rw[<-Zs,akV];split<;>omega
       unfold abl;obtain⟨g,g1,g2⟩:=aa7 N N (vZ v.xN (-v.xN)) v.xD (by rw[xF];omega) (by omega) (by omega);rw[g1,aoq,g2,xF,aoS];rw[show((((Nat.gcd v.xN.toInt.natAbs v.xD.toInt.toNat:Nat):Int))==1)=(Nat.gcd v.xN.toInt.natAbs v.xD.toInt.toNat==1)from qF _ 1]
def rH(n:Int):Bool:=decide (-9223372036854775808<=n)&&decide (n<=9223372036854775807)
theorem ot{n:Int}:rH n=true↔-9223372036854775808<=n/\n<=9223372036854775807:=by
 unfold rH;rw[aot,decide_eq_true_iff,decide_eq_true_iff]
theorem ala(n:Int64):rH n.toInt=true:=by
 rw[ot];have J:=n.le_toInt;have h2:=n.toInt_lt;omega
def same(a b:apg):Bool:=bL a==bL b
def lt(a b:apg):Bool:=Op.bytesLess (bL a) (bL b)
inductive Er|arg|range
abbrev X(α:Type):=Except Er α
def Za:apf apg->apg->apf apg
 |[],s=>[s]
 |x::l,s=>if lt s x then x::Za l s else s::x::l
def ins(l:apf apg)(s:apg):apf apg:=if l.any (same · s)then l else(Za l.reverse s).reverse
set_option linter.unusedSimpArgs false
def j7(l:bp):Prop:=l.xL.length<=maxLen
structure XA(x:cJ):Prop where
 mo:j7 x.bx
 at_:∀l∈x.cN,j7 l
structure zR(e:aw):Prop where
 mo:j7 e.bx
 idx:∀x∈e.xIdx,XA x
 args:e.bZ.length<=maxLen
def mZ(e:aw):Prop:=∀x∈dE e,zR x
def x6(l:bp):Bool:=l.xK.toInt==0&&l.xL.length==0
def qT(x:cJ):Bool:=bif bL x.cP==[]then x.cN.length==0 else x6 x.bx
def Jf(v:aD):Bool:=v.xN.toInt==0&&v.xD.toInt==0
def Kf(t:aM):Bool:=t.bk==0&&(t.cf==0&&(t.bQ==0&&(t.cq==0&&t.ct==0)))
def om(e:aw):Bool:=decide (1<=e.az)&&(decide (e.az<=18)&&((e.az==1||Jf e.de)&&((e.az==1||(e.az==12||Kf e.aB))&&((e.az==2||x6 e.bx)&&((e.az==3||(bL e.au==[]&&e.xIdx.length==0))&&e.xIdx.all qT)))))
def sW(e:aw):Bool:=(!(e.az==3)||ij e.au)&&e.xIdx.all λx=>bL x.cP==[]||ij x.cP
def nC(op:Int):Int:=bif op==1||(op==2||op==3)then 0 else bif op==8||(op==12||op==18)then 1 else bif op==11 then 3 else 2
def oS(e:aw):Bool:=(e.bZ.length:Int)==nC e.az&&(decide (e.xIdx.length<=6)&&e.xIdx.all λx=>decide (x.cN.length<=6))
def fY(e:aw):Bool:=decide (13<=e.az)&&decide (e.az<=18)
def la(op:Int)(i:Nat):Bool:=(op==11&&i==0)||(op==16||(op==17||op==18))
def uy(op:Int):Nat->apf aw->Bool
 |_,[]=>true
 |i,a::l=>fY a==la op i&&uy op (i+1) l
def nU(e:aw):Bool:=(!(e.az==1||e.az==12)||db e.aB)&&uy e.az 0 e.bZ
def vm(e:aw):Bool:=(!(e.az==1)||dJ e.aB e.de)&&(oO e).all jj
def ng(e:aw):Int:=bif om e then bif sW e then bif oS e then bif nU e then bif vm e then 0 else 1 else 10 else 11 else 7 else 5
theorem uk(n:Nat):((n:Int)==0)=(n==0):=qF n 0
theorem KM(n:Nat):decide ((n:Int)>0)= !(n==0):=by
 by_cases h:n=0
 ·subst h;rfl
 ·rw[ao8 (show(n:Int)>0 by omega),beq_false_of_ne h];rfl
theorem YH(N:Nat)(l:bp):EY N l=some (x6 l):=by
 unfold EY x6;rw[gU,aoq,uk]
theorem an0(N:Nat)(x:cJ):LG N x=some (qT x):=by
 unfold LG qT;rw[YH,aoq,uk,sL];cases bL x.cP==[]<;>rfl
theorem Qd{α:Type}(f:α->Bool)(l:apf α):(l.any λx=> !f x)= !l.all f:=by
 induction l with
 |nil=>rfl
 |cons x l ih=>rw[apc,apb,ih];cases f x<;>rfl
theorem S4(N:Nat):∀(l:apf cJ)(k:Nat),∃z:Int,Lq N l k=some z/\decide (z>=0)=l.any λx=> !qT x
 |[],k=>⟨-1,rfl,rfl⟩
 |x::l,k=>by
  rw[Lq,apc];unfold QV;rw[an0,aoq,aoq];cases h: !qT x with
  |true=>exact⟨k,rfl,ao8 (by omega)⟩
  |false=>exact S4 N l (k+1)
theorem ae0(N:Nat)(l:apf cJ):KT N l=some (!l.all qT):=by
 unfold KT Qe;obtain⟨z,J,h2⟩:=S4 N l 0;rw[J,aoq,h2,Qd]
theorem aao(v:aD):((v.xN.toInt==(0:Int64).toInt)&&((v.xD.toInt==(0:Int64).toInt)&&true))=Jf v:=by rw[Bool.and_true];rfl
theorem TV(t:aM):((t.bk==0)&&((t.cf==0)&&((t.bQ==0)&&((t.cq==0)&&((t.ct==0)&&true)))))=Kf t:=by rw[Bool.and_true];rfl
theorem sI(a b:Bool):(bif a then some false else some b)=some (!a&&b):=by cases a<;>rfl
theorem U4(a b:Bool):(bif a then some b else some true)=some (!a||b):=by cases a<;>rfl
theorem akT(N:Nat)(e:aw):IK N e=some (om e):=by
 unfold IK om;simp only[KM];simp only[mL,gU,sI,U4,aoq,KE,O0,YH,ae0,aao,TV,sL];cases decide (1<=e.az)<;>cases decide (e.az<=18)<;>cases e.az==1<;>cases Jf e.de<;>cases e.az==12<;>cases Kf e.aB<;>cases e.az==2<;>cases x6 e.bx<;>cases e.az==3<;>cases bL e.au==[]<;>cases e.xIdx.length==0<;>cases e.xIdx.all qT<;>rfl
theorem abJ(N:Nat):∀(l:apf cJ)(k:Nat),K6 N l k=some (l.all qT)
 |[],_=>rfl
 |x::l,k=>by
  rw[K6,apb,abJ N l (k+1)];unfold qT x6;simp only[mL,amp,gU,aoq,KM,zF,sL];cases bL x.cP==[]<;>cases x.cN.length==0<;>cases x.bx.xK.toInt==0<;>cases x.bx.xL.length==0<;>rfl
theorem aji(N:Nat)(e:aw):Oe N e=some (om e):=by
 unfold Oe om;simp only[KM];simp only[mL,gU,sI,U4,aoq,KE,O0,zF,abJ,aao,TV,sL];unfold x6;cases decide (1<=e.az)<;>cases decide (e.az<=18)<;>cases e.az==1<;>cases Jf e.de<;>cases e.az==12<;>cases Kf e.aB<;>cases e.az==2<;>cases e.bx.xK.toInt==0<;>cases e.bx.xL.length==0<;>cases e.az==3<;>cases bL e.au==[]<;>cases e.xIdx.length==0<;>cases e.xIdx.all qT<;>rfl
theorem agP(N:Nat)(hN:16<N)(x:cJ):Kp N x=some (!(bL x.cP==[]||ij x.cP)):=by
 unfold Kp;rw[Hx N _ hN,aoq,sI,aoq,sL];cases bL x.cP==[]<;>rfl
theorem Yv(N:Nat)(hN:16<N):∀(l:apf cJ)(k:Nat),∃z:Int,I0 N l k=some z/\decide (z>=0)=l.any λx=> !(bL x.cP==[]||ij x.cP)
 |[],k=>⟨-1,rfl,rfl⟩
 |x::l,k=>by
  rw[I0,apc,agP N hN,aoq];cases h: !(bL x.cP==[]||ij x.cP)with
  |true=>exact⟨k,rfl,ao8 (by omega)⟩
  |false=>exact Yv N hN l (k+1)
theorem afW(N:Nat)(hN:16<N)(e:aw):JI N e=some (sW e):=by
 unfold JI sW On Ng;obtain⟨z,J,h2⟩:=Yv N hN e.xIdx 0;rw[Hx N _ hN,aoq,J];simp only[aoq,h2,Qd,gU,sI];cases e.az==3<;>cases ij e.au<;>cases (e.xIdx.all λx=>bL x.cP==[]||ij x.cP)<;>rfl
theorem WB(N:Nat)(hN:16<N):∀(l:apf cJ)(k:Nat),LH N l k=some (l.all λx=>bL x.cP==[]||ij x.cP)
 |[],_=>rfl
 |x::l,k=>by
  rw[LH,apb,WB N hN l (k+1),HY N _ hN,aoq,sI,aoq,sI,sL];cases bL x.cP==[]<;>cases ij x.cP<;>rfl
theorem acO(N:Nat)(hN:16<N)(e:aw):Pg N e=some (sW e):=by
 unfold Pg sW;rw[HY N _ hN,aoq,WB N hN];simp only[aoq,gU,sI];cases e.az==3<;>cases ij e.au<;>rfl
theorem WT(N:Nat):∀(l:apf cJ)(k:Nat),∃z:Int,Gx N l k=some z/\decide (z>=0)=l.any λx=> !decide (x.cN.length<=6)
 |[],k=>⟨-1,rfl,rfl⟩
 |x::l,k=>by
  rw[Gx,apc];unfold QG;rw[aoq,show decide ((x.cN.length:Int)>6)= !decide (x.cN.length<=6)from kL _ 6];cases h: !decide (x.cN.length<=6)with
  |true=>exact⟨k,rfl,ao8 (by omega)⟩
  |false=>exact WT N l (k+1)
theorem ak3(N:Nat)(op:Int):JA N op=some (nC op):=by
 unfold JA BW Fi nC;cases op==1<;>cases op==2<;>cases op==3<;>cases op==8<;>cases op==12<;>cases op==18<;>cases op==11<;>rfl
theorem anq(N:Nat)(op:Int):Q0 N op=some (nC op):=by
 unfold Q0 L0 Ia nC;cases op==1<;>cases op==2<;>cases op==3<;>cases op==8<;>cases op==12<;>cases op==18<;>cases op==11<;>rfl
theorem agt(N:Nat)(e:aw):Lg N e=some (oS e):=by
 unfold Lg oS MS Oa;obtain⟨z,J,h2⟩:=WT N e.xIdx 0;rw[ak3,aoq,J,show decide ((e.xIdx.length:Int)>6)= !decide (e.xIdx.length<=6)from kL _ 6];simp only[aoq,h2,Qd,mL,sI,zF];cases (e.bZ.length:Int)==nC e.az<;>cases decide (e.xIdx.length<=6)<;>cases (e.xIdx.all λx=>decide (x.cN.length<=6))<;>rfl
theorem X1(N:Nat):∀(l:apf cJ)(k:Nat),Kw N l k=some (l.all λx=>decide (x.cN.length<=6))
 |[],_=>rfl
 |x::l,k=>by
  rw[Kw,apb,X1 N l (k+1),show decide ((x.cN.length:Int)>6)= !decide (x.cN.length<=6)from kL _ 6];cases decide (x.cN.length<=6)<;>rfl
theorem aeR(N:Nat)(e:aw):Sm N e=some (oS e):=by
 unfold Sm oS;rw[anq,aoq,X1,show decide ((e.xIdx.length:Int)>6)= !decide (e.xIdx.length<=6)from kL _ 6];simp only[aoq,mL,sI,zF];cases (e.bZ.length:Int)==nC e.az<;>cases decide (e.xIdx.length<=6)<;>rfl
theorem abX(N:Nat)(e:aw):Bg N e=some (fY e):=by
 unfold Bg fY;rw[gU,aoq]
theorem GH(N:Nat)(e:aw):LF N e=some (fY e):=by
 unfold LF fY;rw[mH,gU,aoq]
theorem aiR(N:Nat)(op:Int)(i:Nat):Kn N op (i:Int)=some (la op i):=by
 unfold Kn Cz la;rw[uk];cases op==16<;>cases op==17<;>cases op==18<;>cases op==11<;>cases i==0<;>rfl
theorem afZ(N:Nat)(op:Int)(i:Nat):O3 N op (i:Int)=some (la op i):=by
 unfold O3 la;rw[uk];cases op==16<;>cases op==17<;>cases op==18<;>cases op==11<;>cases i==0<;>rfl
theorem Yr(N:Nat)(e:aw):∀(l:apf aw)(i:Nat),Ja N e l i=some (uy e.az i l)
 |[],_=>rfl
 |a::l,i=>by
  rw[Ja,uy,abX,aoq,aiR,aoq,Yr N e l (i+1)];cases fY a==la e.az i<;>rfl
theorem V3(N:Nat)(e:aw):∀(l:apf aw)(i:Nat),Jr N e l i=some (uy e.az i l)
 |[],_=>rfl
 |a::l,i=>by
  rw[Jr,uy,GH,aoq,afZ,aoq,V3 N e l (i+1)];cases fY a==la e.az i<;>rfl
theorem anb(b:Bool):((bif b then(0:Int)else 10) !=0)= !b:=by cases b<;>rfl
theorem adN(N:Nat)(e:aw):Ip N e=some (nU e):=by
 unfold Ip nU;rw[pw,aoq,Yr];simp only[anb];cases e.az==1<;>cases e.az==12<;>cases db e.aB<;>rfl
theorem amE(N:Nat)(e:aw):NI N e=some (nU e):=by
 unfold NI nU;rw[Hc,aoq,V3];cases e.az==1<;>cases e.az==12<;>cases db e.aB<;>rfl
theorem aml(b:Bool):((bif b then(0:Int)else 1) !=0)= !b:=by cases b<;>rfl
theorem TZ(N:Nat)(hN:16<N):∀l:apf bp,(∀x∈l,j7 x)->ur N l=some (bif l.all jj then 0 else 1)
 |[],_=>rfl
 |x::l,h=>by
  rw[ur,KY N hN x (h x aox),aoq,aml,TZ N hN l (λy hy=>h y (aoA _ hy)),apb];cases jj x<;>rfl
theorem X4(N:Nat)(hN:16<N)(c:Bool):∀(l:apf bp)(k:Nat),(∀x∈l,j7 x)->LU N (some c) l k=some (l.all jj&&c)
 |[],_,_=>rfl
 |x::l,k,h=>by
  rw[LU,Gi N hN x (h x aox),aoq,X4 N hN c l (k+1) (λy hy=>h y (aoA _ hy)),apb];cases jj x<;>rfl
theorem Wn(N:Nat)(hN:16<N):∀(l:apf cJ)(k:Nat),(∀x∈l,XA x)->GA N l k=some ((l.flatMap xm).all jj)
 |[],_,_=>rfl
 |x::l,k,h=>by
  have hx:=h x aox;rw[GA,Gi N hN _ hx.mo,aoq,Wn N hN l (k+1) (λy hy=>h y (aoA _ hy)),X4 N hN _ _ _ hx.at_,List.flatMap_cons,xm,List.cons_append,apb,List.all_append];cases jj x.bx<;>rfl
theorem aeC{e:aw}(h:zR e):∀x∈oO e,j7 x:=by
 intro x hx;unfold oO at hx;rcases aoV.1 hx with rfl|hx
 ·exact h.mo
 ·obtain⟨y,hy,hx⟩:=List.mem_flatMap.1 hx;unfold xm at hx;rcases aoV.1 hx with rfl|hx
  ·exact(h.idx y hy).mo
  ·exact(h.idx y hy).at_ x hx
theorem af0(N:Nat)(hN:2147483648<N)(e:aw)(h:zR e)(ht:nU e=true):Ow N e=some (vm e):=by
 unfold Ow vm oO;rw[apb,Gi N (by omega) _ h.mo,aoq,Wn N (by omega) _ _ h.idx];cases J:e.az==1 with
 |true=>
  have nN:db e.aB=true:=by
   unfold nU at ht;rw[J]at ht;simp only[Bool.true_or,Bool.not_true,Bool.false_or,aot]at ht;exact ht.1
  rw[agv N hN _ _ nN,aoq];cases dJ e.aB e.de<;>cases jj e.bx<;>rfl
 |false=>cases jj e.bx<;>rfl
theorem afA(N:Nat)(hN:2147483648<N)(e:aw)(h:zR e):D5 N e=some (ng e):=by
 unfold D5 ng;rw[akT,aoq];cases om e with
 |false=>rfl
 |true=>
  simp only[cond_true];rw[afW N (by omega),aoq];cases sW e with
  |false=>rfl
  |true=>
   simp only[cond_true];rw[agt,aoq];cases oS e with
   |false=>rfl
   |true=>
    simp only[cond_true];rw[adN,aoq];cases ht:nU e with
    |false=>rfl
    |true=>
     simp only[cond_true];have hf:ur N (oO e)=_:=TZ N (by omega) (oO e) (aeC h);unfold vm PF;rw[aoq,hf];cases J:e.az==1 with
     |true=>
      have nN:db e.aB=true:=by
       unfold nU at ht;rw[J]at ht;simp only[Bool.true_or,Bool.not_true,Bool.false_or,aot]at ht;exact ht.1
      rw[ql N hN _ _ nN,aoq];cases dJ e.aB e.de<;>cases (oO e).all jj<;>rfl
     |false=>cases (oO e).all jj<;>rfl
theorem yi{e x:aw}(h:x∈e.bZ):SizeOf.sizeOf x<SizeOf.sizeOf e:=by
 have J:=List.sizeOf_lt_of_mem h;cases e
 simp only[aw.mk.sizeOf_spec]at*;omega
theorem F6{e x y:aw}(h:x∈e.bZ)(hy:y∈dE x):y∈dE e:=by
 have gen:∀l:apf aw,x∈l->y∈mK l:=by
  intro l
  induction l with
  |nil=>intro h;cases h
  |cons z l ih=>
   intro h;rw[Dt];rcases aoV.1 h with rfl|h
   ·exact List.mem_append_left _ hy
   ·exact List.mem_append_right _ (ih h)
 exact aoA _ (gen _ h)
theorem mZ.node{e:aw}(h:mZ e):zR e:=h e aox
theorem mZ.arg{e x:aw}(h:mZ e)(hx:x∈e.bZ):mZ x:=λy hy=>h y (F6 hx hy)
def kY:apf aw->Int
 |[]=>0
 |x::l=>bif ng x !=0 then ng x else kY l
theorem Yu:∀a b:apf aw,kY (a++b)=bif kY a !=0 then kY a else kY b
 |[],_=>rfl
 |x::a,b=>by
  rw[List.cons_append,kY,kY,Yu a b];cases h:ng x !=0 with
  |true=>simp only[cond_true,h]
  |false=>rfl
theorem abL(N:Nat)(hN:2147483648<N):∀l:apf aw,(∀x∈l,zR x)->xM N l=some (kY l)
 |[],_=>rfl
 |x::l,h=>by
  rw[xM,afA N hN x (h x aox),aoq,abL N hN l (λy hy=>h y (aoA _ hy)),kY];cases ng x !=0<;>rfl
theorem Y1(N:Nat)(rec:aw->aph Int):∀(l:apf aw)(k:Nat),(∀x∈l,rec x=some (kY (dE x)))->IS N rec l k=some (kY (mK l))
 |[],_,_=>by rw[mK];rfl
 |x::l,k,h=>by
  rw[IS,h x aox,aoq,Y1 N rec l (k+1) (λy hy=>h y (aoA _ hy)),Dt,Yu];cases kY (dE x) !=0<;>rfl
theorem Z1(N:Nat)(hN:2147483648<N):∀(d:Nat)(e:aw),SizeOf.sizeOf e<d->mZ e->FL N d e=some (kY (dE e))
 |0,_,h,_=>absurd h (aoT _)
 |d+1,e,h,hk=>by
  rw[FL];have hl:=Y1 N (FL N d) e.bZ 0 λx hx=>Z1 N hN d x (by have:=yi hx;omega) (hk.arg hx);unfold dE;rw[kY];unfold ng;rw[aji,aoq];cases om e with
  |false=>rfl
  |true=>
   simp only[cond_true];rw[acO N (by omega),aoq];cases sW e with
   |false=>rfl
   |true=>
    simp only[cond_true];rw[aeR,aoq];cases oS e with
    |false=>rfl
    |true=>
     simp only[cond_true];rw[amE,aoq];cases ht:nU e with
     |false=>rfl
     |true=>
      simp only[cond_true];rw[af0 N hN e hk.node ht,aoq,hl];cases vm e<;>rfl
def jl:Nat->aw->Nat
 |0,_=>1
 |L+1,e=>e.bZ.foldl (λm a=>max m (1+jl L a)) 1
theorem VK{α:Type}(f:α->Nat)(b:Nat):∀(l:apf α)(m:Nat),m<=b->(∀x∈l,f x<=b)->l.foldl (λm a=>max m (f a)) m<=b
 |[],_,h,_=>h
 |x::l,_,h,hl=>VK f b l _ (Nat.max_le.2 ⟨h,hl x aox⟩) λy hy=>hl y (aoA _ hy)
theorem PY:∀(L:Nat)(e:aw),jl L e<=L+1
 |0,_=>aoC _
 |L+1,e=>VK (λa=>1+jl L a) (L+2) e.bZ 1 (by omega) λx _=>by have:=PY L x;show 1+jl L x<=L+2;omega
theorem jd{z:Int}(J: -9223372036854775808<=z)(h2:z<9223372036854775808):aQ z=z:=by
 unfold aQ;rw[IntKind.wrap_i64];omega
theorem It(a b:Nat):(if((a:Nat):Int)>((b:Nat):Int)then((a:Nat):Int)else(b:Int))=((max b a:Nat):Int):=by
 split<;>omega
theorem WW(N:Nat)(rec:aw->Int->aph Int)(L:Nat)(hL:L<=100):∀(l:apf aw)(k m:Nat),(∀x∈l,rec x ((L:Int)+1)=some ((jl L x:Nat):Int))->La N rec ((L:Int)+1+1) l k (m:Int)=some ((l.foldl (λm a=>max m (1+jl L a)) m:Nat):Int)
 |[],_,_,_=>rfl
 |x::l,k,m,h=>by
  have J:=PY L x;rw[La,jd (by omega) (by omega),show(L:Int)+1+1-1=(L:Int)+1 by omega,h x aox,aoq];rw[jd (by omega) (by omega),show(1:Int)+((jl L x:Nat):Int)=((1+jl L x:Nat):Int) by omega,It];exact WW N rec L hL l (k+1) _ λy hy=>h y (aoA _ hy)
theorem Wi(N:Nat):∀(L d:Nat)(e:aw),L<d->L<=100->qA N d e ((L:Int)+1)=some ((jl L e:Nat):Int)
 |L,0,_,h,_=>absurd h (aoT _)
 |0,d+1,e,_,_=>by rw[qA];rfl
 |L+1,d+1,e,h,hL=>by
  rw[qA,ao9 (by omega)];simp only[cond_false];exact WW N (qA N d) L (by omega) e.bZ 0 1 λx _=>Wi N L d x (by omega) (by omega)
theorem abb(N:Nat)(rec:aw->Int->aph Int)(L:Nat)(hL:L<=100):∀(l:apf aw)(k m:Nat),(∀x∈l,rec x ((L:Int)+1)=some ((jl L x:Nat):Int))->BE N ((L:Int)+1+1) rec l k (m:Int)=some ((l.foldl (λm a=>max m (1+jl L a)) m:Nat):Int)
 |[],_,_,_=>rfl
 |x::l,k,m,h=>by
  have J:=PY L x;rw[BE,ao8 (show(L:Int)+1+1>1 by omega)];simp only[cond_true];rw[jd (by omega) (by omega),show(L:Int)+1+1-1=(L:Int)+1 by omega,h x aox,aoq];rw[jd (by omega) (by omega),show(1:Int)+((jl L x:Nat):Int)=((1+jl L x:Nat):Int) by omega,It];exact abb N rec L hL l (k+1) _ λy hy=>h y (aoA _ hy)
theorem akS(N:Nat)(rec:aw->Int->aph Int):∀l:apf aw,BE N 1 rec l 0 1=some 1
 |[]=>rfl
 |x::l=>by rw[BE];rfl
theorem Tr(N:Nat):∀(L d:Nat)(e:aw),L<d->L<=100->w9 N d e ((L:Int)+1)=some ((jl L e:Nat):Int)
 |L,0,_,h,_=>absurd h (aoT _)
 |0,d+1,e,_,_=>by rw[w9];exact akS N _ _
 |L+1,d+1,e,h,hL=>by
  rw[w9];exact abb N (w9 N d) L (by omega) e.bZ 0 1 λx _=>Tr N L d x (by omega) (by omega)
theorem YY(N:Nat):∀(l:apf aw)(v:Nat),v<=2000->tU N l (v:Int)=some ((min (v+l.length) 2001:Nat):Int)
 |[],v,h=>by rw[tU];congr 2;simp only[aoD];omega
 |x::l,v,h=>by
  rw[tU,jd (by omega) (by omega)];by_cases h2:v+1>2000
  ·rw[ao8 (by omega)];simp only[cond_true]
   congr 1
   simp only[aou];omega
  ·rw[ao9 (by omega)];simp only[cond_false];rw[show(v:Int)+1=((v+1:Nat):Int) by omega,YY N l (v+1) (by omega)]
   congr 3
   simp only[aou];omega
theorem anS(N:Nat)(e:aw):Gf N e=some ((min (dE e).length 2001:Nat):Int):=by
 unfold Gf yM;have:=YY N (dE e) 0 (by omega);rw[aoL]at this;exact this
theorem aax(N:Nat)(rec:aw->Int->aph Int)(m:Nat)(hm:m<=4000):∀(l:apf aw)(k n:Nat),n<=m+1->(∀x∈l,∀q:Nat,q<=m->rec x (q:Int)=some ((min (dE x).length (q+1):Nat):Int))->B3 N (m:Int) rec l k (n:Int)=some ((min (n+(mK l).length) (m+1):Nat):Int)
 |[],k,n,hn,_=>by rw[B3,mK];congr 2;simp only[aoD];omega
 |x::l,k,n,hn,h=>by
  rw[B3];by_cases h2:n<=m
  ·rw[ao8 (by omega)];simp only[cond_true];rw[jd (by omega) (by omega),show(m:Int)-(n:Int)=((m-n:Nat):Int) by omega,h x aox (m-n) (by omega),aoq];rw[jd (by omega) (by omega),show(n:Int)+((min (dE x).length (m-n+1):Nat):Int)=((n+min (dE x).length (m-n+1):Nat):Int) by omega];rw[aax N rec m hm l (k+1) _ (by omega) λy hy=>h y (aoA _ hy),Dt,aos]
   congr 2
   omega
  ·rw[ao9 (by omega)];simp only[cond_false]
   congr 1
   omega
theorem Zf(N:Nat):∀(d:Nat)(e:aw)(m:Nat),SizeOf.sizeOf e<d->m<=4000->yT N d e (m:Int)=some ((min (dE e).length (m+1):Nat):Int)
 |0,_,_,h,_=>absurd h (aoT _)
 |d+1,e,m,h,hm=>by
  rw[yT];have:=aax N (yT N d) m hm e.bZ 0 1 (by omega) λx hx q hq=>Zf N d x q (by have:=yi hx;omega) (by omega);rw[show((1:Nat):Int)=1 from rfl]at this;rw[this]
  congr 2
  unfold dE;simp only[aou];omega
def mu(e:aw):Int:=bif decide (40<jl 40 e)then 13 else bif decide (2000<(dE e).length)then 2 else kY (dE e)
theorem amO(N:Nat)(hN:2147483648<N)(e:aw)(h:mZ e):zn N e=some (mu e):=by
 unfold zn PN QX mu;have hd:qA N N e 41=_:=Wi N 40 N e (by omega) (by omega);rw[hd,aoq,aoq,anS,aoq];rw[m6 (p:=((jl 40 e:Nat):Int)>40) (q:=40<jl 40 e) (by omega),m6 (p:=((min (dE e).length 2001:Nat):Int)>2000) (q:=2000<(dE e).length) (by omega)];cases decide (40<jl 40 e)<;>cases decide (2000<(dE e).length)<;>try rfl
 simp only[cond_false];exact abL N hN (dE e) h
theorem Tw(N:Nat)(hN:2147483648<N)(e:aw)(hs:SizeOf.sizeOf e<N)(h:mZ e):L4 N e=some (mu e):=by
 unfold L4 Xg XE VB Vb WV mu;have hd:w9 N N e 41=_:=Tr N 40 N e (by omega) (by omega);have hz:yT N N e 2000=_:=Zf N N e 2000 hs (by omega);rw[hd,aoq,aoq,hz,aoq,aoq,Z1 N hN N e hs h,aoq];rw[m6 (p:=((jl 40 e:Nat):Int)>40) (q:=40<jl 40 e) (by omega)];rw[show(if(2001:Int)<((min (dE e).length 2001:Nat):Int)then(2001:Int)else((min (dE e).length 2001:Nat):Int))=((min (dE e).length 2001:Nat):Int) by split<;>omega];rw[m6 (p:=((min (dE e).length 2001:Nat):Int)>2000) (q:=2000<(dE e).length) (by omega)];cases decide (40<jl 40 e)<;>cases decide (2000<(dE e).length)<;>rfl
end Go.Proofs.YtpeecnpmcbnahaaGreatDoor
