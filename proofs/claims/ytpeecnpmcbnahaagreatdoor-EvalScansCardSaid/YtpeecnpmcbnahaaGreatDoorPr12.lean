/-
  Part 12 of the proof: PE4, PE5, PE6, PE7, PE8, PE9, PAll, ValNames, ValNode, LinP, ValTree, ValTree2, ValidLaw, InVal1.
-/
import Derived.Test.YtpeecnpmcbnahaaGreatDoorPr11
namespace Go.Proofs.YtpeecnpmcbnahaaGreatDoor
open Go.RowKit
set_option maxRecDepth 100000
set_option maxHeartbeats 0
set_option linter.unusedVariables false
theorem yA{α β:Type}{P:α->β->Prop}(a:α)(b:β)(h:P a b:=by kernel_rfl):∃a b,P a b:=⟨a,b,h⟩
def XA(v:eV)(r:an3 AV):an3 AV:=(aq v.fv.bk)::(aq v.fv.bX)::(aq v.fv.bS)::(aq v.fv.ct)::(aq v.fv.cu)::r
def Ro(N:Nat)(v1:aF)(v2:ax)(v3:ax):an5 (ax×Int):=
 Option.bind (qH N v1 ([v2,v3])) λv4=>
 bif (v4 !=0)then
  some (cB,v4)
 else
  (Lp N v1 v2.xN v3.xN).bind λv5=>
  bif (v5.2 !=0)then
   some (cB,v5.2)
  else
   (oT N v1 v5.1).bind λv6=>
   some (v6,(0:Int))
theorem alO{N v1 v2 v3}:KP 272 [(.agg [(.fn 277 [])]),(cr v1),(bp v2),(bp v3)] [] (λr=> .aZ [(bp r.1),(aq r.2)]) (λ_=>[]) (Ro N v1 v2 v3):=
 fh 0 Tryz.func272 (az λv4 J=>gA [[],[(13,cK Bi J)],[]] (aE (λh2=>gH [[t0 h2],[]]) λh2=>az λv5 h3=>gA [[f0 h2],[(22,cK acz h3)],[]] (aE (λh4=>gH [[t0 h4],[]]) λh4=>az λv6 h5=>gH [[f0 h4],[(7,cK yB h5)]])))
def B7(N:Nat)(v1:aF)(v2:ax)(v3:ax):an5 (ax×Int):=
 (Ro N v1 v2 v3).bind λv4=>
 some (v4.1,v4.2)
theorem acD{N v1 v2 v3}:KO 236 [(cr v1),(bp v2),(bp v3)] (λr=> .aZ [(bp r.1),(aq r.2)]) (B7 N v1 v2 v3):=
 fw Tryz.func236 (az λv4 J=>gR [[],[(13,oQ [(.agg [(.fn 277 [])]),(cr v1),(bp v2),(bp v3)] [.cells (cr v1).cells, .cells (bp v2).cells, .cells (bp v3).cells, .cells iH] [] (alO _ J))]])
def Cy(N:Nat)(v1:ax)(v2:ax):an5 (ax×Int):=
 (kE N v1).bind λv3=>
 Option.bind (bif v3 then (kE N v2).bind λv4=>
 some (!v4)else some true) λv5=>
 bif v5 then
  some (cB,(1:Int))
 else
  Option.bind (vb N ((v1.xN*v2.xD)+(v2.xN*v1.xD)) (v1.xD*v2.xD)) λv6=>
  some (v6.1,v6.2)
theorem akT{N v1 v2}:KO 237 [(bp v1),(bp v2)] (λr=> .aZ [(bp r.1),(aq r.2)]) (Cy N v1 v2):=
 fw Tryz.func237 (gA [[]] (az λv3 J=>gG (λv5=>[(13,(aK v5))]) (λ_=>[.cells (bp v1).cells, .cells (bp v2).cells, .cells iH]) (dO (4,cK mO J) (aE (λh2=>az λv4 h3=>gE [(3,bF (dK h2))] [(16,cK mO h3)]) λh2=>gE [(3,bT (eD h2))] [])) λv5=>bZ λh5=>az λv6 h6=>gR [[f0 h5],[(14,⟨_,_, .eq (mi v1.xN v2.xD)⟩),(29,⟨_,_, .eq (mi v2.xN v1.xD)⟩),(32,⟨_,_, .eq (HQ (v1.xN*v2.xD) (v2.xN*v1.xD))⟩),(47,⟨_,_, .eq (mi v1.xD v2.xD)⟩),(49,cK EH h6)]]))
def Dr(N:Nat)(v1:ax)(v2:ax):an5 (ax×Int):=
 (kE N v1).bind λv3=>
 Option.bind (bif v3 then (kE N v2).bind λv4=>
 some (!v4)else some true) λv5=>
 bif v5 then
  some (cB,(1:Int))
 else
  Option.bind (vb N ((v1.xN*v2.xD)-(v2.xN*v1.xD)) (v1.xD*v2.xD)) λv6=>
  some (v6.1,v6.2)
theorem ajR{N v1 v2}:KO 238 [(bp v1),(bp v2)] (λr=> .aZ [(bp r.1),(aq r.2)]) (Dr N v1 v2):=
 fw Tryz.func238 (gA [[]] (az λv3 J=>gG (λv5=>[(13,(aK v5))]) (λ_=>[.cells (bp v1).cells, .cells (bp v2).cells, .cells iH]) (dO (4,cK mO J) (aE (λh2=>az λv4 h3=>gE [(3,bF (dK h2))] [(16,cK mO h3)]) λh2=>gE [(3,bT (eD h2))] [])) λv5=>bZ λh5=>az λv6 h6=>gR [[f0 h5],[(14,⟨_,_, .eq (mi v1.xN v2.xD)⟩),(29,⟨_,_, .eq (mi v2.xN v1.xD)⟩),(32,⟨_,_, .eq (xx (v1.xN*v2.xD) (v2.xN*v1.xD))⟩),(47,⟨_,_, .eq (mi v1.xD v2.xD)⟩),(49,cK EH h6)]]))
def FF(N:Nat)(v1:ax)(v2:ax):an5 (ax×Int):=
 (kE N v1).bind λv3=>
 Option.bind (bif v3 then (kE N v2).bind λv4=>
 some (!v4)else some true) λv5=>
 bif v5 then
  some (cB,(1:Int))
 else
  Option.bind (vb N (v1.xN*v2.xN) (v1.xD*v2.xD)) λv6=>
  some (v6.1,v6.2)
theorem amw{N v1 v2}:KO 239 [(bp v1),(bp v2)] (λr=> .aZ [(bp r.1),(aq r.2)]) (FF N v1 v2):=
 fw Tryz.func239 (gA [[]] (az λv3 J=>gG (λv5=>[(13,(aK v5))]) (λ_=>[.cells (bp v1).cells, .cells (bp v2).cells, .cells iH]) (dO (4,cK mO J) (aE (λh2=>az λv4 h3=>gE [(3,bF (dK h2))] [(16,cK mO h3)]) λh2=>gE [(3,bT (eD h2))] [])) λv5=>bZ λh5=>az λv6 h6=>gR [[f0 h5],[(14,⟨_,_, .eq (mi v1.xN v2.xN)⟩),(29,⟨_,_, .eq (mi v1.xD v2.xD)⟩),(31,cK EH h6)]]))
def Db(N:Nat)(v1:ax)(v2:ax):an5 (ax×Int):=
 (kE N v1).bind λv3=>
 Option.bind (bif v3 then (kE N v2).bind λv4=>
 some (!v4)else some true) λv5=>
 bif v5 then
  some (cB,(1:Int))
 else
  Option.bind (vb N (v1.xN*v2.xD) (v1.xD*v2.xN)) λv6=>
  some (v6.1,v6.2)
theorem acq{N v1 v2}:KO 240 [(bp v1),(bp v2)] (λr=> .aZ [(bp r.1),(aq r.2)]) (Db N v1 v2):=
 fw Tryz.func240 (gA [[]] (az λv3 J=>gG (λv5=>[(13,(aK v5))]) (λ_=>[.cells (bp v1).cells, .cells (bp v2).cells, .cells iH]) (dO (4,cK mO J) (aE (λh2=>az λv4 h3=>gE [(3,bF (dK h2))] [(16,cK mO h3)]) λh2=>gE [(3,bT (eD h2))] [])) λv5=>bZ λh5=>az λv6 h6=>gR [[f0 h5],[(14,⟨_,_, .eq (mi v1.xN v2.xD)⟩),(29,⟨_,_, .eq (mi v1.xD v2.xN)⟩),(31,cK EH h6)]]))
def Lj(N:Nat)(v1:Int)(v2:aF)(v3:ax)(v4:ax):an5 (ax×Int):=
 bif (v2.bk==3)then
  (Fk N v1 v3.xN v4.xN).bind λv5=>
  some (v5.1,v5.2)
 else
  Option.bind (bif (v1==4)then some (v2.bk==2)else some false) λv6=>
  bif v6 then
   (BV N v2 v3 v4).bind λv7=>
   some (v7.1,v7.2)
  else
   Option.bind (bif (v1==5)then some (v2.bk==2)else some false) λv8=>
   bif v8 then
    (CR N v2 v3 v4).bind λv9=>
    some (v9.1,v9.2)
   else
    Option.bind (bif (v1==6)then some (v2.bk==2)else some false) λv10=>
    bif v10 then
     (CE N v2 v3 v4).bind λv11=>
     some (v11.1,v11.2)
    else
     bif (v2.bk==2)then
      (B7 N v2 v3 v4).bind λv12=>
      some (v12.1,v12.2)
     else
      bif (v1==4)then
       (Cy N v3 v4).bind λaH=>
       some (aH.1,aH.2)
      else
       bif (v1==5)then
        (Dr N v3 v4).bind λaQ=>
        some (aQ.1,aQ.2)
       else
        bif (v1==6)then
         (FF N v3 v4).bind λbA=>
         some (bA.1,bA.2)
        else
         (Db N v3 v4).bind λbB=>
         some (bB.1,bB.2)
def Nc(v2:aF)(v3:ax)(v4:ax)(l:an3 ao):an3 ao:= .cells (cr v2).cells:: .cells (bp v3).cells:: .cells (bp v4).cells:: .cells iH::l
theorem ahQ{N v1 v2 v3 v4}:KO 177 [(aq v1),(cr v2),(bp v3),(bp v4)] (λr=> .aZ [(bp r.1),(aq r.2)]) (Lj N v1 v2 v3 v4):=
 fw Tryz.func177 (gA [[],[],[]] (aE (λJ=>az λv5 h2=>gR [[t0 J],[(16,cK al9 h2)]]) λJ=>gA [[f0 J]] (gG (λv6=>[(26,(aK v6))]) (λ_=>(Nc v2 v3 v4 [])) (aE (λh3=>gE [(2,bT h3)] []) λh3=>gE [(2,bF h3)] []) λv6=>aE (λh5=>az λv7 h6=>gR [[t0 h5],[(10,cK alX h6)]]) λh5=>gA [[f0 h5]] (gG (λv8=>[(38,(aK v8))]) (λ_=>(Nc v2 v3 v4 [])) (aE (λh7=>gE [(2,bT h7)] []) λh7=>gE [(2,bF h7)] []) λv8=>aE (λh9=>az λv9 bE=>gR [[t0 h9],[(10,cK acM bE)]]) λh9=>gA [[f0 h9]] (gG (λv10=>[(50,(aK v10))]) (λ_=>(Nc v2 v3 v4 [])) (aE (λbD=>gE [(2,bT bD)] []) λbD=>gE [(2,bF bD)] []) λv10=>aE (λcX=>az λv11 cP=>gR [[t0 cX],[(10,cK afy cP)]]) λcX=>gA [[f0 cX],[]] (aE (λdm=>az λv12 dd=>gR [[t0 dm],[(10,cK acD dd)]]) λdm=>gA [[f0 dm],[]] (aE (λeY=>az λaH fU=>gR [[t0 eY],[(7,cK akT fU)]]) λeY=>gA [[f0 eY],[]] (aE (λgY=>az λaQ gD=>gR [[t0 gY],[(7,cK ajR gD)]]) λgY=>gA [[f0 gY],[]] (aE (λlu=>az λbA m4=>gR [[t0 lu],[(7,cK amw m4)]]) λlu=>az λbB ir=>gR [[f0 lu],[(7,cK acq ir)]])))))))))
def zB(N:Nat)(v2:aF)(v3:ax)(v4:ax)(v1:Int)(v11:Bool):an5 (ax×Int):=
 bif v11 then
  (Ek N v2 v3 v4).bind λv12=>
  Option.bind (bif ((decide (v12>0))==(v1==9))then some (v12 !=0)else some false) λaH=>
  bif aH then
   some (v4,(0:Int))
  else
   some (v3,(0:Int))
 else
  (Lj N v1 v2 v3 v4).bind λaQ=>
  some (aQ.1,aQ.2)
def wQ(N:Nat)(v1:Int)(v2:aF)(v3:ax)(v4:ax):an5 (ax×Int):=
 Option.bind (bif (decide (v1<4))then some true else some (decide (v1>10))) λv5=>
 bif v5 then
  some (cB,(1:Int))
 else
  (l4 N v2).bind λv6=>
  bif (v6 !=0)then
   some (cB,(10:Int))
  else
   (lX N v2 v3).bind λv7=>
   Option.bind (bif v7 then(bif (v1 !=8)then (lX N v2 v4).bind λv8=>
   some (!v8)else some false)else some true) λv9=>
   bif v9 then
    some (cB,(1:Int))
   else
    bif (v1==8)then
     (I7 N v2 v3).bind λv10=>
     some (v10.1,v10.2)
    else
     bif (v1==9)then
      zB N v2 v3 v4 v1 (v1==9)
     else
      zB N v2 v3 v4 v1 (v1==10)
def Il(v2:aF)(v3:ax)(v4:ax)(l:an3 ao):an3 ao:= .cells (cr v2).cells:: .cells (bp v3).cells:: .cells (bp v4).cells:: .cells iH::l
theorem PN{N v1 v2 v3 v4}:KO 115 [(aq v1),(cr v2),(bp v3),(bp v4)] (λr=> .aZ [(bp r.1),(aq r.2)]) (wQ N v1 v2 v3 v4):=
 fw Tryz.func115 (gA [[]] (gG (λv5=>[(11,(aK v5))]) (λ_=>(Il v2 v3 v4 [])) (aE (λJ=>gE [(2,bT J)] []) λJ=>gE [(2,bF J)] []) λv5=>bZ λh3=>az λv6 h4=>gA [[f0 h3],[(4,cK oy h4)]] (bZ λh5=>gA [[f0 h5]] (az λv7 h6=>gG (λv9=>[(24,(aK v9))]) (λ_=>(Il v2 v3 v4 [])) (dO (7,cK tT h6) (aE (λh7=>eK (4,bF (dK h7)) (aE (λh8=>az λv8 h9=>gE [(7,bT h8)] [(31,cK tT h9),(37,bT h8)]) λh8=>gE [(7,bF h8)] [(37,bF h8)])) λh7=>gE [(4,bT (eD h7)),(7,uN)] [])) λv9=>bZ λbD=>gA [[f0 bD],[],[]] (aE (λcl=>az λv10 cX=>gR [[t0 cl],[(7,cK amK cX)]]) λcl=>mM 1 [[f0 cl],[]] [0,5,6,7,8,48] 4 (λ(v11:Bool)=>⟨73,[(0,(aq v1)),(5,(.ptr 0 0)),(6,(.ptr 1 0)),(7,(.ptr 2 0)),(8,(.ptr 3 0)),(48,(aK v11))],(Il v2 v3 v4 [])⟩) (zB N v2 v3 v4 v1) (λf1 aX=>aE (λgD=>gm aX (v1==9) [[t0 gD]]) λgD=>gm aX (v1==10) [[f0 gD],[]]) (λv11=>aE (λcP=>az λv12 dm=>gA [[t0 cP],[(10,cK XR dm)]] (gG (λaH=>[(63,(aK aH))]) (λ_=>(Il v2 v3 v4 [])) (aE (λdd=>gE [(5,bT dd)] []) λdd=>gE [(5,bF dd)] []) λaH=>bZ λfU=>gR [[f0 fU],[]])) λcP=>az λaQ gY=>gR [[f0 cP],[(13,cK ahQ gY)]]))))))
def vP(N:Nat)(v2:an3 aL)(v1:ar)(v3:an3 aJ)(v4:an3 (an4×aR))(ajG:ar->(an3 aL)->(an3 aJ)->(an3 (an4×aR))->an5 (Bool×Int×(an3 (an4×aR))))(ZD:ar->(an3 aL)->(an3 aJ)->(an3 (an4×aR))->an5 (eV×Int×(an3 (an4×aR))))(ahl:ar->(an3 aL)->(an3 aJ)->(an3 (an4×aR))->an5 (eV×Int×(an3 (an4×aR))))(v5:Bool):an5 (eV×Int×(an3 (an4×aR))):=
 bif v5 then
  (Hz N v2 v1 v3 v4).bind λv6=>
  some (v6.1,v6.2.1,v6.2.2)
 else
  bif (v1.ay==11)then
   Option.bind (v1.bM[0]?) λv7=>
   (ajG v7 v2 v3 v4).bind λv8=>
   bif (v8.2.1 !=0)then
    some (yv,v8.2.1,v8.2.2)
   else
    bif v8.1 then
     Option.bind (v1.bM[1]?) λv9=>
     (ZD v9 v2 v3 v8.2.2).bind λv10=>
     some (v10.1,v10.2.1,v10.2.2)
    else
     Option.bind (v1.bM[2]?) λv11=>
     (ZD v11 v2 v3 v8.2.2).bind λv12=>
     some (v12.1,v12.2.1,v12.2.2)
  else
   (ahl v1 v2 v3 v4).bind λaH=>
   some (aH.1,aH.2.1,aH.2.2)
def Fw(N:Nat)(v6:eV×Int×(an3 (an4×aR)))(v8:eV×Int×(an3 (an4×aR)))(v10:Int):an5 (eV×eV×Int×(an3 (an4×aR))):=
 some (v6.1,v8.1,v10,v8.2.2)
mutual
def lD(N:Nat):Nat->ar->(an3 aL)->(an3 aJ)->(an3 (an4×aR))->an5 (eV×Int×(an3 (an4×aR)))
 |0,_,_,_,_=>none
 |d+1,v1,v2,v3,v4=>
  bif (v1.ay==1)then
   vP N v2 v1 v3 v4 (oW N d) (lD N d) (qc N d) (v1.ay==1)
  else
   bif (v1.ay==2)then
    vP N v2 v1 v3 v4 (oW N d) (lD N d) (qc N d) (v1.ay==2)
   else
    vP N v2 v1 v3 v4 (oW N d) (lD N d) (qc N d) (v1.ay==3)
def oW(N:Nat):Nat->ar->(an3 aL)->(an3 aJ)->(an3 (an4×aR))->an5 (Bool×Int×(an3 (an4×aR)))
 |0,_,_,_,_=>none
 |d+1,v1,v2,v3,v4=>
  Option.bind ((DV N d) v1 v2 v3 v4) λv5=>
  some (v5.1,v5.2.1,v5.2.2)
def DV(N:Nat):Nat->ar->(an3 aL)->(an3 aJ)->(an3 (an4×aR))->an5 (Bool×Int×(an3 (an4×aR)))
 |0,_,_,_,_=>none
 |d+1,v1,v2,v3,v4=>
  bif (decide (v1.ay<16))then
   Option.bind ((vK N d) v1 v2 v3 v4) λv5=>
   bif (v5.2.2.1 !=0)then
    some (false,v5.2.2.1,v5.2.2.2)
   else
    (Ek N v5.1.fv v5.1.gW v5.2.1.gW).bind λv6=>
    (OA N v1.ay v6).bind λv7=>
    some (v7,(0:Int),v5.2.2.2)
  else
   Option.bind (v1.bM[0]?) λv8=>
   Option.bind ((oW N d) v8 v2 v3 v4) λv9=>
   Option.bind (bif (v9.2.1 !=0)then some true else some (v1.ay==18)) λv10=>
   bif v10 then
    Option.bind (bif (v9.2.1==0)then some (!v9.1)else some false) λv11=>
    some (v11,v9.2.1,v9.2.2)
   else
    Option.bind (v1.bM[1]?) λv12=>
    Option.bind ((oW N d) v12 v2 v3 v9.2.2) λaH=>
    bif (aH.2.1 !=0)then
     some (false,aH.2.1,aH.2.2)
    else
     bif (v1.ay==16)then
      (bif v9.1 then some aH.1 else some false).bind λaQ=>
      some (aQ,(0:Int),aH.2.2)
     else
      (bif v9.1 then some true else some aH.1).bind λbA=>
      some (bA,(0:Int),aH.2.2)
def vK(N:Nat):Nat->ar->(an3 aL)->(an3 aJ)->(an3 (an4×aR))->an5 (eV×eV×Int×(an3 (an4×aR)))
 |0,_,_,_,_=>none
 |d+1,v1,v2,v3,v4=>
  Option.bind (v1.bM[0]?) λv5=>
  Option.bind ((lD N d) v5 v2 v3 v4) λv6=>
  bif (v6.2.1 !=0)then
   some (v6.1,v6.1,v6.2.1,v6.2.2)
  else
   Option.bind (v1.bM[1]?) λv7=>
   Option.bind ((lD N d) v7 v2 v3 v6.2.2) λv8=>
   Option.bind (bif (v8.2.1==0)then some (!((v6.1.fv.bk==v8.1.fv.bk)&&((v6.1.fv.bX==v8.1.fv.bX)&&((v6.1.fv.bS==v8.1.fv.bS)&&((v6.1.fv.ct==v8.1.fv.ct)&&((v6.1.fv.cu==v8.1.fv.cu)&&true))))))else some false) λv9=>
   bif v9 then
    Fw N v6 v8 (10:Int)
   else
    Fw N v6 v8 v8.2.1
def qc(N:Nat):Nat->ar->(an3 aL)->(an3 aJ)->(an3 (an4×aR))->an5 (eV×Int×(an3 (an4×aR)))
 |0,_,_,_,_=>none
 |d+1,v1,v2,v3,v4=>
  Option.bind (bif (v1.ay==8)then some true else some (v1.ay==12)) λv5=>
  bif v5 then
   Option.bind (v1.bM[0]?) λv6=>
   Option.bind ((lD N d) v6 v2 v3 v4) λv7=>
   bif (v7.2.1 !=0)then
    some (v7.1,v7.2.1,v7.2.2)
   else
    bif (v1.ay==12)then
     (Ky N v7.1.fv v1.aB v7.1.gW).bind λv8=>
     some ((⟨v8.1,v1.aB⟩:eV),v8.2,v7.2.2)
    else
     Option.bind (wQ N (8:Int) v7.1.fv v7.1.gW v7.1.gW) λv9=>
     some ((⟨v9.1,v7.1.fv⟩:eV),v9.2,v7.2.2)
  else
   Option.bind ((vK N d) v1 v2 v3 v4) λv10=>
   bif (v10.2.2.1 !=0)then
    some (yv,v10.2.2.1,v10.2.2.2)
   else
    (wQ N v1.ay v10.1.fv v10.1.gW v10.2.1.gW).bind λv11=>
    some ((⟨v11.1,v10.1.fv⟩:eV),v11.2,v10.2.2.2)
end
def zU(N:Nat)(v1:ar)(v2:an3 aL)(v3:an3 aJ)(v4:an3 (an4×aR)):an5 (eV×Int×(an3 (an4×aR))):=lD N N v1 v2 v3 v4
theorem aec(N:Nat):∀d:Nat,(∀{v1:ar}{v2:an3 aL}{v3:an3 aJ}{v4:an3 (an4×aR)}{r:eV×Int×(an3 (an4×aR))},lD N d v1 v2 v3 v4=some r->KH 65 [(aM v1),(.ptr 0 0),(.ptr 1 0),(.ptr 2 0)] ([.cells [(.fn 68 [(.ptr 3 0),(.ptr 4 0)])], .cells [(.d (.sl (aT v2)))], .cells [(.ptr 5 0)], .cells [(.mp 6)], .cells [(.d (.sl (aY v3)))], .cells [(.fn 65 [(.ptr 0 0),(.ptr 1 0),(.ptr 2 0)]),(.fn 63 [(.ptr 2 0)])], .map (bP bR v4)]) (.aZ [(dA r.1),(aq r.2.1)]) ([.cells [(.fn 68 [(.ptr 3 0),(.ptr 4 0)])], .cells [(.d (.sl (aT v2)))], .cells [(.ptr 5 0)], .cells [(.mp 6)], .cells [(.d (.sl (aY v3)))], .cells [(.fn 65 [(.ptr 0 0),(.ptr 1 0),(.ptr 2 0)]),(.fn 63 [(.ptr 2 0)])], .map (bP bR r.2.2)]))/\(∀{v1:ar}{v2:an3 aL}{v3:an3 aJ}{v4:an3 (an4×aR)}{r:Bool×Int×(an3 (an4×aR))},oW N d v1 v2 v3 v4=some r->KH 63 [(aM v1),(.ptr 0 0)] ([.cells [(.ptr 1 0)], .cells [(.fn 65 [(.ptr 2 0),(.ptr 3 0),(.ptr 0 0)]),(.fn 63 [(.ptr 0 0)])], .cells [(.fn 68 [(.ptr 4 0),(.ptr 5 0)])], .cells [(.d (.sl (aT v2)))], .cells [(.mp 6)], .cells [(.d (.sl (aY v3)))], .map (bP bR v4)]) (.aZ [(aK r.1),(aq r.2.1)]) ([.cells [(.ptr 1 0)], .cells [(.fn 65 [(.ptr 2 0),(.ptr 3 0),(.ptr 0 0)]),(.fn 63 [(.ptr 0 0)])], .cells [(.fn 68 [(.ptr 4 0),(.ptr 5 0)])], .cells [(.d (.sl (aT v2)))], .cells [(.mp 6)], .cells [(.d (.sl (aY v3)))], .map (bP bR r.2.2)]))/\(∀{v1:ar}{v2:an3 aL}{v3:an3 aJ}{v4:an3 (an4×aR)}{r:Bool×Int×(an3 (an4×aR))},DV N d v1 v2 v3 v4=some r->KH 64 [(.ptr 0 0),(aM v1)] ([.cells [(.fn 65 [(.ptr 1 0),(.ptr 2 0),(.ptr 3 0)]),(.fn 63 [(.ptr 3 0)])], .cells [(.fn 68 [(.ptr 4 0),(.ptr 5 0)])], .cells [(.d (.sl (aT v2)))], .cells [(.ptr 0 0)], .cells [(.mp 6)], .cells [(.d (.sl (aY v3)))], .map (bP bR v4)]) (.aZ [(aK r.1),(aq r.2.1)]) ([.cells [(.fn 65 [(.ptr 1 0),(.ptr 2 0),(.ptr 3 0)]),(.fn 63 [(.ptr 3 0)])], .cells [(.fn 68 [(.ptr 4 0),(.ptr 5 0)])], .cells [(.d (.sl (aT v2)))], .cells [(.ptr 0 0)], .cells [(.mp 6)], .cells [(.d (.sl (aY v3)))], .map (bP bR r.2.2)]))/\(∀{v1:ar}{v2:an3 aL}{v3:an3 aJ}{v4:an3 (an4×aR)}{r:eV×eV×Int×(an3 (an4×aR))},vK N d v1 v2 v3 v4=some r->KH 110 [(.ptr 0 0),(aM v1)] ([.cells [(.fn 65 [(.ptr 1 0),(.ptr 2 0),(.ptr 3 0)]),(.fn 63 [(.ptr 3 0)])], .cells [(.fn 68 [(.ptr 4 0),(.ptr 5 0)])], .cells [(.d (.sl (aT v2)))], .cells [(.ptr 0 0)], .cells [(.mp 6)], .cells [(.d (.sl (aY v3)))], .map (bP bR v4)]) (.aZ [(dA r.1),(dA r.2.1),(aq r.2.2.1)]) ([.cells [(.fn 65 [(.ptr 1 0),(.ptr 2 0),(.ptr 3 0)]),(.fn 63 [(.ptr 3 0)])], .cells [(.fn 68 [(.ptr 4 0),(.ptr 5 0)])], .cells [(.d (.sl (aT v2)))], .cells [(.ptr 0 0)], .cells [(.mp 6)], .cells [(.d (.sl (aY v3)))], .map (bP bR r.2.2.2)]))/\(∀{v1:ar}{v2:an3 aL}{v3:an3 aJ}{v4:an3 (an4×aR)}{r:eV×Int×(an3 (an4×aR))},qc N d v1 v2 v3 v4=some r->KH 67 [(.ptr 0 0),(aM v1)] ([.cells [(.fn 65 [(.ptr 1 0),(.ptr 2 0),(.ptr 3 0)]),(.fn 63 [(.ptr 3 0)])], .cells [(.fn 68 [(.ptr 4 0),(.ptr 5 0)])], .cells [(.d (.sl (aT v2)))], .cells [(.ptr 0 0)], .cells [(.mp 6)], .cells [(.d (.sl (aY v3)))], .map (bP bR v4)]) (.aZ [(dA r.1),(aq r.2.1)]) ([.cells [(.fn 65 [(.ptr 1 0),(.ptr 2 0),(.ptr 3 0)]),(.fn 63 [(.ptr 3 0)])], .cells [(.fn 68 [(.ptr 4 0),(.ptr 5 0)])], .cells [(.d (.sl (aT v2)))], .cells [(.ptr 0 0)], .cells [(.mp 6)], .cells [(.d (.sl (aY v3)))], .map (bP bR r.2.2)])):=by
 intro d
 induction d with
 |zero=>exact⟨(by intro v1 v2 v3 v4 r U;rw[lD]at U;cases U),(by intro v1 v2 v3 v4 r U;rw[oW]at U;cases U),(by intro v1 v2 v3 v4 r U;rw[DV]at U;cases U),(by intro v1 v2 v3 v4 r U;rw[vK]at U;cases U),(by intro v1 v2 v3 v4 r U;rw[qc]at U;cases U)⟩
 |succ d ih=>
  have tA:= @ih.1;have QB:= @ih.2.1;have acY:= @ih.2.2.1;have Vl:= @ih.2.2.2.1;have ahF:= @ih.2.2.2.2;refine⟨?_,?_,?_,?_,?_⟩
  ·intro v1 v2 v3 v4 r U;rw[lD]at U;refine BZ 7 Tryz.func65 ?_;refine Dm bW r 1 [[],[],[]] [1,2,3,4,5,10,11] 9 (λ(v5:Bool)=>⟨67,[(1,(.ptr 0 0)),(2,(.ptr 1 0)),(3,(.ptr 2 0)),(4,(.ptr 7 0)),(5,(.ptr 8 0)),(10,(aq v1.ay)),(11,(aK v5))],[.cells [(.fn 68 [(.ptr 3 0),(.ptr 4 0)])], .cells [(.d (.sl (aT v2)))], .cells [(.ptr 5 0)], .cells [(.mp 6)], .cells [(.d (.sl (aY v3)))], .cells [(.fn 65 [(.ptr 0 0),(.ptr 1 0),(.ptr 2 0)]),(.fn 63 [(.ptr 2 0)])], .map (bP bR v4), .cells (aM v1).cells, .cells dn]⟩) (vP N v2 v1 v3 v4 (oW N d) (lD N d) (qc N d)) ?_ ?_
   ·intro f1 aX;apply bc U<;>intro cX U
    ·exact l9 bW aX (v1.ay==1) [[(0,bT cX)]] U
    refine je bW [[(0,bF cX)],[]] ?_;apply bc U<;>intro cP U
    ·exact l9 bW aX (v1.ay==2) [[(0,bT cP)]] U
    exact l9 bW aX (v1.ay==3) [[(0,bF cP)],[]] U
   intro v5 U;rw[vP]at U;apply bc U<;>intro J U
   ·obtain⟨v6,h2,U⟩:=ck U;cases U;exact m5 bW [[(0,bT J)],[(10,oR [(.fn 68 [(.ptr 3 0),(.ptr 4 0)]),(.d (.sl (aT v2))),(aM v1)] [.cells [(.fn 68 [(.ptr 3 0),(.ptr 4 0)])], .cells [(.d (.sl (aT v2)))], .cells [(.ptr 5 0)], .cells [(.mp 6)], .cells [(.d (.sl (aY v3)))], .cells [(.fn 65 [(.ptr 0 0),(.ptr 1 0),(.ptr 2 0)]),(.fn 63 [(.ptr 2 0)])], .map (bP bR v4), .cells (aM v1).cells, .cells dn] [3,4,6] (acA _ h2))]]
   refine je bW [[(0,bF J)],[]] ?_;apply bc U<;>intro h3 U
   ·refine je bW [[(0,bT h3)]] ?_;obtain⟨v7,h4,v8,h5,U⟩:=zD U;refine A7 bW [(19,oE (k:=0) (n6 h4)),(25,oR [(aM v7),(.ptr 2 0)] [.cells [(.fn 68 [(.ptr 3 0),(.ptr 4 0)])], .cells [(.d (.sl (aT v2)))], .cells [(.ptr 5 0)], .cells [(.mp 6)], .cells [(.d (.sl (aY v3)))], .cells [(.fn 65 [(.ptr 0 0),(.ptr 1 0),(.ptr 2 0)]),(.fn 63 [(.ptr 2 0)])], .map (bP bR v4), .cells (aM v1).cells, .cells dn] [2,5,0,1,3,4,6] (QB h5))] [(7,(aK v8.1)),(8,(aq v8.2.1))] [.cells [(.fn 68 [(.ptr 3 0),(.ptr 4 0)])], .cells [(.d (.sl (aT v2)))], .cells [(.ptr 5 0)], .cells [(.mp 6)], .cells [(.d (.sl (aY v3)))], .cells [(.fn 65 [(.ptr 0 0),(.ptr 1 0),(.ptr 2 0)]),(.fn 63 [(.ptr 2 0)])], .map (bP bR v8.2.2), .cells (aM v1).cells, .cells dn] ?_;refine je bW [[]] ?_;apply bc U<;>intro h6 U
    ·cases U;exact m5 bW [[(0,bT h6)],[]]
    refine je bW [[(0,bF h6)],[]] ?_;apply bc U<;>intro h7 U
    ·refine je bW [[(0,bT h7)]] ?_;obtain⟨v9,h8,v10,h9,U⟩:=zD U;refine A7 bW [(19,oE (k:=1) (n6 h8)),(25,oR [(aM v9),(.ptr 0 0),(.ptr 1 0),(.ptr 2 0)] [.cells [(.fn 68 [(.ptr 3 0),(.ptr 4 0)])], .cells [(.d (.sl (aT v2)))], .cells [(.ptr 5 0)], .cells [(.mp 6)], .cells [(.d (.sl (aY v3)))], .cells [(.fn 65 [(.ptr 0 0),(.ptr 1 0),(.ptr 2 0)]),(.fn 63 [(.ptr 2 0)])], .map (bP bR v8.2.2), .cells (aM v1).cells, .cells dn] [0,1,2,3,4,5,6] (tA h9))] [(6,(aq v10.2.1))] [.cells [(.fn 68 [(.ptr 3 0),(.ptr 4 0)])], .cells [(.d (.sl (aT v2)))], .cells [(.ptr 5 0)], .cells [(.mp 6)], .cells [(.d (.sl (aY v3)))], .cells [(.fn 65 [(.ptr 0 0),(.ptr 1 0),(.ptr 2 0)]),(.fn 63 [(.ptr 2 0)])], .map (bP bR v10.2.2), .cells (aM v1).cells, .cells (dA v10.1).cells] ?_;cases U;exact m5 bW []
    refine je bW [[(0,bF h7)]] ?_;obtain⟨v11,bE,v12,bD,U⟩:=zD U;refine A7 bW [(19,oE (k:=2) (n6 bE)),(25,oR [(aM v11),(.ptr 0 0),(.ptr 1 0),(.ptr 2 0)] [.cells [(.fn 68 [(.ptr 3 0),(.ptr 4 0)])], .cells [(.d (.sl (aT v2)))], .cells [(.ptr 5 0)], .cells [(.mp 6)], .cells [(.d (.sl (aY v3)))], .cells [(.fn 65 [(.ptr 0 0),(.ptr 1 0),(.ptr 2 0)]),(.fn 63 [(.ptr 2 0)])], .map (bP bR v8.2.2), .cells (aM v1).cells, .cells dn] [0,1,2,3,4,5,6] (tA bD))] [(6,(aq v12.2.1))] [.cells [(.fn 68 [(.ptr 3 0),(.ptr 4 0)])], .cells [(.d (.sl (aT v2)))], .cells [(.ptr 5 0)], .cells [(.mp 6)], .cells [(.d (.sl (aY v3)))], .cells [(.fn 65 [(.ptr 0 0),(.ptr 1 0),(.ptr 2 0)]),(.fn 63 [(.ptr 2 0)])], .map (bP bR v12.2.2), .cells (aM v1).cells, .cells (dA v12.1).cells] ?_;cases U;exact m5 bW []
   obtain⟨aH,cl,U⟩:=ck U;cases U;exact m5 bW [[(0,bF h3)],[(7,oR [(.ptr 5 0),(aM v1)] [.cells [(.fn 68 [(.ptr 3 0),(.ptr 4 0)])], .cells [(.d (.sl (aT v2)))], .cells [(.ptr 5 0)], .cells [(.mp 6)], .cells [(.d (.sl (aY v3)))], .cells [(.fn 65 [(.ptr 0 0),(.ptr 1 0),(.ptr 2 0)]),(.fn 63 [(.ptr 2 0)])], .map (bP bR v4), .cells (aM v1).cells, .cells dn] [5,0,1,2,3,4,6] (ahF cl))]]
  ·intro v1 v2 v3 v4 r U;rw[oW]at U;refine BZ 7 Tryz.func63 ?_;obtain⟨v5,J,U⟩:=ck U;cases U;exact m5 bW [[],[(7,oR [(.ptr 1 0),(aM v1)] [.cells [(.ptr 1 0)], .cells [(.fn 65 [(.ptr 2 0),(.ptr 3 0),(.ptr 0 0)]),(.fn 63 [(.ptr 0 0)])], .cells [(.fn 68 [(.ptr 4 0),(.ptr 5 0)])], .cells [(.d (.sl (aT v2)))], .cells [(.mp 6)], .cells [(.d (.sl (aY v3)))], .map (bP bR v4), .cells (aM v1).cells] [1,2,3,0,4,5,6] (acY J))]]
  ·intro v1 v2 v3 v4 r U;rw[DV]at U;refine BZ 7 Tryz.func64 ?_;refine je bW [[],[]] ?_;apply bc U<;>intro J U
   ·obtain⟨v5,h2,U⟩:=ck U;refine je bW [[(0,bT J)],[(7,oR [(.ptr 0 0),(aM v1)] [.cells [(.fn 65 [(.ptr 1 0),(.ptr 2 0),(.ptr 3 0)]),(.fn 63 [(.ptr 3 0)])], .cells [(.fn 68 [(.ptr 4 0),(.ptr 5 0)])], .cells [(.d (.sl (aT v2)))], .cells [(.ptr 0 0)], .cells [(.mp 6)], .cells [(.d (.sl (aY v3)))], .map (bP bR v4), .cells (aM v1).cells] [0,1,2,3,4,5,6] (Vl h2))],[]] ?_;apply bc U<;>intro h3 U
    ·cases U;exact m5 bW [[(0,bT h3)],[]]
    obtain⟨v6,h4,v7,h5,U⟩:=zD U;cases U;exact m5 bW [[(0,bF h3)],[(25,cK XR h4),(28,cK alh h5)]]
   refine je bW [[(0,bF J)]] ?_;obtain⟨v8,h6,v9,h7,U⟩:=zD U;refine A7 bW [(19,oE (k:=0) (n6 h6)),(25,oR [(aM v8),(.ptr 3 0)] [.cells [(.fn 65 [(.ptr 1 0),(.ptr 2 0),(.ptr 3 0)]),(.fn 63 [(.ptr 3 0)])], .cells [(.fn 68 [(.ptr 4 0),(.ptr 5 0)])], .cells [(.d (.sl (aT v2)))], .cells [(.ptr 0 0)], .cells [(.mp 6)], .cells [(.d (.sl (aY v3)))], .map (bP bR v4), .cells (aM v1).cells] [3,0,1,2,4,5,6] (QB h7))] [(9,(aK v9.1)),(10,(aq v9.2.1))] [.cells [(.fn 65 [(.ptr 1 0),(.ptr 2 0),(.ptr 3 0)]),(.fn 63 [(.ptr 3 0)])], .cells [(.fn 68 [(.ptr 4 0),(.ptr 5 0)])], .cells [(.d (.sl (aT v2)))], .cells [(.ptr 0 0)], .cells [(.mp 6)], .cells [(.d (.sl (aY v3)))], .map (bP bR v9.2.2), .cells (aM v1).cells] ?_;obtain⟨v10,h9,U⟩:=ck U;refine EI bW [(53,(aK v10))] [.cells [(.fn 65 [(.ptr 1 0),(.ptr 2 0),(.ptr 3 0)]),(.fn 63 [(.ptr 3 0)])], .cells [(.fn 68 [(.ptr 4 0),(.ptr 5 0)])], .cells [(.d (.sl (aT v2)))], .cells [(.ptr 0 0)], .cells [(.mp 6)], .cells [(.d (.sl (aY v3)))], .map (bP bR v9.2.2), .cells (aM v1).cells] ?_ ?_
   ·apply bc h9<;>intro h8 h9
    ·cases h9;exact yA [(2,bT h8)] []
    cases h9;exact yA [(2,bF h8)] []
   apply bc U<;>intro bE U
   ·refine je bW [[(0,bT bE)]] ?_;obtain⟨v11,cl,U⟩:=ck U;refine EI bW [(4,(aK v11)),(5,(aq v9.2.1))] [.cells [(.fn 65 [(.ptr 1 0),(.ptr 2 0),(.ptr 3 0)]),(.fn 63 [(.ptr 3 0)])], .cells [(.fn 68 [(.ptr 4 0),(.ptr 5 0)])], .cells [(.d (.sl (aT v2)))], .cells [(.ptr 0 0)], .cells [(.mp 6)], .cells [(.d (.sl (aY v3)))], .map (bP bR v9.2.2), .cells (aM v1).cells] ?_ ?_
    ·apply bc cl<;>intro bD cl
     ·cases cl;exact yA [(2,bT bD)] []
     cases cl;exact yA [(2,bF bD)] []
    cases U;exact m5 bW []
   refine je bW [[(0,bF bE)]] ?_;obtain⟨v12,cX,aH,cP,U⟩:=zD U;refine A7 bW [(19,oE (k:=1) (n6 cX)),(25,oR [(aM v12),(.ptr 3 0)] [.cells [(.fn 65 [(.ptr 1 0),(.ptr 2 0),(.ptr 3 0)]),(.fn 63 [(.ptr 3 0)])], .cells [(.fn 68 [(.ptr 4 0),(.ptr 5 0)])], .cells [(.d (.sl (aT v2)))], .cells [(.ptr 0 0)], .cells [(.mp 6)], .cells [(.d (.sl (aY v3)))], .map (bP bR v9.2.2), .cells (aM v1).cells] [3,0,1,2,4,5,6] (QB cP))] [(11,(aK aH.1)),(10,(aq aH.2.1))] [.cells [(.fn 65 [(.ptr 1 0),(.ptr 2 0),(.ptr 3 0)]),(.fn 63 [(.ptr 3 0)])], .cells [(.fn 68 [(.ptr 4 0),(.ptr 5 0)])], .cells [(.d (.sl (aT v2)))], .cells [(.ptr 0 0)], .cells [(.mp 6)], .cells [(.d (.sl (aY v3)))], .map (bP bR aH.2.2), .cells (aM v1).cells] ?_;refine je bW [[]] ?_;apply bc U<;>intro dm U
   ·cases U;exact m5 bW [[(0,bT dm)],[]]
   refine je bW [[(0,bF dm)],[]] ?_;apply bc U<;>intro dd U
   ·refine je bW [[(0,bT dd)]] ?_;obtain⟨aQ,fU,U⟩:=ck U;refine EI bW [(4,(aK aQ)),(5,(aq (0:Int)))] [.cells [(.fn 65 [(.ptr 1 0),(.ptr 2 0),(.ptr 3 0)]),(.fn 63 [(.ptr 3 0)])], .cells [(.fn 68 [(.ptr 4 0),(.ptr 5 0)])], .cells [(.d (.sl (aT v2)))], .cells [(.ptr 0 0)], .cells [(.mp 6)], .cells [(.d (.sl (aY v3)))], .map (bP bR aH.2.2), .cells (aM v1).cells] ?_ ?_
    ·apply bc fU<;>intro eY fU
     ·cases fU;exact yA [(1,bT eY)] []
     cases fU;exact yA [(1,bF eY)] []
    cases U;exact m5 bW []
   refine je bW [[(0,bF dd)]] ?_;obtain⟨bA,gD,U⟩:=ck U;refine EI bW [(4,(aK bA)),(5,(aq (0:Int)))] [.cells [(.fn 65 [(.ptr 1 0),(.ptr 2 0),(.ptr 3 0)]),(.fn 63 [(.ptr 3 0)])], .cells [(.fn 68 [(.ptr 4 0),(.ptr 5 0)])], .cells [(.d (.sl (aT v2)))], .cells [(.ptr 0 0)], .cells [(.mp 6)], .cells [(.d (.sl (aY v3)))], .map (bP bR aH.2.2), .cells (aM v1).cells] ?_ ?_
   ·apply bc gD<;>intro gY gD
    ·cases gD;exact yA [(1,bT gY)] []
    cases gD;exact yA [(1,bF gY)] []
   cases U;exact m5 bW []
  ·intro v1 v2 v3 v4 r U;rw[vK]at U;refine qG 7 Tryz.func110 rfl (by kernel_rfl) (anm rfl) ?_;refine mG (s':=⟨51,[(0,(.ptr 0 0)),(1,(aM v1))],[.cells [(.fn 65 [(.ptr 1 0),(.ptr 2 0),(.ptr 3 0)]),(.fn 63 [(.ptr 3 0)])], .cells [(.fn 68 [(.ptr 4 0),(.ptr 5 0)])], .cells [(.d (.sl (aT v2)))], .cells [(.ptr 0 0)], .cells [(.mp 6)], .cells [(.d (.sl (aY v3)))], .map (bP bR v4)]⟩) (by kernel_rfl) ?_;refine aA ?_;refine rg [] [(3,(.ptr 7 0)),(4,(.ptr 8 0)),(5,(.ptr 9 0))] [.cells [(.fn 65 [(.ptr 1 0),(.ptr 2 0),(.ptr 3 0)]),(.fn 63 [(.ptr 3 0)])], .cells [(.fn 68 [(.ptr 4 0),(.ptr 5 0)])], .cells [(.d (.sl (aT v2)))], .cells [(.ptr 0 0)], .cells [(.mp 6)], .cells [(.d (.sl (aY v3)))], .map (bP bR v4), .cells (aM v1).cells, .cells dn, .cells dn] (by kernel_rfl) ?_;refine aA ?_;obtain⟨v5,J,v6,h2,U⟩:=zD U;refine ro 2 bW (.node 0 [] (.node 1 [] (.node 2 [] (.node 3 [] (.node 4 [] (.node 5 [] (.node 6 [(19,oE (k:=0) (n6 J))] (.node 7 [] (.node 8 [(25,oR [(aM v5),(.ptr 1 0),(.ptr 2 0),(.ptr 3 0)] [.cells [(.fn 65 [(.ptr 1 0),(.ptr 2 0),(.ptr 3 0)]),(.fn 63 [(.ptr 3 0)])], .cells [(.fn 68 [(.ptr 4 0),(.ptr 5 0)])], .cells [(.d (.sl (aT v2)))], .cells [(.ptr 0 0)], .cells [(.mp 6)], .cells [(.d (.sl (aY v3)))], .map (bP bR v4), .cells (aM v1).cells, .cells dn, .cells dn] [1,2,3,4,5,0,6] (tA h2))] (.node 9 [] (.node 10 [] (.node 11 [] (.node 12 [] (.node 13 [] (.node 14 [] .nil .nil) .nil) .nil) .nil) .nil) .nil) (.node 12 [] (.node 8 [(25,oR [(aM v5),(.ptr 1 0),(.ptr 2 0),(.ptr 3 0)] [.cells [(.fn 65 [(.ptr 1 0),(.ptr 2 0),(.ptr 3 0)]),(.fn 63 [(.ptr 3 0)])], .cells [(.fn 68 [(.ptr 4 0),(.ptr 5 0)])], .cells [(.d (.sl (aT v2)))], .cells [(.ptr 0 0)], .cells [(.mp 6)], .cells [(.d (.sl (aY v3)))], .map (bP bR v4), .cells (aM v1).cells, .cells dn, .cells dn, .cells dn] [1,2,3,4,5,0,6] (tA h2))] (.node 9 [] (.node 10 [] (.node 11 [] (.node 13 [] (.node 14 [] .nil .nil) .nil) .nil) .nil) .nil) .nil) .nil)) .nil) .nil) .nil) .nil) .nil) .nil) .nil) .nil) [(7,(.ptr 10 0)),(8,(aq v6.2.1))] [.cells [(.fn 65 [(.ptr 1 0),(.ptr 2 0),(.ptr 3 0)]),(.fn 63 [(.ptr 3 0)])], .cells [(.fn 68 [(.ptr 4 0),(.ptr 5 0)])], .cells [(.d (.sl (aT v2)))], .cells [(.ptr 0 0)], .cells [(.mp 6)], .cells [(.d (.sl (aY v3)))], .map (bP bR v6.2.2), .cells (aM v1).cells, .cells dn, .cells dn, .cells (dA v6.1).cells] (by kernel_rfl) ?_
   refine aA ?_;refine aA ?_;refine rg [] [(23,(aK (v6.2.1 !=0)))] [.cells [(.fn 65 [(.ptr 1 0),(.ptr 2 0),(.ptr 3 0)]),(.fn 63 [(.ptr 3 0)])], .cells [(.fn 68 [(.ptr 4 0),(.ptr 5 0)])], .cells [(.d (.sl (aT v2)))], .cells [(.ptr 0 0)], .cells [(.mp 6)], .cells [(.d (.sl (aY v3)))], .map (bP bR v6.2.2), .cells (aM v1).cells, .cells dn, .cells dn, .cells (dA v6.1).cells] (by kernel_rfl) ?_;rcases dU (v6.2.1 !=0)with h3|h3
   ·replace U:=(dj h3).symm.trans U;refine eE (t:=(v6.2.1 !=0)) (by kernel_rfl) h3 ?_;refine aA ?_;refine rt 2 bW [] [(6,(aq v6.2.1))] [.cells [(.fn 65 [(.ptr 1 0),(.ptr 2 0),(.ptr 3 0)]),(.fn 63 [(.ptr 3 0)])], .cells [(.fn 68 [(.ptr 4 0),(.ptr 5 0)])], .cells [(.d (.sl (aT v2)))], .cells [(.ptr 0 0)], .cells [(.mp 6)], .cells [(.d (.sl (aY v3)))], .map (bP bR v6.2.2), .cells (aM v1).cells, .cells (dA v6.1).cells, .cells (dA v6.1).cells, .cells (dA v6.1).cells] (by kernel_rfl) ?_;refine cQ (cZ ?_);have hr:=anx U;subst hr;exact jl (by kernel_rfl)
   replace U:=(dV h3).symm.trans U;refine ee (t:=(v6.2.1 !=0)) (by kernel_rfl) h3 ?_;refine dt ?_;refine bC ?_;refine aA ?_;obtain⟨v7,h4,v8,h5,U⟩:=zD U;refine ro 2 bW (.node 0 [] (.node 1 [] (.node 2 [] (.node 3 [] (.node 4 [] (.node 5 [] (.node 6 [(19,oE (k:=1) (n6 h4))] (.node 7 [] (.node 8 [(25,oR [(aM v7),(.ptr 1 0),(.ptr 2 0),(.ptr 3 0)] [.cells [(.fn 65 [(.ptr 1 0),(.ptr 2 0),(.ptr 3 0)]),(.fn 63 [(.ptr 3 0)])], .cells [(.fn 68 [(.ptr 4 0),(.ptr 5 0)])], .cells [(.d (.sl (aT v2)))], .cells [(.ptr 0 0)], .cells [(.mp 6)], .cells [(.d (.sl (aY v3)))], .map (bP bR v6.2.2), .cells (aM v1).cells, .cells dn, .cells dn, .cells (dA v6.1).cells] [1,2,3,4,5,0,6] (tA h5))] (.node 9 [] (.node 10 [] (.node 11 [] (.node 12 [] (.node 13 [] (.node 14 [] .nil .nil) .nil) .nil) .nil) .nil) .nil) (.node 12 [] (.node 8 [(25,oR [(aM v7),(.ptr 1 0),(.ptr 2 0),(.ptr 3 0)] [.cells [(.fn 65 [(.ptr 1 0),(.ptr 2 0),(.ptr 3 0)]),(.fn 63 [(.ptr 3 0)])], .cells [(.fn 68 [(.ptr 4 0),(.ptr 5 0)])], .cells [(.d (.sl (aT v2)))], .cells [(.ptr 0 0)], .cells [(.mp 6)], .cells [(.d (.sl (aY v3)))], .map (bP bR v6.2.2), .cells (aM v1).cells, .cells dn, .cells dn, .cells (dA v6.1).cells, .cells dn] [1,2,3,4,5,0,6] (tA h5))] (.node 9 [] (.node 10 [] (.node 11 [] (.node 13 [] (.node 14 [] .nil .nil) .nil) .nil) .nil) .nil) .nil) .nil)) .nil) .nil) .nil) .nil) .nil) .nil) .nil) .nil) [(9,(.ptr 11 0)),(8,(aq v8.2.1))] [.cells [(.fn 65 [(.ptr 1 0),(.ptr 2 0),(.ptr 3 0)]),(.fn 63 [(.ptr 3 0)])], .cells [(.fn 68 [(.ptr 4 0),(.ptr 5 0)])], .cells [(.d (.sl (aT v2)))], .cells [(.ptr 0 0)], .cells [(.mp 6)], .cells [(.d (.sl (aY v3)))], .map (bP bR v8.2.2), .cells (aM v1).cells, .cells dn, .cells dn, .cells (dA v6.1).cells, .cells (dA v8.1).cells] (by kernel_rfl) ?_
   refine aA ?_;refine aA ?_;obtain⟨v9,h7,U⟩:=ck U;refine yI [(47,(aK v9))] [.cells [(.fn 65 [(.ptr 1 0),(.ptr 2 0),(.ptr 3 0)]),(.fn 63 [(.ptr 3 0)])], .cells [(.fn 68 [(.ptr 4 0),(.ptr 5 0)])], .cells [(.d (.sl (aT v2)))], .cells [(.ptr 0 0)], .cells [(.mp 6)], .cells [(.d (.sl (aY v3)))], .map (bP bR v8.2.2), .cells (aM v1).cells, .cells dn, .cells dn, .cells (dA v6.1).cells, .cells (dA v8.1).cells] ?_ ?_
   ·rcases dU (v8.2.1==0)with h6|h6
    ·replace h7:=(dj h6).symm.trans h7;have he:=anx h7;subst he;exact⟨[(9,bT h6),(12,bT h6),(15,bT h6),(18,bT h6),(21,bT h6),(25,bT h6)],by kernel_rfl⟩
    replace h7:=(dV h6).symm.trans h7;have he:=anx h7;subst he;exact⟨[(9,bF h6),(12,bF h6),(15,bF h6),(18,bF h6),(21,bF h6),(25,bF h6)],by kernel_rfl⟩
   refine EB [4,5,7,8,9] 12 (λ(v10:Int)=>⟨51,[(4,(.ptr 8 0)),(5,(.ptr 9 0)),(7,(.ptr 10 0)),(8,(aq v10)),(9,(.ptr 11 0))],[.cells [(.fn 65 [(.ptr 1 0),(.ptr 2 0),(.ptr 3 0)]),(.fn 63 [(.ptr 3 0)])], .cells [(.fn 68 [(.ptr 4 0),(.ptr 5 0)])], .cells [(.d (.sl (aT v2)))], .cells [(.ptr 0 0)], .cells [(.mp 6)], .cells [(.d (.sl (aY v3)))], .map (bP bR v8.2.2), .cells (aM v1).cells, .cells dn, .cells dn, .cells (dA v6.1).cells, .cells (dA v8.1).cells]⟩) (λ(v10:Int)=>Fw N v6 v8 v10=some r) (anm rfl) ?_ ?_
   ·rcases dU v9 with h8|h8
    ·replace U:=(dj h8).symm.trans U;refine eE (t:=v9) (by kernel_rfl) h8 ?_;refine re [] [(8,(aq (10:Int)))] [.cells [(.fn 65 [(.ptr 1 0),(.ptr 2 0),(.ptr 3 0)]),(.fn 63 [(.ptr 3 0)])], .cells [(.fn 68 [(.ptr 4 0),(.ptr 5 0)])], .cells [(.d (.sl (aT v2)))], .cells [(.ptr 0 0)], .cells [(.mp 6)], .cells [(.d (.sl (aY v3)))], .map (bP bR v8.2.2), .cells (aM v1).cells, .cells dn, .cells dn, .cells (dA v6.1).cells, .cells (dA v8.1).cells] (by kernel_rfl) ?_;refine bC ?_;exact⟨(10:Int),by kernel_rfl,U⟩
    replace U:=(dV h8).symm.trans U;refine ee (t:=v9) (by kernel_rfl) h8 ?_;refine dt ?_;refine bC ?_;exact⟨v8.2.1,by kernel_rfl,U⟩
   rintro v10 U
   try dsimp only at U
   rw[Fw]at U;refine aA ?_;refine rt 2 bW [] [(6,(aq v10))] [.cells [(.fn 65 [(.ptr 1 0),(.ptr 2 0),(.ptr 3 0)]),(.fn 63 [(.ptr 3 0)])], .cells [(.fn 68 [(.ptr 4 0),(.ptr 5 0)])], .cells [(.d (.sl (aT v2)))], .cells [(.ptr 0 0)], .cells [(.mp 6)], .cells [(.d (.sl (aY v3)))], .map (bP bR v8.2.2), .cells (aM v1).cells, .cells (dA v6.1).cells, .cells (dA v8.1).cells, .cells (dA v6.1).cells, .cells (dA v8.1).cells] (by kernel_rfl) ?_;refine cQ ?_;have hr:=anx U;subst hr;exact jl (by kernel_rfl)
  intro v1 v2 v3 v4 r U;rw[qc]at U;refine qG 7 Tryz.func67 rfl (by kernel_rfl) (anm rfl) ?_;refine mG (s':=⟨100,[(0,(.ptr 0 0)),(1,(aM v1))],[.cells [(.fn 65 [(.ptr 1 0),(.ptr 2 0),(.ptr 3 0)]),(.fn 63 [(.ptr 3 0)])], .cells [(.fn 68 [(.ptr 4 0),(.ptr 5 0)])], .cells [(.d (.sl (aT v2)))], .cells [(.ptr 0 0)], .cells [(.mp 6)], .cells [(.d (.sl (aY v3)))], .map (bP bR v4)]⟩) (by kernel_rfl) ?_;refine aA ?_;refine rg [] [(3,(.ptr 7 0)),(4,(.ptr 8 0))] [.cells [(.fn 65 [(.ptr 1 0),(.ptr 2 0),(.ptr 3 0)]),(.fn 63 [(.ptr 3 0)])], .cells [(.fn 68 [(.ptr 4 0),(.ptr 5 0)])], .cells [(.d (.sl (aT v2)))], .cells [(.ptr 0 0)], .cells [(.mp 6)], .cells [(.d (.sl (aY v3)))], .map (bP bR v4), .cells (aM v1).cells, .cells dn] (by kernel_rfl) ?_;refine aA ?_;refine aA ?_;obtain⟨v5,h2,U⟩:=ck U;refine yI [(22,(aK v5))] [.cells [(.fn 65 [(.ptr 1 0),(.ptr 2 0),(.ptr 3 0)]),(.fn 63 [(.ptr 3 0)])], .cells [(.fn 68 [(.ptr 4 0),(.ptr 5 0)])], .cells [(.d (.sl (aT v2)))], .cells [(.ptr 0 0)], .cells [(.mp 6)], .cells [(.d (.sl (aY v3)))], .map (bP bR v4), .cells (aM v1).cells, .cells dn] ?_ ?_
  ·rcases dU (v1.ay==8)with J|J
   ·replace h2:=(dj J).symm.trans h2;have he:=anx h2;subst he;exact⟨[(12,bT J),(15,bT J),(18,bT J),(22,bT J)],by kernel_rfl⟩
   replace h2:=(dV J).symm.trans h2;have he:=anx h2;subst he;exact⟨[(12,bF J),(15,bF J),(18,bF J),(22,bF J)],by kernel_rfl⟩
  rcases dU v5 with h3|h3
  ·replace U:=(dj h3).symm.trans U;refine eE (t:=v5) (by kernel_rfl) h3 ?_;refine aA ?_;obtain⟨v6,h4,v7,h5,U⟩:=zD U;refine ro 2 bW (.node 0 [] (.node 1 [] (.node 2 [] (.node 3 [] (.node 4 [] (.node 5 [] (.node 6 [(19,oE (k:=0) (n6 h4))] (.node 7 [] (.node 8 [(25,oR [(aM v6),(.ptr 1 0),(.ptr 2 0),(.ptr 3 0)] [.cells [(.fn 65 [(.ptr 1 0),(.ptr 2 0),(.ptr 3 0)]),(.fn 63 [(.ptr 3 0)])], .cells [(.fn 68 [(.ptr 4 0),(.ptr 5 0)])], .cells [(.d (.sl (aT v2)))], .cells [(.ptr 0 0)], .cells [(.mp 6)], .cells [(.d (.sl (aY v3)))], .map (bP bR v4), .cells (aM v1).cells, .cells dn] [1,2,3,4,5,0,6] (tA h5))] (.node 9 [] (.node 10 [] (.node 11 [] (.node 12 [] (.node 13 [] (.node 14 [] .nil .nil) .nil) .nil) .nil) .nil) .nil) (.node 12 [] (.node 8 [(25,oR [(aM v6),(.ptr 1 0),(.ptr 2 0),(.ptr 3 0)] [.cells [(.fn 65 [(.ptr 1 0),(.ptr 2 0),(.ptr 3 0)]),(.fn 63 [(.ptr 3 0)])], .cells [(.fn 68 [(.ptr 4 0),(.ptr 5 0)])], .cells [(.d (.sl (aT v2)))], .cells [(.ptr 0 0)], .cells [(.mp 6)], .cells [(.d (.sl (aY v3)))], .map (bP bR v4), .cells (aM v1).cells, .cells dn, .cells dn] [1,2,3,4,5,0,6] (tA h5))] (.node 9 [] (.node 10 [] (.node 11 [] (.node 13 [] (.node 14 [] .nil .nil) .nil) .nil) .nil) .nil) .nil) .nil)) .nil) .nil) .nil) .nil) .nil) .nil) .nil) .nil) [(6,(.ptr 9 0)),(7,(aq v7.2.1))] [.cells [(.fn 65 [(.ptr 1 0),(.ptr 2 0),(.ptr 3 0)]),(.fn 63 [(.ptr 3 0)])], .cells [(.fn 68 [(.ptr 4 0),(.ptr 5 0)])], .cells [(.d (.sl (aT v2)))], .cells [(.ptr 0 0)], .cells [(.mp 6)], .cells [(.d (.sl (aY v3)))], .map (bP bR v7.2.2), .cells (aM v1).cells, .cells dn, .cells (dA v7.1).cells] (by kernel_rfl) ?_
   refine aA ?_;refine aA ?_;refine rg [] [(36,(aK (v7.2.1 !=0)))] [.cells [(.fn 65 [(.ptr 1 0),(.ptr 2 0),(.ptr 3 0)]),(.fn 63 [(.ptr 3 0)])], .cells [(.fn 68 [(.ptr 4 0),(.ptr 5 0)])], .cells [(.d (.sl (aT v2)))], .cells [(.ptr 0 0)], .cells [(.mp 6)], .cells [(.d (.sl (aY v3)))], .map (bP bR v7.2.2), .cells (aM v1).cells, .cells dn, .cells (dA v7.1).cells] (by kernel_rfl) ?_;rcases dU (v7.2.1 !=0)with h6|h6
   ·replace U:=(dj h6).symm.trans U;refine eE (t:=(v7.2.1 !=0)) (by kernel_rfl) h6 ?_;refine aA ?_;refine rg [] [(5,(aq v7.2.1))] [.cells [(.fn 65 [(.ptr 1 0),(.ptr 2 0),(.ptr 3 0)]),(.fn 63 [(.ptr 3 0)])], .cells [(.fn 68 [(.ptr 4 0),(.ptr 5 0)])], .cells [(.d (.sl (aT v2)))], .cells [(.ptr 0 0)], .cells [(.mp 6)], .cells [(.d (.sl (aY v3)))], .map (bP bR v7.2.2), .cells (aM v1).cells, .cells (dA v7.1).cells, .cells (dA v7.1).cells] (by kernel_rfl) ?_;refine cQ (cZ (cZ ?_));have hr:=anx U;subst hr;exact jl (by kernel_rfl)
   replace U:=(dV h6).symm.trans U;refine ee (t:=(v7.2.1 !=0)) (by kernel_rfl) h6 ?_;refine dt ?_;refine bC ?_;refine aA ?_;refine aA ?_;refine rg [] [(41,(aK (v1.ay==12)))] [.cells [(.fn 65 [(.ptr 1 0),(.ptr 2 0),(.ptr 3 0)]),(.fn 63 [(.ptr 3 0)])], .cells [(.fn 68 [(.ptr 4 0),(.ptr 5 0)])], .cells [(.d (.sl (aT v2)))], .cells [(.ptr 0 0)], .cells [(.mp 6)], .cells [(.d (.sl (aY v3)))], .map (bP bR v7.2.2), .cells (aM v1).cells, .cells dn, .cells (dA v7.1).cells] (by kernel_rfl) ?_;rcases dU (v1.ay==12)with h7|h7
   ·replace U:=(dj h7).symm.trans U;refine eE (t:=(v1.ay==12)) (by kernel_rfl) h7 ?_;refine aA ?_;obtain⟨v8,h8,U⟩:=ck U;refine rg [(19,cK abY h8)] [(8,(.ptr 10 0)),(9,(aq v8.2))] [.cells [(.fn 65 [(.ptr 1 0),(.ptr 2 0),(.ptr 3 0)]),(.fn 63 [(.ptr 3 0)])], .cells [(.fn 68 [(.ptr 4 0),(.ptr 5 0)])], .cells [(.d (.sl (aT v2)))], .cells [(.ptr 0 0)], .cells [(.mp 6)], .cells [(.d (.sl (aY v3)))], .map (bP bR v7.2.2), .cells (aM v1).cells, .cells dn, .cells (dA v7.1).cells, .cells (bp v8.1).cells] (by kernel_rfl) ?_;refine aA ?_;refine rg [] [(5,(aq v8.2))] [.cells [(.fn 65 [(.ptr 1 0),(.ptr 2 0),(.ptr 3 0)]),(.fn 63 [(.ptr 3 0)])], .cells [(.fn 68 [(.ptr 4 0),(.ptr 5 0)])], .cells [(.d (.sl (aT v2)))], .cells [(.ptr 0 0)], .cells [(.mp 6)], .cells [(.d (.sl (aY v3)))], .map (bP bR v7.2.2), .cells (aM v1).cells, .cells [(bz v8.1.xN),(bz v8.1.xD),(aq v1.aB.bk),(aq v1.aB.bX),(aq v1.aB.bS),(aq v1.aB.ct),(aq v1.aB.cu)], .cells (dA v7.1).cells, .cells (bp v8.1).cells] (by kernel_rfl) ?_;refine cQ (cZ (cZ ?_));have hr:=anx U;subst hr;exact jl (by kernel_rfl)
   replace U:=(dV h7).symm.trans U;refine ee (t:=(v1.ay==12)) (by kernel_rfl) h7 ?_;refine dt ?_;refine bC ?_;refine aA ?_;obtain⟨v9,h9,U⟩:=ck U;refine rg [(19,cK PN h9)] [(10,(.ptr 10 0)),(7,(aq v9.2))] [.cells [(.fn 65 [(.ptr 1 0),(.ptr 2 0),(.ptr 3 0)]),(.fn 63 [(.ptr 3 0)])], .cells [(.fn 68 [(.ptr 4 0),(.ptr 5 0)])], .cells [(.d (.sl (aT v2)))], .cells [(.ptr 0 0)], .cells [(.mp 6)], .cells [(.d (.sl (aY v3)))], .map (bP bR v7.2.2), .cells (aM v1).cells, .cells dn, .cells (dA v7.1).cells, .cells (bp v9.1).cells] (by kernel_rfl) ?_;refine aA ?_;refine rg [] [(5,(aq v9.2))] [.cells [(.fn 65 [(.ptr 1 0),(.ptr 2 0),(.ptr 3 0)]),(.fn 63 [(.ptr 3 0)])], .cells [(.fn 68 [(.ptr 4 0),(.ptr 5 0)])], .cells [(.d (.sl (aT v2)))], .cells [(.ptr 0 0)], .cells [(.mp 6)], .cells [(.d (.sl (aY v3)))], .map (bP bR v7.2.2), .cells (aM v1).cells, .cells ((bz v9.1.xN)::(bz v9.1.xD)::XA v7.1 []), .cells (dA v7.1).cells, .cells (bp v9.1).cells] (by kernel_rfl) ?_;refine cQ (cZ ?_);have hr:=anx U;subst hr;exact jl (by kernel_rfl)
  replace U:=(dV h3).symm.trans U;refine ee (t:=v5) (by kernel_rfl) h3 ?_;refine dt ?_;refine bC ?_;refine aA ?_;obtain⟨v10,bE,U⟩:=ck U;refine rg [(7,oR [(.ptr 0 0),(aM v1)] [.cells [(.fn 65 [(.ptr 1 0),(.ptr 2 0),(.ptr 3 0)]),(.fn 63 [(.ptr 3 0)])], .cells [(.fn 68 [(.ptr 4 0),(.ptr 5 0)])], .cells [(.d (.sl (aT v2)))], .cells [(.ptr 0 0)], .cells [(.mp 6)], .cells [(.d (.sl (aY v3)))], .map (bP bR v4), .cells (aM v1).cells, .cells dn] [0,1,2,3,4,5,6] (Vl bE))] [(11,(.ptr 9 0)),(12,(.ptr 10 0)),(13,(aq v10.2.2.1))] [.cells [(.fn 65 [(.ptr 1 0),(.ptr 2 0),(.ptr 3 0)]),(.fn 63 [(.ptr 3 0)])], .cells [(.fn 68 [(.ptr 4 0),(.ptr 5 0)])], .cells [(.d (.sl (aT v2)))], .cells [(.ptr 0 0)], .cells [(.mp 6)], .cells [(.d (.sl (aY v3)))], .map (bP bR v10.2.2.2), .cells (aM v1).cells, .cells dn, .cells (dA v10.1).cells, .cells (dA v10.2.1).cells] (by kernel_rfl) ?_;refine aA ?_;refine aA ?_;refine rg [] [(80,(aK (v10.2.2.1 !=0)))] [.cells [(.fn 65 [(.ptr 1 0),(.ptr 2 0),(.ptr 3 0)]),(.fn 63 [(.ptr 3 0)])], .cells [(.fn 68 [(.ptr 4 0),(.ptr 5 0)])], .cells [(.d (.sl (aT v2)))], .cells [(.ptr 0 0)], .cells [(.mp 6)], .cells [(.d (.sl (aY v3)))], .map (bP bR v10.2.2.2), .cells (aM v1).cells, .cells dn, .cells (dA v10.1).cells, .cells (dA v10.2.1).cells] (by kernel_rfl) ?_;rcases dU (v10.2.2.1 !=0)with bD|bD
  ·replace U:=(dj bD).symm.trans U;refine eE (t:=(v10.2.2.1 !=0)) (by kernel_rfl) bD ?_;refine aA ?_;refine rg [] [(5,(aq v10.2.2.1))] [.cells [(.fn 65 [(.ptr 1 0),(.ptr 2 0),(.ptr 3 0)]),(.fn 63 [(.ptr 3 0)])], .cells [(.fn 68 [(.ptr 4 0),(.ptr 5 0)])], .cells [(.d (.sl (aT v2)))], .cells [(.ptr 0 0)], .cells [(.mp 6)], .cells [(.d (.sl (aY v3)))], .map (bP bR v10.2.2.2), .cells (aM v1).cells, .cells dn, .cells (dA v10.1).cells, .cells (dA v10.2.1).cells] (by kernel_rfl) ?_;refine cQ (cZ ?_);have hr:=anx U;subst hr;exact jl (by kernel_rfl)
  replace U:=(dV bD).symm.trans U;refine ee (t:=(v10.2.2.1 !=0)) (by kernel_rfl) bD ?_;refine dt ?_;refine bC ?_;refine aA ?_;obtain⟨v11,cl,U⟩:=ck U;refine rg [(25,cK PN cl)] [(14,(.ptr 11 0)),(13,(aq v11.2))] [.cells [(.fn 65 [(.ptr 1 0),(.ptr 2 0),(.ptr 3 0)]),(.fn 63 [(.ptr 3 0)])], .cells [(.fn 68 [(.ptr 4 0),(.ptr 5 0)])], .cells [(.d (.sl (aT v2)))], .cells [(.ptr 0 0)], .cells [(.mp 6)], .cells [(.d (.sl (aY v3)))], .map (bP bR v10.2.2.2), .cells (aM v1).cells, .cells dn, .cells (dA v10.1).cells, .cells (dA v10.2.1).cells, .cells (bp v11.1).cells] (by kernel_rfl) ?_;refine aA ?_;refine rg [] [(5,(aq v11.2))] [.cells [(.fn 65 [(.ptr 1 0),(.ptr 2 0),(.ptr 3 0)]),(.fn 63 [(.ptr 3 0)])], .cells [(.fn 68 [(.ptr 4 0),(.ptr 5 0)])], .cells [(.d (.sl (aT v2)))], .cells [(.ptr 0 0)], .cells [(.mp 6)], .cells [(.d (.sl (aY v3)))], .map (bP bR v10.2.2.2), .cells (aM v1).cells, .cells ((bz v11.1.xN)::(bz v11.1.xD)::XA v10.1 []), .cells (dA v10.1).cells, .cells (dA v10.2.1).cells, .cells (bp v11.1).cells] (by kernel_rfl) ?_;refine cQ ?_;have hr:=anx U;subst hr;exact jl (by kernel_rfl)
theorem gF(N:Nat)(v1:ar)(v2:an3 aL)(v3:an3 aJ)(v4:an3 (an4×aR))(r:eV×Int×(an3 (an4×aR)))(U:zU N v1 v2 v3 v4=some r):KH 65 [(aM v1),(.ptr 0 0),(.ptr 1 0),(.ptr 2 0)] ([.cells [(.fn 68 [(.ptr 3 0),(.ptr 4 0)])], .cells [(.d (.sl (aT v2)))], .cells [(.ptr 5 0)], .cells [(.mp 6)], .cells [(.d (.sl (aY v3)))], .cells [(.fn 65 [(.ptr 0 0),(.ptr 1 0),(.ptr 2 0)]),(.fn 63 [(.ptr 2 0)])], .map (bP bR v4)]) (.aZ [(dA r.1),(aq r.2.1)]) ([.cells [(.fn 68 [(.ptr 3 0),(.ptr 4 0)])], .cells [(.d (.sl (aT v2)))], .cells [(.ptr 5 0)], .cells [(.mp 6)], .cells [(.d (.sl (aY v3)))], .cells [(.fn 65 [(.ptr 0 0),(.ptr 1 0),(.ptr 2 0)]),(.fn 63 [(.ptr 2 0)])], .map (bP bR r.2.2)]):=(aec N N).1 U
def IB(N:Nat)(v1:Int)(v2:Bool):an5 (Int×Bool):=
 bif v2 then
  some ((4:Int),true)
 else
  bif (v1==2)then
   some ((6:Int),true)
  else
   bif (v1==3)then
    some ((9:Int),true)
   else
    bif (v1==4)then
     some ((10:Int),true)
    else
     some ((0:Int),false)
def Jf(N:Nat)(v1:Int):an5 (Int×Bool):=
 bif (v1==1)then
  IB N v1 (v1==1)
 else
  IB N v1 (v1==5)
theorem alD{N v1}:KO 124 [(aq v1)] (λr=> .aZ [(aq r.1),(aK r.2)]) (Jf N v1):=
 fw Tryz.func124 (mM 1 [[],[],[]] [4,5] 0 (λ(v2:Bool)=>⟨14,[(4,(aq v1)),(5,(aK v2))],[]⟩) (IB N v1) (λf1 aX=>aE (λh5=>gm aX (v1==1) [[t0 h5]]) λh5=>gm aX (v1==5) [[f0 h5],[]]) (λv2=>lx λ_=>lx λ_=>lx λ_=>bZ λh4=>gR [[f0 h4],[]]))
def Zf(N:Nat)(v1:aF):an5 ax:=
 (l4 N v1).bind λv2=>
 bif (v2 !=0)then
  some cB
 else
  some (⟨(0:Int64),(1:Int64)⟩:ax)
theorem abj{N v1}:KO 183 [(cr v1)] bp (Zf N v1):=
 fw Tryz.func183 (az λv2 J=>gA [[],[(4,cK oy J)]] (bZ λh2=>gR [[f0 h2],[]]))
def WQ(N:Nat)(v1:aF):an5 (ax×Int):=
 (l4 N v1).bind λv2=>
 bif (v2 !=0)then
  some (cB,(10:Int))
 else
  bif (v1.bk !=2)then
   some ((⟨(1:Int64),(1:Int64)⟩:ax),(0:Int))
  else
   bif (decide ((0:Int)<=v1.bS))then
   Option.bind (rC N v1 (⟨(Int64.ofInt ((1:Int)*2^(min (v1.bS).toNat (IntKind.bits .i64)))),(1:Int64)⟩:ax)) λv3=>
   bif v3 then
    some ((⟨(Int64.ofInt ((1:Int)*2^(min (v1.bS).toNat (IntKind.bits .i64)))),(1:Int64)⟩:ax),(0:Int))
   else
    some (cB,(3:Int))
   else none
theorem agb{N v1}:KO 184 [(cr v1)] (λr=> .aZ [(bp r.1),(aq r.2)]) (WQ N v1):=
 fw Tryz.func184 (az λv2 J=>gA [[],[(4,cK oy J)]] (lx λ_=>bZ λh3=>dN λh4=>az λv3 h5=>gA [[f0 h3],[(7,⟨_,_, .nn (b:=v1.bS) (of_decide_eq_true h4)⟩),(8,⟨_,_, .eq (kC ((1:Int)*2^(min (v1.bS).toNat (IntKind.bits .i64))))⟩)],[(7,cK LW h5)]] (rk λh6=>gR [[t0 (eD h6)],[]])))
def OM(N:Nat)(v2:aF)(v1:Int)(v4:Bool):an5 (ax×Bool):=
 bif v4 then
  (Zf N v2).bind λv5=>
  some (v5,true)
 else
  bif (v1==2)then
   (WQ N v2).bind λv6=>
   some (v6.1,(v6.2==0))
  else
   some (cB,false)
def Tv(N:Nat)(v1:Int)(v2:aF):an5 (ax×Bool):=
 (l4 N v2).bind λv3=>
 bif (v3 !=0)then
  some (cB,false)
 else
  bif (v1==1)then
   OM N v2 v1 (v1==1)
  else
   OM N v2 v1 (v1==5)
theorem abr{N v1 v2}:KO 125 [(aq v1),(cr v2)] (λr=> .aZ [(bp r.1),(aK r.2)]) (Tv N v1 v2):=
 fw Tryz.func125 (az λv3 J=>gA [[],[(4,cK oy J)]] (bZ λh2=>mM 1 [[f0 h2],[],[]] [3,4,12,13] 2 (λ(v4:Bool)=>⟨29,[(3,(.ptr 0 0)),(4,(.ptr 1 0)),(12,(aq v1)),(13,(aK v4))],[.cells (cr v2).cells, .cells iH]⟩) (OM N v2 v1) (λf1 aX=>aE (λh7=>gm aX (v1==1) [[t0 h7]]) λh7=>gm aX (v1==5) [[f0 h7],[]]) (λv4=>aE (λh3=>az λv5 h4=>gR [[t0 h3],[(4,cK abj h4)]]) λh3=>gA [[f0 h3],[]] (tQ λh5=>az λv6 h6=>gR [[t0 h5],[(4,cK agb h6)],[]]))))
def aak(N:Nat)(v4:Int×Bool)(v2:aF):an3 ax->Nat->Int64->Int64->an5 (ax×Int)
 |[],_,bB,cz=>
  some ((⟨bB,cz⟩:ax),(0:Int))
 |aQ::bA,v12,bB,cz=>
  Option.bind (wQ N v4.1 v2 (⟨bB,cz⟩:ax) aQ) λbY=>
  bif (bY.2 !=0)then
   some (cB,bY.2)
  else
   (λb2_0 wP=>aak N v4 v2 bA (v12+1) b2_0 wP) bY.1.xN bY.1.xD
def RZ(N:Nat)(v3:an3 ax)(v1:Int)(v2:aF)(v4:Int×Bool):an3 ax->Nat->an5 (ax×Int)
 |[],_=>
  bif ((v3.length:Int)==0)then
   (Tv N v1 v2).bind λv10=>
   bif v10.2 then
    some (v10.1,(0:Int))
   else
    some (cB,(1:Int))
  else
   Option.bind (v3[0]?) λv11=>
   bif (decide (1<=v3.length))then
   aak N v4 v2 (v3.drop 1) 0 v11.xN v11.xD
   else none
 |v8::v9,v6=>
  (lX N v2 v8).bind λcx=>
  bif cx then
   (RZ N v3 v1 v2 v4 v9 (v6+1))
  else
   some (cB,(1:Int))
def Cz(N:Nat)(v1:Int)(v2:aF)(v3:an3 ax):an5 (ax×Int):=
 (Jf N v1).bind λv4=>
 bif v4.2 then
  (l4 N v2).bind λv5=>
  bif (v5 !=0)then
   some (cB,(10:Int))
  else
   RZ N v3 v1 v2 v4 v3 0
 else
  some (cB,(1:Int))
theorem Sa{N v1 v2 v3}:KO 76 [(aq v1),(cr v2),(.d (.sl (dy v3)))] (λr=> .aZ [(bp r.1),(aq r.2)]) (Cz N v1 v2 v3):=
 fw Tryz.func76 (az λv4 J=>gA [[],[(4,cK alD J)],[]] (lU λh2=>az λv5 h3=>gA [[f0 (dK h2)],[(4,cK oy h3)]] (bZ λh4=>gA [[f0 h4],[(4,oL v3 iD)]] (gT yY 2 v3 λh6=>hJ 1 [] [0,2,4,6,8,33,34,35] 2 (λv6=>⟨83,[(0,(aq v1)),(2,(.d (.sl (dy v3)))),(4,(.ptr 0 0)),(6,(.ptr 1 0)),(8,(aq v4.1)),(33,(.d (.sl (dy v3)))),(34,(aq (v3.length:Int))),(35,(aq (v6:Int)))],[.cells (cr v2).cells, .cells iH]⟩) (λv6 h7 f1=>gA [[],[f0 (da h7)],[(4,oL v3 iD)]] (aE (λh8=>az λv10 h9=>gA [[t0 h8],[(7,cK abr h9)],[]] (rk λbE=>gR [[t0 (eD bE)],[]])) λh8=>az λv11 bD=>dN λcl=>gA [[f0 h8],[(4,oE (k:=0) (mP bD))],[(4,⟨_,_, .YN (xs:=dy v3) (lo:=1) (by decide) (by rw[iD];exact(of_decide_eq_true cl)) Mf aj0⟩),(7,oL ((v3.drop 1)) iD)]] (gT yY 62 (v3.drop 1) λcP=>Oz 2 [] [4,6,8,14,62,63,64] 3 (λv12(bB:Int64)(cz:Int64)=>⟨83,[(4,(.ptr 0 0)),(6,(.ptr 1 0)),(8,(aq v4.1)),(14,(.ptr 2 0)),(62,(.d (.sl (dy (v3.drop 1))))),(63,(aq ((v3.drop 1).length:Int))),(64,(aq (v12:Int)))],[.cells (cr v2).cells, .cells iH, .cells [(bz bB),(bz cz)]]⟩) (λv12 bB cz dm f2=>gR [[],[f0 (da dm)],[]]) (λv12 aQ bA bB cz dm f2 gw=>az λbY dd=>gA [[],[t0 (db dm)],[(1,⟨_,_, .el (xs:=dy (v3.drop 1)) (i:=(v12:Int)) (Int.natCast_nonneg _) (mP (cE dm))⟩)],[(13,cK PN dd)],[]] (bZ λeY=>gb gw (bY.1.xN,bY.1.xD) [[f0 eY],[],[(2,oq (cY dm rfl cP))]] dm))))) (λv6 v8 v9 h7 f1 aX=>az λcx fU=>gA [[],[t0 (db h7)],[(1,oE (mP (cE h7)))],[(7,cK tT fU)]] (lU λgY=>gb aX () [[f0 (dK gY)],[(2,oq (cY h7 rfl h6))]] h7))))))
def tW(N:Nat)(v1:bx)(v3:an3 aL)(v4:an3 aJ):an3 (an3 Int)->Int64->Int64->Bool->(an3 (an4×aR))->an5 (ax×Int×(an3 (an4×aR)))
 |[],v11,v12,_,aQ=>
  some ((⟨v11,v12⟩:ax),(0:Int),aQ)
 |bA::bB,v11,v12,aH,aQ=>
  (Ip N v1.bV bA v3).bind λcz=>
  (xO N cz v4 aQ).bind λbY=>
  (zU N v1.bO bY v4 aQ).bind λcx=>
  bif (cx.2.1 !=0)then
   some (cB,cx.2.1,cx.2.2)
  else
   bif aH then
    (λcd fi xe QR=>tW N v1 v3 v4 bB cd fi xe QR) cx.1.gW.xN cx.1.gW.xD false cx.2.2
   else
    Option.bind (Cz N v1.c9 v1.aB ([(⟨v11,v12⟩:ax),cx.1.gW])) λv20=>
    bif (v20.2 !=0)then
     some (cB,v20.2,cx.2.2)
    else
     (λcd fi xe QR=>tW N v1 v3 v4 bB cd fi xe QR) v20.1.xN v20.1.xD aH cx.2.2
def AR(N:Nat)(v1:bx)(v2:an3 Int)(v3:an3 aL)(v4:an3 aJ)(v5:an3 (an4×aR)):an5 (ax×Int×(an3 (an4×aR))):=
 Option.bind (bif (v1.c9==0)then some true else some (v1.c9==5)) λv6=>
 bif v6 then
  (xO N v3 v4 v5).bind λv7=>
  (zU N v1.bO v7 v4 v5).bind λv8=>
  some (v8.1.gW,v8.2.1,v8.2.2)
 else
  (Bv N v2).bind λv9=>
  (D0 N v9).bind λv10=>
  tW N v1 v3 v4 v10 (0:Int64) (0:Int64) true v5
def nU(v4:an3 aJ)(v5:an3 (an4×aR))(v1:bx)(v3:an3 aL)(l:an3 ao):an3 ao:= .cells [(.mp 2)]:: .cells [(.d (.sl (aY v4)))]:: .map (bP bR v5):: .cells [(.fn 68 [(.ptr 0 0),(.ptr 1 0)])]:: .cells (gg v1).cells:: .cells [(.d (.sl (aT v3)))]:: .cells iH:: .cells [(aq (0:Int))]::l
def Cb(v4:an3 aJ)(aQ:an3 (an4×aR))(v1:bx)(v3:an3 aL)(v11:Int64)(v12:Int64)(aH:Bool)(cn:Code)(cp:Code)(v9:(an3 Int))(l:an3 ao):an3 ao:=nU v4 aQ v1 v3 (.cells [(bz v11),(bz v12)]:: .cells [(aK aH)]:: .lp .busy 42 cn cp (dc 83 [(4,(.ptr 3 0)),(5,(.ptr 4 0)),(7,(.ptr 5 0)),(8,(.ptr 6 0)),(9,(.ptr 7 0)),(12,(.ptr 8 0)),(13,(.ptr 9 0)),(41,(.fn 121 [(.bg [[(.sl (bu v9))]] 0 0)]))])::l)
def qJ(v4:an3 aJ)(v8:eV×Int×(an3 (an4×aR)))(v1:bx)(v3:an3 aL)(l:an3 ao):an3 ao:= .cells [(.mp 2)]:: .cells [(.d (.sl (aY v4)))]:: .map (bP bR v8.2.2):: .cells [(.fn 68 [(.ptr 0 0),(.ptr 1 0)])]:: .cells (gg v1).cells:: .cells [(.d (.sl (aT v3)))]:: .cells iH::l
def Ni(v4:an3 aJ)(cx:eV×Int×(an3 (an4×aR)))(v1:bx)(v3:an3 aL)(v11:Int64)(v12:Int64)(aH:Bool)(cn:Code)(cp:Code)(v9:(an3 Int))(bY:(an3 aL))(l:an3 ao):an3 ao:=qJ v4 cx v1 v3 (.cells [(aq (0:Int))]:: .cells [(bz v11),(bz v12)]:: .cells [(aK aH)]:: .lp .busy 42 cn cp (dc 83 [(4,(.ptr 3 0)),(5,(.ptr 4 0)),(7,(.ptr 5 0)),(8,(.ptr 6 0)),(9,(.ptr 7 0)),(12,(.ptr 8 0)),(13,(.ptr 9 0)),(41,(.fn 121 [(.bg [[(.sl (bu v9))]] 0 0)]))]):: .cells [(.fn 68 [(.ptr 0 0),(.ptr 1 0)])]:: .cells [(.d (.sl (aT bY)))]:: .cells [(.fn 65 [(.ptr 11 0),(.ptr 12 0),(.ptr 14 0)]),(.fn 63 [(.ptr 14 0)])]:: .cells [(.ptr 13 0)]:: .cells (dA cx.1).cells::l)
def HH(v4:an3 aJ)(v5:an3 (an4×aR))(v1:bx)(v3:an3 aL)(l:an3 ao):an3 ao:=nU v4 v5 v1 v3 (.cells dn::l)
def JK(v4:an3 aJ)(aQ:an3 (an4×aR))(v1:bx)(v3:an3 aL)(v11:Int64)(v12:Int64)(aH:Bool)(cn:Code)(cp:Code)(v9:(an3 Int))(l:an3 ao):an3 ao:=Cb v4 aQ v1 v3 v11 v12 aH cn cp v9 (.cells dn::l)
def Kh(v4:an3 aJ)(v5:an3 (an4×aR))(v1:bx)(v3:an3 aL)(v7:(an3 aL))(l:an3 ao):an3 ao:=nU v4 v5 v1 v3 (.cells [(.fn 68 [(.ptr 0 0),(.ptr 1 0)])]:: .cells [(.d (.sl (aT v7)))]:: .cells [(.fn 65 [(.ptr 8 0),(.ptr 9 0),(.ptr 11 0)]),(.fn 63 [(.ptr 11 0)])]:: .cells [(.ptr 10 0)]::l)
def Km(v4:an3 aJ)(aQ:an3 (an4×aR))(v1:bx)(v3:an3 aL)(v11:Int64)(v12:Int64)(aH:Bool)(cn:Code)(cp:Code)(v9:(an3 Int))(bY:(an3 aL))(l:an3 ao):an3 ao:=Cb v4 aQ v1 v3 v11 v12 aH cn cp v9 (.cells [(.fn 68 [(.ptr 0 0),(.ptr 1 0)])]:: .cells [(.d (.sl (aT bY)))]:: .cells [(.fn 65 [(.ptr 11 0),(.ptr 12 0),(.ptr 14 0)]),(.fn 63 [(.ptr 14 0)])]:: .cells [(.ptr 13 0)]::l)
def X5(v4:an3 aJ)(cx:eV×Int×(an3 (an4×aR)))(v1:bx)(v3:an3 aL)(v20:ax×Int)(aH:Bool)(cn:Code)(cp:Code)(v9:(an3 Int))(bY:(an3 aL))(l:an3 ao):an3 ao:=qJ v4 cx v1 v3 (.cells [(aq (0:Int))]:: .cells (bp v20.1).cells:: .cells [(aK aH)]:: .lp .busy 42 cn cp (dc 83 [(4,(.ptr 3 0)),(5,(.ptr 4 0)),(7,(.ptr 5 0)),(8,(.ptr 6 0)),(9,(.ptr 7 0)),(12,(.ptr 8 0)),(13,(.ptr 9 0)),(41,(.fn 121 [(.bg [[(.sl (bu v9))]] 0 0)]))]):: .cells [(.fn 68 [(.ptr 0 0),(.ptr 1 0)])]:: .cells [(.d (.sl (aT bY)))]:: .cells [(.fn 65 [(.ptr 11 0),(.ptr 12 0),(.ptr 14 0)]),(.fn 63 [(.ptr 14 0)])]:: .cells [(.ptr 13 0)]:: .cells (dA cx.1).cells::l)
def N5(v4:an3 aJ)(v5:an3 (an4×aR))(v1:bx)(v3:an3 aL)(v7:(an3 aL))(l:an3 ao):an3 ao:=HH v4 v5 v1 v3 (.cells [(.fn 68 [(.ptr 0 0),(.ptr 1 0)])]:: .cells [(.d (.sl (aT v7)))]:: .cells [(.fn 65 [(.ptr 9 0),(.ptr 10 0),(.ptr 12 0)]),(.fn 63 [(.ptr 12 0)])]:: .cells [(.ptr 11 0)]::l)
def Mr(v4:an3 aJ)(aQ:an3 (an4×aR))(v1:bx)(v3:an3 aL)(v11:Int64)(v12:Int64)(aH:Bool)(cn:Code)(cp:Code)(v9:(an3 Int))(bY:(an3 aL))(l:an3 ao):an3 ao:=JK v4 aQ v1 v3 v11 v12 aH cn cp v9 (.cells [(.fn 68 [(.ptr 0 0),(.ptr 1 0)])]:: .cells [(.d (.sl (aT bY)))]:: .cells [(.fn 65 [(.ptr 12 0),(.ptr 13 0),(.ptr 15 0)]),(.fn 63 [(.ptr 15 0)])]:: .cells [(.ptr 14 0)]::l)
def K7(v4:an3 aJ)(v5:an3 (an4×aR))(v1:bx)(v3:an3 aL)(l:an3 ao):an3 ao:=nU v4 v5 v1 v3 (.cells iH:: .cells [(aK true)]::l)
def QH(v4:an3 aJ)(l:an3 ao):an3 ao:= .cells [(.mp 2)]:: .cells [(.d (.sl (aY v4)))]::l
def Xb(v4:an3 aJ)(aQ:an3 (an4×aR))(v1:bx)(v3:an3 aL)(v11:Int64)(v12:Int64)(aH:Bool)(cn:Code)(cp:Code)(v9:(an3 Int))(l:an3 ao):an3 ao:=nU v4 aQ v1 v3 (.cells [(bz v11),(bz v12)]:: .cells [(aK aH)]:: .lp .ready 42 cn cp (dc 83 [(4,(.ptr 3 0)),(5,(.ptr 4 0)),(7,(.ptr 5 0)),(8,(.ptr 6 0)),(9,(.ptr 7 0)),(12,(.ptr 8 0)),(13,(.ptr 9 0)),(41,(.fn 121 [(.bg [[(.sl (bu v9))]] 0 0)]))])::l)
theorem Xy(N:Nat)(v1:bx)(v2:an3 Int)(v3:an3 aL)(v4:an3 aJ)(v5:an3 (an4×aR))(r:ax×Int×(an3 (an4×aR)))(U:AR N v1 v2 v3 v4 v5=some r):KH 74 [(.fn 68 [(.ptr 0 0),(.ptr 1 0)]),(gg v1),(.d (.sl (bu v2))),(.d (.sl (aT v3)))] ([.cells [(.mp 2)], .cells [(.d (.sl (aY v4)))], .map (bP bR v5)]) (.aZ [(bp r.1),(aq r.2.1)]) ([.cells [(.mp 2)], .cells [(.d (.sl (aY v4)))], .map (bP bR r.2.2)]):=by
 rw[AR]at U;refine qG 3 Tryz.func74 rfl (by kernel_rfl) (anm rfl) ?_;refine mG (s':=⟨83,[(0,(.fn 68 [(.ptr 0 0),(.ptr 1 0)])),(1,(gg v1)),(2,(.d (.sl (bu v2)))),(3,(.d (.sl (aT v3))))],(QH v4 [.map (bP bR v5)])⟩) (by kernel_rfl) ?_;refine aA ?_;refine rg [] [(4,(.ptr 3 0)),(5,(.ptr 4 0)),(7,(.ptr 5 0)),(8,(.ptr 6 0)),(9,(.ptr 7 0))] (nU v4 v5 v1 v3 []) (by kernel_rfl) ?_;refine aA ?_;refine aA ?_;obtain⟨v6,h2,U⟩:=ck U;refine yI [(24,(aK v6))] (nU v4 v5 v1 v3 []) ?_ ?_
 ·rcases dU (v1.c9==0)with J|J
  ·replace h2:=(dj J).symm.trans h2;have he:=anx h2;subst he;exact⟨[(12,bT J),(15,bT J),(18,bT J),(22,bT J)],by kernel_rfl⟩
  replace h2:=(dV J).symm.trans h2;have he:=anx h2;subst he;exact⟨[(12,bF J),(15,bF J),(18,bF J),(22,bF J)],by kernel_rfl⟩
 rcases dU v6 with h3|h3
 ·replace U:=(dj h3).symm.trans U;refine eE (t:=v6) (by kernel_rfl) h3 ?_;refine aA ?_;obtain⟨v7,h4,v8,h5,U⟩:=zD U;refine ro 7 bW (.node 0 [] (.node 1 [] (.node 6 [] (.node 2 [(7,oX (aS (aS (dW cU))) (aS (aS (dW (aS (aS (aS (aS cU))))))) [(.fn 68 [(.ptr 0 0),(.ptr 1 0)]),(.d (.sl (aT v3)))] (nU v4 v5 v1 v3 []) [0,1,2] (jy h4))] (.node 3 [] (.node 4 [] (.node 5 [] (.node 7 [] (.node 8 [(25,oR [(aM v1.bO),(.ptr 8 0),(.ptr 9 0),(.ptr 11 0)] (Kh v4 v5 v1 v3 v7 []) [8,9,11,0,1,10,2] (gF N v1.bO v7 v4 v5 v8 h5))] (.node 9 [] (.node 10 [] (.node 11 [] (.node 12 [] (.node 13 [] (.node 14 [] .nil .nil) .nil) .nil) .nil) .nil) .nil) (.node 12 [] (.node 8 [(25,oR [(aM v1.bO),(.ptr 8 0),(.ptr 9 0),(.ptr 11 0)] (Kh v4 v5 v1 v3 v7 [.cells dn]) [8,9,11,0,1,10,2] (gF N v1.bO v7 v4 v5 v8 h5))] (.node 9 [] (.node 10 [] (.node 11 [] (.node 13 [] (.node 14 [] .nil .nil) .nil) .nil) .nil) .nil) .nil) .nil)) .nil) .nil) .nil) .nil) (.node 7 [] (.node 2 [(7,oX (aS (aS (dW cU))) (aS (aS (dW (aS (aS (aS (aS cU))))))) [(.fn 68 [(.ptr 0 0),(.ptr 1 0)]),(.d (.sl (aT v3)))] (nU v4 v5 v1 v3 []) [0,1,2] (jy h4))] (.node 3 [] (.node 4 [] (.node 5 [] (.node 8 [(25,oR [(aM v1.bO),(.ptr 8 0),(.ptr 9 0),(.ptr 11 0)] (Kh v4 v5 v1 v3 v7 []) [8,9,11,0,1,10,2] (gF N v1.bO v7 v4 v5 v8 h5))] (.node 9 [] (.node 10 [] (.node 11 [] (.node 12 [] (.node 13 [] (.node 14 [] .nil .nil) .nil) .nil) .nil) .nil) .nil) (.node 12 [] (.node 8 [(25,oR [(aM v1.bO),(.ptr 8 0),(.ptr 9 0),(.ptr 11 0)] (Kh v4 v5 v1 v3 v7 [.cells dn]) [8,9,11,0,1,10,2] (gF N v1.bO v7 v4 v5 v8 h5))] (.node 9 [] (.node 10 [] (.node 11 [] (.node 13 [] (.node 14 [] .nil .nil) .nil) .nil) .nil) .nil) .nil) .nil)) .nil) .nil) .nil) (.node 12 [] (.node 2 [(7,oX (aS (aS (dW cU))) (aS (aS (dW (aS (aS (aS (aS cU))))))) [(.fn 68 [(.ptr 0 0),(.ptr 1 0)]),(.d (.sl (aT v3)))] (HH v4 v5 v1 v3 []) [0,1,2] (jy h4))] (.node 3 [] (.node 4 [] (.node 5 [] (.node 8 [(25,oR [(aM v1.bO),(.ptr 9 0),(.ptr 10 0),(.ptr 12 0)] (N5 v4 v5 v1 v3 v7 []) [9,10,12,0,1,11,2] (gF N v1.bO v7 v4 v5 v8 h5))] (.node 9 [] (.node 10 [] (.node 11 [] (.node 13 [] (.node 14 [] .nil .nil) .nil) .nil) .nil) .nil) .nil) .nil) .nil) .nil) .nil) .nil)) (.node 12 [] (.node 2 [(7,oX (aS (aS (dW cU))) (aS (aS (dW (aS (aS (aS (aS cU))))))) [(.fn 68 [(.ptr 0 0),(.ptr 1 0)]),(.d (.sl (aT v3)))] (HH v4 v5 v1 v3 []) [0,1,2] (jy h4))] (.node 3 [] (.node 4 [] (.node 5 [] (.node 7 [] (.node 8 [(25,oR [(aM v1.bO),(.ptr 9 0),(.ptr 10 0),(.ptr 12 0)] (N5 v4 v5 v1 v3 v7 []) [9,10,12,0,1,11,2] (gF N v1.bO v7 v4 v5 v8 h5))] (.node 9 [] (.node 10 [] (.node 11 [] (.node 13 [] (.node 14 [] .nil .nil) .nil) .nil) .nil) .nil) .nil) .nil) .nil) .nil) .nil) (.node 7 [] (.node 2 [(7,oX (aS (aS (dW cU))) (aS (aS (dW (aS (aS (aS (aS cU))))))) [(.fn 68 [(.ptr 0 0),(.ptr 1 0)]),(.d (.sl (aT v3)))] (HH v4 v5 v1 v3 []) [0,1,2] (jy h4))] (.node 3 [] (.node 4 [] (.node 5 [] (.node 8 [(25,oR [(aM v1.bO),(.ptr 9 0),(.ptr 10 0),(.ptr 12 0)] (N5 v4 v5 v1 v3 v7 []) [9,10,12,0,1,11,2] (gF N v1.bO v7 v4 v5 v8 h5))] (.node 9 [] (.node 10 [] (.node 11 [] (.node 13 [] (.node 14 [] .nil .nil) .nil) .nil) .nil) .nil) .nil) .nil) .nil) .nil) .nil) .nil)) .nil))) .nil) .nil) .nil) [(10,(.ptr 12 0)),(11,(aq v8.2.1))] (qJ v4 v8 v1 v3 [.cells [(aq (0:Int))], .cells [(.fn 68 [(.ptr 0 0),(.ptr 1 0)])], .cells [(.d (.sl (aT v7)))], .cells [(.fn 65 [(.ptr 8 0),(.ptr 9 0),(.ptr 11 0)]),(.fn 63 [(.ptr 11 0)])], .cells [(.ptr 10 0)], .cells (dA v8.1).cells]) (by kernel_rfl) ?_
  refine aA ?_;refine rg [] [] (QH v4 [.map (bP bR v8.2.2), .cells [(.fn 68 [(.ptr 0 0),(.ptr 1 0)])], .cells (gg v1).cells, .cells [(.d (.sl (aT v3)))], .cells (bp v8.1.gW).cells, .cells [(aq v8.2.1)], .cells [(.fn 68 [(.ptr 0 0),(.ptr 1 0)])], .cells [(.d (.sl (aT v7)))], .cells [(.fn 65 [(.ptr 8 0),(.ptr 9 0),(.ptr 11 0)]),(.fn 63 [(.ptr 11 0)])], .cells [(.ptr 10 0)], .cells (dA v8.1).cells]) (by kernel_rfl) ?_;refine cQ (cZ ?_);have hr:=anx U;subst hr;exact jl (by kernel_rfl)
 replace U:=(dV h3).symm.trans U;refine ee (t:=v6) (by kernel_rfl) h3 ?_;refine dt ?_;refine bC ?_;refine aA ?_;refine rg [] [(12,(.ptr 8 0))] (nU v4 v5 v1 v3 [.cells iH]) (by kernel_rfl) ?_;refine aA ?_;refine rg [] [(13,(.ptr 9 0))] (K7 v4 v5 v1 v3 []) (by kernel_rfl) ?_;refine aA ?_;refine aA ?_;obtain⟨v9,h6,U⟩:=ck U;refine rg [(4,oQ [(.d (.sl (bu v2)))] (K7 v4 v5 v1 v3 []) [] (WD h6))] [(41,(.fn 121 [(.bg [[(.sl (bu v9))]] 0 0)]))] (K7 v4 v5 v1 v3 []) (by kernel_rfl) ?_;refine fV ?_;obtain⟨v10,h7,U⟩:=ck U;refine gq [4,5,7,8,9,12,13,41] 10 (anm rfl) (s':=⟨83,[(4,(.ptr 3 0)),(5,(.ptr 4 0)),(7,(.ptr 5 0)),(8,(.ptr 6 0)),(9,(.ptr 7 0)),(12,(.ptr 8 0)),(13,(.ptr 9 0)),(41,(.fn 121 [(.bg [[(.sl (bu v9))]] 0 0)]))],(K7 v4 v5 v1 v3 [])⟩) (by kernel_rfl) ?_;refine xc (m:=10) (enc:=o6) (xs:=v10) (by kernel_rfl) (XH h7) (λ((v11,v12,aH,aQ):Int64×Int64×Bool×(an3 (an4×aR)))=>(nU v4 aQ v1 v3 [.cells [(bz v11),(bz v12)], .cells [(aK aH)]])) (λ((v11,v12,aH,aQ):Int64×Int64×Bool×(an3 (an4×aR))) l=>tW N v1 v3 v4 l v11 v12 aH aQ=some r) ((0:Int64),(0:Int64),true,v5) (by kernel_rfl) U (by rintro⟨v11,v12,aH,aQ⟩;rfl) (by rintro⟨v11,v12,aH,aQ⟩;kernel_rfl) (by kernel_rfl) rfl ?_ ?_
 ·rintro⟨v11,v12,aH,aQ⟩ bA bB U h8 cn cp
  try dsimp only at U
  rw[tW]at U;refine gq [4,5,7,8,9,12,13,42] 11 (anp _) (s':=⟨83,[(4,(.ptr 3 0)),(5,(.ptr 4 0)),(7,(.ptr 5 0)),(8,(.ptr 6 0)),(9,(.ptr 7 0)),(12,(.ptr 8 0)),(13,(.ptr 9 0)),(42,(.d (.sl (bu bA))))],(Xb v4 aQ v1 v3 v11 v12 aH cn cp v9 [])⟩) (by kernel_rfl) ?_;refine re [] [(14,(.d (.sl (bu bA))))] (Xb v4 aQ v1 v3 v11 v12 aH cn cp v9 []) (by kernel_rfl) ?_;refine bC ?_;refine⟨(nU v4 aQ v1 v3 [.cells [(bz v11),(bz v12)], .cells [(aK aH)]]),[],rfl,(by kernel_rfl),?_⟩;refine gq [4,5,7,8,9,12,13,14] 11 (anm rfl) (s':=⟨83,[(4,(.ptr 3 0)),(5,(.ptr 4 0)),(7,(.ptr 5 0)),(8,(.ptr 6 0)),(9,(.ptr 7 0)),(12,(.ptr 8 0)),(13,(.ptr 9 0)),(14,(.d (.sl (bu bA))))],(Cb v4 aQ v1 v3 v11 v12 aH cn cp v9 [])⟩) (by kernel_rfl) ?_;refine fV ?_;refine aA ?_;obtain⟨cz,h9,bY,bE,U⟩:=zD U;obtain⟨cx,bD,U⟩:=ck U;refine ro 7 bW (.node 0 [] (.node 1 [] (.node 2 [] (.node 3 [] (.node 4 [] (.node 5 [(16,cK ZH h9)] (.node 10 [] (.node 6 [(19,oX (aS (aS (dW cU))) (aS (aS (dW (aS (aS (aS (aS cU))))))) [(.fn 68 [(.ptr 0 0),(.ptr 1 0)]),(.d (.sl (aT cz)))] (Cb v4 aQ v1 v3 v11 v12 aH cn cp v9 []) [0,1,2] (jy bE))] (.node 7 [] (.node 8 [] (.node 9 [] (.node 11 [] (.node 12 [(37,oR [(aM v1.bO),(.ptr 11 0),(.ptr 12 0),(.ptr 14 0)] (Km v4 aQ v1 v3 v11 v12 aH cn cp v9 bY []) [11,12,14,0,1,13,2] (gF N v1.bO bY v4 aQ cx bD))] (.node 13 [] (.node 14 [] (.node 15 [] (.node 16 [] (.node 17 [] (.node 18 [] .nil .nil) .nil) .nil) .nil) .nil) .nil) (.node 16 [] (.node 12 [(37,oR [(aM v1.bO),(.ptr 11 0),(.ptr 12 0),(.ptr 14 0)] (Km v4 aQ v1 v3 v11 v12 aH cn cp v9 bY [.cells dn]) [11,12,14,0,1,13,2] (gF N v1.bO bY v4 aQ cx bD))] (.node 13 [] (.node 14 [] (.node 15 [] (.node 17 [] (.node 18 [] .nil .nil) .nil) .nil) .nil) .nil) .nil) .nil)) .nil) .nil) .nil) .nil) (.node 11 [] (.node 6 [(19,oX (aS (aS (dW cU))) (aS (aS (dW (aS (aS (aS (aS cU))))))) [(.fn 68 [(.ptr 0 0),(.ptr 1 0)]),(.d (.sl (aT cz)))] (Cb v4 aQ v1 v3 v11 v12 aH cn cp v9 []) [0,1,2] (jy bE))] (.node 7 [] (.node 8 [] (.node 9 [] (.node 12 [(37,oR [(aM v1.bO),(.ptr 11 0),(.ptr 12 0),(.ptr 14 0)] (Km v4 aQ v1 v3 v11 v12 aH cn cp v9 bY []) [11,12,14,0,1,13,2] (gF N v1.bO bY v4 aQ cx bD))] (.node 13 [] (.node 14 [] (.node 15 [] (.node 16 [] (.node 17 [] (.node 18 [] .nil .nil) .nil) .nil) .nil) .nil) .nil) (.node 16 [] (.node 12 [(37,oR [(aM v1.bO),(.ptr 11 0),(.ptr 12 0),(.ptr 14 0)] (Km v4 aQ v1 v3 v11 v12 aH cn cp v9 bY [.cells dn]) [11,12,14,0,1,13,2] (gF N v1.bO bY v4 aQ cx bD))] (.node 13 [] (.node 14 [] (.node 15 [] (.node 17 [] (.node 18 [] .nil .nil) .nil) .nil) .nil) .nil) .nil) .nil)) .nil) .nil) .nil) (.node 16 [] (.node 6 [(19,oX (aS (aS (dW cU))) (aS (aS (dW (aS (aS (aS (aS cU))))))) [(.fn 68 [(.ptr 0 0),(.ptr 1 0)]),(.d (.sl (aT cz)))] (JK v4 aQ v1 v3 v11 v12 aH cn cp v9 []) [0,1,2] (jy bE))] (.node 7 [] (.node 8 [] (.node 9 [] (.node 12 [(37,oR [(aM v1.bO),(.ptr 12 0),(.ptr 13 0),(.ptr 15 0)] (Mr v4 aQ v1 v3 v11 v12 aH cn cp v9 bY []) [12,13,15,0,1,14,2] (gF N v1.bO bY v4 aQ cx bD))] (.node 13 [] (.node 14 [] (.node 15 [] (.node 17 [] (.node 18 [] .nil .nil) .nil) .nil) .nil) .nil) .nil) .nil) .nil) .nil) .nil) .nil)) (.node 16 [] (.node 6 [(19,oX (aS (aS (dW cU))) (aS (aS (dW (aS (aS (aS (aS cU))))))) [(.fn 68 [(.ptr 0 0),(.ptr 1 0)]),(.d (.sl (aT cz)))] (JK v4 aQ v1 v3 v11 v12 aH cn cp v9 []) [0,1,2] (jy bE))] (.node 7 [] (.node 8 [] (.node 9 [] (.node 11 [] (.node 12 [(37,oR [(aM v1.bO),(.ptr 12 0),(.ptr 13 0),(.ptr 15 0)] (Mr v4 aQ v1 v3 v11 v12 aH cn cp v9 bY []) [12,13,15,0,1,14,2] (gF N v1.bO bY v4 aQ cx bD))] (.node 13 [] (.node 14 [] (.node 15 [] (.node 17 [] (.node 18 [] .nil .nil) .nil) .nil) .nil) .nil) .nil) .nil) .nil) .nil) .nil) (.node 11 [] (.node 6 [(19,oX (aS (aS (dW cU))) (aS (aS (dW (aS (aS (aS (aS cU))))))) [(.fn 68 [(.ptr 0 0),(.ptr 1 0)]),(.d (.sl (aT cz)))] (JK v4 aQ v1 v3 v11 v12 aH cn cp v9 []) [0,1,2] (jy bE))] (.node 7 [] (.node 8 [] (.node 9 [] (.node 12 [(37,oR [(aM v1.bO),(.ptr 12 0),(.ptr 13 0),(.ptr 15 0)] (Mr v4 aQ v1 v3 v11 v12 aH cn cp v9 bY []) [12,13,15,0,1,14,2] (gF N v1.bO bY v4 aQ cx bD))] (.node 13 [] (.node 14 [] (.node 15 [] (.node 17 [] (.node 18 [] .nil .nil) .nil) .nil) .nil) .nil) .nil) .nil) .nil) .nil) .nil) .nil)) .nil))) .nil) .nil) .nil) .nil) .nil) .nil) .nil) [(15,(.ptr 15 0)),(16,(aq cx.2.1))] (Ni v4 cx v1 v3 v11 v12 aH cn cp v9 bY []) (by kernel_rfl) ?_
  refine aA ?_;refine aA ?_;refine rg [] [(60,(aK (cx.2.1 !=0)))] (Ni v4 cx v1 v3 v11 v12 aH cn cp v9 bY []) (by kernel_rfl) ?_;rcases dU (cx.2.1 !=0)with cl|cl
  ·replace U:=(dj cl).symm.trans U;refine eE (t:=(cx.2.1 !=0)) (by kernel_rfl) cl ?_;refine aA ?_;refine rg [] [] (qJ v4 cx v1 v3 [.cells [(aq cx.2.1)], .cells [(bz v11),(bz v12)], .cells [(aK aH)], .lp .busy 42 cn cp (dc 83 [(4,(.ptr 3 0)),(5,(.ptr 4 0)),(7,(.ptr 5 0)),(8,(.ptr 6 0)),(9,(.ptr 7 0)),(12,(.ptr 8 0)),(13,(.ptr 9 0)),(41,(.fn 121 [(.bg [[(.sl (bu v9))]] 0 0)]))]), .cells [(.fn 68 [(.ptr 0 0),(.ptr 1 0)])], .cells [(.d (.sl (aT bY)))], .cells [(.fn 65 [(.ptr 11 0),(.ptr 12 0),(.ptr 14 0)]),(.fn 63 [(.ptr 14 0)])], .cells [(.ptr 13 0)], .cells (dA cx.1).cells]) (by kernel_rfl) ?_;refine cQ (cZ (fe ?_));refine DK (qJ v4 cx v1 v3 [.cells [(aq cx.2.1)], .cells [(bz v11),(bz v12)], .cells [(aK aH)]]) rfl (by kernel_rfl) (by kernel_rfl) ?_;refine(fe (cZ ?_));have hr:=anx U;subst hr;exact jl (by kernel_rfl)
  replace U:=(dV cl).symm.trans U;refine ee (t:=(cx.2.1 !=0)) (by kernel_rfl) cl ?_;refine dt ?_;refine bC ?_;refine aA ?_;refine aA ?_;refine rg [] [(63,(aK aH))] (Ni v4 cx v1 v3 v11 v12 aH cn cp v9 bY []) (by kernel_rfl) ?_;rcases dU aH with cX|cX
  ·replace U:=(dj cX).symm.trans U;refine eE (t:=aH) (by kernel_rfl) cX ?_;refine aA ?_;refine rg [] [] (qJ v4 cx v1 v3 [.cells [(aq (0:Int))], .cells (bp cx.1.gW).cells, .cells [(aK false)], .lp .busy 42 cn cp (dc 83 [(4,(.ptr 3 0)),(5,(.ptr 4 0)),(7,(.ptr 5 0)),(8,(.ptr 6 0)),(9,(.ptr 7 0)),(12,(.ptr 8 0)),(13,(.ptr 9 0)),(41,(.fn 121 [(.bg [[(.sl (bu v9))]] 0 0)]))]), .cells [(.fn 68 [(.ptr 0 0),(.ptr 1 0)])], .cells [(.d (.sl (aT bY)))], .cells [(.fn 65 [(.ptr 11 0),(.ptr 12 0),(.ptr 14 0)]),(.fn 63 [(.ptr 14 0)])], .cells [(.ptr 13 0)], .cells (dA cx.1).cells]) (by kernel_rfl) ?_;refine nT (kZ (qm rfl ?_));refine ye (qJ v4 cx v1 v3 [.cells [(aq (0:Int))], .cells (bp cx.1.gW).cells, .cells [(aK false)]]) rfl (by kernel_rfl) (by kernel_rfl) ?_;exact⟨(cx.1.gW.xN,cx.1.gW.xD,false,cx.2.2),(by kernel_rfl),U⟩
  replace U:=(dV cX).symm.trans U;refine ee (t:=aH) (by kernel_rfl) cX ?_;refine dt ?_;refine bC ?_;refine aA ?_;obtain⟨v20,cP,U⟩:=ck U;refine rg [(25,cK Sa cP)] [(16,(aq v20.2))] (X5 v4 cx v1 v3 v20 aH cn cp v9 bY []) (by kernel_rfl) ?_;refine aA ?_;refine rg [] [(79,(aK (v20.2 !=0)))] (X5 v4 cx v1 v3 v20 aH cn cp v9 bY []) (by kernel_rfl) ?_;rcases dU (v20.2 !=0)with dm|dm
  ·replace U:=(dj dm).symm.trans U;refine eE (t:=(v20.2 !=0)) (by kernel_rfl) dm ?_;refine aA ?_;refine rg [] [] (qJ v4 cx v1 v3 [.cells [(aq v20.2)], .cells (bp v20.1).cells, .cells [(aK aH)], .lp .busy 42 cn cp (dc 83 [(4,(.ptr 3 0)),(5,(.ptr 4 0)),(7,(.ptr 5 0)),(8,(.ptr 6 0)),(9,(.ptr 7 0)),(12,(.ptr 8 0)),(13,(.ptr 9 0)),(41,(.fn 121 [(.bg [[(.sl (bu v9))]] 0 0)]))]), .cells [(.fn 68 [(.ptr 0 0),(.ptr 1 0)])], .cells [(.d (.sl (aT bY)))], .cells [(.fn 65 [(.ptr 11 0),(.ptr 12 0),(.ptr 14 0)]),(.fn 63 [(.ptr 14 0)])], .cells [(.ptr 13 0)], .cells (dA cx.1).cells]) (by kernel_rfl) ?_;refine cQ (fe ?_);refine DK (qJ v4 cx v1 v3 [.cells [(aq v20.2)], .cells (bp v20.1).cells, .cells [(aK aH)]]) rfl (by kernel_rfl) (by kernel_rfl) ?_;refine(fe (cZ ?_));have hr:=anx U;subst hr;exact jl (by kernel_rfl)
  replace U:=(dV dm).symm.trans U;refine ee (t:=(v20.2 !=0)) (by kernel_rfl) dm ?_;refine dt ?_;refine iM ?_;refine ye (qJ v4 cx v1 v3 [.cells [(aq (0:Int))], .cells (bp v20.1).cells, .cells [(aK aH)]]) rfl (by kernel_rfl) (by kernel_rfl) ?_;exact⟨(v20.1.xN,v20.1.xD,aH,cx.2.2),(by kernel_rfl),U⟩
 rintro⟨v11,v12,aH,aQ⟩ U
 try dsimp only at U
 rw[tW]at U;refine iM ?_;refine bC ?_;refine aA ?_;refine rg [] [] (QH v4 [.map (bP bR aQ), .cells [(.fn 68 [(.ptr 0 0),(.ptr 1 0)])], .cells (gg v1).cells, .cells [(.d (.sl (aT v3)))], .cells [(bz v11),(bz v12)], .cells [(aq (0:Int))], .cells [(bz v11),(bz v12)], .cells [(aK aH)], .gone]) (by kernel_rfl) ?_;refine cQ ?_;have hr:=anx U;subst hr;exact jl (by kernel_rfl)
def jb:bj:=⟨(0:Int64),[]⟩
def ue(N:Nat)(bB:an3 ax)(kO:(an3 ax)->(an3 (an4×aR))->an5 (aR×Int))(v21:ax×Int×(an3 (an4×aR)))(v24:Int)(gN:Int64)(fO:Int64):an5 (aR×Int):=
 bif (v24 !=0)then
  some (mE,v24)
 else
  bif (Nat.ble ((bB.length+1)*16) 140737488355328)then
  kO (bB++[(⟨gN,fO⟩:ax)]) v21.2.2
  else none
def sL(N:Nat)(v6:bx)(v7:(an3 Int)×aF×Int)(v2:an3 aL)(v9:(an3 Int)×Int)(aH:(an3 aJ)×(an3 (an4×aR))):an3 (an3 Int)->(an3 ax)->(an3 (an4×aR))->an5 (aR×Int)
 |[],bB,_=>
  some ((⟨v6.aB,v7.1,bB⟩:aR),(0:Int))
 |bY::cx,bB,cz=>
  (Ip N v6.aU bY v2).bind λv20=>
  (AR N v6 v9.1 v20 aH.1 cz).bind λv21=>
  Option.bind (bif (v21.2.1==0)then(bif (v6.c9==5)then bif (decide ((0:Int)<=(aP ((bY.length:Int)-(1:Int)))))then
  Option.bind (bY[((aP ((bY.length:Int)-(1:Int)))).toNat]?) λgJ=>
  some (decide (gJ>0))
  else none else some false)else some false) λe7=>
  bif e7 then
   bif (decide ((0:Int)<=(aP ((bB.length:Int)-(1:Int)))))then
   Option.bind (bB[((aP ((bB.length:Int)-(1:Int)))).toNat]?) λkH=>
   Option.bind (Cz N (1:Int) v6.aB ([kH,v21.1])) λv28=>
   ue N bB (λcd fi=>sL N v6 v7 v2 v9 aH cx cd fi) v21 v28.2 v28.1.xN v28.1.xD
   else none
  else
   ue N bB (λcd fi=>sL N v6 v7 v2 v9 aH cx cd fi) v21 v21.2.1 v21.1.xN v21.1.xD
def A2(N:Nat)(v1:aV)(v2:an3 aL)(v3:an3 aJ)(v4:Int):an5 (aR×Int):=
 Option.bind (bif (decide (v4<0))then some true else some (decide (v4>=(v1.aN.length:Int)))) λv5=>
 bif v5 then
  some (mE,(9:Int))
 else
  bif (decide ((0:Int)<=v4))then
  Option.bind (v1.aN[(v4).toNat]?) λv6=>
  (yS N v1 v2 v6.au).bind λv7=>
  bif (v7.2.2 !=0)then
   some (mE,v7.2.2)
  else
   (OE N v6.bV).bind λv8=>
   (Cd N v8 v2).bind λv9=>
   bif (v9.2 !=0)then
    some (mE,v9.2)
   else
    (MJ N v7.1).bind λv10=>
    bif (Nat.ble ((v10.length+v9.1.length)*8) 140737488355328)then
    Option.bind (BU N (v10.length+v9.1.length) (65536:Int) (v10++v9.1)) λv11=>
    bif (decide (v11>65536))then
     some (mE,(2:Int))
    else
     (GR N v1 v2 v3 v6.bO).bind λv12=>
     bif (v12 !=0)then
      some (mE,v12)
     else
      (DG N v3).bind λaH=>
      (Bv N v7.1).bind λaQ=>
      (D0 N aQ).bind λbA=>
      sL N v6 v7 v2 v9 aH bA [] aH.2
    else none
  else none
def tJ(v1:aV)(v2:an3 aL)(l:an3 ao):an3 ao:= .cells (fg v1).cells:: .cells [(.d (.sl (aT v2)))]:: .cells Wo::l
def HN(v1:aV)(v2:an3 aL)(v6:bx)(v7:(an3 Int)×aF×Int)(v9:(an3 Int)×Int)(aH:(an3 aJ)×(an3 (an4×aR)))(l:an3 ao):an3 ao:= .cells (fg v1).cells:: .cells [(.d (.sl (aT v2)))]:: .cells [(aq (0:Int)),(aq (0:Int)),(aq (0:Int)),(aq (0:Int)),(aq (0:Int)),(.d (.sl (bu []))),(.d (.sl (dy [])))]:: .cells [(aq (0:Int))]:: .cells (gg v6).cells:: .cells (cr v7.2.1).cells:: .cells [(.d (.sl (bu v9.1)))]:: .gone:: .cells [(.d (.sl (aY aH.1)))]::l
def ER(v1:aV)(v2:an3 aL)(v6:bx)(v7:(an3 Int)×aF×Int)(v9:(an3 Int)×Int)(aH:(an3 aJ)×(an3 (an4×aR)))(v21:ax×Int×(an3 (an4×aR)))(bB:an3 ax)(cn:Code)(cp:Code)(aQ:(an3 Int))(l:an3 ao):an3 ao:=HN v1 v2 v6 v7 v9 aH (.map (bP bR v21.2.2):: .cells [(.mp 9)]:: .cells [(.fn 68 [(.ptr 10 0),(.ptr 8 0)])]:: .cells [(aq v6.aB.bk),(aq v6.aB.bX),(aq v6.aB.bS),(aq v6.aB.ct),(aq v6.aB.cu),(.d (.sl (bu v7.1))),(.own 13 (dy bB))]:: .front 58 2 bB.length:: .lp .busy 86 cn cp (dc 142 [(5,(.ptr 1 0)),(8,(.ptr 2 0)),(9,(.ptr 3 0)),(10,(.ptr 4 0)),(14,(.ptr 6 0)),(16,(.ptr 11 0)),(17,(.ptr 12 0)),(85,(.fn 121 [(.bg [[(.sl (bu aQ))]] 0 0)]))])::l)
def uE(v1:aV)(v2:an3 aL)(v6:bx)(v7:(an3 Int)×aF×Int)(v9:(an3 Int)×Int)(l:an3 ao):an3 ao:=tJ v1 v2 (.cells [(aq (0:Int))]:: .cells (gg v6).cells:: .cells (cr v7.2.1).cells:: .cells [(.d (.sl (bu v9.1)))]::l)
def CU(v1:aV)(v2:an3 aL)(v6:bx)(v7:(an3 Int)×aF×Int)(v9:(an3 Int)×Int)(aH:(an3 aJ)×(an3 (an4×aR)))(cz:an3 (an4×aR))(bB:an3 ax)(l:an3 ao):an3 ao:=HN v1 v2 v6 v7 v9 aH (.map (bP bR cz):: .cells [(.mp 9)]:: .cells [(.fn 68 [(.ptr 10 0),(.ptr 8 0)])]:: .cells [(aq v6.aB.bk),(aq v6.aB.bX),(aq v6.aB.bS),(aq v6.aB.ct),(aq v6.aB.cu),(.d (.sl (bu v7.1))),(.own 13 (dy bB))]:: .front 58 2 bB.length::l)
def MN(v1:aV)(v2:an3 aL)(v6:bx)(v7:(an3 Int)×aF×Int)(v9:(an3 Int)×Int)(v10:an3 Int)(aH:(an3 aJ)×(an3 (an4×aR)))(l:an3 ao):an3 ao:=uE v1 v2 v6 v7 v9 (.vec 3 1 (bU ((v10++v9.1).map eu)):: .cells [(.d (.sl (aY aH.1)))]:: .map (bP bR aH.2):: .cells [(.mp 9)]:: .cells [(.fn 68 [(.ptr 10 0),(.ptr 8 0)])]:: .cells [(aq v6.aB.bk),(aq v6.aB.bX),(aq v6.aB.bS),(aq v6.aB.ct),(aq v6.aB.cu),(.d (.sl (bu v7.1))),(.d (.v (.slice none 0 0)))]::l)
def OJ(v1:aV)(v2:an3 aL)(v6:bx)(v7:(an3 Int)×aF×Int)(v9:(an3 Int)×Int)(aH:(an3 aJ)×(an3 (an4×aR)))(cz:an3 (an4×aR))(bB:an3 ax)(cn:Code)(cp:Code)(aQ:(an3 Int))(l:an3 ao):an3 ao:=CU v1 v2 v6 v7 v9 aH cz bB (.lp .busy 86 cn cp (dc 142 [(5,(.ptr 1 0)),(8,(.ptr 2 0)),(9,(.ptr 3 0)),(10,(.ptr 4 0)),(14,(.ptr 6 0)),(16,(.ptr 11 0)),(17,(.ptr 12 0)),(85,(.fn 121 [(.bg [[(.sl (bu aQ))]] 0 0)]))])::l)
def xz(v1:aV)(v2:an3 aL)(v6:bx)(v7:(an3 Int)×aF×Int)(v9:(an3 Int)×Int)(v10:an3 Int)(l:an3 ao):an3 ao:=uE v1 v2 v6 v7 v9 (.vec 3 1 (bU ((v10++v9.1).map eu))::l)
def De(v1:aV)(v2:an3 aL)(l:an3 ao):an3 ao:=tJ v1 v2 (.cells [(aq (0:Int))]::l)
def YB(v1:aV)(v2:an3 aL)(v6:bx)(v7:(an3 Int)×aF×Int)(v9:(an3 Int)×Int)(aH:(an3 aJ)×(an3 (an4×aR)))(v21:ax×Int×(an3 (an4×aR)))(bB:an3 ax)(gN:Int64)(fO:Int64)(l:an3 ao):an3 ao:=HN v1 v2 v6 v7 v9 aH (.map (bP bR v21.2.2):: .cells [(.mp 9)]:: .cells [(.fn 68 [(.ptr 10 0),(.ptr 8 0)])]:: .cells [(aq v6.aB.bk),(aq v6.aB.bX),(aq v6.aB.bS),(aq v6.aB.ct),(aq v6.aB.cu),(.d (.sl (bu v7.1))),(.own 13 (dy (bB++[(⟨gN,fO⟩:ax)])))]:: .front 58 2 (bB++[(⟨gN,fO⟩:ax)]).length::l)
theorem ain{N v1 v2 v3 v4 r}(U:A2 N v1 v2 v3 v4=some r):KF 44 [(fg v1),(.d (.sl (aT v2))),(.d (.sl (aY v3))),(aq v4)] (.aZ [(jF r.1),(aq r.2)]):=by
 rw[A2]at U;refine qj Tryz.func44 rfl (by kernel_rfl) ?_;refine gq [0,1,2,3] 0 (anp _) (s':=⟨142,[(0,(fg v1)),(1,(.d (.sl (aT v2)))),(2,(.d (.sl (aY v3)))),(3,(aq v4))],[]⟩) (by kernel_rfl) ?_;refine aA ?_;refine rg [] [(4,(.ptr 0 0)),(5,(.ptr 1 0)),(8,(.ptr 2 0)),(9,(.ptr 3 0))] (De v1 v2 []) (by kernel_rfl) ?_;refine aA ?_;refine aA ?_;obtain⟨v5,h2,U⟩:=ck U;refine yI [(29,(aK v5))] (De v1 v2 []) ?_ ?_
 ·rcases dU (decide (v4<0))with J|J
  ·replace h2:=(dj J).symm.trans h2;have he:=anx h2;subst he;exact⟨[(9,bT J),(12,bT J),(15,bT J),(18,bT J),(21,bT J),(25,bT J)],by kernel_rfl⟩
  replace h2:=(dV J).symm.trans h2;have he:=anx h2;subst he;exact⟨[(9,bF J),(12,bF J),(15,bF J),(18,bF J),(19,oL v1.aN xq),(21,bF J),(25,bF J)],by kernel_rfl⟩
 rcases dU v5 with h3|h3
 ·replace U:=(dj h3).symm.trans U;refine eE (t:=v5) (by kernel_rfl) h3 ?_;refine aA ?_;refine rg [] [] (tJ v1 v2 [.cells [(aq (9:Int))]]) (by kernel_rfl) ?_;refine cQ (cZ ?_);have hr:=anx U;subst hr;exact gk (by kernel_rfl)
 replace U:=(dV h3).symm.trans U;refine ee (t:=v5) (by kernel_rfl) h3 ?_;refine dt ?_;refine bC ?_;refine aA ?_;have h5:=nc U;replace U:=(dj h5).symm.trans U;obtain⟨v6,h4,U⟩:=ck U;refine rg [(10,⟨_,_, .el (xs:=jc v1.aN) (i:=v4) (of_decide_eq_true h5) (Bf h4)⟩)] [(10,(.ptr 4 0))] (De v1 v2 [.cells (gg v6).cells]) (by kernel_rfl) ?_;refine aA ?_;obtain⟨v7,h6,U⟩:=ck U;refine rg [(13,cK Ru h6)] [(11,(.d (.sl (bu v7.1)))),(13,(aq v7.2.2))] (De v1 v2 [.cells (gg v6).cells, .cells (cr v7.2.1).cells]) (by kernel_rfl) ?_;refine aA ?_;refine aA ?_;refine rg [] [(46,(aK (v7.2.2 !=0)))] (De v1 v2 [.cells (gg v6).cells, .cells (cr v7.2.1).cells]) (by kernel_rfl) ?_;rcases dU (v7.2.2 !=0)with h7|h7
 ·replace U:=(dj h7).symm.trans U;refine eE (t:=(v7.2.2 !=0)) (by kernel_rfl) h7 ?_;refine aA ?_;refine rg [] [] (tJ v1 v2 [.cells [(aq v7.2.2)], .cells (gg v6).cells, .cells (cr v7.2.1).cells]) (by kernel_rfl) ?_;refine cQ (cZ ?_);have hr:=anx U;subst hr;exact gk (by kernel_rfl)
 replace U:=(dV h7).symm.trans U;refine ee (t:=(v7.2.2 !=0)) (by kernel_rfl) h7 ?_;refine dt ?_;refine bC ?_;refine aA ?_;obtain⟨v8,h8,v9,h9,U⟩:=zD U;refine rd bW (by kernel_rfl) [(7,cK amO h8),(13,cK U9 h9)] [(14,(.ptr 6 0)),(13,(aq v9.2))] (uE v1 v2 v6 v7 v9 []) (by kernel_rfl) ?_;refine aA ?_;refine aA ?_;refine rg [] [(58,(aK (v9.2 !=0)))] (uE v1 v2 v6 v7 v9 []) (by kernel_rfl) ?_;rcases dU (v9.2 !=0)with bE|bE
 ·replace U:=(dj bE).symm.trans U;refine eE (t:=(v9.2 !=0)) (by kernel_rfl) bE ?_;refine aA ?_;refine rg [] [] (tJ v1 v2 [.cells [(aq v9.2)], .cells (gg v6).cells, .cells (cr v7.2.1).cells, .cells [(.d (.sl (bu v9.1)))]]) (by kernel_rfl) ?_;refine cQ (cZ ?_);have hr:=anx U;subst hr;exact gk (by kernel_rfl)
 replace U:=(dV bE).symm.trans U;refine ee (t:=(v9.2 !=0)) (by kernel_rfl) bE ?_;refine dt ?_;refine bC ?_;refine aA ?_;refine aA ?_;obtain⟨v10,bD,U⟩:=ck U;have cl:=nc U;replace U:=(dj cl).symm.trans U;obtain⟨v11,cX,U⟩:=ck U;refine ro 2 bW (.node 0 [] (.node 1 [(4,oX cU (x6 (xs:=(v10.map eu)) cU) [(.d (.sl (bu v7.1)))] (uE v1 v2 v6 v7 v9 []) [] (TK bD))] (.node 2 [] (.node 3 [(10,⟨_,_, .pr (.ap (bU ((v10++v9.1).map eu)) (bU (v9.1.map eu)) (v10.length+v9.1.length) (v10.length+v9.1.length)) (KS (f:=eu) (h:=(uE v1 v2 v6 v7 v9 [.vec 3 1 (bU (v10.map eu))])) (y:=(.d (.sl (bu v9.1)))) (k:=1) rfl (by rw[<-od];rfl) (λc hc=>Cs c (by rw[od];exact hc)) rfl rfl (mL cl (by decide)).1 (mL cl (by decide)).2)⟩)] (.node 4 [(13,oX (x6 (xs:=((v10++v9.1).map eu)) cU) (x6 (xs:=((v10++v9.1).map eu)) cU) [(.vec 7 0 (v10.length+v9.1.length) (v10.length+v9.1.length) 1),(aq (65536:Int))] (xz v1 v2 v6 v7 v9 v10 []) [7] (SB cX))] (.node 5 [] .nil .nil) .nil) .nil) .nil) (.node 2 [] (.node 1 [(4,oX cU (x6 (xs:=(v10.map eu)) cU) [(.d (.sl (bu v7.1)))] (uE v1 v2 v6 v7 v9 []) [] (TK bD))] (.node 3 [(10,⟨_,_, .pr (.ap (bU ((v10++v9.1).map eu)) (bU (v9.1.map eu)) (v10.length+v9.1.length) (v10.length+v9.1.length)) (KS (f:=eu) (h:=(uE v1 v2 v6 v7 v9 [.vec 3 1 (bU (v10.map eu))])) (y:=(.d (.sl (bu v9.1)))) (k:=1) rfl (by rw[<-od];rfl) (λc hc=>Cs c (by rw[od];exact hc)) rfl rfl (mL cl (by decide)).1 (mL cl (by decide)).2)⟩)] (.node 4 [(13,oX (x6 (xs:=((v10++v9.1).map eu)) cU) (x6 (xs:=((v10++v9.1).map eu)) cU) [(.vec 7 0 (v10.length+v9.1.length) (v10.length+v9.1.length) 1),(aq (65536:Int))] (xz v1 v2 v6 v7 v9 v10 []) [7] (SB cX))] (.node 5 [] .nil .nil) .nil) .nil) .nil) .nil)) .nil) [(66,(aK (decide (v11>65536))))] (xz v1 v2 v6 v7 v9 v10 []) (by kernel_rfl) ?_
 rcases dU (decide (v11>65536))with cP|cP
 ·replace U:=(dj cP).symm.trans U;refine eE (t:=(decide (v11>65536))) (by kernel_rfl) cP ?_;refine aA ?_;refine rg [] [] (tJ v1 v2 [.cells [(aq (2:Int))], .cells (gg v6).cells, .cells (cr v7.2.1).cells, .cells [(.d (.sl (bu v9.1)))], .vec 3 1 (bU ((v10++v9.1).map eu))]) (by kernel_rfl) ?_;refine cQ (cZ ?_);have hr:=anx U;subst hr;exact gk (by kernel_rfl)
 replace U:=(dV cP).symm.trans U;refine ee (t:=(decide (v11>65536))) (by kernel_rfl) cP ?_;refine dt ?_;refine bC ?_;refine aA ?_;refine aA ?_;obtain⟨v12,dm,U⟩:=ck U;refine rg [(16,cK aly dm)] [(15,(aq v12))] (xz v1 v2 v6 v7 v9 v10 []) (by kernel_rfl) ?_;refine aA ?_;refine rg [] [(75,(aK (v12 !=0)))] (xz v1 v2 v6 v7 v9 v10 []) (by kernel_rfl) ?_;rcases dU (v12 !=0)with dd|dd
 ·replace U:=(dj dd).symm.trans U;refine eE (t:=(v12 !=0)) (by kernel_rfl) dd ?_;refine aA ?_;refine rg [] [] (tJ v1 v2 [.cells [(aq v12)], .cells (gg v6).cells, .cells (cr v7.2.1).cells, .cells [(.d (.sl (bu v9.1)))], .vec 3 1 (bU ((v10++v9.1).map eu))]) (by kernel_rfl) ?_;refine cQ (cZ ?_);have hr:=anx U;subst hr;exact gk (by kernel_rfl)
 replace U:=(dV dd).symm.trans U;refine ee (t:=(v12 !=0)) (by kernel_rfl) dd ?_;refine dt ?_;refine bC ?_;refine aA ?_;obtain⟨aH,eY,U⟩:=ck U;refine rg [(4,oX cU (aS (dW (aS cU))) [(.d (.sl (aY v3)))] (xz v1 v2 v6 v7 v9 v10 []) [] (zn N v3 aH eY))] [(16,(.ptr 11 0))] (xz v1 v2 v6 v7 v9 v10 [.cells [(.d (.sl (aY aH.1)))], .map (bP bR aH.2), .cells [(.mp 9)], .cells [(.fn 68 [(.ptr 10 0),(.ptr 8 0)])]]) (by kernel_rfl) ?_;refine aA ?_;refine rg [] [(17,(.ptr 12 0))] (MN v1 v2 v6 v7 v9 v10 aH []) (by kernel_rfl) ?_;refine aA ?_;refine aA ?_;obtain⟨aQ,fU,U⟩:=ck U;refine rg [(4,oQ [(.d (.sl (bu v7.1)))] (MN v1 v2 v6 v7 v9 v10 aH []) [] (WD fU))] [(85,(.fn 121 [(.bg [[(.sl (bu aQ))]] 0 0)]))] (MN v1 v2 v6 v7 v9 v10 aH []) (by kernel_rfl) ?_;refine fV ?_;obtain⟨bA,gY,U⟩:=ck U;refine abH 7 ?_;refine amd 12 6 58 2 [] rfl (.inr ⟨rfl,rfl⟩) ?_;refine gq [5,8,9,10,14,16,17,85] 14 (anm rfl) (s':=⟨142,[(5,(.ptr 1 0)),(8,(.ptr 2 0)),(9,(.ptr 3 0)),(10,(.ptr 4 0)),(14,(.ptr 6 0)),(16,(.ptr 11 0)),(17,(.ptr 12 0)),(85,(.fn 121 [(.bg [[(.sl (bu aQ))]] 0 0)]))],(HN v1 v2 v6 v7 v9 aH [.map (bP bR aH.2), .cells [(.mp 9)], .cells [(.fn 68 [(.ptr 10 0),(.ptr 8 0)])], .cells [(aq v6.aB.bk),(aq v6.aB.bX),(aq v6.aB.bS),(aq v6.aB.ct),(aq v6.aB.cu),(.d (.sl (bu v7.1))),(.own 13 (dy []))], .front 58 2 0])⟩) (by kernel_rfl) ?_
 refine xc (m:=14) (enc:=o6) (xs:=bA) (by kernel_rfl) (XH gY) (λ((bB,cz):(an3 ax)×(an3 (an4×aR)))=>(CU v1 v2 v6 v7 v9 aH cz bB [])) (λ((bB,cz):(an3 ax)×(an3 (an4×aR))) l=>sL N v6 v7 v2 v9 aH l bB cz=some r) ([],aH.2) (by kernel_rfl) U (by rintro⟨bB,cz⟩;rfl) (by rintro⟨bB,cz⟩;kernel_rfl) (by kernel_rfl) rfl ?_ ?_
 ·rintro⟨bB,cz⟩ bY cx U gD cn cp
  try dsimp only at U
  rw[sL]at U;refine gq [5,8,9,10,14,16,17,86] 15 (anp _) (s':=⟨142,[(5,(.ptr 1 0)),(8,(.ptr 2 0)),(9,(.ptr 3 0)),(10,(.ptr 4 0)),(14,(.ptr 6 0)),(16,(.ptr 11 0)),(17,(.ptr 12 0)),(86,(.d (.sl (bu bY))))],(CU v1 v2 v6 v7 v9 aH cz bB [.lp .ready 86 cn cp (dc 142 [(5,(.ptr 1 0)),(8,(.ptr 2 0)),(9,(.ptr 3 0)),(10,(.ptr 4 0)),(14,(.ptr 6 0)),(16,(.ptr 11 0)),(17,(.ptr 12 0)),(85,(.fn 121 [(.bg [[(.sl (bu aQ))]] 0 0)]))])])⟩) (by kernel_rfl) ?_;refine re [] [(18,(.d (.sl (bu bY))))] (CU v1 v2 v6 v7 v9 aH cz bB [.lp .ready 86 cn cp (dc 142 [(5,(.ptr 1 0)),(8,(.ptr 2 0)),(9,(.ptr 3 0)),(10,(.ptr 4 0)),(14,(.ptr 6 0)),(16,(.ptr 11 0)),(17,(.ptr 12 0)),(85,(.fn 121 [(.bg [[(.sl (bu aQ))]] 0 0)]))])]) (by kernel_rfl) ?_;refine bC ?_;refine⟨(CU v1 v2 v6 v7 v9 aH cz bB []),[],rfl,(by kernel_rfl),?_⟩;refine gq [5,8,9,10,14,16,17,18] 15 (anm rfl) (s':=⟨142,[(5,(.ptr 1 0)),(8,(.ptr 2 0)),(9,(.ptr 3 0)),(10,(.ptr 4 0)),(14,(.ptr 6 0)),(16,(.ptr 11 0)),(17,(.ptr 12 0)),(18,(.d (.sl (bu bY))))],(OJ v1 v2 v6 v7 v9 aH cz bB cn cp aQ [])⟩) (by kernel_rfl) ?_;refine fV ?_;refine aA ?_;obtain⟨v20,lu,v21,m4,U⟩:=zD U;refine ro 2 bW (.node 0 [] (.node 1 [] (.node 2 [] (.node 3 [] (.node 4 [] (.node 5 [] (.node 6 [] (.node 7 [(22,cK ZH lu)] (.node 8 [(25,oR [(.fn 68 [(.ptr 10 0),(.ptr 8 0)]),(gg v6),(.d (.sl (bu v9.1))),(.d (.sl (aT v20)))] (OJ v1 v2 v6 v7 v9 aH cz bB cn cp aQ []) [10,8,9] (Xy N v6 v9.1 v20 aH.1 cz v21 m4))] (.node 9 [] (.node 10 [] (.node 11 [] (.node 12 [] (.node 13 [] (.node 14 [] .nil .nil) .nil) .nil) .nil) .nil) .nil) (.node 12 [] (.node 8 [(25,oR [(.fn 68 [(.ptr 10 0),(.ptr 8 0)]),(gg v6),(.d (.sl (bu v9.1))),(.d (.sl (aT v20)))] (OJ v1 v2 v6 v7 v9 aH cz bB cn cp aQ [.cells iH]) [10,8,9] (Xy N v6 v9.1 v20 aH.1 cz v21 m4))] (.node 9 [] (.node 10 [] (.node 11 [] (.node 13 [] (.node 14 [] .nil .nil) .nil) .nil) .nil) .nil) .nil) .nil)) .nil) .nil) .nil) .nil) .nil) .nil) .nil) .nil) [(19,(.ptr 15 0)),(20,(aq v21.2.1))] (ER v1 v2 v6 v7 v9 aH v21 bB cn cp aQ [.cells (bp v21.1).cells]) (by kernel_rfl) ?_
  refine aA ?_;refine aA ?_;obtain⟨e7,iw,U⟩:=ck U;refine yI [(114,(aK e7))] (ER v1 v2 v6 v7 v9 aH v21 bB cn cp aQ [.cells (bp v21.1).cells]) ?_ ?_
  ·rcases dU (v21.2.1==0)with ir|ir
   ·replace iw:=(dj ir).symm.trans iw;rcases dU (v6.c9==5)with gZ|gZ
    ·replace iw:=(dj gZ).symm.trans iw;have oO:=nc iw;replace iw:=(dj oO).symm.trans iw;obtain⟨gJ,sf,iw⟩:=ck iw;have he:=anx iw;subst he;exact⟨[(9,bT ir),(12,bT ir),(15,bT ir),(19,bT ir),(24,bT gZ),(27,bT gZ),(30,bT gZ),(31,oL bY dInts_len),(33,bT gZ),(36,bT gZ),(37,⟨_,_, .el (xs:=bu bY) (i:=(aP ((bY.length:Int)-(1:Int)))) (of_decide_eq_true oO) (ko sf)⟩),(39,bT gZ),(42,bT gZ),(46,bT gZ)],by kernel_rfl⟩
    replace iw:=(dV gZ).symm.trans iw;have he:=anx iw;subst he;exact⟨[(9,bT ir),(12,bT ir),(15,bT ir),(19,bT ir),(24,bF gZ),(27,bF gZ),(30,bF gZ),(33,bF gZ),(36,bF gZ),(39,bF gZ),(42,bF gZ),(46,bF gZ)],by kernel_rfl⟩
   replace iw:=(dV ir).symm.trans iw;have he:=anx iw;subst he;exact⟨[(9,bF ir),(12,bF ir),(15,bF ir),(19,bF ir),(24,bF rfl),(27,bF rfl),(30,bF rfl),(33,bF rfl),(36,bF rfl),(39,bF rfl),(42,bF rfl),(46,bF rfl)],by kernel_rfl⟩
  refine EB [8,9,17,19,20] 16 (λ((v24,gN,fO):Int×Int64×Int64)=>⟨142,[(8,(.ptr 2 0)),(9,(.ptr 3 0)),(17,(.ptr 12 0)),(19,(.ptr 15 0)),(20,(aq v24))],(ER v1 v2 v6 v7 v9 aH v21 bB cn cp aQ [.cells [(bz gN),(bz fO)]])⟩) (λ((v24,gN,fO):Int×Int64×Int64)=>ue N bB (λcd fi=>sL N v6 v7 v2 v9 aH cx cd fi) v21 v24 gN fO=some r) (anm rfl) ?_ ?_
  ·rcases dU e7 with vW|vW
   ·replace U:=(dj vW).symm.trans U;refine eE (t:=e7) (by kernel_rfl) vW ?_;have Xv:=nc U;replace U:=(dj Xv).symm.trans U;obtain⟨kH,h31,v28,h33,U⟩:=zD U;refine UG bW (by kernel_rfl) [(19,oL bB iD),(25,⟨_,_, .el (xs:=dy bB) (i:=(aP ((bB.length:Int)-(1:Int)))) (of_decide_eq_true Xv) (mP h31)⟩),(37,cK Sa h33)] [(20,(aq v28.2)),(130,(aq v28.2)),(129,(bp v28.1)),(115,(.aZ [(bp v28.1),(aq v28.2)])),(128,(.aZ [(bp v28.1),(aq v28.2)])),(127,(.full (dy [kH,v21.1]))),(126,(bp v21.1)),(125,(bp kH)),(124,(.bg [AQ kH] 0 0)),(123,(aq (aP ((bB.length:Int)-(1:Int))))),(122,(aq (bB.length:Int))),(121,(.own 13 (dy bB))),(120,(.ptr 12 6)),(119,(.own 13 (dy bB))),(118,(.ptr 12 6)),(117,(cr v6.aB)),(116,(.ptr 4 1))] (ER v1 v2 v6 v7 v9 aH v21 bB cn cp aQ [.cells (bp v28.1).cells]) (by kernel_rfl) ?_;refine bC ?_;exact⟨(v28.2,v28.1.xN,v28.1.xD),by kernel_rfl,U⟩
   replace U:=(dV vW).symm.trans U;refine ee (t:=e7) (by kernel_rfl) vW ?_;refine dt ?_;refine bC ?_;exact⟨(v21.2.1,v21.1.xN,v21.1.xD),by kernel_rfl,U⟩
  rintro⟨v24,gN,fO⟩ U
  try dsimp only at U
  rw[ue]at U;refine aA ?_;refine aA ?_;refine rg [] [(132,(aK (v24 !=0)))] (ER v1 v2 v6 v7 v9 aH v21 bB cn cp aQ [.cells [(bz gN),(bz fO)]]) (by kernel_rfl) ?_;rcases dU (v24 !=0)with sa|sa
  ·replace U:=(dj sa).symm.trans U;refine eE (t:=(v24 !=0)) (by kernel_rfl) sa ?_;refine aA ?_;refine rg [] [] (tJ v1 v2 [.cells [(aq v24)], .cells (gg v6).cells, .cells (cr v7.2.1).cells, .cells [(.d (.sl (bu v9.1)))], .gone, .cells [(.d (.sl (aY aH.1)))], .map (bP bR v21.2.2), .cells [(.mp 9)], .cells [(.fn 68 [(.ptr 10 0),(.ptr 8 0)])], .cells [(aq v6.aB.bk),(aq v6.aB.bX),(aq v6.aB.bS),(aq v6.aB.ct),(aq v6.aB.cu),(.d (.sl (bu v7.1))),(.own 13 (dy bB))], .front 58 2 bB.length, .lp .busy 86 cn cp (dc 142 [(5,(.ptr 1 0)),(8,(.ptr 2 0)),(9,(.ptr 3 0)),(10,(.ptr 4 0)),(14,(.ptr 6 0)),(16,(.ptr 11 0)),(17,(.ptr 12 0)),(85,(.fn 121 [(.bg [[(.sl (bu aQ))]] 0 0)]))]), .cells [(bz gN),(bz fO)]]) (by kernel_rfl) ?_;refine cQ (cZ (fe ?_));refine DK [.cells (fg v1).cells, .cells [(.d (.sl (aT v2)))], .cells [(aq (0:Int)),(aq (0:Int)),(aq (0:Int)),(aq (0:Int)),(aq (0:Int)),(.d (.sl (bu []))),(.d (.sl (dy [])))], .cells [(aq v24)], .cells (gg v6).cells, .cells (cr v7.2.1).cells, .cells [(.d (.sl (bu v9.1)))], .gone, .cells [(.d (.sl (aY aH.1)))], .map (bP bR v21.2.2), .cells [(.mp 9)], .cells [(.fn 68 [(.ptr 10 0),(.ptr 8 0)])], .cells [(aq v6.aB.bk),(aq v6.aB.bX),(aq v6.aB.bS),(aq v6.aB.ct),(aq v6.aB.cu),(.d (.sl (bu v7.1))),(.own 13 (dy bB))], .front 58 2 bB.length] rfl (by kernel_rfl) (by kernel_rfl) ?_
   refine(fe (cZ ?_));have hr:=anx U;subst hr;exact gk (by kernel_rfl)
  replace U:=(dV sa).symm.trans U;refine ee (t:=(v24 !=0)) (by kernel_rfl) sa ?_;refine dt ?_;refine bC ?_;have ud:=nc U;replace U:=(dj ud).symm.trans U;refine re [(13,oA yY bB ([(⟨gN,fO⟩:ax)]) ud)] [(140,(.ptr 12 6)),(139,(.own 13 (dy (bB++[(⟨gN,fO⟩:ax)])))),(138,(.full (dy [(⟨gN,fO⟩:ax)]))),(137,(.agg [(bz gN),(bz fO)])),(136,(.own 13 (dy bB))),(135,(.ptr 12 6))] (YB v1 v2 v6 v7 v9 aH v21 bB gN fO [.lp .busy 86 cn cp (dc 142 [(5,(.ptr 1 0)),(8,(.ptr 2 0)),(9,(.ptr 3 0)),(10,(.ptr 4 0)),(14,(.ptr 6 0)),(16,(.ptr 11 0)),(17,(.ptr 12 0)),(85,(.fn 121 [(.bg [[(.sl (bu aQ))]] 0 0)]))]), .cells [(bz gN),(bz fO)]]) (by kernel_rfl) ?_;refine iM ?_;refine ye (YB v1 v2 v6 v7 v9 aH v21 bB gN fO []) rfl (by kernel_rfl) (by kernel_rfl) ?_;exact⟨((bB++[(⟨gN,fO⟩:ax)]),v21.2.2),(by kernel_rfl),U⟩
 rintro⟨bB,cz⟩ U
 try dsimp only at U
 rw[sL]at U;refine iM ?_;refine bC ?_;refine aA ?_;refine rg [] [] [.cells (fg v1).cells, .cells [(.d (.sl (aT v2)))], .cells [(aq v6.aB.bk),(aq v6.aB.bX),(aq v6.aB.bS),(aq v6.aB.ct),(aq v6.aB.cu),(.d (.sl (bu v7.1))),(.own 13 (dy bB))], .cells [(aq (0:Int))], .cells (gg v6).cells, .cells (cr v7.2.1).cells, .cells [(.d (.sl (bu v9.1)))], .gone, .cells [(.d (.sl (aY aH.1)))], .map (bP bR cz), .cells [(.mp 9)], .cells [(.fn 68 [(.ptr 10 0),(.ptr 8 0)])], .cells [(aq v6.aB.bk),(aq v6.aB.bX),(aq v6.aB.bS),(aq v6.aB.ct),(aq v6.aB.cu),(.d (.sl (bu v7.1))),(.own 13 (dy bB))], .front 58 2 bB.length, .gone] (by kernel_rfl) ?_;refine cQ ?_;have hr:=anx U;subst hr;exact gk (by kernel_rfl)
def Cp(N:Nat)(v1:aV)(v2:an3 aL):an3 bx->Nat->(an3 aJ)->an5 ((an3 aJ)×Int)
 |[],_,v10=>
  some (v10,(0:Int))
 |v8::v9,v6,v10=>
  Option.bind (A2 N v1 v2 v10 (v6:Int)) λv11=>
  bif (v11.2 !=0)then
   some ([],v11.2)
  else
   bif (Nat.ble ((v10.length+1)*104) 140737488355328)then
   (λcd=>Cp N v1 v2 v9 (v6+1) cd) (v10++[(⟨v8.au,v11.1⟩:aJ)])
   else none
def KE(N:Nat)(v1:aV)(v2:an3 aL)(v3:an3 aJ):an5 ((an3 aJ)×Int):=
 (C7 N v1 v2).bind λv4=>
 bif (v4 !=0)then
  some ([],v4)
 else
  (Gc N v1 v2 v3).bind λv5=>
  bif (v5.2 !=0)then
   some ([],v5.2)
  else
   Cp N v1 v2 v1.aN 0 v5.1
theorem ahu{N v1 v2 v3}:KO 26 [(fg v1),(.d (.sl (aT v2))),(.d (.sl (aY v3)))] (λr=> .aZ [(.d (.sl (aY r.1))),(aq r.2)]) (KE N v1 v2 v3):=
 fw Tryz.func26 (az λv4 J=>gA [[],[(7,cK agk J)],[]] (bZ λh2=>az λv5 h3=>gA [[f0 h2],[(10,oX cU (aiT cU) [(fg v1),(.d (.sl (aT v2))),(.d (.sl (aY v3)))] [.cells (fg v1).cells] [] (aej h3))],[]] (bZ λh4=>gA [[f0 h4],[(7,oL v1.aN xq)]] (gT NG 32 v1.aN λh6=>jo 1 [] [1,3,9,32,33,34] 2 (λv6(v10:an3 aJ)=>⟨59,[(1,(.d (.sl (aT v2)))),(3,(.ptr 0 0)),(9,(.own 1 (aY v10))),(32,(.d (.sl (jc v1.aN)))),(33,(aq (v1.aN.length:Int))),(34,(aq (v6:Int)))],[.cells (fg v1).cells, .front 40 8 v10.length]⟩) (λv6 v10 h7 f1=>gR [[],[f0 (da h7)],[]]) (λv6 v8 v9 v10 h7 f1 aX=>az λv11 h8=>gA [[],[t0 (db h7)],[(4,oE (Bf (cE h7)))],[(13,cL (ain h8))],[]] (bZ λh9=>dN λbE=>gb aX (v10++[(⟨v8.au,v11.1⟩:aJ)]) [[f0 h9],[(19,oA Gz v10 ([(⟨v8.au,v11.1⟩:aJ)]) bE)],[(2,oq (cY h7 rfl h6))]] h7))))))
def Ih(N:Nat)(v4:(an3 aJ)×Int):an3 an4->Nat->(an3 aJ)->an5 ((an3 aJ)×Int)
 |[],_,v9=>
  some (v9,(0:Int))
 |v7::v8,v5,v9=>
  (uy N v4.1 v7).bind λv10=>
  (Ff N v10.1).bind λv11=>
  bif (Nat.ble ((v9.length+1)*104) 140737488355328)then
  (λcd=>Ih N v4 v8 (v5+1) cd) (v9++[(⟨v7,v11⟩:aJ)])
  else none
def tE(N:Nat)(v1:aV)(v2:an3 aL)(v3:an3 aJ):an5 ((an3 aJ)×Int):=
 (KE N v1 v2 v3).bind λv4=>
 bif (v4.2 !=0)then
  some ([],v4.2)
 else
  Ih N v4 v1.du 0 []
theorem Wy{N v1 v2 v3}:KO 10 [(fg v1),(.d (.sl (aT v2))),(.d (.sl (aY v3)))] (λr=> .aZ [(.d (.sl (aY r.1))),(aq r.2)]) (tE N v1 v2 v3):=
 fw Tryz.func10 (az λv4 J=>gA [[],[(10,cK ahu J)],[]] (bZ λh2=>gA [[f0 h2],[],[(7,oL v1.du kR)]] (li (λ_=>(tC 10 40 8 [] (.inr (by kernel_rfl)) ·)) (gT sD 26 v1.du λh4=>jo 1 [] [8,10,26,27,28] 2 (λv5(v9:an3 aJ)=>⟨47,[(8,(.d (.sl (aY v4.1)))),(10,(.own 1 (aY v9))),(26,(.d (.sl (dQ v1.du)))),(27,(aq (v1.du.length:Int))),(28,(aq (v5:Int)))],[.cells (fg v1).cells, .front 40 8 v9.length]⟩) (λv5 v9 h5 f1=>gR [[],[f0 (da h5)],[]]) (λv5 v7 v8 v9 h5 f1 aX=>az λv10 h6=>az λv11 h7=>dN λh8=>gb aX (v9++[(⟨v7,v11⟩:aJ)]) [[],[t0 (db h5)],[(1,oE (su (cE h5)))],[(7,cK II h6)],[(10,cK aa5 h7),(19,oA Gz v9 ([(⟨v7,v11⟩:aJ)]) h8)],[(2,oq (cY h5 rfl h4))]] h5)))))
def HZ(N:Nat)(v1:an3 aJ)(v2:an3 aL)(v3:ar):an5 (ax×aF×Int):=
 (Br N v3).bind λv4=>
 bif (v4 !=0)then
  some (cB,dG,v4)
 else
  (zL N v3).bind λv5=>
  bif v5 then
   some (cB,dG,(10:Int))
  else
   (DG N v1).bind λv6=>
   (xO N v2 v6.1 v6.2).bind λv7=>
   (zU N v3 v7 v6.1 v6.2).bind λv8=>
   bif (v8.2.1 !=0)then
    some (cB,dG,v8.2.1)
   else
    some (v8.1.gW,v8.1.fv,(0:Int))
def mT(v3:ar)(l:an3 ao):an3 ao:= .cells (aM v3).cells:: .cells iH:: .cells wG::l
def Fg(v3:ar)(v6:(an3 aJ)×(an3 (an4×aR)))(l:an3 ao):an3 ao:=mT v3 (.cells [(.d (.sl (aY v6.1)))]:: .map (bP bR v6.2):: .cells [(.mp 4)]:: .cells dn::l)
def BL(v3:ar)(v6:(an3 aJ)×(an3 (an4×aR)))(l:an3 ao):an3 ao:=mT v3 (.cells dn:: .cells [(.d (.sl (aY v6.1)))]:: .map (bP bR v6.2):: .cells [(.mp 5)]::l)
def Jn(v3:ar)(v6:(an3 aJ)×(an3 (an4×aR)))(v7:(an3 aL))(l:an3 ao):an3 ao:=mT v3 (.cells [(.d (.sl (aY v6.1)))]:: .map (bP bR v6.2):: .cells [(.mp 4)]:: .cells [(.fn 68 [(.ptr 5 0),(.ptr 3 0)])]:: .cells [(.d (.sl (aT v7)))]:: .cells [(.fn 65 [(.ptr 6 0),(.ptr 7 0),(.ptr 9 0)]),(.fn 63 [(.ptr 9 0)])]:: .cells [(.ptr 8 0)]::l)
def Im(v3:ar)(v6:(an3 aJ)×(an3 (an4×aR)))(v7:(an3 aL))(l:an3 ao):an3 ao:=Fg v3 v6 (.cells [(.fn 68 [(.ptr 5 0),(.ptr 3 0)])]:: .cells [(.d (.sl (aT v7)))]:: .cells [(.fn 65 [(.ptr 7 0),(.ptr 8 0),(.ptr 10 0)]),(.fn 63 [(.ptr 10 0)])]:: .cells [(.ptr 9 0)]::l)
def JG(v3:ar)(v6:(an3 aJ)×(an3 (an4×aR)))(v7:(an3 aL))(l:an3 ao):an3 ao:=BL v3 v6 (.cells [(.fn 68 [(.ptr 6 0),(.ptr 4 0)])]:: .cells [(.d (.sl (aT v7)))]:: .cells [(.fn 65 [(.ptr 7 0),(.ptr 8 0),(.ptr 10 0)]),(.fn 63 [(.ptr 10 0)])]:: .cells [(.ptr 9 0)]::l)
def PW(v3:ar)(v6:(an3 aJ)×(an3 (an4×aR)))(v8:eV×Int×(an3 (an4×aR)))(v7:(an3 aL))(l:an3 ao):an3 ao:=mT v3 (.cells [(.d (.sl (aY v6.1)))]:: .map (bP bR v8.2.2):: .cells [(.mp 4)]:: .cells [(.fn 68 [(.ptr 5 0),(.ptr 3 0)])]:: .cells [(.d (.sl (aT v7)))]:: .cells [(.fn 65 [(.ptr 6 0),(.ptr 7 0),(.ptr 9 0)]),(.fn 63 [(.ptr 9 0)])]:: .cells [(.ptr 8 0)]:: .cells (dA v8.1).cells::l)
def Pk(v3:ar)(l:an3 ao):an3 ao:=mT v3 (.cells dn::l)
def OD(v3:ar)(v6:(an3 aJ)×(an3 (an4×aR)))(v7:(an3 aL))(l:an3 ao):an3 ao:=Jn v3 v6 v7 (.cells dn::l)
def Mt(v3:ar)(v6:(an3 aJ)×(an3 (an4×aR)))(l:an3 ao):an3 ao:=mT v3 (.cells [(.d (.sl (aY v6.1)))]:: .map (bP bR v6.2):: .cells [(.mp 4)]::l)
theorem Ur{N v1 v2 v3 r}(U:HZ N v1 v2 v3=some r):KF 24 [(.d (.sl (aY v1))),(.d (.sl (aT v2))),(aM v3)] (.aZ [(bp r.1),(cr r.2.1),(aq r.2.2)]):=by
 rw[HZ]at U;refine qj Tryz.func24 rfl (by kernel_rfl) ?_;refine gq [0,1,2] 0 (anp _) (s':=⟨44,[(0,(.d (.sl (aY v1)))),(1,(.d (.sl (aT v2)))),(2,(aM v3))],[]⟩) (by kernel_rfl) ?_;refine aA ?_;refine rg [] [(5,(.ptr 0 0)),(6,(.ptr 1 0)),(7,(.ptr 2 0))] (mT v3 []) (by kernel_rfl) ?_;refine aA ?_;refine aA ?_;obtain⟨v4,J,U⟩:=ck U;refine rg [(4,cL (TJ J))] [(9,(aq v4))] (mT v3 []) (by kernel_rfl) ?_;refine aA ?_;refine rg [] [(15,(aK (v4 !=0)))] (mT v3 []) (by kernel_rfl) ?_;rcases dU (v4 !=0)with h2|h2
 ·replace U:=(dj h2).symm.trans U;refine eE (t:=(v4 !=0)) (by kernel_rfl) h2 ?_;refine aA ?_;refine rg [] [(8,(aq v4))] (mT v3 []) (by kernel_rfl) ?_;refine cQ (cZ ?_);have hr:=anx U;subst hr;exact gk (by kernel_rfl)
 replace U:=(dV h2).symm.trans U;refine ee (t:=(v4 !=0)) (by kernel_rfl) h2 ?_;refine dt ?_;refine bC ?_;refine aA ?_;refine aA ?_;obtain⟨v5,h3,U⟩:=ck U;refine rg [(4,cK Q5 h3)] [(20,(aK v5))] (mT v3 []) (by kernel_rfl) ?_;rcases dU v5 with h4|h4
 ·replace U:=(dj h4).symm.trans U;refine eE (t:=v5) (by kernel_rfl) h4 ?_;refine aA ?_;refine rg [] [(8,(aq (10:Int)))] (mT v3 []) (by kernel_rfl) ?_;refine cQ (cZ ?_);have hr:=anx U;subst hr;exact gk (by kernel_rfl)
 replace U:=(dV h4).symm.trans U;refine ee (t:=v5) (by kernel_rfl) h4 ?_;refine dt ?_;refine bC ?_;refine aA ?_;obtain⟨v6,h5,v7,h6,U⟩:=zD U;obtain⟨v8,h7,U⟩:=ck U;refine ro 14 bW (.node 0 [] (.node 2 [] (.node 1 [(4,oX cU (aS (dW (aS cU))) [(.d (.sl (aY v1)))] (mT v3 []) [] (zn N v1 v6 h5))] (.node 3 [(10,oX (aS (aS (dW cU))) (aS (aS (dW (aS (aS (aS (aS cU))))))) [(.fn 68 [(.ptr 5 0),(.ptr 3 0)]),(.d (.sl (aT v2)))] (Mt v3 v6 []) [5,3,4] (jy h6))] (.node 4 [] (.node 5 [] (.node 6 [] (.node 7 [] (.node 8 [(25,oR [(aM v3),(.ptr 6 0),(.ptr 7 0),(.ptr 9 0)] (Jn v3 v6 v7 []) [6,7,9,5,3,8,4] (gF N v3 v7 v6.1 v6.2 v8 h7))] (.node 9 [] (.node 10 [] (.node 11 [] (.node 12 [] (.node 13 [] (.node 14 [] .nil .nil) .nil) .nil) .nil) .nil) .nil) (.node 12 [] (.node 8 [(25,oR [(aM v3),(.ptr 6 0),(.ptr 7 0),(.ptr 9 0)] (OD v3 v6 v7 []) [6,7,9,5,3,8,4] (gF N v3 v7 v6.1 v6.2 v8 h7))] (.node 9 [] (.node 10 [] (.node 11 [] (.node 13 [] (.node 14 [] .nil .nil) .nil) .nil) .nil) .nil) .nil) .nil)) .nil) .nil) .nil) .nil) (.node 7 [] (.node 3 [(10,oX (aS (aS (dW cU))) (aS (aS (dW (aS (aS (aS (aS cU))))))) [(.fn 68 [(.ptr 5 0),(.ptr 3 0)]),(.d (.sl (aT v2)))] (Mt v3 v6 []) [5,3,4] (jy h6))] (.node 4 [] (.node 5 [] (.node 6 [] (.node 8 [(25,oR [(aM v3),(.ptr 6 0),(.ptr 7 0),(.ptr 9 0)] (Jn v3 v6 v7 []) [6,7,9,5,3,8,4] (gF N v3 v7 v6.1 v6.2 v8 h7))] (.node 9 [] (.node 10 [] (.node 11 [] (.node 12 [] (.node 13 [] (.node 14 [] .nil .nil) .nil) .nil) .nil) .nil) .nil) (.node 12 [] (.node 8 [(25,oR [(aM v3),(.ptr 6 0),(.ptr 7 0),(.ptr 9 0)] (OD v3 v6 v7 []) [6,7,9,5,3,8,4] (gF N v3 v7 v6.1 v6.2 v8 h7))] (.node 9 [] (.node 10 [] (.node 11 [] (.node 13 [] (.node 14 [] .nil .nil) .nil) .nil) .nil) .nil) .nil) .nil)) .nil) .nil) .nil) (.node 12 [] (.node 3 [(10,oX (aS (aS (dW cU))) (aS (aS (dW (aS (aS (aS (aS cU))))))) [(.fn 68 [(.ptr 5 0),(.ptr 3 0)]),(.d (.sl (aT v2)))] (Fg v3 v6 []) [5,3,4] (jy h6))] (.node 4 [] (.node 5 [] (.node 6 [] (.node 8 [(25,oR [(aM v3),(.ptr 7 0),(.ptr 8 0),(.ptr 10 0)] (Im v3 v6 v7 []) [7,8,10,5,3,9,4] (gF N v3 v7 v6.1 v6.2 v8 h7))] (.node 9 [] (.node 10 [] (.node 11 [] (.node 13 [] (.node 14 [] .nil .nil) .nil) .nil) .nil) .nil) .nil) .nil) .nil) .nil) .nil) .nil)) (.node 12 [] (.node 3 [(10,oX (aS (aS (dW cU))) (aS (aS (dW (aS (aS (aS (aS cU))))))) [(.fn 68 [(.ptr 5 0),(.ptr 3 0)]),(.d (.sl (aT v2)))] (Fg v3 v6 []) [5,3,4] (jy h6))] (.node 4 [] (.node 5 [] (.node 6 [] (.node 7 [] (.node 8 [(25,oR [(aM v3),(.ptr 7 0),(.ptr 8 0),(.ptr 10 0)] (Im v3 v6 v7 []) [7,8,10,5,3,9,4] (gF N v3 v7 v6.1 v6.2 v8 h7))] (.node 9 [] (.node 10 [] (.node 11 [] (.node 13 [] (.node 14 [] .nil .nil) .nil) .nil) .nil) .nil) .nil) .nil) .nil) .nil) .nil) (.node 7 [] (.node 3 [(10,oX (aS (aS (dW cU))) (aS (aS (dW (aS (aS (aS (aS cU))))))) [(.fn 68 [(.ptr 5 0),(.ptr 3 0)]),(.d (.sl (aT v2)))] (Fg v3 v6 []) [5,3,4] (jy h6))] (.node 4 [] (.node 5 [] (.node 6 [] (.node 8 [(25,oR [(aM v3),(.ptr 7 0),(.ptr 8 0),(.ptr 10 0)] (Im v3 v6 v7 []) [7,8,10,5,3,9,4] (gF N v3 v7 v6.1 v6.2 v8 h7))] (.node 9 [] (.node 10 [] (.node 11 [] (.node 13 [] (.node 14 [] .nil .nil) .nil) .nil) .nil) .nil) .nil) .nil) .nil) .nil) .nil) .nil)) .nil))) (.node 7 [] (.node 1 [(4,oX cU (aS (dW (aS cU))) [(.d (.sl (aY v1)))] (mT v3 []) [] (zn N v1 v6 h5))] (.node 3 [(10,oX (aS (aS (dW cU))) (aS (aS (dW (aS (aS (aS (aS cU))))))) [(.fn 68 [(.ptr 5 0),(.ptr 3 0)]),(.d (.sl (aT v2)))] (Mt v3 v6 []) [5,3,4] (jy h6))] (.node 4 [] (.node 5 [] (.node 6 [] (.node 8 [(25,oR [(aM v3),(.ptr 6 0),(.ptr 7 0),(.ptr 9 0)] (Jn v3 v6 v7 []) [6,7,9,5,3,8,4] (gF N v3 v7 v6.1 v6.2 v8 h7))] (.node 9 [] (.node 10 [] (.node 11 [] (.node 12 [] (.node 13 [] (.node 14 [] .nil .nil) .nil) .nil) .nil) .nil) .nil) (.node 12 [] (.node 8 [(25,oR [(aM v3),(.ptr 6 0),(.ptr 7 0),(.ptr 9 0)] (OD v3 v6 v7 []) [6,7,9,5,3,8,4] (gF N v3 v7 v6.1 v6.2 v8 h7))] (.node 9 [] (.node 10 [] (.node 11 [] (.node 13 [] (.node 14 [] .nil .nil) .nil) .nil) .nil) .nil) .nil) .nil)) .nil) .nil) .nil) (.node 12 [] (.node 3 [(10,oX (aS (aS (dW cU))) (aS (aS (dW (aS (aS (aS (aS cU))))))) [(.fn 68 [(.ptr 5 0),(.ptr 3 0)]),(.d (.sl (aT v2)))] (Fg v3 v6 []) [5,3,4] (jy h6))] (.node 4 [] (.node 5 [] (.node 6 [] (.node 8 [(25,oR [(aM v3),(.ptr 7 0),(.ptr 8 0),(.ptr 10 0)] (Im v3 v6 v7 []) [7,8,10,5,3,9,4] (gF N v3 v7 v6.1 v6.2 v8 h7))] (.node 9 [] (.node 10 [] (.node 11 [] (.node 13 [] (.node 14 [] .nil .nil) .nil) .nil) .nil) .nil) .nil) .nil) .nil) .nil) .nil) .nil)) (.node 12 [] (.node 1 [(4,oX cU (aS (dW (aS cU))) [(.d (.sl (aY v1)))] (Pk v3 []) [] (zn N v1 v6 h5))] (.node 3 [(10,oX (aS (aS (dW cU))) (aS (aS (dW (aS (aS (aS (aS cU))))))) [(.fn 68 [(.ptr 6 0),(.ptr 4 0)]),(.d (.sl (aT v2)))] (BL v3 v6 []) [6,4,5] (jy h6))] (.node 4 [] (.node 5 [] (.node 6 [] (.node 8 [(25,oR [(aM v3),(.ptr 7 0),(.ptr 8 0),(.ptr 10 0)] (JG v3 v6 v7 []) [7,8,10,6,4,9,5] (gF N v3 v7 v6.1 v6.2 v8 h7))] (.node 9 [] (.node 10 [] (.node 11 [] (.node 13 [] (.node 14 [] .nil .nil) .nil) .nil) .nil) .nil) .nil) .nil) .nil) .nil) .nil) .nil) .nil)) (.node 12 [] (.node 1 [(4,oX cU (aS (dW (aS cU))) [(.d (.sl (aY v1)))] (Pk v3 []) [] (zn N v1 v6 h5))] (.node 3 [(10,oX (aS (aS (dW cU))) (aS (aS (dW (aS (aS (aS (aS cU))))))) [(.fn 68 [(.ptr 6 0),(.ptr 4 0)]),(.d (.sl (aT v2)))] (BL v3 v6 []) [6,4,5] (jy h6))] (.node 4 [] (.node 5 [] (.node 6 [] (.node 7 [] (.node 8 [(25,oR [(aM v3),(.ptr 7 0),(.ptr 8 0),(.ptr 10 0)] (JG v3 v6 v7 []) [7,8,10,6,4,9,5] (gF N v3 v7 v6.1 v6.2 v8 h7))] (.node 9 [] (.node 10 [] (.node 11 [] (.node 13 [] (.node 14 [] .nil .nil) .nil) .nil) .nil) .nil) .nil) .nil) .nil) .nil) .nil) (.node 7 [] (.node 3 [(10,oX (aS (aS (dW cU))) (aS (aS (dW (aS (aS (aS (aS cU))))))) [(.fn 68 [(.ptr 6 0),(.ptr 4 0)]),(.d (.sl (aT v2)))] (BL v3 v6 []) [6,4,5] (jy h6))] (.node 4 [] (.node 5 [] (.node 6 [] (.node 8 [(25,oR [(aM v3),(.ptr 7 0),(.ptr 8 0),(.ptr 10 0)] (JG v3 v6 v7 []) [7,8,10,6,4,9,5] (gF N v3 v7 v6.1 v6.2 v8 h7))] (.node 9 [] (.node 10 [] (.node 11 [] (.node 13 [] (.node 14 [] .nil .nil) .nil) .nil) .nil) .nil) .nil) .nil) .nil) .nil) .nil) .nil)) (.node 7 [] (.node 1 [(4,oX cU (aS (dW (aS cU))) [(.d (.sl (aY v1)))] (Pk v3 []) [] (zn N v1 v6 h5))] (.node 3 [(10,oX (aS (aS (dW cU))) (aS (aS (dW (aS (aS (aS (aS cU))))))) [(.fn 68 [(.ptr 6 0),(.ptr 4 0)]),(.d (.sl (aT v2)))] (BL v3 v6 []) [6,4,5] (jy h6))] (.node 4 [] (.node 5 [] (.node 6 [] (.node 8 [(25,oR [(aM v3),(.ptr 7 0),(.ptr 8 0),(.ptr 10 0)] (JG v3 v6 v7 []) [7,8,10,6,4,9,5] (gF N v3 v7 v6.1 v6.2 v8 h7))] (.node 9 [] (.node 10 [] (.node 11 [] (.node 13 [] (.node 14 [] .nil .nil) .nil) .nil) .nil) .nil) .nil) .nil) .nil) .nil) .nil) .nil) .nil)) .nil))) .nil) .nil) [(10,(.ptr 10 0)),(11,(aq v8.2.1))] (PW v3 v6 v8 v7 []) (by kernel_rfl) ?_
 refine aA ?_;refine aA ?_;refine rg [] [(36,(aK (v8.2.1 !=0)))] (PW v3 v6 v8 v7 []) (by kernel_rfl) ?_;rcases dU (v8.2.1 !=0)with h8|h8
 ·replace U:=(dj h8).symm.trans U;refine eE (t:=(v8.2.1 !=0)) (by kernel_rfl) h8 ?_;refine aA ?_;refine rg [] [(8,(aq v8.2.1))] (PW v3 v6 v8 v7 []) (by kernel_rfl) ?_;refine cQ (cZ ?_);have hr:=anx U;subst hr;exact gk (by kernel_rfl)
 replace U:=(dV h8).symm.trans U;refine ee (t:=(v8.2.1 !=0)) (by kernel_rfl) h8 ?_;refine dt ?_;refine bC ?_;refine aA ?_;refine rt 2 bW [] [(8,(aq (0:Int)))] [.cells (aM v3).cells, .cells (bp v8.1.gW).cells, .cells (cr v8.1.fv).cells, .cells [(.d (.sl (aY v6.1)))], .map (bP bR v8.2.2), .cells [(.mp 4)], .cells [(.fn 68 [(.ptr 5 0),(.ptr 3 0)])], .cells [(.d (.sl (aT v7)))], .cells [(.fn 65 [(.ptr 6 0),(.ptr 7 0),(.ptr 9 0)]),(.fn 63 [(.ptr 9 0)])], .cells [(.ptr 8 0)], .cells (dA v8.1).cells] (by kernel_rfl) ?_;refine cQ ?_;have hr:=anx U;subst hr;exact gk (by kernel_rfl)
def X7(N:Nat)(v2:an3 ax):an3 ax->Nat->an5 Bool
 |[],_=>
  some true
 |v5::v6,v3=>
  Option.bind (v2[((v3:Int)).toNat]?) λv7=>
  bif ((v5.xN.toInt==v7.xN.toInt)&&((v5.xD.toInt==v7.xD.toInt)&&true))then
   (X7 N v2 v6 (v3+1))
  else
   some false
def R6(N:Nat)(v1:an3 ax)(v2:an3 ax):an5 Bool:=
 bif ((v1.length:Int) !=(v2.length:Int))then
  some false
 else
  X7 N v2 v1 0
theorem afc{N v1 v2}:KO 25 [(.d (.sl (dy v1))),(.d (.sl (dy v2)))] aK (R6 N v1 v2):=
 fw Tryz.func25 (gA [[],[(4,oL v1 iD),(10,oL v2 iD)]] (lx λ_=>gT yY 0 v1 λh3=>hJ 1 [] [0,1,5] 0 (λv3=>⟨26,[(0,(.d (.sl (dy v1)))),(1,(.d (.sl (dy v2)))),(5,(aq (v3:Int)))],[]⟩) (λv3 h4 f1=>gR [[(7,oL v1 iD)],[f0 (da h4)],[]]) (λv3 v5 v6 h4 f1 aX=>az λv7 h5=>gA [[(7,oL v1 iD)],[t0 (db h4)],[(7,oE (mP (cE h4))),(19,oE (mP h5))]] (lU λh7=>gb aX () [[f0 (dK h7)],[(5,oq (cY h4 rfl h3))]] h4))))
def yn(N:Nat):an5 Bool:=
 Option.bind (tE N (⟨[(bs [110])],[],[(⟨(bs [97]),(⟨(1:Int),(0:Int),(0:Int),(0:Int),(0:Int)⟩:aF),[(⟨(0:Int64),[(⟨(bs [110]),(1:Int64)⟩:c8)]⟩:bj)]⟩:eH)],[(⟨(bs [115]),(⟨(1:Int),(0:Int),(0:Int),(0:Int),(0:Int)⟩:aF),[],[(⟨(bs [105]),(⟨(0:Int64),[(⟨(bs [110]),(1:Int64)⟩:c8)]⟩:bj)⟩:dh)],(1:Int),(⟨(3:Int),(bs [97]),cB,dG,jb,[(⟨(⟨(0:Int64),[(⟨(bs [105]),(1:Int64)⟩:c8)]⟩:bj),(bs []),[]⟩:cC)],[]⟩:ar)⟩:bx)],[(bs [115])]⟩:aV) ([(⟨(bs [110]),(3:Int64)⟩:aL)]) ([(⟨(bs [97]),(⟨(⟨(1:Int),(0:Int),(0:Int),(0:Int),(0:Int)⟩:aF),[(3:Int)],[(⟨(1:Int64),(2:Int64)⟩:ax),(⟨(1:Int64),(3:Int64)⟩:ax),(⟨(1:Int64),(6:Int64)⟩:ax)]⟩:aR)⟩:aJ)])) λv1=>
 Option.bind (HZ N ([(⟨(bs [97]),(⟨(⟨(1:Int),(0:Int),(0:Int),(0:Int),(0:Int)⟩:aF),[(3:Int)],[(⟨(1:Int64),(2:Int64)⟩:ax),(⟨(1:Int64),(3:Int64)⟩:ax),(⟨(1:Int64),(6:Int64)⟩:ax)]⟩:aR)⟩:aJ),(⟨(bs [98]),(⟨(⟨(3:Int),(0:Int),(0:Int),(0:Int),(0:Int)⟩:aF),[(1:Int)],[(⟨(7:Int64),(1:Int64)⟩:ax)]⟩:aR)⟩:aJ)]) [] (⟨(3:Int),(bs [97]),cB,dG,jb,[(⟨jb,(bs [98]),[jb]⟩:cC)],[]⟩:ar)) λv2=>
 Option.bind (HZ N [] ([(⟨(bs [105]),(0:Int64)⟩:aL)]) (⟨(11:Int),(bs []),cB,dG,jb,[],[(⟨(13:Int),(bs []),cB,dG,jb,[],[(⟨(2:Int),(bs []),cB,dG,(⟨(0:Int64),[(⟨(bs [105]),(1:Int64)⟩:c8)]⟩:bj),[],[]⟩:ar),(⟨(2:Int),(bs []),cB,dG,(⟨(1:Int64),[]⟩:bj),[],[]⟩:ar)]⟩:ar),(⟨(1:Int),(bs []),(⟨(1:Int64),(1:Int64)⟩:ax),(⟨(1:Int),(0:Int),(0:Int),(0:Int),(0:Int)⟩:aF),jb,[],[]⟩:ar),(⟨(7:Int),(bs []),cB,dG,jb,[],[(⟨(1:Int),(bs []),(⟨(1:Int64),(1:Int64)⟩:ax),(⟨(1:Int),(0:Int),(0:Int),(0:Int),(0:Int)⟩:aF),jb,[],[]⟩:ar),(⟨(1:Int),(bs []),(⟨(0:Int64),(1:Int64)⟩:ax),(⟨(1:Int),(0:Int),(0:Int),(0:Int),(0:Int)⟩:aF),jb,[],[]⟩:ar)]⟩:ar)]⟩:ar)) λv3=>
 Option.bind (bif (v1.2==0)then(bif ((v1.1.length:Int)==1)then Option.bind (v1.1[0]?) λv4=>
 Option.bind (R6 N v4.dY.dJ ([(⟨(1:Int64),(1:Int64)⟩:ax)])) λv5=>
 (bif v5 then(bif (v2.2.2==0)then(bif ((v2.1.xN.toInt==(1:Int64).toInt)&&((v2.1.xD.toInt==(6:Int64).toInt)&&true))then(bif ((v2.2.1.bk==1)&&((v2.2.1.bX==0)&&((v2.2.1.bS==0)&&((v2.2.1.ct==0)&&((v2.2.1.cu==0)&&true)))))then(bif (v3.2.2==0)then some ((v3.1.xN.toInt==(1:Int64).toInt)&&((v3.1.xD.toInt==(1:Int64).toInt)&&true))else some false)else some false)else some false)else some false)else some false)else some false)else some false) λv6=>
 some v6
theorem Qf{N}:KO 9 [] aK (yn N):=
 fw Tryz.func9 (az λv1 J=>az λv2 h2=>az λv3 h3=>gA [[],[],[],[],[],[],[],[],[(16,cK Wy J)],[(25,cL (Ur h2))],[],[],[(14,⟨_,_, .eq (congrArg AV.full (qI [(⟨(2:Int),(bs []),cB,dG,(⟨(0:Int64),[(⟨(bs [105]),(1:Int64)⟩:c8)]⟩:bj),[],[]⟩:ar),(⟨(2:Int),(bs []),cB,dG,(⟨(1:Int64),[]⟩:bj),[],[]⟩:ar)]).symm)⟩)],[(20,⟨_,_, .eq (congrArg AV.full (qI [(⟨(1:Int),(bs []),(⟨(1:Int64),(1:Int64)⟩:ax),(⟨(1:Int),(0:Int),(0:Int),(0:Int),(0:Int)⟩:aF),jb,[],[]⟩:ar),(⟨(1:Int),(bs []),(⟨(0:Int64),(1:Int64)⟩:ax),(⟨(1:Int),(0:Int),(0:Int),(0:Int),(0:Int)⟩:aF),jb,[],[]⟩:ar)]).symm)⟩),(26,⟨_,_, .eq (congrArg AV.full (qI [(⟨(13:Int),(bs []),cB,dG,jb,[],[(⟨(2:Int),(bs []),cB,dG,(⟨(0:Int64),[(⟨(bs [105]),(1:Int64)⟩:c8)]⟩:bj),[],[]⟩:ar),(⟨(2:Int),(bs []),cB,dG,(⟨(1:Int64),[]⟩:bj),[],[]⟩:ar)]⟩:ar),(⟨(1:Int),(bs []),(⟨(1:Int64),(1:Int64)⟩:ax),(⟨(1:Int),(0:Int),(0:Int),(0:Int),(0:Int)⟩:aF),jb,[],[]⟩:ar),(⟨(7:Int),(bs []),cB,dG,jb,[],[(⟨(1:Int),(bs []),(⟨(1:Int64),(1:Int64)⟩:ax),(⟨(1:Int),(0:Int),(0:Int),(0:Int),(0:Int)⟩:aF),jb,[],[]⟩:ar),(⟨(1:Int),(bs []),(⟨(0:Int64),(1:Int64)⟩:ax),(⟨(1:Int),(0:Int),(0:Int),(0:Int),(0:Int)⟩:aF),jb,[],[]⟩:ar)]⟩:ar)]).symm)⟩),(31,cL (Ur h3))]] (gG (λv6=>[(0,(aK v6))]) (λ_=>[.cells [(aq (1:Int)),(aq (0:Int)),(aq (0:Int)),(aq (0:Int)),(aq (0:Int))], .cells [(aq (3:Int)),(aq (0:Int)),(aq (0:Int)),(aq (0:Int)),(aq (0:Int))], .cells [(bz (0:Int64)),(.full (gr [(⟨(bs [110]),(1:Int64)⟩:c8)]))], .cells [(bz (0:Int64)),(.full (gr [(⟨(bs [105]),(1:Int64)⟩:c8)]))], .cells [(dk (bs [115])),(aq (1:Int)),(aq (0:Int)),(aq (0:Int)),(aq (0:Int)),(aq (0:Int)),(.d (.v (.slice none 0 0))),(.full (iV [(⟨(bs [105]),(⟨(0:Int64),[(⟨(bs [110]),(1:Int64)⟩:c8)]⟩:bj)⟩:dh)])),(aq (1:Int)),(aq (3:Int)),(dk (bs [97])),(bz (0:Int64)),(bz (0:Int64)),(aq (0:Int)),(aq (0:Int)),(aq (0:Int)),(aq (0:Int)),(aq (0:Int)),(bz (0:Int64)),(.d (.v (.slice none 0 0))),(.full (eO [(⟨(⟨(0:Int64),[(⟨(bs [105]),(1:Int64)⟩:c8)]⟩:bj),(bs []),[]⟩:cC)])),(.d (.v (.slice none 0 0)))], .cells [(.full (dQ [(bs [110])])),(.d (.v (.slice none 0 0))),(.full (kG [(⟨(bs [97]),(⟨(1:Int),(0:Int),(0:Int),(0:Int),(0:Int)⟩:aF),[(⟨(0:Int64),[(⟨(bs [110]),(1:Int64)⟩:c8)]⟩:bj)]⟩:eH)])),(.full (jc [(⟨(bs [115]),(⟨(1:Int),(0:Int),(0:Int),(0:Int),(0:Int)⟩:aF),[],[(⟨(bs [105]),(⟨(0:Int64),[(⟨(bs [110]),(1:Int64)⟩:c8)]⟩:bj)⟩:dh)],(1:Int),(⟨(3:Int),(bs [97]),cB,dG,jb,[(⟨(⟨(0:Int64),[(⟨(bs [105]),(1:Int64)⟩:c8)]⟩:bj),(bs []),[]⟩:cC)],[]⟩:ar)⟩:bx)])),(.full (dQ [(bs [115])]))], .cells [(dk (bs [97])),(aq (1:Int)),(aq (0:Int)),(aq (0:Int)),(aq (0:Int)),(aq (0:Int)),(.full (bu [(3:Int)])),(.full (dy [(⟨(1:Int64),(2:Int64)⟩:ax),(⟨(1:Int64),(3:Int64)⟩:ax),(⟨(1:Int64),(6:Int64)⟩:ax)]))], .cells [(dk (bs [98])),(aq (3:Int)),(aq (0:Int)),(aq (0:Int)),(aq (0:Int)),(aq (0:Int)),(.full (bu [(1:Int)])),(.full (dy [(⟨(7:Int64),(1:Int64)⟩:ax)]))], .cells (bp v2.1).cells, .cells (cr v2.2.1).cells, .cells [(aq (1:Int)),(dk (bs [])),(bz (1:Int64)),(bz (1:Int64)),(aq (1:Int)),(aq (0:Int)),(aq (0:Int)),(aq (0:Int)),(aq (0:Int)),(bz (0:Int64)),(.d (.v (.slice none 0 0))),(.d (.v (.slice none 0 0))),(.d (.v (.slice none 0 0)))], .cells [(aq (1:Int)),(dk (bs [])),(bz (0:Int64)),(bz (1:Int64)),(aq (1:Int)),(aq (0:Int)),(aq (0:Int)),(aq (0:Int)),(aq (0:Int)),(bz (0:Int64)),(.d (.v (.slice none 0 0))),(.d (.v (.slice none 0 0))),(.d (.v (.slice none 0 0)))], .cells [(aq (13:Int)),(dk (bs [])),(bz (0:Int64)),(bz (0:Int64)),(aq (0:Int)),(aq (0:Int)),(aq (0:Int)),(aq (0:Int)),(aq (0:Int)),(bz (0:Int64)),(.d (.v (.slice none 0 0))),(.d (.v (.slice none 0 0))),(.full (iO [(⟨(2:Int),(bs []),cB,dG,(⟨(0:Int64),[(⟨(bs [105]),(1:Int64)⟩:c8)]⟩:bj),[],[]⟩:ar),(⟨(2:Int),(bs []),cB,dG,(⟨(1:Int64),[]⟩:bj),[],[]⟩:ar)]))], .cells (bp v3.1).cells, .cells (cr v3.2.1).cells]) (aE (λh4=>eK (2,bT h4) (dO (13,oL v1.1 FG) (aE (λh5=>az λv4 h6=>az λv5 h7=>eK (7,bT h5) (dO (28,oE (k:=0) (wB h6)) (dO (46,cK afc h7) (aE (λh8=>eK (17,bT h8) (aE (λh9=>eK (21,bT h9) (aE (λbE=>eK (26,bT bE) (aE (λbD=>eK (31,bT bD) (aE (λcl=>gE [(35,bT cl)] []) λcl=>gE [(35,bF cl)] [])) λbD=>gE [(31,bF bD),(35,bF rfl)] [])) λbE=>gE [(26,bF bE),(31,bF rfl),(35,bF rfl)] [])) λh9=>gE [(21,bF h9),(26,bF rfl),(31,bF rfl),(35,bF rfl)] [])) λh8=>gE [(17,bF h8),(21,bF rfl),(26,bF rfl),(31,bF rfl),(35,bF rfl)] [])))) λh5=>gE [(7,bF h5),(17,bF rfl),(21,bF rfl),(26,bF rfl),(31,bF rfl),(35,bF rfl)] []))) λh4=>gE [(2,bF h4),(7,bF rfl),(17,bF rfl),(21,bF rfl),(26,bF rfl),(31,bF rfl),(35,bF rfl)] []) λv6=>gR []))
def zG(N:Nat)(v2:an3 Int):an3 Int->Nat->an5 Bool
 |[],_=>
  some true
 |v5::v6,v3=>
  Option.bind (v2[((v3:Int)).toNat]?) λv7=>
  bif (v5 !=v7)then
   some false
  else
   (zG N v2 v6 (v3+1))
def Jd(N:Nat)(v1:an3 Int)(v2:an3 Int):an5 Bool:=
 bif ((v1.length:Int) !=(v2.length:Int))then
  some false
 else
  zG N v2 v1 0
def Ms(N:Nat)(v1:an3 ax):an5 Bool:=
 Option.bind (bif (decide ((v1.length:Int)<1))then some true else some (decide ((v1.length:Int)>60))) λv2=>
 bif v2 then
  (yn N).bind λv3=>
  some v3
 else
  bif (aP (v1.length:Int)==(v1.length:Int))then
  Option.bind (tE N (⟨[(bs [110])],[],[(⟨(bs [97]),(⟨(1:Int),(0:Int),(0:Int),(0:Int),(0:Int)⟩:aF),[(⟨(0:Int64),[(⟨(bs [110]),(1:Int64)⟩:c8)]⟩:bj)]⟩:eH)],[(⟨(bs [115]),(⟨(1:Int),(0:Int),(0:Int),(0:Int),(0:Int)⟩:aF),[],[(⟨(bs [105]),(⟨(0:Int64),[(⟨(bs [110]),(1:Int64)⟩:c8)]⟩:bj)⟩:dh)],(1:Int),(⟨(3:Int),(bs [97]),cB,dG,jb,[(⟨(⟨(0:Int64),[(⟨(bs [105]),(1:Int64)⟩:c8)]⟩:bj),(bs []),[]⟩:cC)],[]⟩:ar)⟩:bx),(⟨(bs [116]),(⟨(1:Int),(0:Int),(0:Int),(0:Int),(0:Int)⟩:aF),[(⟨(bs [105]),(⟨(0:Int64),[(⟨(bs [110]),(1:Int64)⟩:c8)]⟩:bj)⟩:dh)],[],(5:Int),(⟨(3:Int),(bs [97]),cB,dG,jb,[(⟨(⟨(0:Int64),[(⟨(bs [105]),(1:Int64)⟩:c8)]⟩:bj),(bs []),[]⟩:cC)],[]⟩:ar)⟩:bx)],[(bs [115]),(bs [116])]⟩:aV) ([(⟨(bs [110]),(Int64.ofInt (v1.length:Int))⟩:aL)]) ([(⟨(bs [97]),(⟨(⟨(1:Int),(0:Int),(0:Int),(0:Int),(0:Int)⟩:aF),[(v1.length:Int)],v1⟩:aR)⟩:aJ)])) λv4=>
  bif (v4.2 !=0)then
   Option.bind (bif ((v4.1.length:Int)==0)then (yn N).bind λv5=>
   some v5 else some false) λv6=>
   some v6
  else
   Option.bind (bif ((v4.1.length:Int) !=2)then some true else Option.bind (v4.1[0]?) λv7=>
   (bif ((v7.dY.dJ.length:Int) !=1)then some true else Option.bind (v4.1[1]?) λv8=>
   some ((v8.dY.dJ.length:Int)==0))) λv9=>
   bif v9 then
    some false
   else
    Option.bind (v4.1[1]?) λv10=>
    Option.bind (bif ((v10.dY.dJ.length:Int)==(v1.length:Int))then Option.bind (v10.dY.dJ[0]?) λv11=>
    Option.bind (v1[0]?) λv12=>
    (bif ((v11.xN.toInt==v12.xN.toInt)&&((v11.xD.toInt==v12.xD.toInt)&&true))then bif (decide ((0:Int)<=(aP ((v10.dY.dJ.length:Int)-(1:Int)))))then
    Option.bind (v10.dY.dJ[((aP ((v10.dY.dJ.length:Int)-(1:Int)))).toNat]?) λaH=>
    Option.bind (v4.1[0]?) λaQ=>
    Option.bind (aQ.dY.dJ[0]?) λbA=>
    (bif ((aH.xN.toInt==bA.xN.toInt)&&((aH.xD.toInt==bA.xD.toInt)&&true))then (yn N).bind λbB=>
    some bB else some false)
    else none else some false)else some false) λcz=>
    some cz
  else none
def Pd(l:an3 ao):an3 ao:= .cells [(aq (1:Int)),(aq (0:Int)),(aq (0:Int)),(aq (0:Int)),(aq (0:Int))]:: .cells [(bz (0:Int64)),(.full (gr [(⟨(bs [110]),(1:Int64)⟩:c8)]))]:: .cells [(aq (3:Int)),(dk (bs [97])),(bz (0:Int64)),(bz (0:Int64)),(aq (0:Int)),(aq (0:Int)),(aq (0:Int)),(aq (0:Int)),(aq (0:Int)),(bz (0:Int64)),(.d (.v (.slice none 0 0))),(.full (eO [(⟨(⟨(0:Int64),[(⟨(bs [105]),(1:Int64)⟩:c8)]⟩:bj),(bs []),[]⟩:cC)])),(.d (.v (.slice none 0 0)))]:: .cells [(.full (dQ [(bs [110])])),(.d (.v (.slice none 0 0))),(.full (kG [(⟨(bs [97]),(⟨(1:Int),(0:Int),(0:Int),(0:Int),(0:Int)⟩:aF),[(⟨(0:Int64),[(⟨(bs [110]),(1:Int64)⟩:c8)]⟩:bj)]⟩:eH)])),(.full (jc [(⟨(bs [115]),(⟨(1:Int),(0:Int),(0:Int),(0:Int),(0:Int)⟩:aF),[],[(⟨(bs [105]),(⟨(0:Int64),[(⟨(bs [110]),(1:Int64)⟩:c8)]⟩:bj)⟩:dh)],(1:Int),(⟨(3:Int),(bs [97]),cB,dG,jb,[(⟨(⟨(0:Int64),[(⟨(bs [105]),(1:Int64)⟩:c8)]⟩:bj),(bs []),[]⟩:cC)],[]⟩:ar)⟩:bx),(⟨(bs [116]),(⟨(1:Int),(0:Int),(0:Int),(0:Int),(0:Int)⟩:aF),[(⟨(bs [105]),(⟨(0:Int64),[(⟨(bs [110]),(1:Int64)⟩:c8)]⟩:bj)⟩:dh)],[],(5:Int),(⟨(3:Int),(bs [97]),cB,dG,jb,[(⟨(⟨(0:Int64),[(⟨(bs [105]),(1:Int64)⟩:c8)]⟩:bj),(bs []),[]⟩:cC)],[]⟩:ar)⟩:bx)])),(.full (dQ [(bs [115]),(bs [116])]))]::l
theorem ah5{N v1}:KO 4 [(.d (.sl (dy v1)))] aK (Ms N v1):=
 fw Tryz.func4 (gA [[]] (gG (λv2=>[(18,(aK v2))]) (λ_=>[]) (dO (4,oL v1 iD) (aE (λJ=>gE [(3,bT J)] []) λJ=>gE [(3,bF J)] [(16,oL v1 iD)])) λv2=>aE (λh3=>az λv3 h4=>gR [[t0 h3],[(1,cK Qf h4)]]) λh3=>dN λh5=>az λv4 h6=>gA [[f0 h3],[],[],[],[],[],[(7,oL v1 iD),(11,⟨_,_, .eq (congrArg (λz=>AV.agg [(dk (bs [110])),z]) (EN (beq_iff_eq.1 h5)))⟩),(22,oL v1 iD),(40,cK Wy h6)],[]] (aE (λh7=>gA [[t0 h7]] (gG (λv6=>[(2,(aK v6))]) (λ_=>(Pd [])) (dO (4,oL v4.1 FG) (aE (λh8=>az λv5 h9=>gE [(3,bT h8)] [(13,cK Qf h9)]) λh8=>gE [(3,bF h8)] [])) λv6=>gR [])) λh7=>gA [[f0 h7]] (gG (λv9=>[(95,(aK v9))]) (λ_=>(Pd [])) (dO (4,oL v4.1 FG) (aE (λbD=>gE [(3,bT bD),(12,bT rfl)] []) λbD=>az λv7 cl=>eK (3,bF bD) (dO (16,oE (k:=0) (wB cl)) (dO (28,oL v7.dY.dJ iD) (aE (λcX=>gE [(12,bT cX)] []) λcX=>az λv8 cP=>gE [(12,bF cX)] [(43,oE (k:=1) (wB cP)),(55,oL v8.dY.dJ iD)]))))) λv9=>bZ λdd=>az λv10 eY=>gA [[f0 dd],[(4,oE (k:=1) (wB eY))]] (gG (λcz=>[(2,(aK cz))]) (λ_=>(Pd [])) (dO (4,oL v10.dY.dJ iD) (dO (10,oL v1 iD) (aE (λfU=>az λv11 gY=>az λv12 gD=>eK (5,bT fU) (dO (22,oE (k:=0) (mP gY)) (dO (31,oE (k:=0) (mP gD)) (aE (λlu=>dN λir=>az λaH m4=>az λaQ gZ=>az λbA sf=>eK (14,bT lu) (dO (52,oL v10.dY.dJ iD) (dO (58,⟨_,_, .el (xs:=dy v10.dY.dJ) (i:=(aP ((v10.dY.dJ.length:Int)-(1:Int)))) (of_decide_eq_true ir) (mP m4)⟩) (dO (67,oE (k:=0) (wB gZ)) (dO (79,oE (k:=0) (mP sf)) (aE (λoO=>az λbB iw=>gE [(30,bT oO)] [(94,cK Qf iw)]) λoO=>gE [(30,bF oO)] [])))))) λlu=>gE [(14,bF lu),(30,bF rfl)] [])))) λfU=>gE [(5,bF fU),(14,bF rfl),(30,bF rfl)] []))) λcz=>gR [])))))
def Oi(N:Nat)(v1:aV)(v2:an3 aL)(v3:an3 aJ):an5 ((an3 aJ)×Int):=
 (KE N v1 v2 v3).bind λv4=>
 bif (v4.2 !=0)then
  some ([],v4.2)
 else
  bif (decide ((0:Int)<=(v1.aW.length:Int)))then
  bif (decide (((v1.aW.length:Int)).toNat<=v4.1.length))then
  some ((v4.1.drop ((v1.aW.length:Int)).toNat),(0:Int))
  else none
  else none
def zc(N:Nat)(v1:aF):an5 Bool:=
 Option.bind (bif (v1.bk==1)then some true else some (v1.bk==3)) λv2=>
 bif v2 then
  Option.bind (bif (v1.bX==0)then(bif (v1.bS==0)then(bif (v1.ct==0)then some (v1.cu==0)else some false)else some false)else some false) λv3=>
  some v3
 else
  Option.bind (bif (v1.bk==2)then(bif (decide (v1.bX>=2))then(bif (decide (v1.bX<=31))then(bif (decide (v1.bS>=0))then(bif (decide (v1.bS<=30))then(bif (decide (v1.ct>=1))then(bif (decide (v1.ct<=4))then(bif (v1.cu==1)then some true else some (v1.cu==2))else some false)else some false)else some false)else some false)else some false)else some false)else some false) λv4=>
  some v4
def I8(N:Nat):Nat->Int64->Int64->an5 Int64
 |0,_,_=>none
 |v3+1,v4,v5=>
  bif (v5.toInt !=0)then
   (λcd fi=>I8 N v3 cd fi) v5 (Int64.ofInt ((v4.toInt).tmod v5.toInt))
  else
   some v4
def US(N:Nat)(v1:Int64)(v2:Int64):an5 Int64:=
 I8 N N v1 v2
def Qr(N:Nat)(v1:aF)(v2:ax):an5 Bool:=
 bif (v1.bk==2)then
  bif (decide ((0:Int)<=(aP (v1.bX-(1:Int)))))then
  Option.bind (bif (v2.xD.toInt==1)then(bif (decide (v2.xN.toInt>=(-(Int64.ofInt ((1:Int)*2^(min ((aP (v1.bX-(1:Int)))).toNat (IntKind.bits .i64))))).toInt))then some (decide (v2.xN.toInt<(Int64.ofInt ((1:Int)*2^(min ((aP (v1.bX-(1:Int)))).toNat (IntKind.bits .i64)))).toInt))else some false)else some false) λv3=>
  some v3
  else none
 else
  Option.bind (bif (decide (v2.xN.toInt>2147483647))then some true else(bif (decide (v2.xN.toInt<(-2147483647:Int)))then some true else(bif (decide (v2.xD.toInt<1))then some true else some (decide (v2.xD.toInt>2147483647))))) λv4=>
  bif v4 then
   some false
  else
   bif (v1.bk==3)then
    some (v2.xD.toInt==1)
   else
    Option.bind (US N (Ew v2.xN (-v2.xN)) v2.xD) λv5=>
    some (v5.toInt==1)
def T5(N:Nat):an5 ((an3 an4)):=
 some [(bs [115,105,122,101]),(bs [119,104,101,114,101]),(bs [105,110]),(bs [100,101,102]),(bs [111,117,116]),(bs [115,117,109]),(bs [112,114,111,100]),(bs [109,105,110]),(bs [109,97,120]),(bs [115,99,97,110]),(bs [111,118,101,114]),(bs [105,102]),(bs [99,97,115,116]),(bs [102,114,97,99]),(bs [105,110,116]),(bs [102,105,120]),(bs [99,101,105,108]),(bs [102,108,111,111,114]),(bs [122,101,114,111]),(bs [101,118,101,110]),(bs [115,97,116]),(bs [119,114,97,112])]
def Iu(N:Nat)(v2:an4):an3 an4->Nat->an5 Bool
 |[],_=>
  some false
 |v5::v6,v3=>
  bif (bL v5==bL v2)then
   some true
  else
   (Iu N v2 v6 (v3+1))
def vx(N:Nat)(v1:an3 an4)(v2:an4):an5 Bool:=
 Iu N v2 v1 0
def EF(N:Nat)(v1:an4):Nat->Int->an5 Bool
 |0,_=>none
 |v5+1,v6=>
  bif (decide (v6<(v1.size:Int)))then
   bif (decide ((0:Int)<=v6))then
   Option.bind (v1[(v6).toNat]?) λv7=>
   Option.bind (bif (decide ((v7.toNat:Int)>=97))then(bif (decide ((v7.toNat:Int)<=122))then some (!true)else(bif (decide (v6>0))then(bif (decide ((v7.toNat:Int)>=48))then(bif (decide ((v7.toNat:Int)<=57))then some (!true)else some (!((v7.toNat:Int)==95)))else some (!((v7.toNat:Int)==95)))else some (!false)))else(bif (decide (v6>0))then(bif (decide ((v7.toNat:Int)>=48))then(bif (decide ((v7.toNat:Int)<=57))then some (!true)else some (!((v7.toNat:Int)==95)))else some (!((v7.toNat:Int)==95)))else some (!false))) λv8=>
   bif v8 then
    some false
   else
    (λcd=>EF N v1 v5 cd) (aP (v6+(1:Int)))
   else none
  else
   some true
def ym(N:Nat)(v1:an4):an5 Bool:=
 Option.bind (bif (decide ((v1.size:Int)<1))then some true else(bif (decide ((v1.size:Int)>16))then some true else (T5 N).bind λv2=>
 (vx N v2 v1).bind λv3=>
 some v3)) λv4=>
 bif v4 then
  some false
 else
  EF N v1 N (0:Int)
def Al(N:Nat)(v1:an4)(v2:an3 an4):an5 Int:=
 (ym N v1).bind λv3=>
 bif v3 then
  (vx N v2 v1).bind λv4=>
  bif v4 then
   some (8:Int)
  else
   some (0:Int)
 else
  some (7:Int)
def Kq(N:Nat)(v1:aV):an3 an4->Nat->an5 Int
 |[],_=>
  some (0:Int)
 |v5::v6,v3=>
  bif (decide (((v3:Int)).toNat<=v1.bn.length))then
  Option.bind (Al N v5 ((v1.bn.take ((v3:Int)).toNat).drop 0)) λv7=>
  bif (v7 !=0)then
   some v7
  else
   (Kq N v1 v6 (v3+1))
  else none
def H5(N:Nat)(v1:aV):an5 Int:=
 Option.bind (bif (decide ((v1.bn.length:Int)>64))then some true else(bif (decide ((v1.aW.length:Int)>64))then some true else(bif (decide ((v1.aN.length:Int)>64))then some true else(bif (decide ((v1.du.length:Int)>64))then some true else some (decide ((v1.dS.length:Int)>256)))))) λv2=>
 bif v2 then
  some (2:Int)
 else
  Kq N v1 v1.bn 0
def He(N:Nat)(v1:bj):an3 c8->Nat->an5 Bool
 |[],_=>
  some true
 |v4::v5,v2=>
  (ym N v4.au).bind λv6=>
  Option.bind (bif v6 then(bif (v4.eF.toInt==0)then some true else(bif (decide ((v2:Int)>0))then bif (decide ((0:Int)<=(aP ((v2:Int)-(1:Int)))))then
  Option.bind (v1.xL[((aP ((v2:Int)-(1:Int)))).toNat]?) λv7=>
  some (!(Op.bytesLess (bL v7.au) (bL v4.au)))
  else none else some false))else some true) λv8=>
  bif v8 then
   some false
  else
   (He N v1 v5 (v2+1))
def wW(N:Nat)(v1:bj):an5 Bool:=
 He N v1 v1.xL 0
def H8(N:Nat)(v2:an3 an4)(v3:an3 an4):an3 c8->Nat->an5 Bool
 |[],_=>
  some true
 |v6::v7,v4=>
  (vx N v2 v6.au).bind λv8=>
  Option.bind (bif v8 then some false else (vx N v3 v6.au).bind λv9=>
  some (!v9)) λv10=>
  bif v10 then
   some false
  else
   (H8 N v2 v3 v7 (v4+1))
def Kp(N:Nat)(v1:bj)(v2:an3 an4)(v3:an3 an4):an5 Bool:=
 H8 N v2 v3 v1.xL 0
def DN(N:Nat)(v1:bj)(v2:an3 an4):an5 Int:=
 (wW N v1).bind λv3=>
 bif v3 then
  Option.bind (Kp N v1 [] v2) λv4=>
  bif v4 then
   some (0:Int)
  else
   some (9:Int)
 else
  some (1:Int)
def G6(N:Nat)(v2:an3 an4):an3 bj->Nat->an5 Int
 |[],_=>
  some (0:Int)
 |v8::v9,v6=>
  (DN N v8 v2).bind λv10=>
  bif (v10 !=0)then
   some v10
  else
   (G6 N v2 v9 (v6+1))
def Nv(N:Nat)(v1:eH)(v2:an3 an4)(v3:an3 an4):an5 Int:=
 (Al N v1.au v3).bind λv4=>
 bif (v4 !=0)then
  some v4
 else
  (zc N v1.aB).bind λv5=>
  bif v5 then
   bif (decide ((v1.aU.length:Int)>6))then
    some (11:Int)
   else
    G6 N v2 v1.aU 0
  else
   some (10:Int)
def Gs(N:Nat)(v2:an3 an4):an3 dh->Nat->(an3 an4)->an5 Int
 |[],_,_=>
  some (0:Int)
 |v5::v6,v3,v7=>
  (Al N v5.au v7).bind λv8=>
  bif (v8 !=0)then
   some v8
  else
   (DN N v5.dH v2).bind λv9=>
   bif (v9 !=0)then
    some v9
   else
    bif (Nat.ble ((v7.length+1)*16) 140737488355328)then
    (λcd=>Gs N v2 v6 (v3+1) cd) (v7++[v5.au])
    else none
def Oc(N:Nat)(v1:an3 dh)(v2:an3 an4):an5 Int:=
 bif (Nat.ble ((0+v2.length)*16) 140737488355328)then
 Gs N v2 v1 0 v2
 else none
def P1(N:Nat)(v1:bx):an5 Int:=
 Option.bind (bif (decide (v1.c9<0))then some true else some (decide (v1.c9>5))) λv2=>
 bif v2 then
  some (1:Int)
 else
  Option.bind (bif (v1.c9==0)then some true else some (v1.c9==5)) λv3=>
  Option.bind (bif (v3==((v1.bV.length:Int)==0))then(bif (v1.c9==5)then some ((v1.aU.length:Int)==0)else some false)else some true) λv4=>
  bif v4 then
   some (11:Int)
  else
   some (0:Int)
def FC(N:Nat):an3 dh->Nat->(an3 an4)->an5 ((an3 an4))
 |[],_,v11=>
  some v11
 |v9::v10,v7,v11=>
  bif (Nat.ble ((v11.length+1)*16) 140737488355328)then
  (λb2_0=>FC N v10 (v7+1) b2_0) (v11++[v9.au])
  else none
def E5(N:Nat)(v1:bx):an3 dh->Nat->(an3 an4)->an5 ((an3 an4))
 |[],_,v6=>
  FC N v1.bV 0 v6
 |v4::v5,v2,v6=>
  bif (Nat.ble ((v6.length+1)*16) 140737488355328)then
  (λcd=>E5 N v1 v5 (v2+1) cd) (v6++[v4.au])
  else none
def Rj(N:Nat)(v1:bx):an5 ((an3 an4)):=
 E5 N v1 v1.aU 0 []
def A1(N:Nat)(v2:Int)(Zh:ar->Int->an5 Int):an3 ar->Nat->Int->an5 Int
 |[],_,v7=>
  some v7
 |v5::v6,v3,v7=>
  bif (decide (v2>1))then
   Option.bind (Zh v5 (aP (v2-(1:Int)))) λv8=>
   (λcd=>A1 N v2 Zh v6 (v3+1) cd) (if(aP ((1:Int)+v8))>v7 then(aP ((1:Int)+v8))else v7)
  else
   some v7
def vR(N:Nat):Nat->ar->Int->an5 Int
 |0,_,_=>none
 |d+1,v1,v2=>
  A1 N v2 (vR N d) v1.bM 0 (1:Int)
def SQ(N:Nat)(v1:ar)(v2:Int):an5 Int:=vR N N v1 v2
def Y9(N:Nat)(v1:ar):an5 Int:=
 Option.bind (SQ N v1 (41:Int)) λv2=>
 some v2
def Dd(N:Nat)(v2:Int)(Vc:ar->Int->an5 Int):an3 ar->Nat->Int->an5 Int
 |[],_,v7=>
  some v7
 |v5::v6,v3,v7=>
  bif (decide (v7<=v2))then
   Option.bind (Vc v5 (aP (v2-v7))) λv8=>
   (λcd=>Dd N v2 Vc v6 (v3+1) cd) (aP (v7+v8))
  else
   some v7
def Bu(N:Nat):Nat->ar->Int->an5 Int
 |0,_,_=>none
 |d+1,v1,v2=>
  Dd N v2 (Bu N d) v1.bM 0 (1:Int)
def Uq(N:Nat)(v1:ar)(v2:Int):an5 Int:=Bu N N v1 v2
def Zn(N:Nat)(v1:ar):an5 Int:=
 Option.bind (Uq N v1 (2000:Int)) λv2=>
 some (if(2001:Int)<v2 then(2001:Int)else v2)
def Jv(N:Nat):an3 cC->Nat->an5 Bool
 |[],_=>
  some true
 |v7::v8,v5=>
  Option.bind (bif (bL v7.cG==bL (bs []))then(bif (decide ((v7.cM.length:Int)>0))then some true else some false)else(bif (v7.bq.xK.toInt !=0)then some true else some (decide ((v7.bq.xL.length:Int)>0)))) λv9=>
  bif v9 then
   some false
  else
   (Jv N v8 (v5+1))
def Qk(N:Nat)(v1:ar):an5 Bool:=
 Option.bind (bif (decide (v1.ay<1))then some true else some (decide (v1.ay>18))) λv2=>
 bif v2 then
  some false
 else
  Option.bind (bif (v1.ay !=1)then(bif ((v1.dF.xN.toInt==(0:Int64).toInt)&&((v1.dF.xD.toInt==(0:Int64).toInt)&&true))then(bif (v1.ay !=12)then some (!((v1.aB.bk==0)&&((v1.aB.bX==0)&&((v1.aB.bS==0)&&((v1.aB.ct==0)&&((v1.aB.cu==0)&&true))))))else some false)else some true)else some false) λv3=>
  bif v3 then
   some false
  else
   Option.bind (bif (v1.ay !=2)then(bif (v1.bq.xK.toInt !=0)then some true else(bif (decide ((v1.bq.xL.length:Int)>0))then some true else(bif (v1.ay !=3)then(bif (bL v1.au==bL (bs []))then some (decide ((v1.xIdx.length:Int)>0))else some true)else some false)))else(bif (v1.ay !=3)then(bif (bL v1.au==bL (bs []))then some (decide ((v1.xIdx.length:Int)>0))else some true)else some false)) λv4=>
   bif v4 then
    some false
   else
    Jv N v1.xIdx 0
def I6(N:Nat):an3 cC->Nat->an5 Bool
 |[],_=>
  some true
 |v6::v7,v4=>
  Option.bind (bif (bL v6.cG==bL (bs []))then some false else (ym N v6.cG).bind λv8=>
  some (!v8)) λv9=>
  bif v9 then
   some false
  else
   (I6 N v7 (v4+1))
def Oa(N:Nat)(v1:ar):an5 Bool:=
 Option.bind (bif (v1.ay==3)then (ym N v1.au).bind λv2=>
 some (!v2)else some false) λv3=>
 bif v3 then
  some false
 else
  I6 N v1.xIdx 0
def Ld(N:Nat)(v1:Int)(v3:Bool):an5 Int:=
 bif v3 then
  some (1:Int)
 else
  bif (v1==11)then
   some (3:Int)
  else
   some (2:Int)
def JC(N:Nat)(v1:Int)(v2:Bool):an5 Int:=
 bif v2 then
  some (0:Int)
 else
  bif (v1==8)then
   Ld N v1 (v1==8)
  else
   bif (v1==12)then
    Ld N v1 (v1==12)
   else
    Ld N v1 (v1==18)
def Px(N:Nat)(v1:Int):an5 Int:=
 bif (v1==1)then
  JC N v1 (v1==1)
 else
  bif (v1==2)then
   JC N v1 (v1==2)
  else
   JC N v1 (v1==3)
def IW(N:Nat):an3 cC->Nat->an5 Bool
 |[],_=>
  some true
 |v6::v7,v4=>
  bif (decide ((v6.cM.length:Int)>6))then
   some false
  else
   (IW N v7 (v4+1))
def O6(N:Nat)(v1:ar):an5 Bool:=
 (Px N v1.ay).bind λv2=>
 Option.bind (bif ((v1.bM.length:Int) !=v2)then some true else some (decide ((v1.xIdx.length:Int)>6))) λv3=>
 bif v3 then
  some false
 else
  IW N v1.xIdx 0
def GJ(N:Nat)(v1:ar):an5 Bool:=
 Option.bind (bif (decide (v1.ay>=13))then some (decide (v1.ay<=18))else some false) λv2=>
 some v2
def Qp(N:Nat)(v1:Int)(v2:Int):an5 Bool:=
 Option.bind (bif (v1==11)then(bif (v2==0)then some true else(bif (v1==16)then some true else(bif (v1==17)then some true else some (v1==18))))else(bif (v1==16)then some true else(bif (v1==17)then some true else some (v1==18)))) λv3=>
 some v3
def KB(N:Nat)(v1:ar):an3 ar->Nat->an5 Bool
 |[],_=>
  some true
 |v7::v8,v5=>
  (GJ N v7).bind λv9=>
  Option.bind (Qp N v1.ay (v5:Int)) λv10=>
  bif (v9==v10)then
   (KB N v1 v8 (v5+1))
  else
   some false
def NT(N:Nat)(v1:ar):an5 Bool:=
 Option.bind (bif (v1.ay==1)then (zc N v1.aB).bind λv2=>
 some (!v2)else(bif (v1.ay==12)then (zc N v1.aB).bind λv3=>
 some (!v3)else some false)) λv4=>
 bif v4 then
  some false
 else
  KB N v1 v1.bM 0
def HM(N:Nat)(kO:an5 Bool):an3 bj->Nat->an5 Bool
 |[],_=>
  kO
 |aH::aQ,v11=>
  (wW N aH).bind λbA=>
  bif bA then
   (HM N kO aQ (v11+1))
  else
   some false
def HW(N:Nat):an3 cC->Nat->an5 Bool
 |[],_=>
  some true
 |v8::v9,v6=>
  (wW N v8.bq).bind λv10=>
  bif v10 then
   HM N (HW N v9 (v6+1)) v8.cM 0
  else
   some false
def N3(N:Nat)(v1:ar):an5 Bool:=
 Option.bind (bif (v1.ay==1)then (Qr N v1.aB v1.dF).bind λv2=>
 (bif v2 then (wW N v1.bq).bind λv3=>
 some (!v3)else some true)else (wW N v1.bq).bind λv4=>
 some (!v4)) λv5=>
 bif v5 then
  some false
 else
  HW N v1.xIdx 0
def Ie(N:Nat)(R3:ar->an5 Int):an3 ar->Nat->an5 Int
 |[],_=>
  some (0:Int)
 |v9::v10,v7=>
  (R3 v9).bind λv11=>
  bif (v11 !=0)then
   some v11
  else
   (Ie N R3 v10 (v7+1))
def CN(N:Nat):Nat->ar->an5 Int
 |0,_=>none
 |d+1,v1=>
  (Qk N v1).bind λv2=>
  bif v2 then
   (Oa N v1).bind λv3=>
   bif v3 then
    (O6 N v1).bind λv4=>
    bif v4 then
     (NT N v1).bind λv5=>
     bif v5 then
      (N3 N v1).bind λv6=>
      bif v6 then
       Ie N (CN N d) v1.bM 0
      else
       some (1:Int)
     else
      some (10:Int)
    else
     some (11:Int)
   else
    some (7:Int)
  else
   some (5:Int)
def R7(N:Nat)(v1:ar):an5 Int:=CN N N v1
def IN(N:Nat)(v1:ar):an5 Int:=
 (Y9 N v1).bind λv2=>
 bif (decide (v2>40))then
  some (13:Int)
 else
  (Zn N v1).bind λv3=>
  bif (decide (v3>2000))then
   some (2:Int)
  else
   (R7 N v1).bind λv4=>
   some v4
def FR(N:Nat)(v2:an3 an4)(v1:aV):an3 bj->Nat->an5 Int
 |[],_=>
  some (0:Int)
 |v6::v7,v4=>
  (Kp N v6 v2 v1.bn).bind λv8=>
  bif v8 then
   (FR N v2 v1 v7 (v4+1))
  else
   some (9:Int)
def NJ(N:Nat)(v1:aV)(v2:an3 an4)(v3:an3 bj):an5 Int:=
 FR N v2 v1 v3 0
def C8(N:Nat)(v9:bx):an3 dh->Nat->(an3 bj)->an5 (aF×(an3 bj)×Bool)
 |[],_,bA=>
  some (v9.aB,bA,true)
 |aH::aQ,v11,bA=>
  bif (Nat.ble ((bA.length+1)*32) 140737488355328)then
  (λpC=>C8 N v9 aQ (v11+1) pC) (bA++[aH.dH])
  else none
def Hu(N:Nat)(v2:an4):an3 bx->Nat->an5 (aF×(an3 bj)×Bool)
 |[],_=>
  some (dG,[],false)
 |v9::v10,v7=>
  bif (bL v9.au==bL v2)then
   C8 N v9 v9.aU 0 []
  else
   (Hu N v2 v10 (v7+1))
def CJ(N:Nat)(v2:an4)(v1:aV):an3 eH->Nat->an5 (aF×(an3 bj)×Bool)
 |[],_=>
  Hu N v2 v1.aN 0
 |v5::v6,v3=>
  bif (bL v5.au==bL v2)then
   some (v5.aB,v5.aU,true)
  else
   (CJ N v2 v1 v6 (v3+1))
def Gb(N:Nat)(v1:aV)(v2:an4):an5 (aF×(an3 bj)×Bool):=
 CJ N v2 v1 v1.aW 0
def Fi(N:Nat)(v4:aF×(an3 bj)×Bool)(v2:an3 an4)(v1:aV):an3 cC->Nat->an5 (aF×Int)
 |[],_=>
  some (v4.1,(0:Int))
 |v7::v8,v5=>
  bif (bL v7.cG==bL (bs []))then
   (Kp N v7.bq v2 v1.bn).bind λv9=>
   bif v9 then
    (Fi N v4 v2 v1 v8 (v5+1))
   else
    some (dG,(9:Int))
  else
   (Gb N v1 v7.cG).bind λv10=>
   bif v10.2.2 then
    bif (v10.1.bk !=3)then
     some (dG,(10:Int))
    else
     bif ((v10.2.1.length:Int) !=(v7.cM.length:Int))then
      some (dG,(11:Int))
     else
      (NJ N v1 v2 v7.cM).bind λv11=>
      bif (v11 !=0)then
       some (dG,v11)
      else
       (Fi N v4 v2 v1 v8 (v5+1))
   else
    some (dG,(9:Int))
def LF(N:Nat)(v1:aV)(v2:an3 an4)(v3:ar):an5 (aF×Int):=
 (Gb N v1 v3.au).bind λv4=>
 bif v4.2.2 then
  bif ((v4.2.1.length:Int) !=(v3.xIdx.length:Int))then
   some (dG,(11:Int))
  else
   Fi N v4 v2 v1 v3.xIdx 0
 else
  some (dG,(9:Int))
def oK(N:Nat)(v3:ar)(v1:aV)(v2:an3 an4)(R8:aV->(an3 an4)->ar->an5 (aF×Int)):an3 ar->Nat->(an3 aF)->an5 (aF×Int)
 |[],_,v8=>
  Option.bind (bif (v3.ay==1)then some true else some (v3.ay==12)) λv9=>
  bif v9 then
   some (v3.aB,(0:Int))
  else
   bif (v3.ay==2)then
    Option.bind (NJ N v1 v2 [v3.bq]) λv10=>
    some ((⟨(3:Int),(0:Int),(0:Int),(0:Int),(0:Int)⟩:aF),v10)
   else
    bif (v3.ay==3)then
     (LF N v1 v2 v3).bind λv11=>
     some (v11.1,v11.2)
    else
     bif (v3.ay==11)then
      Option.bind (v8[1]?) λv12=>
      Option.bind (v8[2]?) λaH=>
      bif ((v12.bk==aH.bk)&&((v12.bX==aH.bX)&&((v12.bS==aH.bS)&&((v12.ct==aH.ct)&&((v12.cu==aH.cu)&&true)))))then
       some (v12,(0:Int))
      else
       some (dG,(10:Int))
     else
      bif (v3.ay==8)then
       Option.bind (v8[0]?) λaQ=>
       some (aQ,(0:Int))
      else
       bif (decide (v3.ay>=16))then
        some (dG,(0:Int))
       else
        Option.bind (v8[0]?) λbA=>
        Option.bind (v8[1]?) λbB=>
        bif ((bA.bk==bB.bk)&&((bA.bX==bB.bX)&&((bA.bS==bB.bS)&&((bA.ct==bB.ct)&&((bA.cu==bB.cu)&&true)))))then
         bif (decide (v3.ay>=13))then
          some (dG,(0:Int))
         else
          some (bA,(0:Int))
        else
         some (dG,(10:Int))
 |v6::v7,v4,v8=>
  (R8 v1 v2 v6).bind λcz=>
  bif (cz.2 !=0)then
   some (dG,cz.2)
  else
   bif (Nat.ble ((v8.length+1)*40) 140737488355328)then
   (λcd=>oK N v3 v1 v2 R8 v7 (v4+1) cd) (v8++[cz.1])
   else none
def A4(N:Nat):Nat->aV->(an3 an4)->ar->an5 (aF×Int)
 |0,_,_,_=>none
 |d+1,v1,v2,v3=>
  oK N v3 v1 v2 (A4 N d) v3.bM 0 []
def La(N:Nat)(v1:aV)(v2:an3 an4)(v3:ar):an5 (aF×Int):=A4 N N v1 v2 v3
def xB(N:Nat)(v1:aV)(v2:an3 an4)(v3:ar):an5 (aF×Int):=
 (IN N v3).bind λv4=>
 bif (v4 !=0)then
  some (dG,v4)
 else
  (GJ N v3).bind λv5=>
  bif v5 then
   some (dG,(10:Int))
  else
   (La N v1 v2 v3).bind λv6=>
   bif (v6.2 !=0)then
    some (dG,v6.2)
   else
    some (v6.1,(0:Int))
def vL(N:Nat)(v1:aV)(v2:Int)(v3:an3 an4):an5 Int:=
 bif (decide ((0:Int)<=v2))then
 Option.bind (v1.aN[(v2).toNat]?) λv4=>
 (Al N v4.au v3).bind λv5=>
 bif (v5 !=0)then
  some v5
 else
  (zc N v4.aB).bind λv6=>
  bif v6 then
   Option.bind (bif (decide ((v4.aU.length:Int)>6))then some true else some (decide ((v4.bV.length:Int)>6))) λv7=>
   bif v7 then
    some (11:Int)
   else
    bif (Nat.ble ((0+v4.aU.length)*48) 140737488355328)then
    bif (Nat.ble ((v4.aU.length+v4.bV.length)*48) 140737488355328)then
    Option.bind (Oc N (v4.aU++v4.bV) v1.bn) λv8=>
    bif (v8 !=0)then
     some v8
    else
     (P1 N v4).bind λv9=>
     bif (v9 !=0)then
      some v9
     else
      bif (decide ((v2).toNat<=v1.aN.length))then
      (Rj N v4).bind λv10=>
      Option.bind (xB N (⟨v1.bn,[],v1.aW,((v1.aN.take (v2).toNat).drop 0),[]⟩:aV) v10 v4.bO) λv11=>
      bif (v11.2 !=0)then
       some v11.2
      else
       bif ((v11.1.bk==v4.aB.bk)&&((v11.1.bX==v4.aB.bX)&&((v11.1.bS==v4.aB.bS)&&((v11.1.ct==v4.aB.ct)&&((v11.1.cu==v4.aB.cu)&&true)))))then
        some (0:Int)
       else
        some (10:Int)
      else none
    else none
    else none
  else
   some (10:Int)
 else none
def qa(N:Nat)(v1:aV):an3 an4->Nat->Int->an5 (Int×Int)
 |[],_,_=>
  some ((0:Int),(0:Int))
 |v21::gJ,cx,e7=>
  (Gb N v1 v21).bind λv24=>
  bif v24.2.2 then
   bif (decide (((cx:Int)).toNat<=v1.du.length))then
   Option.bind (vx N ((v1.du.take ((cx:Int)).toNat).drop 0) v21) λgN=>
   bif gN then
    some (e7,(8:Int))
   else
    (λwy=>qa N v1 gJ (cx+1) wy) (aP (e7+(1:Int)))
   else none
  else
   some (e7,(9:Int))
def om(N:Nat)(v1:aV):an3 bx->Nat->(an3 an4)->Int->an5 (Int×Int)
 |[],_,_,bY=>
  qa N v1 v1.du 0 bY
 |bA::bB,aH,cz,bY=>
  Option.bind (vL N v1 (aH:Int) cz) λfO=>
  bif (fO !=0)then
   some (bY,fO)
  else
   bif (Nat.ble ((cz.length+1)*16) 140737488355328)then
   (λpC vM=>om N v1 bB (aH+1) pC vM) (cz++[bA.au]) (aP (bY+(1:Int)))
   else none
def sZ(N:Nat)(v1:aV):an3 eH->Nat->(an3 an4)->Int->an5 (Int×Int)
 |[],_,v11,v12=>
  om N v1 v1.aN 0 v11 v12
 |v9::v10,v7,v11,v12=>
  (Nv N v9 v1.bn v11).bind λkH=>
  bif (kH !=0)then
   some (v12,kH)
  else
   bif (Nat.ble ((v11.length+1)*16) 140737488355328)then
   (λb2_0 wP=>sZ N v1 v10 (v7+1) b2_0 wP) (v11++[v9.au]) (aP (v12+(1:Int)))
   else none
def CB(N:Nat)(v1:aV):an3 gL->Nat->an5 (Int×Int)
 |[],_=>
  bif (Nat.ble ((0+v1.bn.length)*16) 140737488355328)then
  sZ N v1 v1.aW 0 v1.bn (2:Int)
  else none
 |v5::v6,v3=>
  (DN N v5.bq v1.bn).bind λv28=>
  bif (v28 !=0)then
   some ((1:Int),v28)
  else
   (CB N v1 v6 (v3+1))
def x8(N:Nat)(v1:aV):an5 (Int×Int):=
 (H5 N v1).bind λv2=>
 bif (v2 !=0)then
  some ((0:Int),v2)
 else
  CB N v1 v1.dS 0
def KL(N:Nat)(v2:an4):an3 aL->Nat->an5 (Int64×Bool)
 |[],_=>
  some ((0:Int64),false)
 |v5::v6,v3=>
  bif (bL v5.au==bL v2)then
   some (v5.dF,true)
  else
   (KL N v2 v6 (v3+1))
def Tu(N:Nat)(v1:an3 aL)(v2:an4):an5 (Int64×Bool):=
 KL N v2 v1 0
def MA(N:Nat)(v1:bj):an5 Int:=
 (wW N v1).bind λv2=>
 bif v2 then
  some (0:Int)
 else
  some (1:Int)
def tP(N:Nat)(v1:Int64):an5 Int:=
 bif (decide (v1.toInt<0))then
  some (IntKind.u64.wrap ((IntKind.u64.wrap (-(v1+(1:Int64))).toInt)+(1:Int)))
 else
  some (IntKind.u64.wrap v1.toInt)
def QC(N:Nat)(v1:dw)(v2:Int):an5 dw:=
 Option.bind (some (IntKind.u64.wrap ((IntKind.u64.wrap (v1.fx+((v2).tmod (4294967296:Int))))+(0:Int)))) λv3=>
 Option.bind (some (IntKind.u64.wrap ((v3).tdiv (4294967296:Int)))) λv4=>
 Option.bind (some (IntKind.u64.wrap ((v2).tdiv (4294967296:Int)))) λv5=>
 Option.bind (some (IntKind.u64.wrap ((IntKind.u64.wrap (v1.fM+((v5).tmod (4294967296:Int))))+v4))) λv6=>
 Option.bind (some (IntKind.u64.wrap ((v6).tdiv (4294967296:Int)))) λv7=>
 Option.bind (some (IntKind.u64.wrap ((v5).tdiv (4294967296:Int)))) λv8=>
 Option.bind (some (IntKind.u64.wrap ((IntKind.u64.wrap (v1.gi+((v8).tmod (4294967296:Int))))+v7))) λv9=>
 Option.bind (some (IntKind.u64.wrap ((v9).tdiv (4294967296:Int)))) λv10=>
 Option.bind (some (IntKind.u64.wrap ((v8).tdiv (4294967296:Int)))) λv11=>
 Option.bind (some (IntKind.u64.wrap ((IntKind.u64.wrap (v1.gj+((v11).tmod (4294967296:Int))))+v10))) λv12=>
 Option.bind (some (IntKind.u64.wrap ((v12).tdiv (4294967296:Int)))) λaH=>
 Option.bind (some (IntKind.u64.wrap ((v11).tdiv (4294967296:Int)))) λaQ=>
 Option.bind (some (IntKind.u64.wrap ((IntKind.u64.wrap (v1.gn+((aQ).tmod (4294967296:Int))))+aH))) λbA=>
 Option.bind (some (IntKind.u64.wrap ((bA).tdiv (4294967296:Int)))) λbB=>
 Option.bind (some (IntKind.u64.wrap ((aQ).tdiv (4294967296:Int)))) λcz=>
 Option.bind (some (IntKind.u64.wrap ((IntKind.u64.wrap (v1.gp+((cz).tmod (4294967296:Int))))+bB))) λbY=>
 Option.bind (some (IntKind.u64.wrap ((bY).tdiv (4294967296:Int)))) λcx=>
 Option.bind (some (IntKind.u64.wrap ((cz).tdiv (4294967296:Int)))) λv20=>
 some (⟨((v3).tmod (4294967296:Int)),((v6).tmod (4294967296:Int)),((v9).tmod (4294967296:Int)),((v12).tmod (4294967296:Int)),((bA).tmod (4294967296:Int)),((bY).tmod (4294967296:Int))⟩:dw)
def KW(N:Nat)(v1:dw)(v2:Int):an5 dw:=
 Option.bind (some (IntKind.u64.wrap ((IntKind.u64.wrap (v1.fM+((v2).tmod (4294967296:Int))))+(0:Int)))) λv3=>
 Option.bind (some (IntKind.u64.wrap ((v3).tdiv (4294967296:Int)))) λv4=>
 Option.bind (some (IntKind.u64.wrap ((v2).tdiv (4294967296:Int)))) λv5=>
 Option.bind (some (IntKind.u64.wrap ((IntKind.u64.wrap (v1.gi+((v5).tmod (4294967296:Int))))+v4))) λv6=>
 Option.bind (some (IntKind.u64.wrap ((v6).tdiv (4294967296:Int)))) λv7=>
 Option.bind (some (IntKind.u64.wrap ((v5).tdiv (4294967296:Int)))) λv8=>
 Option.bind (some (IntKind.u64.wrap ((IntKind.u64.wrap (v1.gj+((v8).tmod (4294967296:Int))))+v7))) λv9=>
 Option.bind (some (IntKind.u64.wrap ((v9).tdiv (4294967296:Int)))) λv10=>
 Option.bind (some (IntKind.u64.wrap ((v8).tdiv (4294967296:Int)))) λv11=>
 Option.bind (some (IntKind.u64.wrap ((IntKind.u64.wrap (v1.gn+((v11).tmod (4294967296:Int))))+v10))) λv12=>
 Option.bind (some (IntKind.u64.wrap ((v12).tdiv (4294967296:Int)))) λaH=>
 Option.bind (some (IntKind.u64.wrap ((v11).tdiv (4294967296:Int)))) λaQ=>
 Option.bind (some (IntKind.u64.wrap ((IntKind.u64.wrap (v1.gp+((aQ).tmod (4294967296:Int))))+aH))) λbA=>
 Option.bind (some (IntKind.u64.wrap ((bA).tdiv (4294967296:Int)))) λbB=>
 Option.bind (some (IntKind.u64.wrap ((aQ).tdiv (4294967296:Int)))) λcz=>
 some (⟨v1.fx,((v3).tmod (4294967296:Int)),((v6).tmod (4294967296:Int)),((v9).tmod (4294967296:Int)),((v12).tmod (4294967296:Int)),((bA).tmod (4294967296:Int))⟩:dw)
def Ph(N:Nat)(v1:dw)(v2:Int):an5 dw:=
 Option.bind (some (IntKind.u64.wrap ((IntKind.u64.wrap (v1.gi+((v2).tmod (4294967296:Int))))+(0:Int)))) λv3=>
 Option.bind (some (IntKind.u64.wrap ((v3).tdiv (4294967296:Int)))) λv4=>
 Option.bind (some (IntKind.u64.wrap ((v2).tdiv (4294967296:Int)))) λv5=>
 Option.bind (some (IntKind.u64.wrap ((IntKind.u64.wrap (v1.gj+((v5).tmod (4294967296:Int))))+v4))) λv6=>
 Option.bind (some (IntKind.u64.wrap ((v6).tdiv (4294967296:Int)))) λv7=>
 Option.bind (some (IntKind.u64.wrap ((v5).tdiv (4294967296:Int)))) λv8=>
 Option.bind (some (IntKind.u64.wrap ((IntKind.u64.wrap (v1.gn+((v8).tmod (4294967296:Int))))+v7))) λv9=>
 Option.bind (some (IntKind.u64.wrap ((v9).tdiv (4294967296:Int)))) λv10=>
 Option.bind (some (IntKind.u64.wrap ((v8).tdiv (4294967296:Int)))) λv11=>
 Option.bind (some (IntKind.u64.wrap ((IntKind.u64.wrap (v1.gp+((v11).tmod (4294967296:Int))))+v10))) λv12=>
 Option.bind (some (IntKind.u64.wrap ((v12).tdiv (4294967296:Int)))) λaH=>
 Option.bind (some (IntKind.u64.wrap ((v11).tdiv (4294967296:Int)))) λaQ=>
 some (⟨v1.fx,v1.fM,((v3).tmod (4294967296:Int)),((v6).tmod (4294967296:Int)),((v9).tmod (4294967296:Int)),((v12).tmod (4294967296:Int))⟩:dw)
def yi(N:Nat)(v1:dw)(v2:Int)(v3:Int):an5 dw:=
 Option.bind (QC N v1 (IntKind.u64.wrap (((v2).tmod (4294967296:Int))*((v3).tmod (4294967296:Int))))) λv4=>
 Option.bind (KW N v4 (IntKind.u64.wrap (((v2).tmod (4294967296:Int))*(IntKind.u64.wrap ((v3).tdiv (4294967296:Int)))))) λv5=>
 Option.bind (KW N v5 (IntKind.u64.wrap ((IntKind.u64.wrap ((v2).tdiv (4294967296:Int)))*((v3).tmod (4294967296:Int))))) λv6=>
 Option.bind (Ph N v6 (IntKind.u64.wrap ((IntKind.u64.wrap ((v2).tdiv (4294967296:Int)))*(IntKind.u64.wrap ((v3).tdiv (4294967296:Int)))))) λv7=>
 some v7
def Ds(N:Nat)(v2:an4):an3 aL->Nat->an5 (Int64×Bool)
 |[],_=>
  some ((0:Int64),false)
 |v5::v6,v3=>
  bif (bL v5.au==bL v2)then
   some (v5.dF,true)
  else
   (Ds N v2 v6 (v3+1))
def aaI(N:Nat)(v1:an3 aL)(v2:an4):an5 (Int64×Bool):=
 Ds N v2 v1 0
def Po(N:Nat)(v1:dw)(v2:dw):an5 Bool:=
 bif (v1.gp !=v2.gp)then
  some (decide (v1.gp<v2.gp))
 else
  bif (v1.gn !=v2.gn)then
   some (decide (v1.gn<v2.gn))
  else
   bif (v1.gj !=v2.gj)then
    some (decide (v1.gj<v2.gj))
   else
    bif (v1.gi !=v2.gi)then
     some (decide (v1.gi<v2.gi))
    else
     bif (v1.fM !=v2.fM)then
      some (decide (v1.fM<v2.fM))
     else
      bif (v1.fx !=v2.fx)then
       some (decide (v1.fx<v2.fx))
      else
       some false
def IL(N:Nat)(v4:Int)(v2:dw)(v6:Int)(v3:Int)(v8:Int)(v5:Int)(v10:Int)(v7:Int)(v12:Int)(v9:Int)(v11:Int)(aH:Int)(aQ:Int):an5 dw:=
 some (⟨(IntKind.u64.wrap (v4-(IntKind.u64.wrap (v2.fx+(0:Int))))),(IntKind.u64.wrap (v6-(IntKind.u64.wrap (v2.fM+v3)))),(IntKind.u64.wrap (v8-(IntKind.u64.wrap (v2.gi+v5)))),(IntKind.u64.wrap (v10-(IntKind.u64.wrap (v2.gj+v7)))),(IntKind.u64.wrap (v12-(IntKind.u64.wrap (v2.gn+v9)))),(IntKind.u64.wrap (aQ-(IntKind.u64.wrap (v2.gp+v11))))⟩:dw)
def KA(N:Nat)(v1:dw)(v2:dw)(v4:Int)(v6:Int)(v3:Int)(v8:Int)(v5:Int)(v10:Int)(v7:Int)(v9:Int)(v11:Int)(v12:Int):an5 dw:=
 bif (decide (v1.gp<(IntKind.u64.wrap (v2.gp+v11))))then
  IL N v4 v2 v6 v3 v8 v5 v10 v7 v12 v9 v11 (1:Int) (IntKind.u64.wrap (v1.gp+(4294967296:Int)))
 else
  IL N v4 v2 v6 v3 v8 v5 v10 v7 v12 v9 v11 (0:Int) v1.gp
def H4(N:Nat)(v1:dw)(v2:dw)(v4:Int)(v6:Int)(v3:Int)(v8:Int)(v5:Int)(v7:Int)(v9:Int)(v10:Int):an5 dw:=
 bif (decide (v1.gn<(IntKind.u64.wrap (v2.gn+v9))))then
  KA N v1 v2 v4 v6 v3 v8 v5 v10 v7 v9 (1:Int) (IntKind.u64.wrap (v1.gn+(4294967296:Int)))
 else
  KA N v1 v2 v4 v6 v3 v8 v5 v10 v7 v9 (0:Int) v1.gn
def Hm(N:Nat)(v1:dw)(v2:dw)(v4:Int)(v6:Int)(v3:Int)(v5:Int)(v7:Int)(v8:Int):an5 dw:=
 bif (decide (v1.gj<(IntKind.u64.wrap (v2.gj+v7))))then
  H4 N v1 v2 v4 v6 v3 v8 v5 v7 (1:Int) (IntKind.u64.wrap (v1.gj+(4294967296:Int)))
 else
  H4 N v1 v2 v4 v6 v3 v8 v5 v7 (0:Int) v1.gj
def IM(N:Nat)(v1:dw)(v2:dw)(v4:Int)(v3:Int)(v5:Int)(v6:Int):an5 dw:=
 bif (decide (v1.gi<(IntKind.u64.wrap (v2.gi+v5))))then
  Hm N v1 v2 v4 v6 v3 v5 (1:Int) (IntKind.u64.wrap (v1.gi+(4294967296:Int)))
 else
  Hm N v1 v2 v4 v6 v3 v5 (0:Int) v1.gi
def Jc(N:Nat)(v1:dw)(v2:dw)(v3:Int)(v4:Int):an5 dw:=
 bif (decide (v1.fM<(IntKind.u64.wrap (v2.fM+v3))))then
  IM N v1 v2 v4 v3 (1:Int) (IntKind.u64.wrap (v1.fM+(4294967296:Int)))
 else
  IM N v1 v2 v4 v3 (0:Int) v1.fM
def JH(N:Nat)(v1:dw)(v2:dw):an5 dw:=
 bif (decide (v1.fx<(IntKind.u64.wrap (v2.fx+(0:Int)))))then
  Jc N v1 v2 (1:Int) (IntKind.u64.wrap (v1.fx+(4294967296:Int)))
 else
  Jc N v1 v2 (0:Int) v1.fx
def xo:dw:=⟨(0:Int),(0:Int),(0:Int),(0:Int),(0:Int),(0:Int)⟩
def zq(N:Nat)(v2:an3 aL):an3 c8->Nat->Int->Int->Int->Int->Int->Int->Int->Int->Int->Int->Int->Int->an5 (Int64×Int)
 |[],_,v20,v21,gJ,e7,v24,gN,fO,kH,v28,rL,v30,v31=>
  Option.bind (Po N (⟨v20,v21,gJ,e7,v24,gN⟩:dw) (⟨fO,kH,v28,rL,v30,v31⟩:dw)) λEp=>
  bif Ep then
   Option.bind (JH N (⟨fO,kH,v28,rL,v30,v31⟩:dw) (⟨v20,v21,gJ,e7,v24,gN⟩:dw)) λmZ=>
   Option.bind (bif (mZ.gi !=0)then some true else(bif (mZ.gj !=0)then some true else(bif (mZ.gn !=0)then some true else(bif (mZ.gp !=0)then some true else some (decide ((IntKind.u64.wrap (mZ.fx+(IntKind.u64.wrap (mZ.fM*(4294967296:Int)))))>9223372036854775808)))))) λv34=>
   bif v34 then
    some ((0:Int64),(3:Int))
   else
    some (((-(Int64.ofInt (IntKind.u64.wrap ((IntKind.u64.wrap (mZ.fx+(IntKind.u64.wrap (mZ.fM*(4294967296:Int)))))-(1:Int)))))-(1:Int64)),(0:Int))
  else
   Option.bind (JH N (⟨v20,v21,gJ,e7,v24,gN⟩:dw) (⟨fO,kH,v28,rL,v30,v31⟩:dw)) λuK=>
   Option.bind (bif (uK.gi !=0)then some true else(bif (uK.gj !=0)then some true else(bif (uK.gn !=0)then some true else(bif (uK.gp !=0)then some true else some (decide ((IntKind.u64.wrap (uK.fx+(IntKind.u64.wrap (uK.fM*(4294967296:Int)))))>9223372036854775807)))))) λv36=>
   bif v36 then
    some ((0:Int64),(3:Int))
   else
    some ((Int64.ofInt (IntKind.u64.wrap (uK.fx+(IntKind.u64.wrap (uK.fM*(4294967296:Int)))))),(0:Int))
 |bY::cx,bB,v20,v21,gJ,e7,v24,gN,fO,kH,v28,rL,v30,v31=>
  (aaI N v2 bY.au).bind λv37=>
  bif v37.2 then
   bif ((decide (v37.1.toInt<0))==(decide (bY.eF.toInt<0)))then
    (tP N v37.1).bind λv38=>
    (tP N bY.eF).bind λv39=>
    Option.bind (yi N (⟨v20,v21,gJ,e7,v24,gN⟩:dw) v38 v39) λv40=>
    (λb2_0 wP O8 Mw OS QM RK Ql Rc On LO Qz=>zq N v2 cx (bB+1) b2_0 wP O8 Mw OS QM RK Ql Rc On LO Qz) v40.fx v40.fM v40.gi v40.gj v40.gn v40.gp fO kH v28 rL v30 v31
   else
    (tP N v37.1).bind λv41=>
    (tP N bY.eF).bind λv42=>
    Option.bind (yi N (⟨fO,kH,v28,rL,v30,v31⟩:dw) v41 v42) λAm=>
    (λb2_0 wP O8 Mw OS QM RK Ql Rc On LO Qz=>zq N v2 cx (bB+1) b2_0 wP O8 Mw OS QM RK Ql Rc On LO Qz) v20 v21 gJ e7 v24 gN Am.fx Am.fM Am.gi Am.gj Am.gn Am.gp
  else
   some ((0:Int64),(9:Int))
def X1(N:Nat)(v2:an3 aL)(v1:bj)(v4:Int)(v5:Int)(v6:Int)(v7:Int)(v8:Int)(v9:Int)(v10:Int)(v11:Int)(v12:Int)(aH:Int)(aQ:Int)(bA:Int):an5 (Int64×Int):=
 zq N v2 v1.xL 0 v4 v5 v6 v7 v8 v9 v10 v11 v12 aH aQ bA
def Mc(N:Nat)(v1:bj)(v2:an3 aL):an5 (Int64×Int):=
 (MA N v1).bind λv3=>
 bif (v3 !=0)then
  some ((0:Int64),(1:Int))
 else
  bif (decide (v1.xK.toInt<0))then
   (tP N v1.xK).bind λv44=>
   Option.bind (yi N xo v44 (1:Int)) λzY=>
   X1 N v2 v1 (0:Int) (0:Int) (0:Int) (0:Int) (0:Int) (0:Int) zY.fx zY.fM zY.gi zY.gj zY.gn zY.gp
  else
   (tP N v1.xK).bind λv46=>
   Option.bind (yi N xo v46 (1:Int)) λyV=>
   X1 N v2 v1 yV.fx yV.fM yV.gi yV.gj yV.gn yV.gp (0:Int) (0:Int) (0:Int) (0:Int) (0:Int) (0:Int)
def Pe(N:Nat)(v1:gL)(v2:an3 aL):an5 (Bool×Int):=
 (Mc N v1.bq v2).bind λv3=>
 bif (v3.2 !=0)then
  some (false,v3.2)
 else
  Option.bind (bif (v3.1.toInt==0)then some true else(bif (decide (v3.1.toInt>0))then some (!v1.DW)else some false)) λv4=>
  some (v4,(0:Int))
def JL(N:Nat)(v2:an3 aL):an3 gL->Nat->an5 Int
 |[],_=>
  some (0:Int)
 |v9::v10,v7=>
  (Pe N v9 v2).bind λv11=>
  bif (v11.2 !=0)then
   some v11.2
  else
   bif v11.1 then
    (JL N v2 v10 (v7+1))
   else
    some (16:Int)
def OX(N:Nat)(v2:an3 aL)(v1:aV):an3 an4->Nat->an5 Int
 |[],_=>
  JL N v2 v1.dS 0
 |v5::v6,v3=>
  (Tu N v2 v5).bind λv12=>
  Option.bind (bif v12.2 then(bif (decide (v12.1.toInt<1))then some true else some (decide (v12.1.toInt>4096)))else some true) λaH=>
  bif aH then
   some (15:Int)
  else
   (OX N v2 v1 v6 (v3+1))
end Go.Proofs.YtpeecnpmcbnahaaGreatDoor
namespace Go.Proofs.YtpeecnpmcbnahaaGreatDoor
end Go.Proofs.YtpeecnpmcbnahaaGreatDoor
namespace Go.Proofs.YtpeecnpmcbnahaaGreatDoor
open Go.RowKit
theorem DI(b:an4)(i:Nat):b[i]?=(bL b)[i]?:=by
 unfold bL;rw[anC];by_cases h:i<b.size
 ·rw[getElem?_pos b i h,anB (xs:=b.data) (by exact h)];rfl
 ·rw[getElem?_neg b i h,Array.getElem?_eq_none (xs:=b.data) (by exact Nat.le_of_not_lt h)]
theorem sG(b:an4):b.size=(bL b).length:=by unfold bL;rw[anM];rfl
theorem HG{i:Nat}(h:i<9223372036854775807):aP ((i:Int)+1)=((i+1:Nat):Int):=by
 unfold aP;rw[IntKind.wrap_i64]<;>omega
def nD(c:UInt8):Bool:=decide (97<=c.toNat)&&decide (c.toNat<=122)
def jQ(c:UInt8):Bool:=nD c||(decide (48<=c.toNat)&&decide (c.toNat<=57))||c.toNat==95
def te(l:an3 UInt8):Bool:=nG.any λw=>bL w==l
def HA(l:an3 UInt8):Bool:=decide (1<=l.length)&&(decide (l.length<=16)&&(!te l&&((l.take 1).all nD&&l.all jQ)))
def hY(s:an4):Bool:=HA (bL s)
theorem Te(c:UInt8):IntKind.i32.wrap (c.toNat:Int)=(c.toNat:Int):=by
 have:=c.toNat_lt;rw[IntKind.wrap_i32]<;>omega
theorem mR{p q:Prop} [Decidable p] [Decidable q](h:p↔q):decide p=decide q:=decide_eq_decide.2 h
theorem gy(a b:Bool):(bif a then some b else some false)=some (a&&b):=by cases a<;>rfl
theorem l5(a b:Bool):(bif a then some true else some b)=some (a||b):=by cases a<;>rfl
theorem Tt(N:Nat)(c:UInt8):DB N (c.toNat:Int)=some (nD c):=by
 unfold DB nD;rw[gy,anc,mR (q:=97<=c.toNat) (by omega),mR (p:=(c.toNat:Int)<=122) (q:=c.toNat<=122) (by omega)]
theorem acr(N:Nat)(c:UInt8):KU N (c.toNat:Int)=some (decide (48<=c.toNat)&&decide (c.toNat<=57)):=by
 unfold KU;rw[gy,anc,mR (q:=48<=c.toNat) (by omega),mR (p:=(c.toNat:Int)<=57) (q:=c.toNat<=57) (by omega)]
theorem rm(n k:Nat):((n:Int)==(k:Int))=(n==k):=by
 rw[Bool.eq_iff_iff,beq_iff_eq,beq_iff_eq];omega
theorem agQ(N:Nat)(c:UInt8):KV N (c.toNat:Int)=some (jQ c):=by
 unfold KV jQ;rw[Tt,anc,acr,anc];have:=rm c.toNat 95;rw[show(((c.toNat:Int)==95))=(c.toNat==95)from this];rw[l5,l5,anc,Bool.or_assoc]
theorem Ta(N:Nat)(s:an4)(hs:s.size<9223372036854775807):∀(k i:Nat),i<=s.size->s.size-i<k->Fu N s k (i:Int)=some ((i+(((bL s).drop i).takeWhile jQ).length:Nat):Int)
 |0,i,_,hk=>absurd hk (anH _)
 |k+1,i,hi,hk=>by
  rw[Fu];by_cases aI:i<s.size
  ·have J:decide ((i:Int)<(s.size:Int))=true:=anW (by omega);have h2:decide ((0:Int)<=(i:Int))=true:=anW (by omega);rw[J,h2];simp only[cond_true,anG];have hl:i<(bL s).length:=by rw[<-sG];exact aI
   rw[DI,ani hl,List.drop_eq_getElem_cons hl,anc,Te,agQ,anc,anc];cases hw:jQ (bL s)[i]with
   |true=>
    simp only[cond_true];rw[HG (Nat.lt_trans aI hs),Ta N s hs k (i+1) aI (by omega),List.takeWhile_cons_of_pos hw,anh]
    congr 2;omega
   |false=>
    simp only[cond_false];rw[List.takeWhile_cons_of_neg (by rw[hw];simp)];rfl
  ·have J:decide ((i:Int)<(s.size:Int))=false:=anX (by omega);rw[J];simp only[cond_false,anc];rw[List.drop_eq_nil_of_le (by rw[<-sG];omega)];rfl
theorem adj(N:Nat)(s:an4)(hs:s.size<9223372036854775807)(hN:s.size<N):GX N s=some ((((bL s).takeWhile jQ).length:Nat):Int):=by
 unfold GX;have:=Ta N s hs N 0 (Nat.zero_le _) (by omega);rw[anO,anz]at this;exact this
theorem Z1{α:Type}(p:α->Bool):∀l:an3 α,((l.takeWhile p).length==l.length)=l.all p
 |[]=>rfl
 |x::l=>by
  cases h:p x with
  |true=>
   rw[List.takeWhile_cons_of_pos h,anZ,h,Bool.true_and,<-Z1 p l];simp
  |false=>rw[List.takeWhile_cons_of_neg (by rw[h];simp),anZ,h];simp
theorem Rs(N:Nat)(v:an4):∀(l:an3 an4)(k:Nat),∃z:Int,JV N v l k=some z/\decide (z>=0)=l.any λw=>bL w==bL v
 |[],k=>⟨-1,rfl,rfl⟩
 |w::l,k=>by
  rw[JV,an0];have hc:(bL v==bL w)=(bL w==bL v):=by rw[Bool.eq_iff_iff,beq_iff_eq,beq_iff_eq];exact eq_comm
  cases h:bL v==bL w with
  |true=>rw[hc]at h;exact⟨k,rfl,by rw[h,Bool.true_or];exact anW (by omega)⟩
  |false=>
   obtain⟨z,J,h2⟩:=Rs N v l (k+1);rw[hc]at h;exact⟨z,J,by rw[h,Bool.false_or];exact h2⟩
theorem adV(N:Nat)(v:an4):IS N v=some (te (bL v)):=by
 unfold IS Mn yR Gy;obtain⟨z,J,h2⟩:=Rs N v nG 0;rw[anc,J,anc,anc,h2];rfl
theorem Ll{α:Type}{l:an3 α}(h:0<l.length):l.take 1=[l[0]]:=by
 cases l with
 |nil=>cases h
 |cons x l=>rfl
theorem s8:bL (bs [])=[]:=rfl
theorem JN(N:Nat)(s:an4)(hN:16<N):vA N s=some (hY s):=by
 unfold vA hY HA;have hz:=sG s;by_cases h0:(bL s).length=0
 ·have:bL s=[]:=List.length_eq_zero_iff.1 h0;rw[this];rfl
 have cA:(bL s==bL (bs []))=false:=by
  rw[s8,beq_eq_false_iff_ne];intro h;rw[h]at h0;exact h0 rfl
 rw[cA,anW (show 1<=(bL s).length by omega),Bool.true_and];simp only[cond_false];by_cases dd:(bL s).length<=16
 ·rw[anW (show(s.size:Int)<=16 by omega),anW dd,Bool.true_and];simp only[cond_true];have hl:0<(bL s).length:=by omega
  rw[DI,ani hl,anc,Te,Tt,anc,adj N s (by omega) (by omega),anc,adV,anc];rw[hz,rm,Z1];have ht:(bL s).take 1=[(bL s)[0]]:=Ll hl;rw[ht,anZ,List.all_nil,Bool.and_true,gy,gy,anc]
  congr 1
  cases te (bL s)<;>cases nD (bL s)[0]<;>cases (bL s).all jQ<;>rfl
 ·rw[anX (show ¬(s.size:Int)<=16 by omega),anX dd];rfl
theorem ajI(N:Nat)(b:Bool):iG N b=some b:=by cases b<;>rfl
theorem amz(a b:Bool):(bif a then some a else some b)=some (a||b):=by cases a<;>rfl
theorem ady(a b:an3 UInt8):(a==b)=(b==a):=by rw[Bool.eq_iff_iff,beq_iff_eq,beq_iff_eq];exact eq_comm
theorem ajN(N:Nat)(v:an4):Gd N v=some (te (bL v)):=by
 simp only[Gd,ajI,amz,te,nG,an0,List.any_nil,Bool.or_false,ady (bL v)]
theorem Cw(n k:Nat):decide ((n:Int)<(k:Int))= !decide (k<=n):=by
 by_cases h:k<=n
 ·rw[anW h,anX (by omega)];rfl
 ·rw[anX h,anW (by omega)];rfl
theorem kN(n k:Nat):decide ((n:Int)>(k:Int))= !decide (n<=k):=by
 by_cases h:n<=k
 ·rw[anW h,anX (by omega)];rfl
 ·rw[anX h,anW (by omega)];rfl
theorem Tb(n k:Nat):decide ((n:Int)>=(k:Int))=decide (k<=n):=mR (by omega)
theorem vi(n k:Nat):decide ((n:Int)<=(k:Int))=decide (n<=k):=mR (by omega)
theorem Se(n k:Nat):((n:Int) !=(k:Int))= !(n==k):=by unfold bne;rw[rm]
theorem ahO(c:UInt8):(bif (decide ((c.toNat:Int)<97))then(bif (decide ((c.toNat:Int)<48))then some ((c.toNat:Int) !=95)else(bif (decide ((c.toNat:Int)>57))then some ((c.toNat:Int) !=95)else some false))else(bif (decide ((c.toNat:Int)>122))then(bif (decide ((c.toNat:Int)<48))then some ((c.toNat:Int) !=95)else(bif (decide ((c.toNat:Int)>57))then some ((c.toNat:Int) !=95)else some false))else some false))=some (!jQ c):=by
 have a1:=Cw c.toNat 97;have a2:=Cw c.toNat 48;have a3:=kN c.toNat 57;have a4:=kN c.toNat 122;have a5:=Se c.toNat 95;simp only[Int.cast_ofNat_Int]at a1 a2 a3 a4 a5;rw[a1,a2,a3,a4,a5];unfold jQ nD;cases decide (97<=c.toNat)<;>cases decide (48<=c.toNat)<;>cases decide (c.toNat<=57)<;>cases decide (c.toNat<=122)<;>cases (c.toNat==95)<;>rfl
theorem R2(N:Nat)(s:an4)(hs:s.size<9223372036854775807):∀(k i:Nat),i<=s.size->s.size-i<k->zZ N s k (i:Int)=some (((bL s).drop i).all jQ)
 |0,i,_,hk=>absurd hk (anH _)
 |k+1,i,hi,hk=>by
  rw[zZ];by_cases aI:i<s.size
  ·have J:decide ((i:Int)<(s.size:Int))=true:=anW (by omega);have h2:decide ((0:Int)<=(i:Int))=true:=anW (by omega);rw[J,h2];simp only[cond_true,anG];have hl:i<(bL s).length:=by rw[<-sG];exact aI
   rw[DI,ani hl,List.drop_eq_getElem_cons hl,anc,ahO,anc,anZ];cases hw:jQ (bL s)[i]with
   |true=>
    simp only[Bool.not_true,cond_false,Bool.true_and];rw[HG (Nat.lt_trans aI hs),R2 N s hs k (i+1) aI (by omega)]
   |false=>rfl
  ·have J:decide ((i:Int)<(s.size:Int))=false:=anX (by omega);rw[J];simp only[cond_false];rw[List.drop_eq_nil_of_le (by rw[<-sG];omega)];rfl
theorem abw(N:Nat)(s:an4)(hN:16<N):IK N s=some (hY s):=by
 unfold IK hY HA;have hz:=sG s;have a1:=Cw s.size 1;have a2:=kN s.size 16;simp only[Int.cast_ofNat_Int]at a1 a2;rw[a1,a2,hz];cases J:decide (1<=(bL s).length)with
 |false=>rfl
 |true=>
  cases dd:decide ((bL s).length<=16)with
  |false=>rfl
  |true=>
   have mA:=of_decide_eq_true J;have adF:=of_decide_eq_true dd;have hl:0<(bL s).length:=by omega
   simp only[Bool.not_true,cond_false,Bool.true_and];rw[ajN,anc,DI,ani hl,anc];have b1:=Cw (bL s)[0].toNat 97;have b2:=kN (bL s)[0].toNat 122;simp only[Int.cast_ofNat_Int]at b1 b2;rw[b1,b2,l5,l5,anc,Ll hl];have:=R2 N s (by omega) N 0 (Nat.zero_le _) (by omega);rw[anO]at this;rw[show zZ N s N 0=_ from this,anZ,List.all_nil,Bool.and_true];unfold nD;cases te (bL s)<;>cases decide (97<=(bL s)[0].toNat)<;>cases decide ((bL s)[0].toNat<=122)<;>rfl
theorem RO(N:Nat)(v:an4):∀(l:an3 an4)(k:Nat),Iu N v l k=some (l.any λw=>bL w==bL v)
 |[],_=>rfl
 |w::l,k=>by
  rw[Iu,an0,RO N v l (k+1)];cases bL w==bL v<;>rfl
theorem aj4(c:UInt8)(z:Bool):(bif (decide ((c.toNat:Int)>=97))then(bif (decide ((c.toNat:Int)<=122))then some (!true)else(bif z then(bif (decide ((c.toNat:Int)>=48))then(bif (decide ((c.toNat:Int)<=57))then some (!true)else some (!((c.toNat:Int)==95)))else some (!((c.toNat:Int)==95)))else some (!false)))else(bif z then(bif (decide ((c.toNat:Int)>=48))then(bif (decide ((c.toNat:Int)<=57))then some (!true)else some (!((c.toNat:Int)==95)))else some (!((c.toNat:Int)==95)))else some (!false)))=some (!(bif z then jQ c else nD c)):=by
 have a1:=Tb c.toNat 97;have a2:=Tb c.toNat 48;have a3:=vi c.toNat 57;have a4:=vi c.toNat 122;have a5:=rm c.toNat 95;simp only[Int.cast_ofNat_Int]at a1 a2 a3 a4 a5;rw[a1,a2,a3,a4,a5];unfold jQ nD;cases decide (97<=c.toNat)<;>cases decide (48<=c.toNat)<;>cases decide (c.toNat<=57)<;>cases decide (c.toNat<=122)<;>cases (c.toNat==95)<;>cases z<;>rfl
theorem Yd(N:Nat)(s:an4)(hs:s.size<9223372036854775807):∀(k i:Nat),i<=s.size->s.size-i<k->EF N s k (i:Int)=some (bif decide (i>0)then((bL s).drop i).all jQ else((bL s).take 1).all nD&&((bL s).drop 1).all jQ)
 |0,i,_,hk=>absurd hk (anH _)
 |k+1,i,hi,hk=>by
  rw[EF];by_cases aI:i<s.size
  ·have J:decide ((i:Int)<(s.size:Int))=true:=anW (by omega);have h2:decide ((0:Int)<=(i:Int))=true:=anW (by omega);rw[J,h2];simp only[cond_true,anG];have hl:i<(bL s).length:=by rw[<-sG];exact aI
   rw[DI,ani hl,anc,aj4,anc];rw[HG (Nat.lt_trans aI hs),Yd N s hs k (i+1) aI (by omega),anW (show i+1>0 by omega)];simp only[cond_true];by_cases h0:i=0
   ·subst h0;rw[anX (show ¬((0:Nat):Int)>0 by omega),anX (show ¬0>0 by omega)];simp only[cond_false];rw[Ll hl,anZ,List.all_nil,Bool.and_true];cases nD (bL s)[0]<;>rfl
   ·rw[anW (show(i:Int)>0 by omega),anW (show i>0 by omega)];simp only[cond_true];rw[List.drop_eq_getElem_cons hl,anZ];cases jQ (bL s)[i]<;>rfl
  ·have J:decide ((i:Int)<(s.size:Int))=false:=anX (by omega);rw[J];simp only[cond_false];have hn:(bL s).drop i=[]:=List.drop_eq_nil_of_le (by rw[<-sG];omega);by_cases h0:i=0
   ·subst h0;rw[anO]at hn;rw[hn];rfl
   ·rw[anW (show i>0 by omega),hn];rfl
theorem FK(N:Nat)(s:an4)(hN:16<N):ym N s=some (hY s):=by
 unfold ym hY HA;have hz:=sG s;have a1:=Cw s.size 1;have a2:=kN s.size 16;simp only[Int.cast_ofNat_Int]at a1 a2;rw[a1,a2,hz];cases J:decide (1<=(bL s).length)with
 |false=>rfl
 |true=>
  cases dd:decide ((bL s).length<=16)with
  |false=>rfl
  |true=>
   have mA:=of_decide_eq_true J;have adF:=of_decide_eq_true dd;have hl:0<(bL s).length:=by omega
   simp only[Bool.not_true,cond_false,Bool.true_and];have hh:∀l,vx N l s=some (l.any λw=>bL w==bL s):=λl=>RO N s l 0;unfold T5;rw[anc,hh,anc,anc];have:=Yd N s (by omega) N 0 (Nat.zero_le _) (by omega);rw[show EF N s N 0=_ from this];show(bif te (bL s)then some false else some (((bL s).take 1).all nD&&((bL s).drop 1).all jQ))=_;have hw:(bL s).all jQ=(jQ (bL s)[0]&&((bL s).drop 1).all jQ):=by
    have hd:bL s=(bL s)[0]::(bL s).drop 1:=by
     have:=List.drop_eq_getElem_cons hl
     rwa [anO]at this
    rw[<-anZ,<-hd]
   rw[hw,Ll hl,anZ,List.all_nil,Bool.and_true];unfold jQ;cases te (bL s)<;>cases nD (bL s)[0]<;>simp
def c7(t:aF):Bool:=
 bif t.bk==1||t.bk==3 then t.bX==0&&(t.bS==0&&(t.ct==0&&t.cu==0))
 else t.bk==2&&(decide (2<=t.bX)&&(decide (t.bX<=31)&&(decide (0<=t.bS)&&(decide (t.bS<=30)&&(decide (1<=t.ct)&&(decide (t.ct<=4)&&(t.cu==1||t.cu==2)))))))
theorem akQ(a:Bool):(bif a then some true else some false)=some a:=by cases a<;>rfl
theorem PA(a b:Int):decide (a<b)= !decide (b<=a):=by
 by_cases h:b<=a
 ·rw[anW h,anX (by omega)];rfl
 ·rw[anX h,anW (by omega)];rfl
theorem JO(a b:Int):decide (a>b)= !decide (a<=b):=PA b a
theorem mg(a b:Int):decide (a>=b)=decide (b<=a):=rfl
theorem zA(a b:Int):(a !=b)= !(a==b):=rfl
theorem HY(N:Nat)(t:aF):zc N t=some (c7 t):=by
 unfold zc c7;simp only[l5,gy,anc,mg];cases (t.bk==1||t.bk==3)<;>rfl
theorem Qv(N:Nat)(t:aF)(h:(t.bk==2)=true):ur N t=some (bif (decide (2<=t.bX)&&(decide (t.bX<=31)&&(decide (0<=t.bS)&&(decide (t.bS<=30)&&(decide (1<=t.ct)&&(decide (t.ct<=4)&&(t.cu==1||t.cu==2)))))))then 0 else 10):=by
 unfold ur;simp only[l5,gy,anc,mg,JO,zA,h,Bool.not_true,Bool.false_or];cases decide (2<=t.bX)<;>cases decide (t.bX<=31)<;>cases decide (0<=t.bS)<;>cases decide (t.bS<=30)<;>cases decide (1<=t.ct)<;>cases decide (t.ct<=4)<;>cases t.cu==1<;>cases t.cu==2<;>rfl
theorem pE(N:Nat)(t:aF):l4 N t=some (bif c7 t then 0 else 10):=by
 unfold l4 GI c7 M9;cases J:t.bk==1 with
 |true=>
  simp only[cond_true,anc,anY,Bool.true_and,Bool.true_or,Bool.and_true];cases (t.bX==0&&(t.bS==0&&(t.ct==0&&t.cu==0)))<;>rfl
 |false=>
  cases h3:t.bk==3 with
  |true=>
   simp only[cond_true,cond_false,anc,anY,Bool.true_and,Bool.or_true,Bool.and_true];cases (t.bX==0&&(t.bS==0&&(t.ct==0&&t.cu==0)))<;>rfl
  |false=>
   cases h2:t.bk==2 with
   |true=>
    rw[Qv N t h2];simp only[cond_true,cond_false,anc,Bool.true_and,Bool.or_false];cases (decide (2<=t.bX)&&(decide (t.bX<=31)&&(decide (0<=t.bS)&&(decide (t.bS<=30)&&(decide (1<=t.ct)&&(decide (t.ct<=4)&&(t.cu==1||t.cu==2)))))))<;>rfl
   |false=>rfl
def uh:an5 an4->an3 c8->Bool
 |_,[]=>true
 |p,m::l=>hY m.au&&(!(m.eF.toInt==0)&&((match p with|none=>true|some q=>Op.bytesLess (bL q) (bL m.au))&&uh (some m.au) l))
theorem Xf(p:an5 an4)(m:c8)(l:an3 c8):uh p (m::l)=(hY m.au&&(!(m.eF.toInt==0)&&((match p with|none=>true|some q=>Op.bytesLess (bL q) (bL m.au))&&uh (some m.au) l))):=by cases p<;>rfl
def iB(x:bj):Bool:=uh none x.xL
def sJ(x:bj)(k:Nat):an5 an4:=bif k==0 then none else(x.xL[k-1]?).map (·.au)
theorem akk{k:Nat}(h0:0<k)(h:k<=maxLen):aP ((k:Int)-1)=((k-1:Nat):Int):=by
 unfold aP;have:(k:Int)-1=((k-1:Nat):Int):=by omega
 rw[this];unfold maxLen at h;rw[IntKind.wrap_i64]<;>omega
theorem Tg{x:bj}{k:Nat}{m:c8}{l:an3 c8}(hd:x.xL.drop k=m::l):sJ x (k+1)=some m.au:=by
 have:=cE hd;unfold sJ;simp [this]
theorem Sr{x:bj}{k:Nat}{m:c8}{l:an3 c8}(hd:x.xL.drop k=m::l)(hm:x.xL.length<=maxLen):
 (bif (decide ((k:Int)>0))then bif (decide ((0:Int)<=(aP ((k:Int)-(1:Int)))))then
 Option.bind (x.xL[((aP ((k:Int)-(1:Int)))).toNat]?) λv7=>
 some (!(Op.bytesLess (bL v7.au) (bL m.au)))
 else none else some false)=some (!(match sJ x k with|none=>true|some q=>Op.bytesLess (bL q) (bL m.au))):=by
 have aI:k<x.xL.length:=(ane.1 (cE hd)).1;by_cases h0:k=0
 ·subst h0;rfl
 ·rw[anW (show(k:Int)>0 by omega),akk (by omega) (by omega),anW (show(0:Int)<=((k-1:Nat):Int) by omega)];simp only[cond_true,anG];have hp:sJ x k=(x.xL[k-1]?).map (·.au):=by
    unfold sJ;rw[beq_false_of_ne h0];rfl
  rw[hp,ani (show k-1<x.xL.length by omega)];rfl
theorem TZ(N:Nat)(hN:16<N)(x:bj)(hm:x.xL.length<=maxLen):∀(l:an3 c8)(k:Nat),x.xL.drop k=l->G8 N x l k=some (bif uh (sJ x k) l then 0 else 1)
 |[],k,_=>rfl
 |m::l,k,hd=>by
  rw[G8,abw N m.au hN,anc,Xf,Sr hd hm,TZ N hN x hm l (k+1) (mB hd),Tg hd];generalize (match sJ x k with|none=>true|some q=>Op.bytesLess (bL q) (bL m.au))=b;cases hY m.au<;>cases (m.eF.toInt==0)<;>cases b<;>cases uh (some m.au) l<;>rfl
theorem Hv(N:Nat)(hN:16<N)(x:bj)(hm:x.xL.length<=maxLen):zV N x=some (bif iB x then 0 else 1):=TZ N hN x hm x.xL 0 rfl
theorem WK(N:Nat)(hN:16<N)(x:bj)(hm:x.xL.length<=maxLen):∀(l:an3 c8)(k:Nat),x.xL.drop k=l->He N x l k=some (uh (sJ x k) l)
 |[],k,_=>rfl
 |m::l,k,hd=>by
  rw[He,FK N m.au hN,anc,Xf,Sr hd hm,WK N hN x hm l (k+1) (mB hd),Tg hd];generalize (match sJ x k with|none=>true|some q=>Op.bytesLess (bL q) (bL m.au))=b;cases hY m.au<;>cases (m.eF.toInt==0)<;>cases b<;>cases uh (some m.au) l<;>rfl
theorem Ce(N:Nat)(hN:16<N)(x:bj)(hm:x.xL.length<=maxLen):wW N x=some (iB x):=WK N hN x hm x.xL 0 rfl
def dD(t:aF)(v:ax):Bool:=
 bif t.bk==2 then v.xD.toInt==1&&(decide (-(2^(t.bX-1).toNat)<=v.xN.toInt)&&decide (v.xN.toInt<2^(t.bX-1).toNat))
 else decide (v.xN.toInt<=2147483647)&&(decide (-2147483647<=v.xN.toInt)&&(decide (1<=v.xD.toInt)&&(decide (v.xD.toInt<=2147483647)&&
  (bif t.bk==3 then v.xD.toInt==1 else Nat.gcd v.xN.toInt.natAbs v.xD.toInt.toNat==1))))
theorem amD:∀n:Fin 30,(decide ((0:Int)<=(IntKind.u64.wrap (aP (((n.val+2:Nat):Int)-(1:Int))))))=true/\(decide ((0:Int)<=(aP (((n.val+2:Nat):Int)-(1:Int)))))=true/\
 (-(Int64.ofInt ((1:Int)*2^(min ((IntKind.u64.wrap (aP (((n.val+2:Nat):Int)-(1:Int))))).toNat (IntKind.bits .i64))))).toInt= -(2^(n.val+1))/\
 ((Int64.ofInt ((1:Int)*2^(min ((IntKind.u64.wrap (aP (((n.val+2:Nat):Int)-(1:Int))))).toNat (IntKind.bits .i64))))-(1:Int64)).toInt=2^(n.val+1)-1/\
 (-(Int64.ofInt ((1:Int)*2^(min ((aP (((n.val+2:Nat):Int)-(1:Int)))).toNat (IntKind.bits .i64))))).toInt= -(2^(n.val+1))/\
 (Int64.ofInt ((1:Int)*2^(min ((aP (((n.val+2:Nat):Int)-(1:Int)))).toNat (IntKind.bits .i64)))).toInt=2^(n.val+1):=by decide+kernel
theorem Nt{b:Int}(J:2<=b)(h2:b<=31):(decide ((0:Int)<=(IntKind.u64.wrap (aP (b-(1:Int))))))=true/\(decide ((0:Int)<=(aP (b-(1:Int)))))=true/\
 (-(Int64.ofInt ((1:Int)*2^(min ((IntKind.u64.wrap (aP (b-(1:Int))))).toNat (IntKind.bits .i64))))).toInt= -(2^(b-1).toNat)/\
 ((Int64.ofInt ((1:Int)*2^(min ((IntKind.u64.wrap (aP (b-(1:Int))))).toNat (IntKind.bits .i64))))-(1:Int64)).toInt=2^(b-1).toNat-1/\
 (-(Int64.ofInt ((1:Int)*2^(min ((aP (b-(1:Int)))).toNat (IntKind.bits .i64))))).toInt= -(2^(b-1).toNat)/\
 (Int64.ofInt ((1:Int)*2^(min ((aP (b-(1:Int)))).toNat (IntKind.bits .i64)))).toInt=2^(b-1).toNat:=by
 obtain⟨n,rfl⟩:∃n:Nat,b=n:=⟨b.toNat,by omega⟩;have:=amD ⟨n-2,by omega⟩;simp only[show n-2+2=n by omega,show n-2+1=n-1 by omega]at this;rw[show((n:Int)-1).toNat=n-1 by omega];exact this
theorem L9(N:Nat):∀(k a b:Nat),b<k->Ee N k (a:Int) (b:Int)=some ((Nat.gcd a b:Nat):Int)
 |0,a,b,h=>absurd h (anH _)
 |k+1,a,b,h=>by
  rw[Ee];by_cases h0:b=0
  ·subst h0;simp
  ·rw[show(((b:Nat):Int) !=0)=true by rw[bne_iff_ne];omega];simp only[cond_true];rw[<-Int.ofNat_tmod,L9 N k b (a%b) (by have:=Nat.mod_lt a (Nat.pos_of_ne_zero h0);omega)];rw[Nat.gcd_comm a b,Nat.gcd_rec b a,Nat.gcd_comm]
theorem XE(N:Nat):∀(k:Nat)(a b:Int64),0<=a.toInt->0<=b.toInt->b.toInt.toNat<k->∃g:Int64,I8 N k a b=some g/\g.toInt=((Nat.gcd a.toInt.toNat b.toInt.toNat:Nat):Int)
 |0,a,b,_,_,h=>absurd h (anH _)
 |k+1,a,b,ha,hb,h=>by
  rw[I8];by_cases h0:b.toInt=0
  ·rw[h0];refine⟨a,rfl,?_⟩;show a.toInt=((Nat.gcd a.toInt.toNat 0:Nat):Int);rw[Nat.gcd_zero_right];omega
  ·rw[show(b.toInt !=0)=true by rw[bne_iff_ne];exact h0];simp only[cond_true];obtain⟨x,hx⟩:∃x:Nat,a.toInt=x:=⟨a.toInt.toNat,by omega⟩;obtain⟨y,hy⟩:∃y:Nat,b.toInt=y:=⟨b.toInt.toNat,by omega⟩;rw[hx,hy];have hyp:0<y:=by omega
   have hm:(x:Int).tmod (y:Int)=((x%y:Nat):Int):=(Int.ofNat_tmod x y).symm;have aI:=Nat.mod_lt x hyp;have jY:b.toInt<2^63:=Int64.toInt_lt b;have l6:(Int64.ofInt ((x%y:Nat):Int)).toInt=((x%y:Nat):Int):=by
    rw[Int64.toInt_ofInt_of_le]
    ·omega
    ·omega
   rw[hm];obtain⟨g,J,h2⟩:=XE N k b (Int64.ofInt ((x%y:Nat):Int)) hb (by rw[l6];omega) (by rw[l6];omega);refine⟨g,J,?_⟩;rw[h2,l6,hy];simp only[anG];rw[Nat.gcd_comm x y,Nat.gcd_rec y x,Nat.gcd_comm]
theorem mo(z:Int):IntKind.u64.wrap z=z%18446744073709551616:=rfl
theorem M3(N:Nat)(v:Int64):zx N v=some ((v.toInt.natAbs:Nat):Int):=by
 unfold zx;have J:v.toInt<2^63:=Int64.toInt_lt v;have h2: -2^63<=v.toInt:=Int64.le_toInt v;by_cases h:v.toInt<0
 ·rw[anW h];simp only[cond_true,mo]
  congr 1
  omega
 ·rw[anX h];simp only[cond_false,mo]
  congr 1
  omega
theorem qf(N:Nat)(hN:2147483648<N)(t:aF)(v:ax)(ht:c7 t=true):lX N t v=some (dD t v):=by
 unfold lX;rw[pE,ht,anc];unfold dD;cases h2:t.bk==2 with
 |true=>
  simp only[cond_true];show Option.bind (rC N t v) _=_;unfold c7 at ht;have hk:t.bk=2:=by simpa using h2
  rw[hk]at ht;have qR:(decide (2<=t.bX)&&(decide (t.bX<=31)&&(decide (0<=t.bS)&&(decide (t.bS<=30)&&(decide (1<=t.ct)&&(decide (t.ct<=4)&&(t.cu==1||t.cu==2)))))))=true:=ht;unfold rC;rw[Qv N t h2,qR,anc];simp only[ang,decide_eq_true_eq]at qR;obtain⟨b1,b2,_⟩:=qR;obtain⟨f1,f2,f3,f4,f5,f6⟩:=Nt b1 b2;unfold DU D4 yO;rw[gy,anc,anc,mg,anW b1,anW b2];simp only[Bool.and_self,cond_true];rw[f1];simp only[cond_true,anc];rw[f3,f4];rw[mg,gy,mR (p:=v.xN.toInt<=2^(t.bX-1).toNat-1) (q:=v.xN.toInt<2^(t.bX-1).toNat) (by omega)];cases (v.xD.toInt==1)<;>rfl
 |false=>
  simp only[cond_false];show(bif t.bk==3 then _ else _)=_;cases h3:t.bk==3 with
  |true=>
   simp only[cond_true];unfold pN;rw[mg,gy,anc,anc];by_cases hd:v.xD.toInt=1
   ·rw[hd];simp only[anY,cond_true,anc,show decide ((1:Int)<=1)=true from rfl,show decide ((1:Int)<=2147483647)=true from rfl,Bool.and_true];rw[Bool.and_comm]
   ·rw[beq_false_of_ne hd];simp only[cond_false,anc,Bool.and_false]
  |false=>
   simp only[cond_false];unfold kE RG;rw[mg,mg,gy,anc,anc,M3,anc];cases ve:decide (1<=v.xD.toInt)with
   |false=>cases decide (v.xN.toInt<=2147483647)<;>cases decide (-2147483647<=v.xN.toInt)<;>rfl
   |true=>
    cases nI:decide (v.xD.toInt<=2147483647)with
    |false=>cases decide (v.xN.toInt<=2147483647)<;>cases decide (-2147483647<=v.xN.toInt)<;>rfl
    |true=>
     have e1:=of_decide_eq_true ve;have e2:=of_decide_eq_true nI;have hw:IntKind.u64.wrap v.xD.toInt=((v.xD.toInt.toNat:Nat):Int):=by rw[mo];omega
     simp only[cond_true,Bool.true_and];rw[hw];unfold CL;rw[L9 N N v.xN.toInt.natAbs v.xD.toInt.toNat (by omega),anc,show((((Nat.gcd v.xN.toInt.natAbs v.xD.toInt.toNat:Nat):Int))==1)=(Nat.gcd v.xN.toInt.natAbs v.xD.toInt.toNat==1)from rm _ 1,gy,anc];cases decide (v.xN.toInt<=2147483647)<;>cases decide (-2147483647<=v.xN.toInt)<;>rfl
theorem akD(N:Nat)(hN:2147483648<N)(t:aF)(v:ax)(ht:c7 t=true):Qr N t v=some (dD t v):=by
 unfold Qr dD;cases h2:t.bk==2 with
 |true=>
  simp only[cond_true];unfold c7 at ht;have hk:t.bk=2:=by simpa using h2
  rw[hk]at ht;have qR:(decide (2<=t.bX)&&(decide (t.bX<=31)&&(decide (0<=t.bS)&&(decide (t.bS<=30)&&(decide (1<=t.ct)&&(decide (t.ct<=4)&&(t.cu==1||t.cu==2)))))))=true:=ht;simp only[ang,decide_eq_true_eq]at qR;obtain⟨b1,b2,_⟩:=qR;obtain⟨f1,f2,f3,f4,f5,f6⟩:=Nt b1 b2;rw[f2];simp only[cond_true];rw[f5,f6,mg,gy,gy,anc]
 |false=>
  simp only[cond_false,JO,l5,anc];cases wu:decide (v.xN.toInt<=2147483647)with
  |false=>rfl
  |true=>
   cases ku:decide (-2147483647<=v.xN.toInt)with
   |false=>rfl
   |true=>
    cases ve:decide (1<=v.xD.toInt)with
    |false=>rfl
    |true=>
     cases nI:decide (v.xD.toInt<=2147483647)with
     |false=>rfl
     |true=>
      have n1:=of_decide_eq_true wu;have n2:=of_decide_eq_true ku;have e1:=of_decide_eq_true ve;have e2:=of_decide_eq_true nI;simp only[Bool.not_true,Bool.or_false,cond_false,Bool.true_and];cases h3:t.bk==3 with
      |true=>rfl
      |false=>
       simp only[cond_false];have aiU:(-v.xN).toInt= -v.xN.toInt:=by
        rw[Int64.toInt_neg];rw[Int.bmod_eq_of_le]<;>omega
       have w8:(Ew v.xN (-v.xN)).toInt=((v.xN.toInt.natAbs:Nat):Int):=by
        rw[<-aff,aiU];split<;>omega
       unfold US;obtain⟨g,g1,g2⟩:=XE N N (Ew v.xN (-v.xN)) v.xD (by rw[w8];omega) (by omega) (by omega);rw[g1,anc,g2,w8,anG];rw[show((((Nat.gcd v.xN.toInt.natAbs v.xD.toInt.toNat:Nat):Int))==1)=(Nat.gcd v.xN.toInt.natAbs v.xD.toInt.toNat==1)from rm _ 1]
def rB(n:Int):Bool:=decide (-9223372036854775808<=n)&&decide (n<=9223372036854775807)
theorem oU{n:Int}:rB n=true↔-9223372036854775808<=n/\n<=9223372036854775807:=by
 unfold rB;rw[ang,decide_eq_true_iff,decide_eq_true_iff]
theorem aaA(n:Int64):rB n.toInt=true:=by
 rw[oU];have J:=n.le_toInt;have h2:=n.toInt_lt;omega
def same(a b:an4):Bool:=bL a==bL b
def lt(a b:an4):Bool:=Op.bytesLess (bL a) (bL b)
inductive Er|arg|range
abbrev X(α:Type):=Except Er α
def Wj:an3 an4->an4->an3 an4
 |[],s=>[s]
 |x::l,s=>if lt s x then x::Wj l s else s::x::l
def ins(l:an3 an4)(s:an4):an3 an4:=if l.any (same · s)then l else(Wj l.reverse s).reverse
set_option linter.unusedSimpArgs false
def jR(l:bj):Prop:=l.xL.length<=maxLen
structure YE(x:cC):Prop where
 kY:jR x.bq
 at_:∀l∈x.cM,jR l
structure Az(e:ar):Prop where
 kY:jR e.bq
 idx:∀x∈e.xIdx,YE x
 args:e.bM.length<=maxLen
def na(e:ar):Prop:=∀x∈dB e,Az x
def vQ(l:bj):Bool:=l.xK.toInt==0&&l.xL.length==0
def qT(x:cC):Bool:=bif bL x.cG==[]then x.cM.length==0 else vQ x.bq
def Gn(v:ax):Bool:=v.xN.toInt==0&&v.xD.toInt==0
def HC(t:aF):Bool:=t.bk==0&&(t.bX==0&&(t.bS==0&&(t.ct==0&&t.cu==0)))
def oh(e:ar):Bool:=decide (1<=e.ay)&&(decide (e.ay<=18)&&((e.ay==1||Gn e.dF)&&((e.ay==1||(e.ay==12||HC e.aB))&&((e.ay==2||vQ e.bq)&&((e.ay==3||(bL e.au==[]&&e.xIdx.length==0))&&e.xIdx.all qT)))))
def se(e:ar):Bool:=(!(e.ay==3)||hY e.au)&&e.xIdx.all λx=>bL x.cG==[]||hY x.cG
def nm(op:Int):Int:=bif op==1||(op==2||op==3)then 0 else bif op==8||(op==12||op==18)then 1 else bif op==11 then 3 else 2
def oc(e:ar):Bool:=(e.bM.length:Int)==nm e.ay&&(decide (e.xIdx.length<=6)&&e.xIdx.all λx=>decide (x.cM.length<=6))
def eB(e:ar):Bool:=decide (13<=e.ay)&&decide (e.ay<=18)
def kD(op:Int)(i:Nat):Bool:=(op==11&&i==0)||(op==16||(op==17||op==18))
def uZ(op:Int):Nat->an3 ar->Bool
 |_,[]=>true
 |i,a::l=>eB a==kD op i&&uZ op (i+1) l
def nQ(e:ar):Bool:=(!(e.ay==1||e.ay==12)||c7 e.aB)&&uZ e.ay 0 e.bM
def tB(e:ar):Bool:=(!(e.ay==1)||dD e.aB e.dF)&&(ov e).all iB
def nf(e:ar):Int:=bif oh e then bif se e then bif oc e then bif nQ e then bif tB e then 0 else 1 else 10 else 11 else 7 else 5
theorem uv(n:Nat):((n:Int)==0)=(n==0):=rm n 0
theorem GZ(n:Nat):decide ((n:Int)>0)= !(n==0):=by
 by_cases h:n=0
 ·subst h;rfl
 ·rw[anW (show(n:Int)>0 by omega),beq_false_of_ne h];rfl
theorem Zg(N:Nat)(l:bj):Cq N l=some (vQ l):=by
 unfold Cq vQ;rw[gy,anc,uv]
theorem ahR(N:Nat)(x:cC):Ia N x=some (qT x):=by
 unfold Ia qT;rw[Zg,anc,uv,s8];cases bL x.cG==[]<;>rfl
theorem Q1{α:Type}(f:α->Bool)(l:an3 α):(l.any λx=> !f x)= !l.all f:=by
 induction l with
 |nil=>rfl
 |cons x l ih=>rw[an0,anZ,ih];cases f x<;>rfl
theorem aaq(N:Nat):∀(l:an3 cC)(k:Nat),∃z:Int,JI N l k=some z/\decide (z>=0)=l.any λx=> !qT x
 |[],k=>⟨-1,rfl,rfl⟩
 |x::l,k=>by
  rw[JI,an0];unfold Rg;rw[ahR,anc,anc];cases h: !qT x with
  |true=>exact⟨k,rfl,anW (by omega)⟩
  |false=>exact aaq N l (k+1)
theorem afZ(N:Nat)(l:an3 cC):I2 N l=some (!l.all qT):=by
 unfold I2 QF;obtain⟨z,J,h2⟩:=aaq N l 0;rw[J,anc,h2,Q1]
theorem UX(v:ax):((v.xN.toInt==(0:Int64).toInt)&&((v.xD.toInt==(0:Int64).toInt)&&true))=Gn v:=by rw[Bool.and_true];rfl
theorem W0(t:aF):((t.bk==0)&&((t.bX==0)&&((t.bS==0)&&((t.ct==0)&&((t.cu==0)&&true)))))=HC t:=by rw[Bool.and_true];rfl
theorem rU(a b:Bool):(bif a then some false else some b)=some (!a&&b):=by cases a<;>rfl
theorem ZW(a b:Bool):(bif a then some b else some true)=some (!a||b):=by cases a<;>rfl
theorem afj(N:Nat)(e:ar):GP N e=some (oh e):=by
 unfold GP oh;simp only[GZ];simp only[l5,gy,rU,ZW,anc,JO,PA,Zg,afZ,UX,W0,s8];cases decide (1<=e.ay)<;>cases decide (e.ay<=18)<;>cases e.ay==1<;>cases Gn e.dF<;>cases e.ay==12<;>cases HC e.aB<;>cases e.ay==2<;>cases vQ e.bq<;>cases e.ay==3<;>cases bL e.au==[]<;>cases e.xIdx.length==0<;>cases e.xIdx.all qT<;>rfl
theorem Sc(N:Nat):∀(l:an3 cC)(k:Nat),Jv N l k=some (l.all qT)
 |[],_=>rfl
 |x::l,k=>by
  rw[Jv,anZ,Sc N l (k+1)];unfold qT vQ;simp only[l5,akQ,gy,anc,GZ,zA,s8];cases bL x.cG==[]<;>cases x.cM.length==0<;>cases x.bq.xK.toInt==0<;>cases x.bq.xL.length==0<;>rfl
theorem akY(N:Nat)(e:ar):Qk N e=some (oh e):=by
 unfold Qk oh;simp only[GZ];simp only[l5,gy,rU,ZW,anc,JO,PA,zA,Sc,UX,W0,s8];unfold vQ;cases decide (1<=e.ay)<;>cases decide (e.ay<=18)<;>cases e.ay==1<;>cases Gn e.dF<;>cases e.ay==12<;>cases HC e.aB<;>cases e.ay==2<;>cases e.bq.xK.toInt==0<;>cases e.bq.xL.length==0<;>cases e.ay==3<;>cases bL e.au==[]<;>cases e.xIdx.length==0<;>cases e.xIdx.all qT<;>rfl
theorem ahc(N:Nat)(hN:16<N)(x:cC):Hd N x=some (!(bL x.cG==[]||hY x.cG)):=by
 unfold Hd;rw[JN N _ hN,anc,rU,anc,s8];cases bL x.cG==[]<;>rfl
theorem Z9(N:Nat)(hN:16<N):∀(l:an3 cC)(k:Nat),∃z:Int,Gt N l k=some z/\decide (z>=0)=l.any λx=> !(bL x.cG==[]||hY x.cG)
 |[],k=>⟨-1,rfl,rfl⟩
 |x::l,k=>by
  rw[Gt,an0,ahc N hN,anc];cases h: !(bL x.cG==[]||hY x.cG)with
  |true=>exact⟨k,rfl,anW (by omega)⟩
  |false=>exact Z9 N hN l (k+1)
theorem af2(N:Nat)(hN:16<N)(e:ar):IG N e=some (se e):=by
 unfold IG se O0 O5;obtain⟨z,J,h2⟩:=Z9 N hN e.xIdx 0;rw[JN N _ hN,anc,J];simp only[anc,h2,Q1,gy,rU];cases e.ay==3<;>cases hY e.au<;>cases (e.xIdx.all λx=>bL x.cG==[]||hY x.cG)<;>rfl
theorem UA(N:Nat)(hN:16<N):∀(l:an3 cC)(k:Nat),I6 N l k=some (l.all λx=>bL x.cG==[]||hY x.cG)
 |[],_=>rfl
 |x::l,k=>by
  rw[I6,anZ,UA N hN l (k+1),FK N _ hN,anc,rU,anc,rU,s8];cases bL x.cG==[]<;>cases hY x.cG<;>rfl
theorem amp(N:Nat)(hN:16<N)(e:ar):Oa N e=some (se e):=by
 unfold Oa se;rw[FK N _ hN,anc,UA N hN];simp only[anc,gy,rU];cases e.ay==3<;>cases hY e.au<;>rfl
theorem S2(N:Nat):∀(l:an3 cC)(k:Nat),∃z:Int,J6 N l k=some z/\decide (z>=0)=l.any λx=> !decide (x.cM.length<=6)
 |[],k=>⟨-1,rfl,rfl⟩
 |x::l,k=>by
  rw[J6,an0];unfold MU;rw[anc,show decide ((x.cM.length:Int)>6)= !decide (x.cM.length<=6)from kN _ 6];cases h: !decide (x.cM.length<=6)with
  |true=>exact⟨k,rfl,anW (by omega)⟩
  |false=>exact S2 N l (k+1)
theorem afI(N:Nat)(op:Int):F6 N op=some (nm op):=by
 unfold F6 Eo Fc nm;cases op==1<;>cases op==2<;>cases op==3<;>cases op==8<;>cases op==12<;>cases op==18<;>cases op==11<;>rfl
theorem acf(N:Nat)(op:Int):Px N op=some (nm op):=by
 unfold Px JC Ld nm;cases op==1<;>cases op==2<;>cases op==3<;>cases op==8<;>cases op==12<;>cases op==18<;>cases op==11<;>rfl
theorem ad9(N:Nat)(e:ar):Jm N e=some (oc e):=by
 unfold Jm oc Qb RF;obtain⟨z,J,h2⟩:=S2 N e.xIdx 0;rw[afI,anc,J,show decide ((e.xIdx.length:Int)>6)= !decide (e.xIdx.length<=6)from kN _ 6];simp only[anc,h2,Q1,l5,rU,zA];cases (e.bM.length:Int)==nm e.ay<;>cases decide (e.xIdx.length<=6)<;>cases (e.xIdx.all λx=>decide (x.cM.length<=6))<;>rfl
theorem Yl(N:Nat):∀(l:an3 cC)(k:Nat),IW N l k=some (l.all λx=>decide (x.cM.length<=6))
 |[],_=>rfl
 |x::l,k=>by
  rw[IW,anZ,Yl N l (k+1),show decide ((x.cM.length:Int)>6)= !decide (x.cM.length<=6)from kN _ 6];cases decide (x.cM.length<=6)<;>rfl
theorem amT(N:Nat)(e:ar):O6 N e=some (oc e):=by
 unfold O6 oc;rw[acf,anc,Yl,show decide ((e.xIdx.length:Int)>6)= !decide (e.xIdx.length<=6)from kN _ 6];simp only[anc,l5,rU,zA];cases (e.bM.length:Int)==nm e.ay<;>cases decide (e.xIdx.length<=6)<;>rfl
theorem Vu(N:Nat)(e:ar):zL N e=some (eB e):=by
 unfold zL eB;rw[gy,anc]
theorem JS(N:Nat)(e:ar):GJ N e=some (eB e):=by
 unfold GJ eB;rw[mg,gy,anc]
theorem ai2(N:Nat)(op:Int)(i:Nat):Hc N op (i:Int)=some (kD op i):=by
 unfold Hc DJ kD;rw[uv];cases op==16<;>cases op==17<;>cases op==18<;>cases op==11<;>cases i==0<;>rfl
theorem aew(N:Nat)(op:Int)(i:Nat):Qp N op (i:Int)=some (kD op i):=by
 unfold Qp kD;rw[uv];cases op==16<;>cases op==17<;>cases op==18<;>cases op==11<;>cases i==0<;>rfl
theorem Zb(N:Nat)(e:ar):∀(l:an3 ar)(i:Nat),HI N e l i=some (uZ e.ay i l)
 |[],_=>rfl
 |a::l,i=>by
  rw[HI,uZ,Vu,anc,ai2,anc,Zb N e l (i+1)];cases eB a==kD e.ay i<;>rfl
theorem Sf(N:Nat)(e:ar):∀(l:an3 ar)(i:Nat),KB N e l i=some (uZ e.ay i l)
 |[],_=>rfl
 |a::l,i=>by
  rw[KB,uZ,JS,anc,aew,anc,Sf N e l (i+1)];cases eB a==kD e.ay i<;>rfl
theorem acN(b:Bool):((bif b then(0:Int)else 10) !=0)= !b:=by cases b<;>rfl
theorem abD(N:Nat)(e:ar):K9 N e=some (nQ e):=by
 unfold K9 nQ;rw[pE,anc,Zb];simp only[acN];cases e.ay==1<;>cases e.ay==12<;>cases c7 e.aB<;>rfl
theorem ad5(N:Nat)(e:ar):NT N e=some (nQ e):=by
 unfold NT nQ;rw[HY,anc,Sf];cases e.ay==1<;>cases e.ay==12<;>cases c7 e.aB<;>rfl
theorem ajF(b:Bool):((bif b then(0:Int)else 1) !=0)= !b:=by cases b<;>rfl
theorem YF(N:Nat)(hN:16<N):∀l:an3 bj,(∀x∈l,jR x)->tb N l=some (bif l.all iB then 0 else 1)
 |[],_=>rfl
 |x::l,h=>by
  rw[tb,Hv N hN x (h x ank),anc,ajF,YF N hN l (λy hy=>h y (ann _ hy)),anZ];cases iB x<;>rfl
theorem TT(N:Nat)(hN:16<N)(c:Bool):∀(l:an3 bj)(k:Nat),(∀x∈l,jR x)->HM N (some c) l k=some (l.all iB&&c)
 |[],_,_=>rfl
 |x::l,k,h=>by
  rw[HM,Ce N hN x (h x ank),anc,TT N hN c l (k+1) (λy hy=>h y (ann _ hy)),anZ];cases iB x<;>rfl
theorem aav(N:Nat)(hN:16<N):∀(l:an3 cC)(k:Nat),(∀x∈l,YE x)->HW N l k=some ((l.flatMap vD).all iB)
 |[],_,_=>rfl
 |x::l,k,h=>by
  have hx:=h x ank;rw[HW,Ce N hN _ hx.kY,anc,aav N hN l (k+1) (λy hy=>h y (ann _ hy)),TT N hN _ _ _ hx.at_,List.flatMap_cons,vD,List.cons_append,anZ,List.all_append];cases iB x.bq<;>rfl
theorem aja{e:ar}(h:Az e):∀x∈ov e,jR x:=by
 intro x hx;unfold ov at hx;rcases anJ.1 hx with rfl|hx
 ·exact h.kY
 ·obtain⟨y,hy,hx⟩:=List.mem_flatMap.1 hx;unfold vD at hx;rcases anJ.1 hx with rfl|hx
  ·exact(h.idx y hy).kY
  ·exact(h.idx y hy).at_ x hx
theorem ajH(N:Nat)(hN:2147483648<N)(e:ar)(h:Az e)(ht:nQ e=true):N3 N e=some (tB e):=by
 unfold N3 tB ov;rw[anZ,Ce N (by omega) _ h.kY,anc,aav N (by omega) _ _ h.idx];cases J:e.ay==1 with
 |true=>
  have nr:c7 e.aB=true:=by
   unfold nQ at ht;rw[J]at ht;simp only[Bool.true_or,Bool.not_true,Bool.false_or,ang]at ht;exact ht.1
  rw[akD N hN _ _ nr,anc];cases dD e.aB e.dF<;>cases iB e.bq<;>rfl
 |false=>cases iB e.bq<;>rfl
theorem ahG(N:Nat)(hN:2147483648<N)(e:ar)(h:Az e):E3 N e=some (nf e):=by
 unfold E3 nf;rw[afj,anc];cases oh e with
 |false=>rfl
 |true=>
  simp only[cond_true];rw[af2 N (by omega),anc];cases se e with
  |false=>rfl
  |true=>
   simp only[cond_true];rw[ad9,anc];cases oc e with
   |false=>rfl
   |true=>
    simp only[cond_true];rw[abD,anc];cases ht:nQ e with
    |false=>rfl
    |true=>
     simp only[cond_true];have hf:tb N (ov e)=_:=YF N (by omega) (ov e) (aja h);unfold tB OH;rw[anc,hf];cases J:e.ay==1 with
     |true=>
      have nr:c7 e.aB=true:=by
       unfold nQ at ht;rw[J]at ht;simp only[Bool.true_or,Bool.not_true,Bool.false_or,ang]at ht;exact ht.1
      rw[qf N hN _ _ nr,anc];cases dD e.aB e.dF<;>cases (ov e).all iB<;>rfl
     |false=>cases (ov e).all iB<;>rfl
theorem nw{e x:ar}(h:x∈e.bM):SizeOf.sizeOf x<SizeOf.sizeOf e:=by
 have J:=List.sizeOf_lt_of_mem h;cases e
 simp only[ar.mk.sizeOf_spec]at*;omega
theorem E8{e x y:ar}(h:x∈e.bM)(hy:y∈dB x):y∈dB e:=by
 have gen:∀l:an3 ar,x∈l->y∈mw l:=by
  intro l
  induction l with
  |nil=>intro h;cases h
  |cons z l ih=>
   intro h;rw[BG];rcases anJ.1 h with rfl|h
   ·exact List.mem_append_left _ hy
   ·exact List.mem_append_right _ (ih h)
 exact ann _ (gen _ h)
theorem na.node{e:ar}(h:na e):Az e:=h e ank
theorem na.arg{e x:ar}(h:na e)(hx:x∈e.bM):na x:=λy hy=>h y (E8 hx hy)
def lr:an3 ar->Int
 |[]=>0
 |x::l=>bif nf x !=0 then nf x else lr l
theorem Wx:∀a b:an3 ar,lr (a++b)=bif lr a !=0 then lr a else lr b
 |[],_=>rfl
 |x::a,b=>by
  rw[List.cons_append,lr,lr,Wx a b];cases h:nf x !=0 with
  |true=>simp only[cond_true,h]
  |false=>rfl
theorem Xa(N:Nat)(hN:2147483648<N):∀l:an3 ar,(∀x∈l,Az x)->vX N l=some (lr l)
 |[],_=>rfl
 |x::l,h=>by
  rw[vX,ahG N hN x (h x ank),anc,Xa N hN l (λy hy=>h y (ann _ hy)),lr];cases nf x !=0<;>rfl
theorem TE(N:Nat)(rec:ar->an5 Int):∀(l:an3 ar)(k:Nat),(∀x∈l,rec x=some (lr (dB x)))->Ie N rec l k=some (lr (mw l))
 |[],_,_=>by rw[mw];rfl
 |x::l,k,h=>by
  rw[Ie,h x ank,anc,TE N rec l (k+1) (λy hy=>h y (ann _ hy)),BG,Wx];cases lr (dB x) !=0<;>rfl
theorem SI(N:Nat)(hN:2147483648<N):∀(d:Nat)(e:ar),SizeOf.sizeOf e<d->na e->CN N d e=some (lr (dB e))
 |0,_,h,_=>absurd h (anH _)
 |d+1,e,h,hk=>by
  rw[CN];have hl:=TE N (CN N d) e.bM 0 λx hx=>SI N hN d x (by have:=nw hx;omega) (hk.arg hx);unfold dB;rw[lr];unfold nf;rw[akY,anc];cases oh e with
  |false=>rfl
  |true=>
   simp only[cond_true];rw[amp N (by omega),anc];cases se e with
   |false=>rfl
   |true=>
    simp only[cond_true];rw[amT,anc];cases oc e with
    |false=>rfl
    |true=>
     simp only[cond_true];rw[ad5,anc];cases ht:nQ e with
     |false=>rfl
     |true=>
      simp only[cond_true];rw[ajH N hN e hk.node ht,anc,hl];cases tB e<;>rfl
def jh:Nat->ar->Nat
 |0,_=>1
 |L+1,e=>e.bM.foldl (λm a=>max m (1+jh L a)) 1
theorem Xs{α:Type}(f:α->Nat)(b:Nat):∀(l:an3 α)(m:Nat),m<=b->(∀x∈l,f x<=b)->l.foldl (λm a=>max m (f a)) m<=b
 |[],_,h,_=>h
 |x::l,_,h,hl=>Xs f b l _ (Nat.max_le.2 ⟨h,hl x ank⟩) λy hy=>hl y (ann _ hy)
theorem MT:∀(L:Nat)(e:ar),jh L e<=L+1
 |0,_=>anp _
 |L+1,e=>Xs (λa=>1+jh L a) (L+2) e.bM 1 (by omega) λx _=>by have:=MT L x;show 1+jh L x<=L+2;omega
theorem jr{z:Int}(J: -9223372036854775808<=z)(h2:z<9223372036854775808):aP z=z:=by
 unfold aP;rw[IntKind.wrap_i64];omega
theorem FP(a b:Nat):(if((a:Nat):Int)>((b:Nat):Int)then((a:Nat):Int)else(b:Int))=((max b a:Nat):Int):=by
 split<;>omega
theorem UW(N:Nat)(rec:ar->Int->an5 Int)(L:Nat)(hL:L<=100):∀(l:an3 ar)(k m:Nat),(∀x∈l,rec x ((L:Int)+1)=some ((jh L x:Nat):Int))->F9 N rec ((L:Int)+1+1) l k (m:Int)=some ((l.foldl (λm a=>max m (1+jh L a)) m:Nat):Int)
 |[],_,_,_=>rfl
 |x::l,k,m,h=>by
  have J:=MT L x;rw[F9,jr (by omega) (by omega),show(L:Int)+1+1-1=(L:Int)+1 by omega,h x ank,anc];rw[jr (by omega) (by omega),show(1:Int)+((jh L x:Nat):Int)=((1+jh L x:Nat):Int) by omega,FP];exact UW N rec L hL l (k+1) _ λy hy=>h y (ann _ hy)
theorem We(N:Nat):∀(L d:Nat)(e:ar),L<d->L<=100->qE N d e ((L:Int)+1)=some ((jh L e:Nat):Int)
 |L,0,_,h,_=>absurd h (anH _)
 |0,d+1,e,_,_=>by rw[qE];rfl
 |L+1,d+1,e,h,hL=>by
  rw[qE,anX (by omega)];simp only[cond_false];exact UW N (qE N d) L (by omega) e.bM 0 1 λx _=>We N L d x (by omega) (by omega)
theorem Up(N:Nat)(rec:ar->Int->an5 Int)(L:Nat)(hL:L<=100):∀(l:an3 ar)(k m:Nat),(∀x∈l,rec x ((L:Int)+1)=some ((jh L x:Nat):Int))->A1 N ((L:Int)+1+1) rec l k (m:Int)=some ((l.foldl (λm a=>max m (1+jh L a)) m:Nat):Int)
 |[],_,_,_=>rfl
 |x::l,k,m,h=>by
  have J:=MT L x;rw[A1,anW (show(L:Int)+1+1>1 by omega)];simp only[cond_true];rw[jr (by omega) (by omega),show(L:Int)+1+1-1=(L:Int)+1 by omega,h x ank,anc];rw[jr (by omega) (by omega),show(1:Int)+((jh L x:Nat):Int)=((1+jh L x:Nat):Int) by omega,FP];exact Up N rec L hL l (k+1) _ λy hy=>h y (ann _ hy)
theorem alc(N:Nat)(rec:ar->Int->an5 Int):∀l:an3 ar,A1 N 1 rec l 0 1=some 1
 |[]=>rfl
 |x::l=>by rw[A1];rfl
theorem SD(N:Nat):∀(L d:Nat)(e:ar),L<d->L<=100->vR N d e ((L:Int)+1)=some ((jh L e:Nat):Int)
 |L,0,_,h,_=>absurd h (anH _)
 |0,d+1,e,_,_=>by rw[vR];exact alc N _ _
 |L+1,d+1,e,h,hL=>by
  rw[vR];exact Up N (vR N d) L (by omega) e.bM 0 1 λx _=>SD N L d x (by omega) (by omega)
theorem Ye(N:Nat):∀(l:an3 ar)(v:Nat),v<=2000->tc N l (v:Int)=some ((min (v+l.length) 2001:Nat):Int)
 |[],v,h=>by rw[tc];congr 2;simp only[anq];omega
 |x::l,v,h=>by
  rw[tc,jr (by omega) (by omega)];by_cases h2:v+1>2000
  ·rw[anW (by omega)];simp only[cond_true]
   congr 1
   simp only[anh];omega
  ·rw[anX (by omega)];simp only[cond_false];rw[show(v:Int)+1=((v+1:Nat):Int) by omega,Ye N l (v+1) (by omega)]
   congr 3
   simp only[anh];omega
theorem abm(N:Nat)(e:ar):DM N e=some ((min (dB e).length 2001:Nat):Int):=by
 unfold DM AW;have:=Ye N (dB e) 0 (by omega);rw[anz]at this;exact this
theorem T9(N:Nat)(rec:ar->Int->an5 Int)(m:Nat)(hm:m<=4000):∀(l:an3 ar)(k n:Nat),n<=m+1->(∀x∈l,∀q:Nat,q<=m->rec x (q:Int)=some ((min (dB x).length (q+1):Nat):Int))->Dd N (m:Int) rec l k (n:Int)=some ((min (n+(mw l).length) (m+1):Nat):Int)
 |[],k,n,hn,_=>by rw[Dd,mw];congr 2;simp only[anq];omega
 |x::l,k,n,hn,h=>by
  rw[Dd];by_cases h2:n<=m
  ·rw[anW (by omega)];simp only[cond_true];rw[jr (by omega) (by omega),show(m:Int)-(n:Int)=((m-n:Nat):Int) by omega,h x ank (m-n) (by omega),anc];rw[jr (by omega) (by omega),show(n:Int)+((min (dB x).length (m-n+1):Nat):Int)=((n+min (dB x).length (m-n+1):Nat):Int) by omega];rw[T9 N rec m hm l (k+1) _ (by omega) λy hy=>h y (ann _ hy),BG,anf]
   congr 2
   omega
  ·rw[anX (by omega)];simp only[cond_false]
   congr 1
   omega
theorem SY(N:Nat):∀(d:Nat)(e:ar)(m:Nat),SizeOf.sizeOf e<d->m<=4000->Bu N d e (m:Int)=some ((min (dB e).length (m+1):Nat):Int)
 |0,_,_,h,_=>absurd h (anH _)
 |d+1,e,m,h,hm=>by
  rw[Bu];have:=T9 N (Bu N d) m hm e.bM 0 1 (by omega) λx hx q hq=>SY N d x q (by have:=nw hx;omega) (by omega);rw[show((1:Nat):Int)=1 from rfl]at this;rw[this]
  congr 2
  unfold dB;simp only[anh];omega
def mD(e:ar):Int:=bif decide (40<jh 40 e)then 13 else bif decide (2000<(dB e).length)then 2 else lr (dB e)
theorem akc(N:Nat)(hN:2147483648<N)(e:ar)(h:na e):Br N e=some (mD e):=by
 unfold Br PM MX mD;have hd:qE N N e 41=_:=We N 40 N e (by omega) (by omega);rw[hd,anc,anc,abm,anc];rw[mR (p:=((jh 40 e:Nat):Int)>40) (q:=40<jh 40 e) (by omega),mR (p:=((min (dB e).length 2001:Nat):Int)>2000) (q:=2000<(dB e).length) (by omega)];cases decide (40<jh 40 e)<;>cases decide (2000<(dB e).length)<;>try rfl
 simp only[cond_false];exact Xa N hN (dB e) h
theorem Z2(N:Nat)(hN:2147483648<N)(e:ar)(hs:SizeOf.sizeOf e<N)(h:na e):IN N e=some (mD e):=by
 unfold IN Y9 SQ Zn Uq R7 mD;have hd:vR N N e 41=_:=SD N 40 N e (by omega) (by omega);have hz:Bu N N e 2000=_:=SY N N e 2000 hs (by omega);rw[hd,anc,anc,hz,anc,anc,SI N hN N e hs h,anc];rw[mR (p:=((jh 40 e:Nat):Int)>40) (q:=40<jh 40 e) (by omega)];rw[show(if(2001:Int)<((min (dB e).length 2001:Nat):Int)then(2001:Int)else((min (dB e).length 2001:Nat):Int))=((min (dB e).length 2001:Nat):Int) by split<;>omega];rw[mR (p:=((min (dB e).length 2001:Nat):Int)>2000) (q:=2000<(dB e).length) (by omega)];cases decide (40<jh 40 e)<;>cases decide (2000<(dB e).length)<;>rfl
set_option linter.unusedVariables false
def cH(l:an3 an4)(s:an4):Bool:=l.any λw=>bL w==bL s
theorem AI(N:Nat)(l:an3 an4)(s:an4):vx N l s=some (cH l s):=RO N s l 0
theorem lv(a b:an3 an4)(s:an4):cH (a++b) s=(cH a s||cH b s):=List.any_append
theorem Vk{s x:an4}(h:(bL s==bL x)=true)(l:an3 an4):cH l x=cH l s:=by
 unfold cH;rw[beq_iff_eq.1 h]
theorem E2(s x:an4):cH [s] x=(bL s==bL x):=by unfold cH;rw[an0,List.any_nil,Bool.or_false]
theorem aiG(N:Nat)(l:an3 an4)(s:an4):yR N l s=some (cH l s):=by
 unfold yR Gy;obtain⟨z,J,h2⟩:=Rs N s l 0;rw[J,anc,h2];rfl
def iE(t:an3 an4)(s:an4):Int:=bif hY s then bif cH t s then 8 else 0 else 7
theorem zW(N:Nat)(hN:16<N)(s:an4)(t:an3 an4):Al N s t=some (iE t s):=by
 unfold Al iE;rw[FK N s hN,anc,AI,anc];cases hY s<;>cases cH t s<;>rfl
theorem L2{t:an3 an4}{s:an4}(h:iE t s=0):hY s=true/\cH t s=false:=by
 unfold iE at h;cases J:hY s<;>cases h2:cH t s<;>rw[J,h2]at h<;>first|exact⟨rfl,rfl⟩|(exact absurd h (by decide))
structure KN(m:List (ByteArray×Int))(S T:List ByteArray):Prop where
 val:∀s,ga m s 0=bif cH S s then 1 else bif cH T s then 2 else 0
 len:m.length<=S.length+T.length
 Ss:∀s,cH T s=true->cH S s=false
section
variable {m:an3 (an4×Int)} {S T:an3 an4}
theorem KN.ne0(h:KN m S T)(s:an4):(ga m s 0 !=0)=cH (S++T) s:=by
 rw[h.val,lv];cases cH S s<;>cases cH T s<;>rfl
theorem KN.ne1(h:KN m S T)(s:an4):(ga m s 0 !=1)= !cH S s:=by
 rw[h.val];cases cH S s<;>cases cH T s<;>rfl
theorem KN.D9(h:KN m S T)(s:an4):(ga m s 0==1)=cH S s:=by
 rw[h.val];cases cH S s<;>cases cH T s<;>rfl
theorem KN.ne2(h:KN m S T)(s:an4):(ga m s 0 !=2)= !cH T s:=by
 have:=h.Ss s;rw[h.val];cases e1:cH S s<;>cases e2:cH T s<;>first|rfl|(rw[e1]at this;exact absurd (this e2) (by decide))
theorem Ku{V:Type}(k:an4)(v:V)(m:an3 (an4×V))(s:an4)(d:V):ga ((k,v)::m) s d=bif bL k==bL s then v else ga m s d:=rfl
theorem KN.Y8(h:KN m S T){s:an4}(hs:cH (S++T) s=false):KN ((s,2)::m) S (T++[s]):=by
 rw[lv,an2]at hs;refine⟨λx=> ?_,by have:=h.len;simp only[anh,anf,anq];omega,λx hx=> ?_⟩
 rotate_left
 ·rw[lv,E2]at hx;cases e:bL s==bL x with
  |true=>rw[Vk e];exact hs.1
  |false=>rw[e,Bool.or_false]at hx;exact h.Ss x hx
 rw[Ku,h.val,lv,E2];cases e:bL s==bL x with
 |true=>rw[Vk e,hs.1];cases cH T x<;>rfl
 |false=>cases cH S x<;>cases cH T x<;>rfl
theorem KN.o8(h:KN m S [])(s:an4):KN ((s,1)::m) (S++[s]) []:=by
 refine⟨λx=> ?_,by have:=h.len;simp only[anh,anf,anq]at*;omega,λx hx=>by cases hx⟩;rw[Ku,h.val,lv,E2];cases e:bL s==bL x<;>cases cH S x<;>rfl
theorem KN.nil:KN [] [] []:=⟨λ_=>rfl,anp _,λ_ h=>by cases h⟩
theorem Pr(N:Nat)(hN:16<N)(s:an4)(k:Int)(p:aV)(h:KN m S T)(hl:S.length+T.length<9223372036854775807):
 Ah N s k p m=some (iE (S++T) s,bif iE (S++T) s==0 then(s,k)::m else m):=by
 unfold Ah iE;rw[JN N s hN,anc,h.ne0,show Nat.blt m.length 9223372036854775807=true from Nat.ble_eq_true_of_le (by have:=h.len;omega)];cases hY s<;>cases cH (S++T) s<;>rfl
def wm(V:an3 an4)(l:bj):Bool:=l.xL.all λm=>cH V m.au
def iu(S:an3 an4)(l:bj):Int:=bif iB l then bif wm S l then 0 else 9 else 1
theorem Xc(N:Nat)(h:KN m S T):∀(l:an3 c8)(k:Nat),G5 N m l k=some (bif l.all (λm=>cH S m.au)then 0 else 9)
 |[],_=>rfl
 |x::l,k=>by
  rw[G5,h.ne1,anZ,Xc N h l];cases cH S x.au<;>rfl
theorem Rl(N:Nat)(hN:16<N)(l:bj)(p:aV)(hl:jR l)(h:KN m S T):yD N l p m=some (iu S l):=by
 unfold yD iu;rw[Hv N hN l hl,anc,Xc N h];cases iB l<;>rfl
theorem aa0(N:Nat)(V W:an3 an4):∀(l:an3 c8)(k:Nat),H8 N V W l k=some (l.all λm=>cH (V++W) m.au)
 |[],_=>rfl
 |x::l,k=>by
  rw[H8,AI,AI,anZ,aa0 N V W l,lv];cases cH V x.au<;>cases cH W x.au<;>rfl
theorem Nk(N:Nat)(V W:an3 an4)(l:bj):Kp N l V W=some (wm (V++W) l):=aa0 N V W l.xL 0
theorem QG(N:Nat)(hN:16<N)(l:bj)(hl:jR l)(S:an3 an4):DN N l S=some (iu S l):=by
 unfold DN iu;rw[Ce N hN l hl,anc,Nk,anc];rw[List.nil_append];cases iB l<;>cases wm S l<;>rfl
theorem vO(n:Nat):decide ((n:Int)>6)= !decide (n<=6):=kN n 6
theorem ajQ(N:Nat)(t:aF)(n:Nat):vt N t [(n:Int)]=some (bif c7 t then bif decide (n<=6)then 0 else 11 else 10):=by
 unfold vt;rw[pE,anc,show Ck N [(n:Int)]=some (n:Int)from rfl,anc,vO];cases c7 t<;>cases decide (n<=6)<;>rfl
theorem alx(N:Nat)(t:aF)(n k:Nat):vt N t [(n:Int),(k:Int)]=some (bif c7 t then bif decide (n<=6)&&decide (k<=6)then 0 else 11 else 10):=by
 unfold vt;rw[pE,anc,show Ck N [(n:Int),(k:Int)]=some (if(k:Int)>(n:Int)then(k:Int)else(n:Int))from rfl,anc,FP,vO];have:decide (max n k<=6)=(decide (n<=6)&&decide (k<=6)):=by
  rw[Bool.eq_iff_iff,ang,decide_eq_true_iff,decide_eq_true_iff,decide_eq_true_iff];omega
 rw[this];cases c7 t<;>cases (decide (n<=6)&&decide (k<=6))<;>rfl
def fQ{α:Type}(f:α->Int):an3 α->Int
 |[]=>0
 |x::l=>bif f x !=0 then f x else fQ f l
def uG(S T:an3 an4)(x:eH):Int:=bif iE (S++T) x.au !=0 then iE (S++T) x.au else bif c7 x.aB then bif decide (x.aU.length<=6)then fQ (iu S) x.aU else 11 else 10
theorem aax(N:Nat)(hN:16<N)(p:aV)(q:Int×an3 (an4×Int))(h:KN q.2 S T):∀(l:an3 bj)(k:Nat),(∀x∈l,jR x)->H0 N q p l k=some (fQ (iu S) l,q.2)
 |[],_,_=>rfl
 |x::l,k,hx=>by
  rw[H0,Rl N hN x p (hx x ank) h,anc,fQ];cases iu S x !=0 with
  |true=>rfl
  |false=>exact aax N hN p q h l (k+1) λy hy=>hx y (ann _ hy)
theorem jq{a:Int}(h:(a !=0)=false):a=0:=by
 rw[bne_eq_false_iff_eq]at h;exact h
theorem afx(N:Nat)(hN:16<N)(x:eH)(p:aV)(hx:∀y∈x.aU,jR y)(h:KN m S T)(hl:S.length+T.length<9223372036854775807):
 ∃m',Jj N x p m=some (uG S T x,m')/\(uG S T x=0->KN m' S (T++[x.au])):=by
 unfold Jj uG;rw[Pr N hN x.au 2 p h hl,anc,ajQ];simp only[];cases e:iE (S++T) x.au !=0 with
 |true=>exact⟨_,rfl,λh0=>by rw[cond_true]at h0;rw[h0]at e;cases e⟩
 |false=>
  have e0:=jq e;have k:=h.Y8 (L2 e0).2;rw[e0];simp only[anY,cond_true,cond_false];cases c7 x.aB with
  |false=>exact⟨_,rfl,λh0=>by cases h0⟩
  |true=>
   cases decide (x.aU.length<=6)with
   |false=>exact⟨_,rfl,λh0=>by cases h0⟩
   |true=>exact⟨_,aax N hN p (0,(x.au,2)::m) k x.aU 0 hx,λ_=>k⟩
theorem SO(N:Nat)(hN:16<N)(S:an3 an4):∀(l:an3 bj)(k:Nat),(∀x∈l,jR x)->G6 N S l k=some (fQ (iu S) l)
 |[],_,_=>rfl
 |x::l,k,hx=>by
  rw[G6,QG N hN x (hx x ank),anc,fQ];cases iu S x !=0 with
  |true=>rfl
  |false=>exact SO N hN S l (k+1) λy hy=>hx y (ann _ hy)
theorem V0(N:Nat)(hN:16<N)(x:eH)(S T:an3 an4)(hx:∀y∈x.aU,jR y):Nv N x S (S++T)=some (uG S T x):=by
 unfold Nv uG;rw[zW N hN,anc,HY,anc,vO,SO N hN S _ _ hx];cases iE (S++T) x.au !=0<;>cases c7 x.aB<;>cases decide (x.aU.length<=6)<;>rfl
def qY(S:an3 an4):an3 an4->an3 dh->Int
 |_,[]=>0
 |O,a::l=>bif iE (S++O) a.au !=0 then iE (S++O) a.au else bif iu S a.dH !=0 then iu S a.dH else qY S (O++[a.au]) l
structure ON(w:List (ByteArray×Bool))(O:List ByteArray):Prop where
 val:∀s,ga w s false=cH O s
 len:w.length<=O.length
theorem ON.add{w:an3 (an4×Bool)}{O:an3 an4}(h:ON w O)(s:an4):ON ((s,true)::w) (O++[s]):=by
 refine⟨λx=> ?_,by have:=h.len;simp only[anh,anf,anq];omega⟩;rw[Ku,h.val,lv,E2];cases bL s==bL x<;>cases cH O x<;>rfl
theorem SA(N:Nat)(hN:16<N)(p:aV)(h:KN m S T):∀(l:an3 dh)(k:Nat)(w:an3 (an4×Bool))(O:an3 an4),ON w O->(∀x∈l,jR x.dH)->O.length+l.length<9223372036854775807->
 Kf N m p l k w=some (qY S O l)
 |[],_,_,_,_,_,_=>rfl
 |a::l,k,w,O,hw,hx,hl=>by
  have pI:O.length+l.length+1<9223372036854775807:=by simp only[anh]at hl;omega
  rw[Kf,JN N _ hN,anc,hw.val,h.D9,Rl N hN _ p (hx a ank) h,anc,qY,
    show Nat.blt w.length 9223372036854775807=true from Nat.ble_eq_true_of_le (by have:=hw.len;omega)]
  have ih:=SA N hN p h l (k+1) _ _ (hw.add a.au) (λy hy=>hx y (ann _ hy)) (by simp only[anf,anh,anq];omega);unfold iE;dsimp only;rw[lv,ih];cases hY a.au<;>cases cH S a.au<;>cases cH O a.au<;>first|rfl|(cases iu S a.dH !=0<;>rfl)
theorem Wf(N:Nat)(hN:16<N)(S:an3 an4):∀(l:an3 dh)(k:Nat)(O:an3 an4),(∀x∈l,jR x.dH)->S.length+O.length+l.length<1000000000->
 Gs N S l k (S++O)=some (qY S O l)
 |[],_,_,_,_=>rfl
 |a::l,k,O,hx,hl=>by
  have pI:S.length+O.length+l.length+1<1000000000:=by simp only[anh]at hl;omega
  rw[Gs,zW N hN,anc,QG N hN _ (hx a ank),anc,qY,
    show Nat.ble (((S++O).length+1)*16) 140737488355328=true from Nat.ble_eq_true_of_le (by rw[anf];omega)]
  have ih:=Wf N hN S l (k+1) (O++[a.au]) (λy hy=>hx y (ann _ hy)) (by simp only[anf,anh,anq];omega);rw[<-anv]at ih;dsimp only;rw[ih];cases iE (S++O) a.au !=0<;>cases iu S a.dH !=0<;>rfl
theorem ZB(N:Nat)(hN:16<N)(S:an3 an4)(l:an3 dh)(hx:∀x∈l,jR x.dH)(hl:S.length+l.length<1000000000):Oc N l S=some (qY S [] l):=by
 unfold Oc;have:=Wf N hN S l 0 [] hx (by simp only[anq];omega);rw[anA]at this;rw[this,show Nat.ble ((0+S.length)*16) 140737488355328=true from Nat.ble_eq_true_of_le (by omega)];rfl
theorem IQ{n:Nat}(h:n<=9223372036854775807):aP (n:Int)=(n:Int):=jr (by omega) (by omega)
theorem aa8(N:Nat)(a b:an3 dh)(h:a.length+b.length<1000000000):zX N [a,b]=some (a++b):=by
 unfold zX;rw[uq,show aP ((0:Int)+(a.length:Int))=((a.length:Nat):Int) by rw[Int.zero_add,IQ (by omega)],show decide ((a.length:Int)<0)=false from anX (by omega)];simp only[cond_false];rw[uq,show aP ((a.length:Int)+(b.length:Int))=((a.length+b.length:Nat):Int) by rw[<-Int.natCast_add,IQ (by omega)],show decide (((a.length+b.length:Nat):Int)<0)=false from anX (by omega)];simp only[cond_false];rw[uq];unfold Mi;rw[show decide ((0:Int)<=((a.length+b.length:Nat):Int))=true from anW (by omega),anG,show Nat.ble ((a.length+b.length)*48) 140737488355328=true from Nat.ble_eq_true_of_le (by omega)];simp only[Bool.and_self,cond_true,anc];rw[xp];rw[show Nat.ble ((([]:an3 dh).length+a.length)*48) 140737488355328=true from Nat.ble_eq_true_of_le (by simp only[anq];omega)];simp only[cond_true,List.nil_append];rw[xp];rw[show Nat.ble ((a.length+b.length)*48) 140737488355328=true from Nat.ble_eq_true_of_le (by omega)];rfl
theorem adC(N:Nat)(hN:16<N)(d:bx)(p:aV)(h:KN m S T)(hx:∀x∈d.aU++d.bV,jR x.dH)(hl:d.aU.length+d.bV.length<1000000000):
 Ii N d p m=some (qY S [] (d.aU++d.bV)):=by
 unfold Ii;rw[aa8 N _ _ hl,anc];exact SA N hN p h _ 0 [] [] ⟨λ_=>rfl,anp _⟩ hx (by simp only[anf,anq];omega)
end
def uF(d:bx):Int:=bif d.c9==0 then bif d.bV.length==0 then 0 else 11 else bif decide (1<=d.c9)&&decide (d.c9<=4)then bif d.bV.length==0 then 11 else 0 else bif d.c9==5 then bif d.bV.length==0&& !(d.aU.length==0)then 0 else 11 else 1
theorem YI(f:Int):f=0\/f=1\/f=2\/f=3\/f=4\/f=5\/(f<0\/5<f):=by omega
theorem akA(N:Nat)(d:bx):KI N d=some (uF d):=by
 unfold KI uF Bl;rw[GZ,uv,uv];rcases YI d.c9 with h|h|h|h|h|h|h
 ·rw[h];cases d.bV.length==0<;>rfl
 ·rw[h];cases d.bV.length==0<;>rfl
 ·rw[h];cases d.bV.length==0<;>rfl
 ·rw[h];cases d.bV.length==0<;>rfl
 ·rw[h];cases d.bV.length==0<;>rfl
 ·rw[h];cases d.bV.length==0<;>cases d.aU.length==0<;>rfl
 ·have e:∀k:Int,0<=k->k<=5->(d.c9==k)=false:=λk J h2=>beq_eq_false_iff_ne.2 (by omega);have e2:(decide (1<=d.c9)&&decide (d.c9<=4))=false:=by
   rw[Bool.and_eq_false_iff,decide_eq_false_iff_not,decide_eq_false_iff_not];omega
  rw[e 0 (by decide) (by decide),e 1 (by decide) (by decide),e 2 (by decide) (by decide),e 3 (by decide) (by decide),e 4 (by decide) (by decide),e 5 (by decide) (by decide),e2];rfl
theorem Vh(N:Nat)(d:bx):P1 N d=some (uF d):=by
 unfold P1 uF;rw[uv,uv];rcases YI d.c9 with h|h|h|h|h|h|h
 ·rw[h];cases d.bV.length==0<;>rfl
 ·rw[h];cases d.bV.length==0<;>rfl
 ·rw[h];cases d.bV.length==0<;>rfl
 ·rw[h];cases d.bV.length==0<;>rfl
 ·rw[h];cases d.bV.length==0<;>rfl
 ·rw[h];cases d.bV.length==0<;>cases d.aU.length==0<;>rfl
 ·have e:∀k:Int,0<=k->k<=5->(d.c9==k)=false:=λk J h2=>beq_eq_false_iff_ne.2 (by omega);have e2:(decide (1<=d.c9)&&decide (d.c9<=4))=false:=by
   rw[Bool.and_eq_false_iff,decide_eq_false_iff_not,decide_eq_false_iff_not];omega
  have e3:(bif decide (d.c9<0)then some true else some (decide (d.c9>5)))=some true:=by
   rcases h with h|h
   ·rw[anW h];rfl
   ·rw[show decide (d.c9>5)=true from anW h];cases decide (d.c9<0)<;>rfl
  rw[e3,e 0 (by decide) (by decide),e 5 (by decide) (by decide),e2];rfl
end Go.Proofs.YtpeecnpmcbnahaaGreatDoor
