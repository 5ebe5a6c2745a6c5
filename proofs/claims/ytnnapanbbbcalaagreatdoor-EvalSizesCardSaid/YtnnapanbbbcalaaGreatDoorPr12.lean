/-
  Part 12 of the proof: PE4, PE5, PE6.
-/
import Derived.Test.YtnnapanbbbcalaaGreatDoorPr11
namespace Go.Proofs.YtnnapanbbbcalaaGreatDoor
open Go.RowKit
set_option maxRecDepth 100000
set_option maxHeartbeats 0
set_option linter.unusedVariables false
theorem zH{α β:Type}{P:α->β->Prop}(a:α)(b:β)(h:P a b:=by kernel_rfl):∃a b,P a b:=⟨a,b,h⟩
def Wi(v:fv)(r:ak4 AV):ak4 AV:=(aq v.gF.cg)::(aq v.gF.cE)::(aq v.gF.cB)::(aq v.gF.cY)::(aq v.gF.c8)::r
def DF(N:Nat)(v2:ak4 aX)(v1:ay)(v3:ak4 bI)(v4:ak4 (ak5×bA))(aaY:ay->(ak4 aX)->(ak4 bI)->(ak4 (ak5×bA))->ak6 (Bool×Int×(ak4 (ak5×bA))))(WV:ay->(ak4 aX)->(ak4 bI)->(ak4 (ak5×bA))->ak6 (fv×Int×(ak4 (ak5×bA))))(aiM:ay->(ak4 aX)->(ak4 bI)->(ak4 (ak5×bA))->ak6 (fv×Int×(ak4 (ak5×bA))))(v5:Bool):ak6 (fv×Int×(ak4 (ak5×bA))):=
 bif v5 then
  (PG N v2 v1 v3 v4).bind λv6=>
  some (v6.1,v6.2.1,v6.2.2)
 else
  bif (v1.aQ==11)then
   Option.bind (v1.cl[0]?) λv7=>
   (aaY v7 v2 v3 v4).bind λv8=>
   bif (v8.2.1 !=0)then
    some (xu,v8.2.1,v8.2.2)
   else
    bif v8.1 then
     Option.bind (v1.cl[1]?) λv9=>
     (WV v9 v2 v3 v8.2.2).bind λv10=>
     some (v10.1,v10.2.1,v10.2.2)
    else
     Option.bind (v1.cl[2]?) λv11=>
     (WV v11 v2 v3 v8.2.2).bind λv12=>
     some (v12.1,v12.2.1,v12.2.2)
  else
   (aiM v1 v2 v3 v4).bind λaA=>
   some (aA.1,aA.2.1,aA.2.2)
def Ff(N:Nat)(v6:fv×Int×(ak4 (ak5×bA)))(v8:fv×Int×(ak4 (ak5×bA)))(v10:Int):ak6 (fv×fv×Int×(ak4 (ak5×bA))):=
 some (v6.1,v8.1,v10,v8.2.2)
mutual
def oO(N:Nat):Nat->ay->(ak4 aX)->(ak4 bI)->(ak4 (ak5×bA))->ak6 (fv×Int×(ak4 (ak5×bA)))
 |0,_,_,_,_=>none
 |d+1,v1,v2,v3,v4=>
  bif (v1.aQ==1)then
   DF N v2 v1 v3 v4 (rz N d) (oO N d) (vM N d) (v1.aQ==1)
  else
   bif (v1.aQ==2)then
    DF N v2 v1 v3 v4 (rz N d) (oO N d) (vM N d) (v1.aQ==2)
   else
    DF N v2 v1 v3 v4 (rz N d) (oO N d) (vM N d) (v1.aQ==3)
def rz(N:Nat):Nat->ay->(ak4 aX)->(ak4 bI)->(ak4 (ak5×bA))->ak6 (Bool×Int×(ak4 (ak5×bA)))
 |0,_,_,_,_=>none
 |d+1,v1,v2,v3,v4=>
  Option.bind ((Gq N d) v1 v2 v3 v4) λv5=>
  some (v5.1,v5.2.1,v5.2.2)
def Gq(N:Nat):Nat->ay->(ak4 aX)->(ak4 bI)->(ak4 (ak5×bA))->ak6 (Bool×Int×(ak4 (ak5×bA)))
 |0,_,_,_,_=>none
 |d+1,v1,v2,v3,v4=>
  bif (decide (v1.aQ<16))then
   Option.bind ((Ai N d) v1 v2 v3 v4) λv5=>
   bif (v5.2.2.1 !=0)then
    some (false,v5.2.2.1,v5.2.2.2)
   else
    (Js N v5.1.gF v5.1.jI v5.2.1.jI).bind λv6=>
    (TE N v1.aQ v6).bind λv7=>
    some (v7,(0:Int),v5.2.2.2)
  else
   Option.bind (v1.cl[0]?) λv8=>
   Option.bind ((rz N d) v8 v2 v3 v4) λv9=>
   Option.bind (bif (v9.2.1 !=0)then some true else some (v1.aQ==18)) λv10=>
   bif v10 then
    Option.bind (bif (v9.2.1==0)then some (!v9.1)else some false) λv11=>
    some (v11,v9.2.1,v9.2.2)
   else
    Option.bind (v1.cl[1]?) λv12=>
    Option.bind ((rz N d) v12 v2 v3 v9.2.2) λaA=>
    bif (aA.2.1 !=0)then
     some (false,aA.2.1,aA.2.2)
    else
     bif (v1.aQ==16)then
      (bif v9.1 then some aA.1 else some false).bind λaE=>
      some (aE,(0:Int),aA.2.2)
     else
      (bif v9.1 then some true else some aA.1).bind λaP=>
      some (aP,(0:Int),aA.2.2)
def Ai(N:Nat):Nat->ay->(ak4 aX)->(ak4 bI)->(ak4 (ak5×bA))->ak6 (fv×fv×Int×(ak4 (ak5×bA)))
 |0,_,_,_,_=>none
 |d+1,v1,v2,v3,v4=>
  Option.bind (v1.cl[0]?) λv5=>
  Option.bind ((oO N d) v5 v2 v3 v4) λv6=>
  bif (v6.2.1 !=0)then
   some (v6.1,v6.1,v6.2.1,v6.2.2)
  else
   Option.bind (v1.cl[1]?) λv7=>
   Option.bind ((oO N d) v7 v2 v3 v6.2.2) λv8=>
   Option.bind (bif (v8.2.1==0)then some (!((v6.1.gF.cg==v8.1.gF.cg)&&((v6.1.gF.cE==v8.1.gF.cE)&&((v6.1.gF.cB==v8.1.gF.cB)&&((v6.1.gF.cY==v8.1.gF.cY)&&((v6.1.gF.c8==v8.1.gF.c8)&&true))))))else some false) λv9=>
   bif v9 then
    Ff N v6 v8 (10:Int)
   else
    Ff N v6 v8 v8.2.1
def vM(N:Nat):Nat->ay->(ak4 aX)->(ak4 bI)->(ak4 (ak5×bA))->ak6 (fv×Int×(ak4 (ak5×bA)))
 |0,_,_,_,_=>none
 |d+1,v1,v2,v3,v4=>
  Option.bind (bif (v1.aQ==8)then some true else some (v1.aQ==12)) λv5=>
  bif v5 then
   Option.bind (v1.cl[0]?) λv6=>
   Option.bind ((oO N d) v6 v2 v3 v4) λv7=>
   bif (v7.2.1 !=0)then
    some (v7.1,v7.2.1,v7.2.2)
   else
    bif (v1.aQ==12)then
     (Sf N v7.1.gF v1.aJ v7.1.jI).bind λv8=>
     some ((⟨v8.1,v1.aJ⟩:fv),v8.2,v7.2.2)
    else
     Option.bind (F8 N (8:Int) v7.1.gF v7.1.jI v7.1.jI) λv9=>
     some ((⟨v9.1,v7.1.gF⟩:fv),v9.2,v7.2.2)
  else
   Option.bind ((Ai N d) v1 v2 v3 v4) λv10=>
   bif (v10.2.2.1 !=0)then
    some (xu,v10.2.2.1,v10.2.2.2)
   else
    (F8 N v1.aQ v10.1.gF v10.1.jI v10.2.1.jI).bind λv11=>
    some ((⟨v11.1,v10.1.gF⟩:fv),v11.2,v10.2.2.2)
end
def HU(N:Nat)(v1:ay)(v2:ak4 aX)(v3:ak4 bI)(v4:ak4 (ak5×bA)):ak6 (fv×Int×(ak4 (ak5×bA))):=oO N N v1 v2 v3 v4
theorem ag8(N:Nat):∀d:Nat,(∀{v1:ay}{v2:ak4 aX}{v3:ak4 bI}{v4:ak4 (ak5×bA)}{r:fv×Int×(ak4 (ak5×bA))},oO N d v1 v2 v3 v4=some r->KH 93 [(aB v1),(.ptr 0 0),(.ptr 1 0),(.ptr 2 0)] ([.cells [(.fn 96 [(.ptr 3 0),(.ptr 4 0)])], .cells [(.d (.sl (aN v2)))], .cells [(.ptr 5 0)], .cells [(.mp 6)], .cells [(.d (.sl (bk v3)))], .cells [(.fn 93 [(.ptr 0 0),(.ptr 1 0),(.ptr 2 0)]),(.fn 91 [(.ptr 2 0)])], .map (bY cf v4)]) (.aW [(dQ r.1),(aq r.2.1)]) ([.cells [(.fn 96 [(.ptr 3 0),(.ptr 4 0)])], .cells [(.d (.sl (aN v2)))], .cells [(.ptr 5 0)], .cells [(.mp 6)], .cells [(.d (.sl (bk v3)))], .cells [(.fn 93 [(.ptr 0 0),(.ptr 1 0),(.ptr 2 0)]),(.fn 91 [(.ptr 2 0)])], .map (bY cf r.2.2)]))/\(∀{v1:ay}{v2:ak4 aX}{v3:ak4 bI}{v4:ak4 (ak5×bA)}{r:Bool×Int×(ak4 (ak5×bA))},rz N d v1 v2 v3 v4=some r->KH 91 [(aB v1),(.ptr 0 0)] ([.cells [(.ptr 1 0)], .cells [(.fn 93 [(.ptr 2 0),(.ptr 3 0),(.ptr 0 0)]),(.fn 91 [(.ptr 0 0)])], .cells [(.fn 96 [(.ptr 4 0),(.ptr 5 0)])], .cells [(.d (.sl (aN v2)))], .cells [(.mp 6)], .cells [(.d (.sl (bk v3)))], .map (bY cf v4)]) (.aW [(ax r.1),(aq r.2.1)]) ([.cells [(.ptr 1 0)], .cells [(.fn 93 [(.ptr 2 0),(.ptr 3 0),(.ptr 0 0)]),(.fn 91 [(.ptr 0 0)])], .cells [(.fn 96 [(.ptr 4 0),(.ptr 5 0)])], .cells [(.d (.sl (aN v2)))], .cells [(.mp 6)], .cells [(.d (.sl (bk v3)))], .map (bY cf r.2.2)]))/\(∀{v1:ay}{v2:ak4 aX}{v3:ak4 bI}{v4:ak4 (ak5×bA)}{r:Bool×Int×(ak4 (ak5×bA))},Gq N d v1 v2 v3 v4=some r->KH 92 [(.ptr 0 0),(aB v1)] ([.cells [(.fn 93 [(.ptr 1 0),(.ptr 2 0),(.ptr 3 0)]),(.fn 91 [(.ptr 3 0)])], .cells [(.fn 96 [(.ptr 4 0),(.ptr 5 0)])], .cells [(.d (.sl (aN v2)))], .cells [(.ptr 0 0)], .cells [(.mp 6)], .cells [(.d (.sl (bk v3)))], .map (bY cf v4)]) (.aW [(ax r.1),(aq r.2.1)]) ([.cells [(.fn 93 [(.ptr 1 0),(.ptr 2 0),(.ptr 3 0)]),(.fn 91 [(.ptr 3 0)])], .cells [(.fn 96 [(.ptr 4 0),(.ptr 5 0)])], .cells [(.d (.sl (aN v2)))], .cells [(.ptr 0 0)], .cells [(.mp 6)], .cells [(.d (.sl (bk v3)))], .map (bY cf r.2.2)]))/\(∀{v1:ay}{v2:ak4 aX}{v3:ak4 bI}{v4:ak4 (ak5×bA)}{r:fv×fv×Int×(ak4 (ak5×bA))},Ai N d v1 v2 v3 v4=some r->KH 156 [(.ptr 0 0),(aB v1)] ([.cells [(.fn 93 [(.ptr 1 0),(.ptr 2 0),(.ptr 3 0)]),(.fn 91 [(.ptr 3 0)])], .cells [(.fn 96 [(.ptr 4 0),(.ptr 5 0)])], .cells [(.d (.sl (aN v2)))], .cells [(.ptr 0 0)], .cells [(.mp 6)], .cells [(.d (.sl (bk v3)))], .map (bY cf v4)]) (.aW [(dQ r.1),(dQ r.2.1),(aq r.2.2.1)]) ([.cells [(.fn 93 [(.ptr 1 0),(.ptr 2 0),(.ptr 3 0)]),(.fn 91 [(.ptr 3 0)])], .cells [(.fn 96 [(.ptr 4 0),(.ptr 5 0)])], .cells [(.d (.sl (aN v2)))], .cells [(.ptr 0 0)], .cells [(.mp 6)], .cells [(.d (.sl (bk v3)))], .map (bY cf r.2.2.2)]))/\(∀{v1:ay}{v2:ak4 aX}{v3:ak4 bI}{v4:ak4 (ak5×bA)}{r:fv×Int×(ak4 (ak5×bA))},vM N d v1 v2 v3 v4=some r->KH 95 [(.ptr 0 0),(aB v1)] ([.cells [(.fn 93 [(.ptr 1 0),(.ptr 2 0),(.ptr 3 0)]),(.fn 91 [(.ptr 3 0)])], .cells [(.fn 96 [(.ptr 4 0),(.ptr 5 0)])], .cells [(.d (.sl (aN v2)))], .cells [(.ptr 0 0)], .cells [(.mp 6)], .cells [(.d (.sl (bk v3)))], .map (bY cf v4)]) (.aW [(dQ r.1),(aq r.2.1)]) ([.cells [(.fn 93 [(.ptr 1 0),(.ptr 2 0),(.ptr 3 0)]),(.fn 91 [(.ptr 3 0)])], .cells [(.fn 96 [(.ptr 4 0),(.ptr 5 0)])], .cells [(.d (.sl (aN v2)))], .cells [(.ptr 0 0)], .cells [(.mp 6)], .cells [(.d (.sl (bk v3)))], .map (bY cf r.2.2)])):=by
 intro d
 induction d with
 |zero=>exact⟨(by intro v1 v2 v3 v4 r U;rw[oO]at U;cases U),(by intro v1 v2 v3 v4 r U;rw[rz]at U;cases U),(by intro v1 v2 v3 v4 r U;rw[Gq]at U;cases U),(by intro v1 v2 v3 v4 r U;rw[Ai]at U;cases U),(by intro v1 v2 v3 v4 r U;rw[vM]at U;cases U)⟩
 |succ d ih=>
  have tC:= @ih.1;have N8:= @ih.2.1;have adi:= @ih.2.2.1;have Tw:= @ih.2.2.2.1;have ahz:= @ih.2.2.2.2;refine⟨?_,?_,?_,?_,?_⟩
  ·intro v1 v2 v3 v4 r U;rw[oO]at U;refine Cd 7 Tryz.func93 ?_;refine A3 bB r 1 [[],[],[]] [1,2,3,4,5,10,11] 9 (λ(v5:Bool)=>⟨67,[(1,(.ptr 0 0)),(2,(.ptr 1 0)),(3,(.ptr 2 0)),(4,(.ptr 7 0)),(5,(.ptr 8 0)),(10,(aq v1.aQ)),(11,(ax v5))],[.cells [(.fn 96 [(.ptr 3 0),(.ptr 4 0)])], .cells [(.d (.sl (aN v2)))], .cells [(.ptr 5 0)], .cells [(.mp 6)], .cells [(.d (.sl (bk v3)))], .cells [(.fn 93 [(.ptr 0 0),(.ptr 1 0),(.ptr 2 0)]),(.fn 91 [(.ptr 2 0)])], .map (bY cf v4), .cells (aB v1).cells, .cells dE]⟩) (DF N v2 v1 v3 v4 (rz N d) (oO N d) (vM N d)) ?_ ?_
   ·intro f1 aG;apply bc U<;>intro bN U
    ·exact kM bB aG (v1.aQ==1) [[(0,bT bN)]] U
    refine gp bB [[(0,bF bN)],[]] ?_;apply bc U<;>intro bZ U
    ·exact kM bB aG (v1.aQ==2) [[(0,bT bZ)]] U
    exact kM bB aG (v1.aQ==3) [[(0,bF bZ)],[]] U
   intro v5 U;rw[DF]at U;apply bc U<;>intro J U
   ·obtain⟨v6,h2,U⟩:=bg U;cases U;exact l8 bB [[(0,bT J)],[(10,oR [(.fn 96 [(.ptr 3 0),(.ptr 4 0)]),(.d (.sl (aN v2))),(aB v1)] [.cells [(.fn 96 [(.ptr 3 0),(.ptr 4 0)])], .cells [(.d (.sl (aN v2)))], .cells [(.ptr 5 0)], .cells [(.mp 6)], .cells [(.d (.sl (bk v3)))], .cells [(.fn 93 [(.ptr 0 0),(.ptr 1 0),(.ptr 2 0)]),(.fn 91 [(.ptr 2 0)])], .map (bY cf v4), .cells (aB v1).cells, .cells dE] [3,4,6] (acH _ h2))]]
   refine gp bB [[(0,bF J)],[]] ?_;apply bc U<;>intro h3 U
   ·refine gp bB [[(0,bT h3)]] ?_;obtain⟨v7,h4,v8,h5,U⟩:=k00 U;refine w7 bB [(19,oE (k:=0) (jM h4)),(25,oR [(aB v7),(.ptr 2 0)] [.cells [(.fn 96 [(.ptr 3 0),(.ptr 4 0)])], .cells [(.d (.sl (aN v2)))], .cells [(.ptr 5 0)], .cells [(.mp 6)], .cells [(.d (.sl (bk v3)))], .cells [(.fn 93 [(.ptr 0 0),(.ptr 1 0),(.ptr 2 0)]),(.fn 91 [(.ptr 2 0)])], .map (bY cf v4), .cells (aB v1).cells, .cells dE] [2,5,0,1,3,4,6] (N8 h5))] [(7,(ax v8.1)),(8,(aq v8.2.1))] [.cells [(.fn 96 [(.ptr 3 0),(.ptr 4 0)])], .cells [(.d (.sl (aN v2)))], .cells [(.ptr 5 0)], .cells [(.mp 6)], .cells [(.d (.sl (bk v3)))], .cells [(.fn 93 [(.ptr 0 0),(.ptr 1 0),(.ptr 2 0)]),(.fn 91 [(.ptr 2 0)])], .map (bY cf v8.2.2), .cells (aB v1).cells, .cells dE] ?_;refine gp bB [[]] ?_;apply bc U<;>intro h6 U
    ·cases U;exact l8 bB [[(0,bT h6)],[]]
    refine gp bB [[(0,bF h6)],[]] ?_;apply bc U<;>intro h7 U
    ·refine gp bB [[(0,bT h7)]] ?_;obtain⟨v9,h8,v10,h9,U⟩:=k00 U;refine w7 bB [(19,oE (k:=1) (jM h8)),(25,oR [(aB v9),(.ptr 0 0),(.ptr 1 0),(.ptr 2 0)] [.cells [(.fn 96 [(.ptr 3 0),(.ptr 4 0)])], .cells [(.d (.sl (aN v2)))], .cells [(.ptr 5 0)], .cells [(.mp 6)], .cells [(.d (.sl (bk v3)))], .cells [(.fn 93 [(.ptr 0 0),(.ptr 1 0),(.ptr 2 0)]),(.fn 91 [(.ptr 2 0)])], .map (bY cf v8.2.2), .cells (aB v1).cells, .cells dE] [0,1,2,3,4,5,6] (tC h9))] [(6,(aq v10.2.1))] [.cells [(.fn 96 [(.ptr 3 0),(.ptr 4 0)])], .cells [(.d (.sl (aN v2)))], .cells [(.ptr 5 0)], .cells [(.mp 6)], .cells [(.d (.sl (bk v3)))], .cells [(.fn 93 [(.ptr 0 0),(.ptr 1 0),(.ptr 2 0)]),(.fn 91 [(.ptr 2 0)])], .map (bY cf v10.2.2), .cells (aB v1).cells, .cells (dQ v10.1).cells] ?_;cases U;exact l8 bB []
    refine gp bB [[(0,bF h7)]] ?_;obtain⟨v11,aO,v12,aY,U⟩:=k00 U;refine w7 bB [(19,oE (k:=2) (jM aO)),(25,oR [(aB v11),(.ptr 0 0),(.ptr 1 0),(.ptr 2 0)] [.cells [(.fn 96 [(.ptr 3 0),(.ptr 4 0)])], .cells [(.d (.sl (aN v2)))], .cells [(.ptr 5 0)], .cells [(.mp 6)], .cells [(.d (.sl (bk v3)))], .cells [(.fn 93 [(.ptr 0 0),(.ptr 1 0),(.ptr 2 0)]),(.fn 91 [(.ptr 2 0)])], .map (bY cf v8.2.2), .cells (aB v1).cells, .cells dE] [0,1,2,3,4,5,6] (tC aY))] [(6,(aq v12.2.1))] [.cells [(.fn 96 [(.ptr 3 0),(.ptr 4 0)])], .cells [(.d (.sl (aN v2)))], .cells [(.ptr 5 0)], .cells [(.mp 6)], .cells [(.d (.sl (bk v3)))], .cells [(.fn 93 [(.ptr 0 0),(.ptr 1 0),(.ptr 2 0)]),(.fn 91 [(.ptr 2 0)])], .map (bY cf v12.2.2), .cells (aB v1).cells, .cells (dQ v12.1).cells] ?_;cases U;exact l8 bB []
   obtain⟨aA,aT,U⟩:=bg U;cases U;exact l8 bB [[(0,bF h3)],[(7,oR [(.ptr 5 0),(aB v1)] [.cells [(.fn 96 [(.ptr 3 0),(.ptr 4 0)])], .cells [(.d (.sl (aN v2)))], .cells [(.ptr 5 0)], .cells [(.mp 6)], .cells [(.d (.sl (bk v3)))], .cells [(.fn 93 [(.ptr 0 0),(.ptr 1 0),(.ptr 2 0)]),(.fn 91 [(.ptr 2 0)])], .map (bY cf v4), .cells (aB v1).cells, .cells dE] [5,0,1,2,3,4,6] (ahz aT))]]
  ·intro v1 v2 v3 v4 r U;rw[rz]at U;refine Cd 7 Tryz.func91 ?_;obtain⟨v5,J,U⟩:=bg U;cases U;exact l8 bB [[],[(7,oR [(.ptr 1 0),(aB v1)] [.cells [(.ptr 1 0)], .cells [(.fn 93 [(.ptr 2 0),(.ptr 3 0),(.ptr 0 0)]),(.fn 91 [(.ptr 0 0)])], .cells [(.fn 96 [(.ptr 4 0),(.ptr 5 0)])], .cells [(.d (.sl (aN v2)))], .cells [(.mp 6)], .cells [(.d (.sl (bk v3)))], .map (bY cf v4), .cells (aB v1).cells] [1,2,3,0,4,5,6] (adi J))]]
  ·intro v1 v2 v3 v4 r U;rw[Gq]at U;refine Cd 7 Tryz.func92 ?_;refine gp bB [[],[]] ?_;apply bc U<;>intro J U
   ·obtain⟨v5,h2,U⟩:=bg U;refine gp bB [[(0,bT J)],[(7,oR [(.ptr 0 0),(aB v1)] [.cells [(.fn 93 [(.ptr 1 0),(.ptr 2 0),(.ptr 3 0)]),(.fn 91 [(.ptr 3 0)])], .cells [(.fn 96 [(.ptr 4 0),(.ptr 5 0)])], .cells [(.d (.sl (aN v2)))], .cells [(.ptr 0 0)], .cells [(.mp 6)], .cells [(.d (.sl (bk v3)))], .map (bY cf v4), .cells (aB v1).cells] [0,1,2,3,4,5,6] (Tw h2))],[]] ?_;apply bc U<;>intro h3 U
    ·cases U;exact l8 bB [[(0,bT h3)],[]]
    obtain⟨v6,h4,v7,h5,U⟩:=k00 U;cases U;exact l8 bB [[(0,bF h3)],[(25,cK UH h4),(28,cK YY h5)]]
   refine gp bB [[(0,bF J)]] ?_;obtain⟨v8,h6,v9,h7,U⟩:=k00 U;refine w7 bB [(19,oE (k:=0) (jM h6)),(25,oR [(aB v8),(.ptr 3 0)] [.cells [(.fn 93 [(.ptr 1 0),(.ptr 2 0),(.ptr 3 0)]),(.fn 91 [(.ptr 3 0)])], .cells [(.fn 96 [(.ptr 4 0),(.ptr 5 0)])], .cells [(.d (.sl (aN v2)))], .cells [(.ptr 0 0)], .cells [(.mp 6)], .cells [(.d (.sl (bk v3)))], .map (bY cf v4), .cells (aB v1).cells] [3,0,1,2,4,5,6] (N8 h7))] [(9,(ax v9.1)),(10,(aq v9.2.1))] [.cells [(.fn 93 [(.ptr 1 0),(.ptr 2 0),(.ptr 3 0)]),(.fn 91 [(.ptr 3 0)])], .cells [(.fn 96 [(.ptr 4 0),(.ptr 5 0)])], .cells [(.d (.sl (aN v2)))], .cells [(.ptr 0 0)], .cells [(.mp 6)], .cells [(.d (.sl (bk v3)))], .map (bY cf v9.2.2), .cells (aB v1).cells] ?_;obtain⟨v10,h9,U⟩:=bg U;refine vB bB [(53,(ax v10))] [.cells [(.fn 93 [(.ptr 1 0),(.ptr 2 0),(.ptr 3 0)]),(.fn 91 [(.ptr 3 0)])], .cells [(.fn 96 [(.ptr 4 0),(.ptr 5 0)])], .cells [(.d (.sl (aN v2)))], .cells [(.ptr 0 0)], .cells [(.mp 6)], .cells [(.d (.sl (bk v3)))], .map (bY cf v9.2.2), .cells (aB v1).cells] ?_ ?_
   ·apply bc h9<;>intro h8 h9
    ·cases h9;exact zH [(2,bT h8)] []
    cases h9;exact zH [(2,bF h8)] []
   apply bc U<;>intro aO U
   ·refine gp bB [[(0,bT aO)]] ?_;obtain⟨v11,aT,U⟩:=bg U;refine vB bB [(4,(ax v11)),(5,(aq v9.2.1))] [.cells [(.fn 93 [(.ptr 1 0),(.ptr 2 0),(.ptr 3 0)]),(.fn 91 [(.ptr 3 0)])], .cells [(.fn 96 [(.ptr 4 0),(.ptr 5 0)])], .cells [(.d (.sl (aN v2)))], .cells [(.ptr 0 0)], .cells [(.mp 6)], .cells [(.d (.sl (bk v3)))], .map (bY cf v9.2.2), .cells (aB v1).cells] ?_ ?_
    ·apply bc aT<;>intro aY aT
     ·cases aT;exact zH [(2,bT aY)] []
     cases aT;exact zH [(2,bF aY)] []
    cases U;exact l8 bB []
   refine gp bB [[(0,bF aO)]] ?_;obtain⟨v12,bN,aA,bZ,U⟩:=k00 U;refine w7 bB [(19,oE (k:=1) (jM bN)),(25,oR [(aB v12),(.ptr 3 0)] [.cells [(.fn 93 [(.ptr 1 0),(.ptr 2 0),(.ptr 3 0)]),(.fn 91 [(.ptr 3 0)])], .cells [(.fn 96 [(.ptr 4 0),(.ptr 5 0)])], .cells [(.d (.sl (aN v2)))], .cells [(.ptr 0 0)], .cells [(.mp 6)], .cells [(.d (.sl (bk v3)))], .map (bY cf v9.2.2), .cells (aB v1).cells] [3,0,1,2,4,5,6] (N8 bZ))] [(11,(ax aA.1)),(10,(aq aA.2.1))] [.cells [(.fn 93 [(.ptr 1 0),(.ptr 2 0),(.ptr 3 0)]),(.fn 91 [(.ptr 3 0)])], .cells [(.fn 96 [(.ptr 4 0),(.ptr 5 0)])], .cells [(.d (.sl (aN v2)))], .cells [(.ptr 0 0)], .cells [(.mp 6)], .cells [(.d (.sl (bk v3)))], .map (bY cf aA.2.2), .cells (aB v1).cells] ?_;refine gp bB [[]] ?_;apply bc U<;>intro bM U
   ·cases U;exact l8 bB [[(0,bT bM)],[]]
   refine gp bB [[(0,bF bM)],[]] ?_;apply bc U<;>intro cn U
   ·refine gp bB [[(0,bT cn)]] ?_;obtain⟨aE,eC,U⟩:=bg U;refine vB bB [(4,(ax aE)),(5,(aq (0:Int)))] [.cells [(.fn 93 [(.ptr 1 0),(.ptr 2 0),(.ptr 3 0)]),(.fn 91 [(.ptr 3 0)])], .cells [(.fn 96 [(.ptr 4 0),(.ptr 5 0)])], .cells [(.d (.sl (aN v2)))], .cells [(.ptr 0 0)], .cells [(.mp 6)], .cells [(.d (.sl (bk v3)))], .map (bY cf aA.2.2), .cells (aB v1).cells] ?_ ?_
    ·apply bc eC<;>intro dj eC
     ·cases eC;exact zH [(1,bT dj)] []
     cases eC;exact zH [(1,bF dj)] []
    cases U;exact l8 bB []
   refine gp bB [[(0,bF cn)]] ?_;obtain⟨aP,dD,U⟩:=bg U;refine vB bB [(4,(ax aP)),(5,(aq (0:Int)))] [.cells [(.fn 93 [(.ptr 1 0),(.ptr 2 0),(.ptr 3 0)]),(.fn 91 [(.ptr 3 0)])], .cells [(.fn 96 [(.ptr 4 0),(.ptr 5 0)])], .cells [(.d (.sl (aN v2)))], .cells [(.ptr 0 0)], .cells [(.mp 6)], .cells [(.d (.sl (bk v3)))], .map (bY cf aA.2.2), .cells (aB v1).cells] ?_ ?_
   ·apply bc dD<;>intro fu dD
    ·cases dD;exact zH [(1,bT fu)] []
    cases dD;exact zH [(1,bF fu)] []
   cases U;exact l8 bB []
  ·intro v1 v2 v3 v4 r U;rw[Ai]at U;refine pj 7 Tryz.func156 rfl (by kernel_rfl) (ako rfl) ?_;refine lG (s':=⟨51,[(0,(.ptr 0 0)),(1,(aB v1))],[.cells [(.fn 93 [(.ptr 1 0),(.ptr 2 0),(.ptr 3 0)]),(.fn 91 [(.ptr 3 0)])], .cells [(.fn 96 [(.ptr 4 0),(.ptr 5 0)])], .cells [(.d (.sl (aN v2)))], .cells [(.ptr 0 0)], .cells [(.mp 6)], .cells [(.d (.sl (bk v3)))], .map (bY cf v4)]⟩) (by kernel_rfl) ?_;refine ar ?_;refine rg [] [(3,(.ptr 7 0)),(4,(.ptr 8 0)),(5,(.ptr 9 0))] [.cells [(.fn 93 [(.ptr 1 0),(.ptr 2 0),(.ptr 3 0)]),(.fn 91 [(.ptr 3 0)])], .cells [(.fn 96 [(.ptr 4 0),(.ptr 5 0)])], .cells [(.d (.sl (aN v2)))], .cells [(.ptr 0 0)], .cells [(.mp 6)], .cells [(.d (.sl (bk v3)))], .map (bY cf v4), .cells (aB v1).cells, .cells dE, .cells dE] (by kernel_rfl) ?_;refine ar ?_;obtain⟨v5,J,v6,h2,U⟩:=k00 U;refine ro 2 bB (.node 0 [] (.node 1 [] (.node 2 [] (.node 3 [] (.node 4 [] (.node 5 [] (.node 6 [(19,oE (k:=0) (jM J))] (.node 7 [] (.node 8 [(25,oR [(aB v5),(.ptr 1 0),(.ptr 2 0),(.ptr 3 0)] [.cells [(.fn 93 [(.ptr 1 0),(.ptr 2 0),(.ptr 3 0)]),(.fn 91 [(.ptr 3 0)])], .cells [(.fn 96 [(.ptr 4 0),(.ptr 5 0)])], .cells [(.d (.sl (aN v2)))], .cells [(.ptr 0 0)], .cells [(.mp 6)], .cells [(.d (.sl (bk v3)))], .map (bY cf v4), .cells (aB v1).cells, .cells dE, .cells dE] [1,2,3,4,5,0,6] (tC h2))] (.node 9 [] (.node 10 [] (.node 11 [] (.node 12 [] (.node 13 [] (.node 14 [] .nil .nil) .nil) .nil) .nil) .nil) .nil) (.node 12 [] (.node 8 [(25,oR [(aB v5),(.ptr 1 0),(.ptr 2 0),(.ptr 3 0)] [.cells [(.fn 93 [(.ptr 1 0),(.ptr 2 0),(.ptr 3 0)]),(.fn 91 [(.ptr 3 0)])], .cells [(.fn 96 [(.ptr 4 0),(.ptr 5 0)])], .cells [(.d (.sl (aN v2)))], .cells [(.ptr 0 0)], .cells [(.mp 6)], .cells [(.d (.sl (bk v3)))], .map (bY cf v4), .cells (aB v1).cells, .cells dE, .cells dE, .cells dE] [1,2,3,4,5,0,6] (tC h2))] (.node 9 [] (.node 10 [] (.node 11 [] (.node 13 [] (.node 14 [] .nil .nil) .nil) .nil) .nil) .nil) .nil) .nil)) .nil) .nil) .nil) .nil) .nil) .nil) .nil) .nil) [(7,(.ptr 10 0)),(8,(aq v6.2.1))] [.cells [(.fn 93 [(.ptr 1 0),(.ptr 2 0),(.ptr 3 0)]),(.fn 91 [(.ptr 3 0)])], .cells [(.fn 96 [(.ptr 4 0),(.ptr 5 0)])], .cells [(.d (.sl (aN v2)))], .cells [(.ptr 0 0)], .cells [(.mp 6)], .cells [(.d (.sl (bk v3)))], .map (bY cf v6.2.2), .cells (aB v1).cells, .cells dE, .cells dE, .cells (dQ v6.1).cells] (by kernel_rfl) ?_
   refine ar ?_;refine ar ?_;refine rg [] [(23,(ax (v6.2.1 !=0)))] [.cells [(.fn 93 [(.ptr 1 0),(.ptr 2 0),(.ptr 3 0)]),(.fn 91 [(.ptr 3 0)])], .cells [(.fn 96 [(.ptr 4 0),(.ptr 5 0)])], .cells [(.d (.sl (aN v2)))], .cells [(.ptr 0 0)], .cells [(.mp 6)], .cells [(.d (.sl (bk v3)))], .map (bY cf v6.2.2), .cells (aB v1).cells, .cells dE, .cells dE, .cells (dQ v6.1).cells] (by kernel_rfl) ?_;rcases dC (v6.2.1 !=0)with h3|h3
   ·replace U:=(dc h3).symm.trans U;refine cQ (t:=(v6.2.1 !=0)) (by kernel_rfl) h3 ?_;refine ar ?_;refine rt 2 bB [] [(6,(aq v6.2.1))] [.cells [(.fn 93 [(.ptr 1 0),(.ptr 2 0),(.ptr 3 0)]),(.fn 91 [(.ptr 3 0)])], .cells [(.fn 96 [(.ptr 4 0),(.ptr 5 0)])], .cells [(.d (.sl (aN v2)))], .cells [(.ptr 0 0)], .cells [(.mp 6)], .cells [(.d (.sl (bk v3)))], .map (bY cf v6.2.2), .cells (aB v1).cells, .cells (dQ v6.1).cells, .cells (dQ v6.1).cells, .cells (dQ v6.1).cells] (by kernel_rfl) ?_;refine cV (cU ?_);have hr:=akz U;subst hr;exact iT (by kernel_rfl)
   replace U:=(dG h3).symm.trans U;refine dw (t:=(v6.2.1 !=0)) (by kernel_rfl) h3 ?_;refine cx ?_;refine aI ?_;refine ar ?_;obtain⟨v7,h4,v8,h5,U⟩:=k00 U;refine ro 2 bB (.node 0 [] (.node 1 [] (.node 2 [] (.node 3 [] (.node 4 [] (.node 5 [] (.node 6 [(19,oE (k:=1) (jM h4))] (.node 7 [] (.node 8 [(25,oR [(aB v7),(.ptr 1 0),(.ptr 2 0),(.ptr 3 0)] [.cells [(.fn 93 [(.ptr 1 0),(.ptr 2 0),(.ptr 3 0)]),(.fn 91 [(.ptr 3 0)])], .cells [(.fn 96 [(.ptr 4 0),(.ptr 5 0)])], .cells [(.d (.sl (aN v2)))], .cells [(.ptr 0 0)], .cells [(.mp 6)], .cells [(.d (.sl (bk v3)))], .map (bY cf v6.2.2), .cells (aB v1).cells, .cells dE, .cells dE, .cells (dQ v6.1).cells] [1,2,3,4,5,0,6] (tC h5))] (.node 9 [] (.node 10 [] (.node 11 [] (.node 12 [] (.node 13 [] (.node 14 [] .nil .nil) .nil) .nil) .nil) .nil) .nil) (.node 12 [] (.node 8 [(25,oR [(aB v7),(.ptr 1 0),(.ptr 2 0),(.ptr 3 0)] [.cells [(.fn 93 [(.ptr 1 0),(.ptr 2 0),(.ptr 3 0)]),(.fn 91 [(.ptr 3 0)])], .cells [(.fn 96 [(.ptr 4 0),(.ptr 5 0)])], .cells [(.d (.sl (aN v2)))], .cells [(.ptr 0 0)], .cells [(.mp 6)], .cells [(.d (.sl (bk v3)))], .map (bY cf v6.2.2), .cells (aB v1).cells, .cells dE, .cells dE, .cells (dQ v6.1).cells, .cells dE] [1,2,3,4,5,0,6] (tC h5))] (.node 9 [] (.node 10 [] (.node 11 [] (.node 13 [] (.node 14 [] .nil .nil) .nil) .nil) .nil) .nil) .nil) .nil)) .nil) .nil) .nil) .nil) .nil) .nil) .nil) .nil) [(9,(.ptr 11 0)),(8,(aq v8.2.1))] [.cells [(.fn 93 [(.ptr 1 0),(.ptr 2 0),(.ptr 3 0)]),(.fn 91 [(.ptr 3 0)])], .cells [(.fn 96 [(.ptr 4 0),(.ptr 5 0)])], .cells [(.d (.sl (aN v2)))], .cells [(.ptr 0 0)], .cells [(.mp 6)], .cells [(.d (.sl (bk v3)))], .map (bY cf v8.2.2), .cells (aB v1).cells, .cells dE, .cells dE, .cells (dQ v6.1).cells, .cells (dQ v8.1).cells] (by kernel_rfl) ?_
   refine ar ?_;refine ar ?_;obtain⟨v9,h7,U⟩:=bg U;refine yB [(47,(ax v9))] [.cells [(.fn 93 [(.ptr 1 0),(.ptr 2 0),(.ptr 3 0)]),(.fn 91 [(.ptr 3 0)])], .cells [(.fn 96 [(.ptr 4 0),(.ptr 5 0)])], .cells [(.d (.sl (aN v2)))], .cells [(.ptr 0 0)], .cells [(.mp 6)], .cells [(.d (.sl (bk v3)))], .map (bY cf v8.2.2), .cells (aB v1).cells, .cells dE, .cells dE, .cells (dQ v6.1).cells, .cells (dQ v8.1).cells] ?_ ?_
   ·rcases dC (v8.2.1==0)with h6|h6
    ·replace h7:=(dc h6).symm.trans h7;have he:=akz h7;subst he;exact⟨[(9,bT h6),(12,bT h6),(15,bT h6),(18,bT h6),(21,bT h6),(25,bT h6)],by kernel_rfl⟩
    replace h7:=(dG h6).symm.trans h7;have he:=akz h7;subst he;exact⟨[(9,bF h6),(12,bF h6),(15,bF h6),(18,bF h6),(21,bF h6),(25,bF h6)],by kernel_rfl⟩
   refine o9 [4,5,7,8,9] 12 (λ(v10:Int)=>⟨51,[(4,(.ptr 8 0)),(5,(.ptr 9 0)),(7,(.ptr 10 0)),(8,(aq v10)),(9,(.ptr 11 0))],[.cells [(.fn 93 [(.ptr 1 0),(.ptr 2 0),(.ptr 3 0)]),(.fn 91 [(.ptr 3 0)])], .cells [(.fn 96 [(.ptr 4 0),(.ptr 5 0)])], .cells [(.d (.sl (aN v2)))], .cells [(.ptr 0 0)], .cells [(.mp 6)], .cells [(.d (.sl (bk v3)))], .map (bY cf v8.2.2), .cells (aB v1).cells, .cells dE, .cells dE, .cells (dQ v6.1).cells, .cells (dQ v8.1).cells]⟩) (λ(v10:Int)=>Ff N v6 v8 v10=some r) (ako rfl) ?_ ?_
   ·rcases dC v9 with h8|h8
    ·replace U:=(dc h8).symm.trans U;refine cQ (t:=v9) (by kernel_rfl) h8 ?_;refine re [] [(8,(aq (10:Int)))] [.cells [(.fn 93 [(.ptr 1 0),(.ptr 2 0),(.ptr 3 0)]),(.fn 91 [(.ptr 3 0)])], .cells [(.fn 96 [(.ptr 4 0),(.ptr 5 0)])], .cells [(.d (.sl (aN v2)))], .cells [(.ptr 0 0)], .cells [(.mp 6)], .cells [(.d (.sl (bk v3)))], .map (bY cf v8.2.2), .cells (aB v1).cells, .cells dE, .cells dE, .cells (dQ v6.1).cells, .cells (dQ v8.1).cells] (by kernel_rfl) ?_;refine aI ?_;exact⟨(10:Int),by kernel_rfl,U⟩
    replace U:=(dG h8).symm.trans U;refine dw (t:=v9) (by kernel_rfl) h8 ?_;refine cx ?_;refine aI ?_;exact⟨v8.2.1,by kernel_rfl,U⟩
   rintro v10 U
   try dsimp only at U
   rw[Ff]at U;refine ar ?_;refine rt 2 bB [] [(6,(aq v10))] [.cells [(.fn 93 [(.ptr 1 0),(.ptr 2 0),(.ptr 3 0)]),(.fn 91 [(.ptr 3 0)])], .cells [(.fn 96 [(.ptr 4 0),(.ptr 5 0)])], .cells [(.d (.sl (aN v2)))], .cells [(.ptr 0 0)], .cells [(.mp 6)], .cells [(.d (.sl (bk v3)))], .map (bY cf v8.2.2), .cells (aB v1).cells, .cells (dQ v6.1).cells, .cells (dQ v8.1).cells, .cells (dQ v6.1).cells, .cells (dQ v8.1).cells] (by kernel_rfl) ?_;refine cV ?_;have hr:=akz U;subst hr;exact iT (by kernel_rfl)
  intro v1 v2 v3 v4 r U;rw[vM]at U;refine pj 7 Tryz.func95 rfl (by kernel_rfl) (ako rfl) ?_;refine lG (s':=⟨100,[(0,(.ptr 0 0)),(1,(aB v1))],[.cells [(.fn 93 [(.ptr 1 0),(.ptr 2 0),(.ptr 3 0)]),(.fn 91 [(.ptr 3 0)])], .cells [(.fn 96 [(.ptr 4 0),(.ptr 5 0)])], .cells [(.d (.sl (aN v2)))], .cells [(.ptr 0 0)], .cells [(.mp 6)], .cells [(.d (.sl (bk v3)))], .map (bY cf v4)]⟩) (by kernel_rfl) ?_;refine ar ?_;refine rg [] [(3,(.ptr 7 0)),(4,(.ptr 8 0))] [.cells [(.fn 93 [(.ptr 1 0),(.ptr 2 0),(.ptr 3 0)]),(.fn 91 [(.ptr 3 0)])], .cells [(.fn 96 [(.ptr 4 0),(.ptr 5 0)])], .cells [(.d (.sl (aN v2)))], .cells [(.ptr 0 0)], .cells [(.mp 6)], .cells [(.d (.sl (bk v3)))], .map (bY cf v4), .cells (aB v1).cells, .cells dE] (by kernel_rfl) ?_;refine ar ?_;refine ar ?_;obtain⟨v5,h2,U⟩:=bg U;refine yB [(22,(ax v5))] [.cells [(.fn 93 [(.ptr 1 0),(.ptr 2 0),(.ptr 3 0)]),(.fn 91 [(.ptr 3 0)])], .cells [(.fn 96 [(.ptr 4 0),(.ptr 5 0)])], .cells [(.d (.sl (aN v2)))], .cells [(.ptr 0 0)], .cells [(.mp 6)], .cells [(.d (.sl (bk v3)))], .map (bY cf v4), .cells (aB v1).cells, .cells dE] ?_ ?_
  ·rcases dC (v1.aQ==8)with J|J
   ·replace h2:=(dc J).symm.trans h2;have he:=akz h2;subst he;exact⟨[(12,bT J),(15,bT J),(18,bT J),(22,bT J)],by kernel_rfl⟩
   replace h2:=(dG J).symm.trans h2;have he:=akz h2;subst he;exact⟨[(12,bF J),(15,bF J),(18,bF J),(22,bF J)],by kernel_rfl⟩
  rcases dC v5 with h3|h3
  ·replace U:=(dc h3).symm.trans U;refine cQ (t:=v5) (by kernel_rfl) h3 ?_;refine ar ?_;obtain⟨v6,h4,v7,h5,U⟩:=k00 U;refine ro 2 bB (.node 0 [] (.node 1 [] (.node 2 [] (.node 3 [] (.node 4 [] (.node 5 [] (.node 6 [(19,oE (k:=0) (jM h4))] (.node 7 [] (.node 8 [(25,oR [(aB v6),(.ptr 1 0),(.ptr 2 0),(.ptr 3 0)] [.cells [(.fn 93 [(.ptr 1 0),(.ptr 2 0),(.ptr 3 0)]),(.fn 91 [(.ptr 3 0)])], .cells [(.fn 96 [(.ptr 4 0),(.ptr 5 0)])], .cells [(.d (.sl (aN v2)))], .cells [(.ptr 0 0)], .cells [(.mp 6)], .cells [(.d (.sl (bk v3)))], .map (bY cf v4), .cells (aB v1).cells, .cells dE] [1,2,3,4,5,0,6] (tC h5))] (.node 9 [] (.node 10 [] (.node 11 [] (.node 12 [] (.node 13 [] (.node 14 [] .nil .nil) .nil) .nil) .nil) .nil) .nil) (.node 12 [] (.node 8 [(25,oR [(aB v6),(.ptr 1 0),(.ptr 2 0),(.ptr 3 0)] [.cells [(.fn 93 [(.ptr 1 0),(.ptr 2 0),(.ptr 3 0)]),(.fn 91 [(.ptr 3 0)])], .cells [(.fn 96 [(.ptr 4 0),(.ptr 5 0)])], .cells [(.d (.sl (aN v2)))], .cells [(.ptr 0 0)], .cells [(.mp 6)], .cells [(.d (.sl (bk v3)))], .map (bY cf v4), .cells (aB v1).cells, .cells dE, .cells dE] [1,2,3,4,5,0,6] (tC h5))] (.node 9 [] (.node 10 [] (.node 11 [] (.node 13 [] (.node 14 [] .nil .nil) .nil) .nil) .nil) .nil) .nil) .nil)) .nil) .nil) .nil) .nil) .nil) .nil) .nil) .nil) [(6,(.ptr 9 0)),(7,(aq v7.2.1))] [.cells [(.fn 93 [(.ptr 1 0),(.ptr 2 0),(.ptr 3 0)]),(.fn 91 [(.ptr 3 0)])], .cells [(.fn 96 [(.ptr 4 0),(.ptr 5 0)])], .cells [(.d (.sl (aN v2)))], .cells [(.ptr 0 0)], .cells [(.mp 6)], .cells [(.d (.sl (bk v3)))], .map (bY cf v7.2.2), .cells (aB v1).cells, .cells dE, .cells (dQ v7.1).cells] (by kernel_rfl) ?_
   refine ar ?_;refine ar ?_;refine rg [] [(36,(ax (v7.2.1 !=0)))] [.cells [(.fn 93 [(.ptr 1 0),(.ptr 2 0),(.ptr 3 0)]),(.fn 91 [(.ptr 3 0)])], .cells [(.fn 96 [(.ptr 4 0),(.ptr 5 0)])], .cells [(.d (.sl (aN v2)))], .cells [(.ptr 0 0)], .cells [(.mp 6)], .cells [(.d (.sl (bk v3)))], .map (bY cf v7.2.2), .cells (aB v1).cells, .cells dE, .cells (dQ v7.1).cells] (by kernel_rfl) ?_;rcases dC (v7.2.1 !=0)with h6|h6
   ·replace U:=(dc h6).symm.trans U;refine cQ (t:=(v7.2.1 !=0)) (by kernel_rfl) h6 ?_;refine ar ?_;refine rg [] [(5,(aq v7.2.1))] [.cells [(.fn 93 [(.ptr 1 0),(.ptr 2 0),(.ptr 3 0)]),(.fn 91 [(.ptr 3 0)])], .cells [(.fn 96 [(.ptr 4 0),(.ptr 5 0)])], .cells [(.d (.sl (aN v2)))], .cells [(.ptr 0 0)], .cells [(.mp 6)], .cells [(.d (.sl (bk v3)))], .map (bY cf v7.2.2), .cells (aB v1).cells, .cells (dQ v7.1).cells, .cells (dQ v7.1).cells] (by kernel_rfl) ?_;refine cV (cU (cU ?_));have hr:=akz U;subst hr;exact iT (by kernel_rfl)
   replace U:=(dG h6).symm.trans U;refine dw (t:=(v7.2.1 !=0)) (by kernel_rfl) h6 ?_;refine cx ?_;refine aI ?_;refine ar ?_;refine ar ?_;refine rg [] [(41,(ax (v1.aQ==12)))] [.cells [(.fn 93 [(.ptr 1 0),(.ptr 2 0),(.ptr 3 0)]),(.fn 91 [(.ptr 3 0)])], .cells [(.fn 96 [(.ptr 4 0),(.ptr 5 0)])], .cells [(.d (.sl (aN v2)))], .cells [(.ptr 0 0)], .cells [(.mp 6)], .cells [(.d (.sl (bk v3)))], .map (bY cf v7.2.2), .cells (aB v1).cells, .cells dE, .cells (dQ v7.1).cells] (by kernel_rfl) ?_;rcases dC (v1.aQ==12)with h7|h7
   ·replace U:=(dc h7).symm.trans U;refine cQ (t:=(v1.aQ==12)) (by kernel_rfl) h7 ?_;refine ar ?_;obtain⟨v8,h8,U⟩:=bg U;refine rg [(19,cK acV h8)] [(8,(.ptr 10 0)),(9,(aq v8.2))] [.cells [(.fn 93 [(.ptr 1 0),(.ptr 2 0),(.ptr 3 0)]),(.fn 91 [(.ptr 3 0)])], .cells [(.fn 96 [(.ptr 4 0),(.ptr 5 0)])], .cells [(.d (.sl (aN v2)))], .cells [(.ptr 0 0)], .cells [(.mp 6)], .cells [(.d (.sl (bk v3)))], .map (bY cf v7.2.2), .cells (aB v1).cells, .cells dE, .cells (dQ v7.1).cells, .cells (bx v8.1).cells] (by kernel_rfl) ?_;refine ar ?_;refine rg [] [(5,(aq v8.2))] [.cells [(.fn 93 [(.ptr 1 0),(.ptr 2 0),(.ptr 3 0)]),(.fn 91 [(.ptr 3 0)])], .cells [(.fn 96 [(.ptr 4 0),(.ptr 5 0)])], .cells [(.d (.sl (aN v2)))], .cells [(.ptr 0 0)], .cells [(.mp 6)], .cells [(.d (.sl (bk v3)))], .map (bY cf v7.2.2), .cells (aB v1).cells, .cells [(bG v8.1.xN),(bG v8.1.xD),(aq v1.aJ.cg),(aq v1.aJ.cE),(aq v1.aJ.cB),(aq v1.aJ.cY),(aq v1.aJ.c8)], .cells (dQ v7.1).cells, .cells (bx v8.1).cells] (by kernel_rfl) ?_;refine cV (cU (cU ?_));have hr:=akz U;subst hr;exact iT (by kernel_rfl)
   replace U:=(dG h7).symm.trans U;refine dw (t:=(v1.aQ==12)) (by kernel_rfl) h7 ?_;refine cx ?_;refine aI ?_;refine ar ?_;obtain⟨v9,h9,U⟩:=bg U;refine rg [(19,cK Jr h9)] [(10,(.ptr 10 0)),(7,(aq v9.2))] [.cells [(.fn 93 [(.ptr 1 0),(.ptr 2 0),(.ptr 3 0)]),(.fn 91 [(.ptr 3 0)])], .cells [(.fn 96 [(.ptr 4 0),(.ptr 5 0)])], .cells [(.d (.sl (aN v2)))], .cells [(.ptr 0 0)], .cells [(.mp 6)], .cells [(.d (.sl (bk v3)))], .map (bY cf v7.2.2), .cells (aB v1).cells, .cells dE, .cells (dQ v7.1).cells, .cells (bx v9.1).cells] (by kernel_rfl) ?_;refine ar ?_;refine rg [] [(5,(aq v9.2))] [.cells [(.fn 93 [(.ptr 1 0),(.ptr 2 0),(.ptr 3 0)]),(.fn 91 [(.ptr 3 0)])], .cells [(.fn 96 [(.ptr 4 0),(.ptr 5 0)])], .cells [(.d (.sl (aN v2)))], .cells [(.ptr 0 0)], .cells [(.mp 6)], .cells [(.d (.sl (bk v3)))], .map (bY cf v7.2.2), .cells (aB v1).cells, .cells ((bG v9.1.xN)::(bG v9.1.xD)::Wi v7.1 []), .cells (dQ v7.1).cells, .cells (bx v9.1).cells] (by kernel_rfl) ?_;refine cV (cU ?_);have hr:=akz U;subst hr;exact iT (by kernel_rfl)
  replace U:=(dG h3).symm.trans U;refine dw (t:=v5) (by kernel_rfl) h3 ?_;refine cx ?_;refine aI ?_;refine ar ?_;obtain⟨v10,aO,U⟩:=bg U;refine rg [(7,oR [(.ptr 0 0),(aB v1)] [.cells [(.fn 93 [(.ptr 1 0),(.ptr 2 0),(.ptr 3 0)]),(.fn 91 [(.ptr 3 0)])], .cells [(.fn 96 [(.ptr 4 0),(.ptr 5 0)])], .cells [(.d (.sl (aN v2)))], .cells [(.ptr 0 0)], .cells [(.mp 6)], .cells [(.d (.sl (bk v3)))], .map (bY cf v4), .cells (aB v1).cells, .cells dE] [0,1,2,3,4,5,6] (Tw aO))] [(11,(.ptr 9 0)),(12,(.ptr 10 0)),(13,(aq v10.2.2.1))] [.cells [(.fn 93 [(.ptr 1 0),(.ptr 2 0),(.ptr 3 0)]),(.fn 91 [(.ptr 3 0)])], .cells [(.fn 96 [(.ptr 4 0),(.ptr 5 0)])], .cells [(.d (.sl (aN v2)))], .cells [(.ptr 0 0)], .cells [(.mp 6)], .cells [(.d (.sl (bk v3)))], .map (bY cf v10.2.2.2), .cells (aB v1).cells, .cells dE, .cells (dQ v10.1).cells, .cells (dQ v10.2.1).cells] (by kernel_rfl) ?_;refine ar ?_;refine ar ?_;refine rg [] [(80,(ax (v10.2.2.1 !=0)))] [.cells [(.fn 93 [(.ptr 1 0),(.ptr 2 0),(.ptr 3 0)]),(.fn 91 [(.ptr 3 0)])], .cells [(.fn 96 [(.ptr 4 0),(.ptr 5 0)])], .cells [(.d (.sl (aN v2)))], .cells [(.ptr 0 0)], .cells [(.mp 6)], .cells [(.d (.sl (bk v3)))], .map (bY cf v10.2.2.2), .cells (aB v1).cells, .cells dE, .cells (dQ v10.1).cells, .cells (dQ v10.2.1).cells] (by kernel_rfl) ?_;rcases dC (v10.2.2.1 !=0)with aY|aY
  ·replace U:=(dc aY).symm.trans U;refine cQ (t:=(v10.2.2.1 !=0)) (by kernel_rfl) aY ?_;refine ar ?_;refine rg [] [(5,(aq v10.2.2.1))] [.cells [(.fn 93 [(.ptr 1 0),(.ptr 2 0),(.ptr 3 0)]),(.fn 91 [(.ptr 3 0)])], .cells [(.fn 96 [(.ptr 4 0),(.ptr 5 0)])], .cells [(.d (.sl (aN v2)))], .cells [(.ptr 0 0)], .cells [(.mp 6)], .cells [(.d (.sl (bk v3)))], .map (bY cf v10.2.2.2), .cells (aB v1).cells, .cells dE, .cells (dQ v10.1).cells, .cells (dQ v10.2.1).cells] (by kernel_rfl) ?_;refine cV (cU ?_);have hr:=akz U;subst hr;exact iT (by kernel_rfl)
  replace U:=(dG aY).symm.trans U;refine dw (t:=(v10.2.2.1 !=0)) (by kernel_rfl) aY ?_;refine cx ?_;refine aI ?_;refine ar ?_;obtain⟨v11,aT,U⟩:=bg U;refine rg [(25,cK Jr aT)] [(14,(.ptr 11 0)),(13,(aq v11.2))] [.cells [(.fn 93 [(.ptr 1 0),(.ptr 2 0),(.ptr 3 0)]),(.fn 91 [(.ptr 3 0)])], .cells [(.fn 96 [(.ptr 4 0),(.ptr 5 0)])], .cells [(.d (.sl (aN v2)))], .cells [(.ptr 0 0)], .cells [(.mp 6)], .cells [(.d (.sl (bk v3)))], .map (bY cf v10.2.2.2), .cells (aB v1).cells, .cells dE, .cells (dQ v10.1).cells, .cells (dQ v10.2.1).cells, .cells (bx v11.1).cells] (by kernel_rfl) ?_;refine ar ?_;refine rg [] [(5,(aq v11.2))] [.cells [(.fn 93 [(.ptr 1 0),(.ptr 2 0),(.ptr 3 0)]),(.fn 91 [(.ptr 3 0)])], .cells [(.fn 96 [(.ptr 4 0),(.ptr 5 0)])], .cells [(.d (.sl (aN v2)))], .cells [(.ptr 0 0)], .cells [(.mp 6)], .cells [(.d (.sl (bk v3)))], .map (bY cf v10.2.2.2), .cells (aB v1).cells, .cells ((bG v11.1.xN)::(bG v11.1.xD)::Wi v10.1 []), .cells (dQ v10.1).cells, .cells (dQ v10.2.1).cells, .cells (bx v11.1).cells] (by kernel_rfl) ?_;refine cV ?_;have hr:=akz U;subst hr;exact iT (by kernel_rfl)
theorem gM(N:Nat)(v1:ay)(v2:ak4 aX)(v3:ak4 bI)(v4:ak4 (ak5×bA))(r:fv×Int×(ak4 (ak5×bA)))(U:HU N v1 v2 v3 v4=some r):KH 93 [(aB v1),(.ptr 0 0),(.ptr 1 0),(.ptr 2 0)] ([.cells [(.fn 96 [(.ptr 3 0),(.ptr 4 0)])], .cells [(.d (.sl (aN v2)))], .cells [(.ptr 5 0)], .cells [(.mp 6)], .cells [(.d (.sl (bk v3)))], .cells [(.fn 93 [(.ptr 0 0),(.ptr 1 0),(.ptr 2 0)]),(.fn 91 [(.ptr 2 0)])], .map (bY cf v4)]) (.aW [(dQ r.1),(aq r.2.1)]) ([.cells [(.fn 96 [(.ptr 3 0),(.ptr 4 0)])], .cells [(.d (.sl (aN v2)))], .cells [(.ptr 5 0)], .cells [(.mp 6)], .cells [(.d (.sl (bk v3)))], .cells [(.fn 93 [(.ptr 0 0),(.ptr 1 0),(.ptr 2 0)]),(.fn 91 [(.ptr 2 0)])], .map (bY cf r.2.2)]):=(ag8 N N).1 U
def MQ(N:Nat)(v1:Int)(v2:Bool):ak6 (Int×Bool):=
 bif v2 then
  some ((4:Int),true)
 else
  bif (v1==2)then
   some ((6:Int),true)
  else
   bif (v1==3)then
    some ((9:Int),true)
   else
    bif (v1==4)then
     some ((10:Int),true)
    else
     some ((0:Int),false)
def R8(N:Nat)(v1:Int):ak6 (Int×Bool):=
 bif (v1==1)then
  MQ N v1 (v1==1)
 else
  MQ N v1 (v1==5)
theorem aip{N v1}:KO 116 [(aq v1)] (λr=> .aW [(aq r.1),(ax r.2)]) (R8 N v1):=
 fw Tryz.func116 (k8 1 [[],[],[]] [4,5] 0 (λ(v2:Bool)=>⟨14,[(4,(aq v1)),(5,(ax v2))],[]⟩) (MQ N v1) (λf1 aG=>aw (λh5=>gm aG (v1==1) [[t0 h5]]) λh5=>gm aG (v1==5) [[f0 h5],[]]) (λv2=>fU λ_=>fU λ_=>fU λ_=>bj λh4=>gR [[f0 h4],[]]))
def VO(N:Nat)(v1:aV):ak6 aR:=
 (lB N v1).bind λv2=>
 bif (v2 !=0)then
  some dA
 else
  some (⟨(0:Int64),(1:Int64)⟩:aR)
theorem adV{N v1}:KO 204 [(bX v1)] bx (VO N v1):=
 fw Tryz.func204 (au λv2 J=>gA [[],[(4,cK nR J)]] (bj λh2=>gR [[f0 h2],[]]))
def U2(N:Nat)(v1:aV):ak6 (aR×Int):=
 (lB N v1).bind λv2=>
 bif (v2 !=0)then
  some (dA,(10:Int))
 else
  bif (v1.cg !=2)then
   some ((⟨(1:Int64),(1:Int64)⟩:aR),(0:Int))
  else
   bif (decide ((0:Int)<=v1.cB))then
   Option.bind (yV N v1 (⟨(Int64.ofInt ((1:Int)*2^(min (v1.cB).toNat (IntKind.bits .i64)))),(1:Int64)⟩:aR)) λv3=>
   bif v3 then
    some ((⟨(Int64.ofInt ((1:Int)*2^(min (v1.cB).toNat (IntKind.bits .i64)))),(1:Int64)⟩:aR),(0:Int))
   else
    some (dA,(3:Int))
   else none
theorem agJ{N v1}:KO 205 [(bX v1)] (λr=> .aW [(bx r.1),(aq r.2)]) (U2 N v1):=
 fw Tryz.func205 (au λv2 J=>gA [[],[(4,cK nR J)]] (fU λ_=>bj λh3=>dh λh4=>au λv3 h5=>gA [[f0 h3],[(7,⟨_,_, .nn (b:=v1.cB) (of_decide_eq_true h4)⟩),(8,⟨_,_, .eq (jt ((1:Int)*2^(min (v1.cB).toNat (IntKind.bits .i64))))⟩)],[(7,cK Ki h5)]] (mD λh6=>gR [[t0 (dq h6)],[]])))
def Ky(N:Nat)(v2:aV)(v1:Int)(v4:Bool):ak6 (aR×Bool):=
 bif v4 then
  (VO N v2).bind λv5=>
  some (v5,true)
 else
  bif (v1==2)then
   (U2 N v2).bind λv6=>
   some (v6.1,(v6.2==0))
  else
   some (dA,false)
def P9(N:Nat)(v1:Int)(v2:aV):ak6 (aR×Bool):=
 (lB N v2).bind λv3=>
 bif (v3 !=0)then
  some (dA,false)
 else
  bif (v1==1)then
   Ky N v2 v1 (v1==1)
  else
   Ky N v2 v1 (v1==5)
theorem abI{N v1 v2}:KO 119 [(aq v1),(bX v2)] (λr=> .aW [(bx r.1),(ax r.2)]) (P9 N v1 v2):=
 fw Tryz.func119 (au λv3 J=>gA [[],[(4,cK nR J)]] (bj λh2=>k8 1 [[f0 h2],[],[]] [3,4,12,13] 2 (λ(v4:Bool)=>⟨29,[(3,(.ptr 0 0)),(4,(.ptr 1 0)),(12,(aq v1)),(13,(ax v4))],[.cells (bX v2).cells, .cells ir]⟩) (Ky N v2 v1) (λf1 aG=>aw (λh7=>gm aG (v1==1) [[t0 h7]]) λh7=>gm aG (v1==5) [[f0 h7],[]]) (λv4=>aw (λh3=>au λv5 h4=>gR [[t0 h3],[(4,cK adV h4)]]) λh3=>gA [[f0 h3],[]] (lC λh5=>au λv6 h6=>gR [[t0 h5],[(4,cK agJ h6)],[]]))))
def UM(N:Nat)(v4:Int×Bool)(v2:aV):ak4 aR->Nat->Int64->Int64->ak6 (aR×Int)
 |[],_,bC,bW=>
  some ((⟨bC,bW⟩:aR),(0:Int))
 |aE::aP,v12,bC,bW=>
  Option.bind (F8 N v4.1 v2 (⟨bC,bW⟩:aR) aE) λbH=>
  bif (bH.2 !=0)then
   some (dA,bH.2)
  else
   (λgP vX=>UM N v4 v2 aP (v12+1) gP vX) bH.1.xN bH.1.xD
def Xs(N:Nat)(v3:ak4 aR)(v1:Int)(v2:aV)(v4:Int×Bool):ak4 aR->Nat->ak6 (aR×Int)
 |[],_=>
  bif ((v3.length:Int)==0)then
   (P9 N v1 v2).bind λv10=>
   bif v10.2 then
    some (v10.1,(0:Int))
   else
    some (dA,(1:Int))
  else
   Option.bind (v3[0]?) λv11=>
   bif (decide (1<=v3.length))then
   UM N v4 v2 (v3.drop 1) 0 v11.xN v11.xD
   else none
 |v8::v9,v6=>
  (ou N v2 v8).bind λcd=>
  bif cd then
   (Xs N v3 v1 v2 v4 v9 (v6+1))
  else
   some (dA,(1:Int))
def Kf(N:Nat)(v1:Int)(v2:aV)(v3:ak4 aR):ak6 (aR×Int):=
 (R8 N v1).bind λv4=>
 bif v4.2 then
  (lB N v2).bind λv5=>
  bif (v5 !=0)then
   some (dA,(10:Int))
  else
   Xs N v3 v1 v2 v4 v3 0
 else
  some (dA,(1:Int))
theorem Qp{N v1 v2 v3}:KO 69 [(aq v1),(bX v2),(.d (.sl (dV v3)))] (λr=> .aW [(bx r.1),(aq r.2)]) (Kf N v1 v2 v3):=
 fw Tryz.func69 (au λv4 J=>gA [[],[(4,cK aip J)],[]] (ft λh2=>au λv5 h3=>gA [[f0 (cH h2)],[(4,cK nR h3)]] (bj λh4=>gA [[f0 h4],[(4,oL v3 lV)]] (gT wU 2 v3 λh6=>dP 1 [] [0,2,4,6,8,33,34,35] 2 (λv6=>⟨83,[(0,(aq v1)),(2,(.d (.sl (dV v3)))),(4,(.ptr 0 0)),(6,(.ptr 1 0)),(8,(aq v4.1)),(33,(.d (.sl (dV v3)))),(34,(aq (v3.length:Int))),(35,(aq (v6:Int)))],[.cells (bX v2).cells, .cells ir]⟩) (λv6 h7 f1=>gA [[],[f0 (bK h7)],[(4,oL v3 lV)]] (aw (λh8=>au λv10 h9=>gA [[t0 h8],[(7,cK abI h9)],[]] (mD λaO=>gR [[t0 (dq aO)],[]])) λh8=>au λv11 aY=>dh λaT=>gA [[f0 h8],[(4,oE (k:=0) (pM aY))],[(4,⟨_,_, .RS (xs:=dV v3) (lo:=1) (by decide) (by rw[lV];exact(of_decide_eq_true aT)) KJ adG⟩),(7,oL ((v3.drop 1)) lV)]] (gT wU 62 (v3.drop 1) λbZ=>Cu 2 [] [4,6,8,14,62,63,64] 3 (λv12(bC:Int64)(bW:Int64)=>⟨83,[(4,(.ptr 0 0)),(6,(.ptr 1 0)),(8,(aq v4.1)),(14,(.ptr 2 0)),(62,(.d (.sl (dV (v3.drop 1))))),(63,(aq ((v3.drop 1).length:Int))),(64,(aq (v12:Int)))],[.cells (bX v2).cells, .cells ir, .cells [(bG bC),(bG bW)]]⟩) (λv12 bC bW bM f2=>gR [[],[f0 (bK bM)],[]]) (λv12 aE aP bC bW bM f2 dT=>au λbH cn=>gA [[],[t0 (bJ bM)],[(1,⟨_,_, .el (xs:=dV (v3.drop 1)) (i:=(v12:Int)) (Int.natCast_nonneg _) (pM (bm bM))⟩)],[(13,cK Jr cn)],[]] (bj λdj=>gb dT (bH.1.xN,bH.1.xD) [[f0 dj],[],[(2,oq (bS bM rfl bZ))]] bM))))) (λv6 v8 v9 h7 f1 aG=>au λcd eC=>gA [[],[t0 (bJ h7)],[(1,oE (pM (bm h7)))],[(7,cK sL eC)]] (ft λfu=>gb aG () [[f0 (cH fu)],[(2,oq (bS h7 rfl h6))]] h7))))))
def yw(N:Nat)(v1:cv)(v3:ak4 aX)(v4:ak4 bI):ak4 (ak4 Int)->Int64->Int64->Bool->(ak4 (ak5×bA))->ak6 (aR×Int×(ak4 (ak5×bA)))
 |[],v11,v12,_,aE=>
  some ((⟨v11,v12⟩:aR),(0:Int),aE)
 |aP::bC,v11,v12,aA,aE=>
  (OD N v1.cO aP v3).bind λbW=>
  (Bf N bW v4 aE).bind λbH=>
  (HU N v1.cP bH v4 aE).bind λcd=>
  bif (cd.2.1 !=0)then
   some (dA,cd.2.1,cd.2.2)
  else
   bif aA then
    (λcq fS uM OA=>yw N v1 v3 v4 bC cq fS uM OA) cd.1.jI.xN cd.1.jI.xD false cd.2.2
   else
    Option.bind (Kf N v1.eQ v1.aJ ([(⟨v11,v12⟩:aR),cd.1.jI])) λv20=>
    bif (v20.2 !=0)then
     some (dA,v20.2,cd.2.2)
    else
     (λcq fS uM OA=>yw N v1 v3 v4 bC cq fS uM OA) v20.1.xN v20.1.xD aA cd.2.2
def LH(N:Nat)(v1:cv)(v2:ak4 Int)(v3:ak4 aX)(v4:ak4 bI)(v5:ak4 (ak5×bA)):ak6 (aR×Int×(ak4 (ak5×bA))):=
 Option.bind (bif (v1.eQ==0)then some true else some (v1.eQ==5)) λv6=>
 bif v6 then
  (Bf N v3 v4 v5).bind λv7=>
  (HU N v1.cP v7 v4 v5).bind λv8=>
  some (v8.1.jI,v8.2.1,v8.2.2)
 else
  (E0 N v2).bind λv9=>
  (JP N v9).bind λv10=>
  yw N v1 v3 v4 v10 (0:Int64) (0:Int64) true v5
def nv(v4:ak4 bI)(v5:ak4 (ak5×bA))(v1:cv)(v3:ak4 aX)(l:ak4 ao):ak4 ao:= .cells [(.mp 2)]:: .cells [(.d (.sl (bk v4)))]:: .map (bY cf v5):: .cells [(.fn 96 [(.ptr 0 0),(.ptr 1 0)])]:: .cells (eR v1).cells:: .cells [(.d (.sl (aN v3)))]:: .cells ir:: .cells [(aq (0:Int))]::l
def CE(v4:ak4 bI)(aE:ak4 (ak5×bA))(v1:cv)(v3:ak4 aX)(v11:Int64)(v12:Int64)(aA:Bool)(cA:Code)(cz:Code)(v9:(ak4 Int))(l:ak4 ao):ak4 ao:=nv v4 aE v1 v3 (.cells [(bG v11),(bG v12)]:: .cells [(ax aA)]:: .lp .busy 42 cA cz (dx 83 [(4,(.ptr 3 0)),(5,(.ptr 4 0)),(7,(.ptr 5 0)),(8,(.ptr 6 0)),(9,(.ptr 7 0)),(12,(.ptr 8 0)),(13,(.ptr 9 0)),(41,(.fn 113 [(.bn [[(.sl (bq v9))]] 0 0)]))])::l)
def pz(v4:ak4 bI)(v8:fv×Int×(ak4 (ak5×bA)))(v1:cv)(v3:ak4 aX)(l:ak4 ao):ak4 ao:= .cells [(.mp 2)]:: .cells [(.d (.sl (bk v4)))]:: .map (bY cf v8.2.2):: .cells [(.fn 96 [(.ptr 0 0),(.ptr 1 0)])]:: .cells (eR v1).cells:: .cells [(.d (.sl (aN v3)))]:: .cells ir::l
def Kv(v4:ak4 bI)(cd:fv×Int×(ak4 (ak5×bA)))(v1:cv)(v3:ak4 aX)(v11:Int64)(v12:Int64)(aA:Bool)(cA:Code)(cz:Code)(v9:(ak4 Int))(bH:(ak4 aX))(l:ak4 ao):ak4 ao:=pz v4 cd v1 v3 (.cells [(aq (0:Int))]:: .cells [(bG v11),(bG v12)]:: .cells [(ax aA)]:: .lp .busy 42 cA cz (dx 83 [(4,(.ptr 3 0)),(5,(.ptr 4 0)),(7,(.ptr 5 0)),(8,(.ptr 6 0)),(9,(.ptr 7 0)),(12,(.ptr 8 0)),(13,(.ptr 9 0)),(41,(.fn 113 [(.bn [[(.sl (bq v9))]] 0 0)]))]):: .cells [(.fn 96 [(.ptr 0 0),(.ptr 1 0)])]:: .cells [(.d (.sl (aN bH)))]:: .cells [(.fn 93 [(.ptr 11 0),(.ptr 12 0),(.ptr 14 0)]),(.fn 91 [(.ptr 14 0)])]:: .cells [(.ptr 13 0)]:: .cells (dQ cd.1).cells::l)
def Gx(v4:ak4 bI)(v5:ak4 (ak5×bA))(v1:cv)(v3:ak4 aX)(l:ak4 ao):ak4 ao:=nv v4 v5 v1 v3 (.cells dE::l)
def HW(v4:ak4 bI)(aE:ak4 (ak5×bA))(v1:cv)(v3:ak4 aX)(v11:Int64)(v12:Int64)(aA:Bool)(cA:Code)(cz:Code)(v9:(ak4 Int))(l:ak4 ao):ak4 ao:=CE v4 aE v1 v3 v11 v12 aA cA cz v9 (.cells dE::l)
def GH(v4:ak4 bI)(v5:ak4 (ak5×bA))(v1:cv)(v3:ak4 aX)(v7:(ak4 aX))(l:ak4 ao):ak4 ao:=nv v4 v5 v1 v3 (.cells [(.fn 96 [(.ptr 0 0),(.ptr 1 0)])]:: .cells [(.d (.sl (aN v7)))]:: .cells [(.fn 93 [(.ptr 8 0),(.ptr 9 0),(.ptr 11 0)]),(.fn 91 [(.ptr 11 0)])]:: .cells [(.ptr 10 0)]::l)
def F0(v4:ak4 bI)(aE:ak4 (ak5×bA))(v1:cv)(v3:ak4 aX)(v11:Int64)(v12:Int64)(aA:Bool)(cA:Code)(cz:Code)(v9:(ak4 Int))(bH:(ak4 aX))(l:ak4 ao):ak4 ao:=CE v4 aE v1 v3 v11 v12 aA cA cz v9 (.cells [(.fn 96 [(.ptr 0 0),(.ptr 1 0)])]:: .cells [(.d (.sl (aN bH)))]:: .cells [(.fn 93 [(.ptr 11 0),(.ptr 12 0),(.ptr 14 0)]),(.fn 91 [(.ptr 14 0)])]:: .cells [(.ptr 13 0)]::l)
def Qm(v4:ak4 bI)(cd:fv×Int×(ak4 (ak5×bA)))(v1:cv)(v3:ak4 aX)(v20:aR×Int)(aA:Bool)(cA:Code)(cz:Code)(v9:(ak4 Int))(bH:(ak4 aX))(l:ak4 ao):ak4 ao:=pz v4 cd v1 v3 (.cells [(aq (0:Int))]:: .cells (bx v20.1).cells:: .cells [(ax aA)]:: .lp .busy 42 cA cz (dx 83 [(4,(.ptr 3 0)),(5,(.ptr 4 0)),(7,(.ptr 5 0)),(8,(.ptr 6 0)),(9,(.ptr 7 0)),(12,(.ptr 8 0)),(13,(.ptr 9 0)),(41,(.fn 113 [(.bn [[(.sl (bq v9))]] 0 0)]))]):: .cells [(.fn 96 [(.ptr 0 0),(.ptr 1 0)])]:: .cells [(.d (.sl (aN bH)))]:: .cells [(.fn 93 [(.ptr 11 0),(.ptr 12 0),(.ptr 14 0)]),(.fn 91 [(.ptr 14 0)])]:: .cells [(.ptr 13 0)]:: .cells (dQ cd.1).cells::l)
def LX(v4:ak4 bI)(v5:ak4 (ak5×bA))(v1:cv)(v3:ak4 aX)(v7:(ak4 aX))(l:ak4 ao):ak4 ao:=Gx v4 v5 v1 v3 (.cells [(.fn 96 [(.ptr 0 0),(.ptr 1 0)])]:: .cells [(.d (.sl (aN v7)))]:: .cells [(.fn 93 [(.ptr 9 0),(.ptr 10 0),(.ptr 12 0)]),(.fn 91 [(.ptr 12 0)])]:: .cells [(.ptr 11 0)]::l)
def OZ(v4:ak4 bI)(aE:ak4 (ak5×bA))(v1:cv)(v3:ak4 aX)(v11:Int64)(v12:Int64)(aA:Bool)(cA:Code)(cz:Code)(v9:(ak4 Int))(bH:(ak4 aX))(l:ak4 ao):ak4 ao:=HW v4 aE v1 v3 v11 v12 aA cA cz v9 (.cells [(.fn 96 [(.ptr 0 0),(.ptr 1 0)])]:: .cells [(.d (.sl (aN bH)))]:: .cells [(.fn 93 [(.ptr 12 0),(.ptr 13 0),(.ptr 15 0)]),(.fn 91 [(.ptr 15 0)])]:: .cells [(.ptr 14 0)]::l)
def H4(v4:ak4 bI)(v5:ak4 (ak5×bA))(v1:cv)(v3:ak4 aX)(l:ak4 ao):ak4 ao:=nv v4 v5 v1 v3 (.cells ir:: .cells [(ax true)]::l)
def MN(v4:ak4 bI)(l:ak4 ao):ak4 ao:= .cells [(.mp 2)]:: .cells [(.d (.sl (bk v4)))]::l
def Ur(v4:ak4 bI)(aE:ak4 (ak5×bA))(v1:cv)(v3:ak4 aX)(v11:Int64)(v12:Int64)(aA:Bool)(cA:Code)(cz:Code)(v9:(ak4 Int))(l:ak4 ao):ak4 ao:=nv v4 aE v1 v3 (.cells [(bG v11),(bG v12)]:: .cells [(ax aA)]:: .lp .ready 42 cA cz (dx 83 [(4,(.ptr 3 0)),(5,(.ptr 4 0)),(7,(.ptr 5 0)),(8,(.ptr 6 0)),(9,(.ptr 7 0)),(12,(.ptr 8 0)),(13,(.ptr 9 0)),(41,(.fn 113 [(.bn [[(.sl (bq v9))]] 0 0)]))])::l)
theorem Qk(N:Nat)(v1:cv)(v2:ak4 Int)(v3:ak4 aX)(v4:ak4 bI)(v5:ak4 (ak5×bA))(r:aR×Int×(ak4 (ak5×bA)))(U:LH N v1 v2 v3 v4 v5=some r):KH 67 [(.fn 96 [(.ptr 0 0),(.ptr 1 0)]),(eR v1),(.d (.sl (bq v2))),(.d (.sl (aN v3)))] ([.cells [(.mp 2)], .cells [(.d (.sl (bk v4)))], .map (bY cf v5)]) (.aW [(bx r.1),(aq r.2.1)]) ([.cells [(.mp 2)], .cells [(.d (.sl (bk v4)))], .map (bY cf r.2.2)]):=by
 rw[LH]at U;refine pj 3 Tryz.func67 rfl (by kernel_rfl) (ako rfl) ?_;refine lG (s':=⟨83,[(0,(.fn 96 [(.ptr 0 0),(.ptr 1 0)])),(1,(eR v1)),(2,(.d (.sl (bq v2)))),(3,(.d (.sl (aN v3))))],(MN v4 [.map (bY cf v5)])⟩) (by kernel_rfl) ?_;refine ar ?_;refine rg [] [(4,(.ptr 3 0)),(5,(.ptr 4 0)),(7,(.ptr 5 0)),(8,(.ptr 6 0)),(9,(.ptr 7 0))] (nv v4 v5 v1 v3 []) (by kernel_rfl) ?_;refine ar ?_;refine ar ?_;obtain⟨v6,h2,U⟩:=bg U;refine yB [(24,(ax v6))] (nv v4 v5 v1 v3 []) ?_ ?_
 ·rcases dC (v1.eQ==0)with J|J
  ·replace h2:=(dc J).symm.trans h2;have he:=akz h2;subst he;exact⟨[(12,bT J),(15,bT J),(18,bT J),(22,bT J)],by kernel_rfl⟩
  replace h2:=(dG J).symm.trans h2;have he:=akz h2;subst he;exact⟨[(12,bF J),(15,bF J),(18,bF J),(22,bF J)],by kernel_rfl⟩
 rcases dC v6 with h3|h3
 ·replace U:=(dc h3).symm.trans U;refine cQ (t:=v6) (by kernel_rfl) h3 ?_;refine ar ?_;obtain⟨v7,h4,v8,h5,U⟩:=k00 U;refine ro 7 bB (.node 0 [] (.node 1 [] (.node 6 [] (.node 2 [(7,oX (aS (aS (eu dm))) (aS (aS (eu (aS (aS (aS (aS dm))))))) [(.fn 96 [(.ptr 0 0),(.ptr 1 0)]),(.d (.sl (aN v3)))] (nv v4 v5 v1 v3 []) [0,1,2] (jq h4))] (.node 3 [] (.node 4 [] (.node 5 [] (.node 7 [] (.node 8 [(25,oR [(aB v1.cP),(.ptr 8 0),(.ptr 9 0),(.ptr 11 0)] (GH v4 v5 v1 v3 v7 []) [8,9,11,0,1,10,2] (gM N v1.cP v7 v4 v5 v8 h5))] (.node 9 [] (.node 10 [] (.node 11 [] (.node 12 [] (.node 13 [] (.node 14 [] .nil .nil) .nil) .nil) .nil) .nil) .nil) (.node 12 [] (.node 8 [(25,oR [(aB v1.cP),(.ptr 8 0),(.ptr 9 0),(.ptr 11 0)] (GH v4 v5 v1 v3 v7 [.cells dE]) [8,9,11,0,1,10,2] (gM N v1.cP v7 v4 v5 v8 h5))] (.node 9 [] (.node 10 [] (.node 11 [] (.node 13 [] (.node 14 [] .nil .nil) .nil) .nil) .nil) .nil) .nil) .nil)) .nil) .nil) .nil) .nil) (.node 7 [] (.node 2 [(7,oX (aS (aS (eu dm))) (aS (aS (eu (aS (aS (aS (aS dm))))))) [(.fn 96 [(.ptr 0 0),(.ptr 1 0)]),(.d (.sl (aN v3)))] (nv v4 v5 v1 v3 []) [0,1,2] (jq h4))] (.node 3 [] (.node 4 [] (.node 5 [] (.node 8 [(25,oR [(aB v1.cP),(.ptr 8 0),(.ptr 9 0),(.ptr 11 0)] (GH v4 v5 v1 v3 v7 []) [8,9,11,0,1,10,2] (gM N v1.cP v7 v4 v5 v8 h5))] (.node 9 [] (.node 10 [] (.node 11 [] (.node 12 [] (.node 13 [] (.node 14 [] .nil .nil) .nil) .nil) .nil) .nil) .nil) (.node 12 [] (.node 8 [(25,oR [(aB v1.cP),(.ptr 8 0),(.ptr 9 0),(.ptr 11 0)] (GH v4 v5 v1 v3 v7 [.cells dE]) [8,9,11,0,1,10,2] (gM N v1.cP v7 v4 v5 v8 h5))] (.node 9 [] (.node 10 [] (.node 11 [] (.node 13 [] (.node 14 [] .nil .nil) .nil) .nil) .nil) .nil) .nil) .nil)) .nil) .nil) .nil) (.node 12 [] (.node 2 [(7,oX (aS (aS (eu dm))) (aS (aS (eu (aS (aS (aS (aS dm))))))) [(.fn 96 [(.ptr 0 0),(.ptr 1 0)]),(.d (.sl (aN v3)))] (Gx v4 v5 v1 v3 []) [0,1,2] (jq h4))] (.node 3 [] (.node 4 [] (.node 5 [] (.node 8 [(25,oR [(aB v1.cP),(.ptr 9 0),(.ptr 10 0),(.ptr 12 0)] (LX v4 v5 v1 v3 v7 []) [9,10,12,0,1,11,2] (gM N v1.cP v7 v4 v5 v8 h5))] (.node 9 [] (.node 10 [] (.node 11 [] (.node 13 [] (.node 14 [] .nil .nil) .nil) .nil) .nil) .nil) .nil) .nil) .nil) .nil) .nil) .nil)) (.node 12 [] (.node 2 [(7,oX (aS (aS (eu dm))) (aS (aS (eu (aS (aS (aS (aS dm))))))) [(.fn 96 [(.ptr 0 0),(.ptr 1 0)]),(.d (.sl (aN v3)))] (Gx v4 v5 v1 v3 []) [0,1,2] (jq h4))] (.node 3 [] (.node 4 [] (.node 5 [] (.node 7 [] (.node 8 [(25,oR [(aB v1.cP),(.ptr 9 0),(.ptr 10 0),(.ptr 12 0)] (LX v4 v5 v1 v3 v7 []) [9,10,12,0,1,11,2] (gM N v1.cP v7 v4 v5 v8 h5))] (.node 9 [] (.node 10 [] (.node 11 [] (.node 13 [] (.node 14 [] .nil .nil) .nil) .nil) .nil) .nil) .nil) .nil) .nil) .nil) .nil) (.node 7 [] (.node 2 [(7,oX (aS (aS (eu dm))) (aS (aS (eu (aS (aS (aS (aS dm))))))) [(.fn 96 [(.ptr 0 0),(.ptr 1 0)]),(.d (.sl (aN v3)))] (Gx v4 v5 v1 v3 []) [0,1,2] (jq h4))] (.node 3 [] (.node 4 [] (.node 5 [] (.node 8 [(25,oR [(aB v1.cP),(.ptr 9 0),(.ptr 10 0),(.ptr 12 0)] (LX v4 v5 v1 v3 v7 []) [9,10,12,0,1,11,2] (gM N v1.cP v7 v4 v5 v8 h5))] (.node 9 [] (.node 10 [] (.node 11 [] (.node 13 [] (.node 14 [] .nil .nil) .nil) .nil) .nil) .nil) .nil) .nil) .nil) .nil) .nil) .nil)) .nil))) .nil) .nil) .nil) [(10,(.ptr 12 0)),(11,(aq v8.2.1))] (pz v4 v8 v1 v3 [.cells [(aq (0:Int))], .cells [(.fn 96 [(.ptr 0 0),(.ptr 1 0)])], .cells [(.d (.sl (aN v7)))], .cells [(.fn 93 [(.ptr 8 0),(.ptr 9 0),(.ptr 11 0)]),(.fn 91 [(.ptr 11 0)])], .cells [(.ptr 10 0)], .cells (dQ v8.1).cells]) (by kernel_rfl) ?_
  refine ar ?_;refine rg [] [] (MN v4 [.map (bY cf v8.2.2), .cells [(.fn 96 [(.ptr 0 0),(.ptr 1 0)])], .cells (eR v1).cells, .cells [(.d (.sl (aN v3)))], .cells (bx v8.1.jI).cells, .cells [(aq v8.2.1)], .cells [(.fn 96 [(.ptr 0 0),(.ptr 1 0)])], .cells [(.d (.sl (aN v7)))], .cells [(.fn 93 [(.ptr 8 0),(.ptr 9 0),(.ptr 11 0)]),(.fn 91 [(.ptr 11 0)])], .cells [(.ptr 10 0)], .cells (dQ v8.1).cells]) (by kernel_rfl) ?_;refine cV (cU ?_);have hr:=akz U;subst hr;exact iT (by kernel_rfl)
 replace U:=(dG h3).symm.trans U;refine dw (t:=v6) (by kernel_rfl) h3 ?_;refine cx ?_;refine aI ?_;refine ar ?_;refine rg [] [(12,(.ptr 8 0))] (nv v4 v5 v1 v3 [.cells ir]) (by kernel_rfl) ?_;refine ar ?_;refine rg [] [(13,(.ptr 9 0))] (H4 v4 v5 v1 v3 []) (by kernel_rfl) ?_;refine ar ?_;refine ar ?_;obtain⟨v9,h6,U⟩:=bg U;refine rg [(4,oQ [(.d (.sl (bq v2)))] (H4 v4 v5 v1 v3 []) [] (Up h6))] [(41,(.fn 113 [(.bn [[(.sl (bq v9))]] 0 0)]))] (H4 v4 v5 v1 v3 []) (by kernel_rfl) ?_;refine dt ?_;obtain⟨v10,h7,U⟩:=bg U;refine fA [4,5,7,8,9,12,13,41] 10 (ako rfl) (s':=⟨83,[(4,(.ptr 3 0)),(5,(.ptr 4 0)),(7,(.ptr 5 0)),(8,(.ptr 6 0)),(9,(.ptr 7 0)),(12,(.ptr 8 0)),(13,(.ptr 9 0)),(41,(.fn 113 [(.bn [[(.sl (bq v9))]] 0 0)]))],(H4 v4 v5 v1 v3 [])⟩) (by kernel_rfl) ?_;refine vj (m:=10) (enc:=oz) (xs:=v10) (by kernel_rfl) (Tf h7) (λ((v11,v12,aA,aE):Int64×Int64×Bool×(ak4 (ak5×bA)))=>(nv v4 aE v1 v3 [.cells [(bG v11),(bG v12)], .cells [(ax aA)]])) (λ((v11,v12,aA,aE):Int64×Int64×Bool×(ak4 (ak5×bA))) l=>yw N v1 v3 v4 l v11 v12 aA aE=some r) ((0:Int64),(0:Int64),true,v5) (by kernel_rfl) U (by rintro⟨v11,v12,aA,aE⟩;rfl) (by rintro⟨v11,v12,aA,aE⟩;kernel_rfl) (by kernel_rfl) rfl ?_ ?_
 ·rintro⟨v11,v12,aA,aE⟩ aP bC U h8 cA cz
  try dsimp only at U
  rw[yw]at U;refine fA [4,5,7,8,9,12,13,42] 11 (akr _) (s':=⟨83,[(4,(.ptr 3 0)),(5,(.ptr 4 0)),(7,(.ptr 5 0)),(8,(.ptr 6 0)),(9,(.ptr 7 0)),(12,(.ptr 8 0)),(13,(.ptr 9 0)),(42,(.d (.sl (bq aP))))],(Ur v4 aE v1 v3 v11 v12 aA cA cz v9 [])⟩) (by kernel_rfl) ?_;refine re [] [(14,(.d (.sl (bq aP))))] (Ur v4 aE v1 v3 v11 v12 aA cA cz v9 []) (by kernel_rfl) ?_;refine aI ?_;refine⟨(nv v4 aE v1 v3 [.cells [(bG v11),(bG v12)], .cells [(ax aA)]]),[],rfl,(by kernel_rfl),?_⟩;refine fA [4,5,7,8,9,12,13,14] 11 (ako rfl) (s':=⟨83,[(4,(.ptr 3 0)),(5,(.ptr 4 0)),(7,(.ptr 5 0)),(8,(.ptr 6 0)),(9,(.ptr 7 0)),(12,(.ptr 8 0)),(13,(.ptr 9 0)),(14,(.d (.sl (bq aP))))],(CE v4 aE v1 v3 v11 v12 aA cA cz v9 [])⟩) (by kernel_rfl) ?_;refine dt ?_;refine ar ?_;obtain⟨bW,h9,bH,aO,U⟩:=k00 U;obtain⟨cd,aY,U⟩:=bg U;refine ro 7 bB (.node 0 [] (.node 1 [] (.node 2 [] (.node 3 [] (.node 4 [] (.node 5 [(16,cK RZ h9)] (.node 10 [] (.node 6 [(19,oX (aS (aS (eu dm))) (aS (aS (eu (aS (aS (aS (aS dm))))))) [(.fn 96 [(.ptr 0 0),(.ptr 1 0)]),(.d (.sl (aN bW)))] (CE v4 aE v1 v3 v11 v12 aA cA cz v9 []) [0,1,2] (jq aO))] (.node 7 [] (.node 8 [] (.node 9 [] (.node 11 [] (.node 12 [(37,oR [(aB v1.cP),(.ptr 11 0),(.ptr 12 0),(.ptr 14 0)] (F0 v4 aE v1 v3 v11 v12 aA cA cz v9 bH []) [11,12,14,0,1,13,2] (gM N v1.cP bH v4 aE cd aY))] (.node 13 [] (.node 14 [] (.node 15 [] (.node 16 [] (.node 17 [] (.node 18 [] .nil .nil) .nil) .nil) .nil) .nil) .nil) (.node 16 [] (.node 12 [(37,oR [(aB v1.cP),(.ptr 11 0),(.ptr 12 0),(.ptr 14 0)] (F0 v4 aE v1 v3 v11 v12 aA cA cz v9 bH [.cells dE]) [11,12,14,0,1,13,2] (gM N v1.cP bH v4 aE cd aY))] (.node 13 [] (.node 14 [] (.node 15 [] (.node 17 [] (.node 18 [] .nil .nil) .nil) .nil) .nil) .nil) .nil) .nil)) .nil) .nil) .nil) .nil) (.node 11 [] (.node 6 [(19,oX (aS (aS (eu dm))) (aS (aS (eu (aS (aS (aS (aS dm))))))) [(.fn 96 [(.ptr 0 0),(.ptr 1 0)]),(.d (.sl (aN bW)))] (CE v4 aE v1 v3 v11 v12 aA cA cz v9 []) [0,1,2] (jq aO))] (.node 7 [] (.node 8 [] (.node 9 [] (.node 12 [(37,oR [(aB v1.cP),(.ptr 11 0),(.ptr 12 0),(.ptr 14 0)] (F0 v4 aE v1 v3 v11 v12 aA cA cz v9 bH []) [11,12,14,0,1,13,2] (gM N v1.cP bH v4 aE cd aY))] (.node 13 [] (.node 14 [] (.node 15 [] (.node 16 [] (.node 17 [] (.node 18 [] .nil .nil) .nil) .nil) .nil) .nil) .nil) (.node 16 [] (.node 12 [(37,oR [(aB v1.cP),(.ptr 11 0),(.ptr 12 0),(.ptr 14 0)] (F0 v4 aE v1 v3 v11 v12 aA cA cz v9 bH [.cells dE]) [11,12,14,0,1,13,2] (gM N v1.cP bH v4 aE cd aY))] (.node 13 [] (.node 14 [] (.node 15 [] (.node 17 [] (.node 18 [] .nil .nil) .nil) .nil) .nil) .nil) .nil) .nil)) .nil) .nil) .nil) (.node 16 [] (.node 6 [(19,oX (aS (aS (eu dm))) (aS (aS (eu (aS (aS (aS (aS dm))))))) [(.fn 96 [(.ptr 0 0),(.ptr 1 0)]),(.d (.sl (aN bW)))] (HW v4 aE v1 v3 v11 v12 aA cA cz v9 []) [0,1,2] (jq aO))] (.node 7 [] (.node 8 [] (.node 9 [] (.node 12 [(37,oR [(aB v1.cP),(.ptr 12 0),(.ptr 13 0),(.ptr 15 0)] (OZ v4 aE v1 v3 v11 v12 aA cA cz v9 bH []) [12,13,15,0,1,14,2] (gM N v1.cP bH v4 aE cd aY))] (.node 13 [] (.node 14 [] (.node 15 [] (.node 17 [] (.node 18 [] .nil .nil) .nil) .nil) .nil) .nil) .nil) .nil) .nil) .nil) .nil) .nil)) (.node 16 [] (.node 6 [(19,oX (aS (aS (eu dm))) (aS (aS (eu (aS (aS (aS (aS dm))))))) [(.fn 96 [(.ptr 0 0),(.ptr 1 0)]),(.d (.sl (aN bW)))] (HW v4 aE v1 v3 v11 v12 aA cA cz v9 []) [0,1,2] (jq aO))] (.node 7 [] (.node 8 [] (.node 9 [] (.node 11 [] (.node 12 [(37,oR [(aB v1.cP),(.ptr 12 0),(.ptr 13 0),(.ptr 15 0)] (OZ v4 aE v1 v3 v11 v12 aA cA cz v9 bH []) [12,13,15,0,1,14,2] (gM N v1.cP bH v4 aE cd aY))] (.node 13 [] (.node 14 [] (.node 15 [] (.node 17 [] (.node 18 [] .nil .nil) .nil) .nil) .nil) .nil) .nil) .nil) .nil) .nil) .nil) (.node 11 [] (.node 6 [(19,oX (aS (aS (eu dm))) (aS (aS (eu (aS (aS (aS (aS dm))))))) [(.fn 96 [(.ptr 0 0),(.ptr 1 0)]),(.d (.sl (aN bW)))] (HW v4 aE v1 v3 v11 v12 aA cA cz v9 []) [0,1,2] (jq aO))] (.node 7 [] (.node 8 [] (.node 9 [] (.node 12 [(37,oR [(aB v1.cP),(.ptr 12 0),(.ptr 13 0),(.ptr 15 0)] (OZ v4 aE v1 v3 v11 v12 aA cA cz v9 bH []) [12,13,15,0,1,14,2] (gM N v1.cP bH v4 aE cd aY))] (.node 13 [] (.node 14 [] (.node 15 [] (.node 17 [] (.node 18 [] .nil .nil) .nil) .nil) .nil) .nil) .nil) .nil) .nil) .nil) .nil) .nil)) .nil))) .nil) .nil) .nil) .nil) .nil) .nil) .nil) [(15,(.ptr 15 0)),(16,(aq cd.2.1))] (Kv v4 cd v1 v3 v11 v12 aA cA cz v9 bH []) (by kernel_rfl) ?_
  refine ar ?_;refine ar ?_;refine rg [] [(60,(ax (cd.2.1 !=0)))] (Kv v4 cd v1 v3 v11 v12 aA cA cz v9 bH []) (by kernel_rfl) ?_;rcases dC (cd.2.1 !=0)with aT|aT
  ·replace U:=(dc aT).symm.trans U;refine cQ (t:=(cd.2.1 !=0)) (by kernel_rfl) aT ?_;refine ar ?_;refine rg [] [] (pz v4 cd v1 v3 [.cells [(aq cd.2.1)], .cells [(bG v11),(bG v12)], .cells [(ax aA)], .lp .busy 42 cA cz (dx 83 [(4,(.ptr 3 0)),(5,(.ptr 4 0)),(7,(.ptr 5 0)),(8,(.ptr 6 0)),(9,(.ptr 7 0)),(12,(.ptr 8 0)),(13,(.ptr 9 0)),(41,(.fn 113 [(.bn [[(.sl (bq v9))]] 0 0)]))]), .cells [(.fn 96 [(.ptr 0 0),(.ptr 1 0)])], .cells [(.d (.sl (aN bH)))], .cells [(.fn 93 [(.ptr 11 0),(.ptr 12 0),(.ptr 14 0)]),(.fn 91 [(.ptr 14 0)])], .cells [(.ptr 13 0)], .cells (dQ cd.1).cells]) (by kernel_rfl) ?_;refine cV (cU (dW ?_));refine Bn (pz v4 cd v1 v3 [.cells [(aq cd.2.1)], .cells [(bG v11),(bG v12)], .cells [(ax aA)]]) rfl (by kernel_rfl) (by kernel_rfl) ?_;refine(dW (cU ?_));have hr:=akz U;subst hr;exact iT (by kernel_rfl)
  replace U:=(dG aT).symm.trans U;refine dw (t:=(cd.2.1 !=0)) (by kernel_rfl) aT ?_;refine cx ?_;refine aI ?_;refine ar ?_;refine ar ?_;refine rg [] [(63,(ax aA))] (Kv v4 cd v1 v3 v11 v12 aA cA cz v9 bH []) (by kernel_rfl) ?_;rcases dC aA with bN|bN
  ·replace U:=(dc bN).symm.trans U;refine cQ (t:=aA) (by kernel_rfl) bN ?_;refine ar ?_;refine rg [] [] (pz v4 cd v1 v3 [.cells [(aq (0:Int))], .cells (bx cd.1.jI).cells, .cells [(ax false)], .lp .busy 42 cA cz (dx 83 [(4,(.ptr 3 0)),(5,(.ptr 4 0)),(7,(.ptr 5 0)),(8,(.ptr 6 0)),(9,(.ptr 7 0)),(12,(.ptr 8 0)),(13,(.ptr 9 0)),(41,(.fn 113 [(.bn [[(.sl (bq v9))]] 0 0)]))]), .cells [(.fn 96 [(.ptr 0 0),(.ptr 1 0)])], .cells [(.d (.sl (aN bH)))], .cells [(.fn 93 [(.ptr 11 0),(.ptr 12 0),(.ptr 14 0)]),(.fn 91 [(.ptr 14 0)])], .cells [(.ptr 13 0)], .cells (dQ cd.1).cells]) (by kernel_rfl) ?_;refine kR (gO (lS rfl ?_));refine zd (pz v4 cd v1 v3 [.cells [(aq (0:Int))], .cells (bx cd.1.jI).cells, .cells [(ax false)]]) rfl (by kernel_rfl) (by kernel_rfl) ?_;exact⟨(cd.1.jI.xN,cd.1.jI.xD,false,cd.2.2),(by kernel_rfl),U⟩
  replace U:=(dG bN).symm.trans U;refine dw (t:=aA) (by kernel_rfl) bN ?_;refine cx ?_;refine aI ?_;refine ar ?_;obtain⟨v20,bZ,U⟩:=bg U;refine rg [(25,cK Qp bZ)] [(16,(aq v20.2))] (Qm v4 cd v1 v3 v20 aA cA cz v9 bH []) (by kernel_rfl) ?_;refine ar ?_;refine rg [] [(79,(ax (v20.2 !=0)))] (Qm v4 cd v1 v3 v20 aA cA cz v9 bH []) (by kernel_rfl) ?_;rcases dC (v20.2 !=0)with bM|bM
  ·replace U:=(dc bM).symm.trans U;refine cQ (t:=(v20.2 !=0)) (by kernel_rfl) bM ?_;refine ar ?_;refine rg [] [] (pz v4 cd v1 v3 [.cells [(aq v20.2)], .cells (bx v20.1).cells, .cells [(ax aA)], .lp .busy 42 cA cz (dx 83 [(4,(.ptr 3 0)),(5,(.ptr 4 0)),(7,(.ptr 5 0)),(8,(.ptr 6 0)),(9,(.ptr 7 0)),(12,(.ptr 8 0)),(13,(.ptr 9 0)),(41,(.fn 113 [(.bn [[(.sl (bq v9))]] 0 0)]))]), .cells [(.fn 96 [(.ptr 0 0),(.ptr 1 0)])], .cells [(.d (.sl (aN bH)))], .cells [(.fn 93 [(.ptr 11 0),(.ptr 12 0),(.ptr 14 0)]),(.fn 91 [(.ptr 14 0)])], .cells [(.ptr 13 0)], .cells (dQ cd.1).cells]) (by kernel_rfl) ?_;refine cV (dW ?_);refine Bn (pz v4 cd v1 v3 [.cells [(aq v20.2)], .cells (bx v20.1).cells, .cells [(ax aA)]]) rfl (by kernel_rfl) (by kernel_rfl) ?_;refine(dW (cU ?_));have hr:=akz U;subst hr;exact iT (by kernel_rfl)
  replace U:=(dG bM).symm.trans U;refine dw (t:=(v20.2 !=0)) (by kernel_rfl) bM ?_;refine cx ?_;refine dX ?_;refine zd (pz v4 cd v1 v3 [.cells [(aq (0:Int))], .cells (bx v20.1).cells, .cells [(ax aA)]]) rfl (by kernel_rfl) (by kernel_rfl) ?_;exact⟨(v20.1.xN,v20.1.xD,aA,cd.2.2),(by kernel_rfl),U⟩
 rintro⟨v11,v12,aA,aE⟩ U
 try dsimp only at U
 rw[yw]at U;refine dX ?_;refine aI ?_;refine ar ?_;refine rg [] [] (MN v4 [.map (bY cf aE), .cells [(.fn 96 [(.ptr 0 0),(.ptr 1 0)])], .cells (eR v1).cells, .cells [(.d (.sl (aN v3)))], .cells [(bG v11),(bG v12)], .cells [(aq (0:Int))], .cells [(bG v11),(bG v12)], .cells [(ax aA)], .gone]) (by kernel_rfl) ?_;refine cV ?_;have hr:=akz U;subst hr;exact iT (by kernel_rfl)
def kr:bp:=⟨(0:Int64),[]⟩
def Jf(N:Nat)(bC:ak4 aR)(ky:(ak4 aR)->(ak4 (ak5×bA))->ak6 (bA×Int))(v21:aR×Int×(ak4 (ak5×bA)))(v24:Int)(fi:Int64)(eP:Int64):ak6 (bA×Int):=
 bif (v24 !=0)then
  some (vE,v24)
 else
  bif (Nat.ble ((bC.length+1)*16) 140737488355328)then
  ky (bC++[(⟨fi,eP⟩:aR)]) v21.2.2
  else none
def ui(N:Nat)(v6:cv)(v7:(ak4 Int)×aV×Int)(v2:ak4 aX)(v9:(ak4 Int)×Int)(aA:(ak4 bI)×(ak4 (ak5×bA))):ak4 (ak4 Int)->(ak4 aR)->(ak4 (ak5×bA))->ak6 (bA×Int)
 |[],bC,_=>
  some ((⟨v6.aJ,v7.1,bC⟩:bA),(0:Int))
 |bH::cd,bC,bW=>
  (OD N v6.bo bH v2).bind λv20=>
  (LH N v6 v9.1 v20 aA.1 bW).bind λv21=>
  Option.bind (bif (v21.2.1==0)then(bif (v6.eQ==5)then bif (decide ((0:Int)<=(aK ((bH.length:Int)-(1:Int)))))then
  Option.bind (bH[((aK ((bH.length:Int)-(1:Int)))).toNat]?) λe8=>
  some (decide (e8>0))
  else none else some false)else some false) λdH=>
  bif dH then
   bif (decide ((0:Int)<=(aK ((bC.length:Int)-(1:Int)))))then
   Option.bind (bC[((aK ((bC.length:Int)-(1:Int)))).toNat]?) λgJ=>
   Option.bind (Kf N (1:Int) v6.aJ ([gJ,v21.1])) λv28=>
   Jf N bC (λcq fS=>ui N v6 v7 v2 v9 aA cd cq fS) v21 v28.2 v28.1.xN v28.1.xD
   else none
  else
   Jf N bC (λcq fS=>ui N v6 v7 v2 v9 aA cd cq fS) v21 v21.2.1 v21.1.xN v21.1.xD
def Pc(N:Nat)(v1:aZ)(v2:ak4 aX)(v3:ak4 bI)(v4:Int):ak6 (bA×Int):=
 Option.bind (bif (decide (v4<0))then some true else some (decide (v4>=(v1.aU.length:Int)))) λv5=>
 bif v5 then
  some (vE,(9:Int))
 else
  bif (decide ((0:Int)<=v4))then
  Option.bind (v1.aU[(v4).toNat]?) λv6=>
  (uU N v1 v2 v6.aF).bind λv7=>
  bif (v7.2.2 !=0)then
   some (vE,v7.2.2)
  else
   (RU N v6.cO).bind λv8=>
   (F5 N v8 v2).bind λv9=>
   bif (v9.2 !=0)then
    some (vE,v9.2)
   else
    (WE N v7.1).bind λv10=>
    bif (Nat.ble ((v10.length+v9.1.length)*8) 140737488355328)then
    Option.bind (Jv N (v10.length+v9.1.length) (65536:Int) (v10++v9.1)) λv11=>
    bif (decide (v11>65536))then
     some (vE,(2:Int))
    else
     (QW N v1 v2 v3 v6.cP).bind λv12=>
     bif (v12 !=0)then
      some (vE,v12)
     else
      (Ht N v3).bind λaA=>
      (E0 N v7.1).bind λaE=>
      (JP N aE).bind λaP=>
      ui N v6 v7 v2 v9 aA aP [] aA.2
    else none
  else none
def tf(v1:aZ)(v2:ak4 aX)(l:ak4 ao):ak4 ao:= .cells (c7 v1).cells:: .cells [(.d (.sl (aN v2)))]:: .cells P7::l
def Gk(v1:aZ)(v2:ak4 aX)(v6:cv)(v7:(ak4 Int)×aV×Int)(v9:(ak4 Int)×Int)(aA:(ak4 bI)×(ak4 (ak5×bA)))(l:ak4 ao):ak4 ao:= .cells (c7 v1).cells:: .cells [(.d (.sl (aN v2)))]:: .cells [(aq (0:Int)),(aq (0:Int)),(aq (0:Int)),(aq (0:Int)),(aq (0:Int)),(.d (.sl (bq []))),(.d (.sl (dV [])))]:: .cells [(aq (0:Int))]:: .cells (eR v6).cells:: .cells (bX v7.2.1).cells:: .cells [(.d (.sl (bq v9.1)))]:: .gone:: .cells [(.d (.sl (bk aA.1)))]::l
def B3(v1:aZ)(v2:ak4 aX)(v6:cv)(v7:(ak4 Int)×aV×Int)(v9:(ak4 Int)×Int)(aA:(ak4 bI)×(ak4 (ak5×bA)))(v21:aR×Int×(ak4 (ak5×bA)))(bC:ak4 aR)(cA:Code)(cz:Code)(aE:(ak4 Int))(l:ak4 ao):ak4 ao:=Gk v1 v2 v6 v7 v9 aA (.map (bY cf v21.2.2):: .cells [(.mp 9)]:: .cells [(.fn 96 [(.ptr 10 0),(.ptr 8 0)])]:: .cells [(aq v6.aJ.cg),(aq v6.aJ.cE),(aq v6.aJ.cB),(aq v6.aJ.cY),(aq v6.aJ.c8),(.d (.sl (bq v7.1))),(.own 13 (dV bC))]:: .front 45 2 bC.length:: .lp .busy 86 cA cz (dx 142 [(5,(.ptr 1 0)),(8,(.ptr 2 0)),(9,(.ptr 3 0)),(10,(.ptr 4 0)),(14,(.ptr 6 0)),(16,(.ptr 11 0)),(17,(.ptr 12 0)),(85,(.fn 113 [(.bn [[(.sl (bq aE))]] 0 0)]))])::l)
def tL(v1:aZ)(v2:ak4 aX)(v6:cv)(v7:(ak4 Int)×aV×Int)(v9:(ak4 Int)×Int)(l:ak4 ao):ak4 ao:=tf v1 v2 (.cells [(aq (0:Int))]:: .cells (eR v6).cells:: .cells (bX v7.2.1).cells:: .cells [(.d (.sl (bq v9.1)))]::l)
def CH(v1:aZ)(v2:ak4 aX)(v6:cv)(v7:(ak4 Int)×aV×Int)(v9:(ak4 Int)×Int)(aA:(ak4 bI)×(ak4 (ak5×bA)))(bW:ak4 (ak5×bA))(bC:ak4 aR)(l:ak4 ao):ak4 ao:=Gk v1 v2 v6 v7 v9 aA (.map (bY cf bW):: .cells [(.mp 9)]:: .cells [(.fn 96 [(.ptr 10 0),(.ptr 8 0)])]:: .cells [(aq v6.aJ.cg),(aq v6.aJ.cE),(aq v6.aJ.cB),(aq v6.aJ.cY),(aq v6.aJ.c8),(.d (.sl (bq v7.1))),(.own 13 (dV bC))]:: .front 45 2 bC.length::l)
def LU(v1:aZ)(v2:ak4 aX)(v6:cv)(v7:(ak4 Int)×aV×Int)(v9:(ak4 Int)×Int)(v10:ak4 Int)(aA:(ak4 bI)×(ak4 (ak5×bA)))(l:ak4 ao):ak4 ao:=tL v1 v2 v6 v7 v9 (.vec 3 1 (ck ((v10++v9.1).map eI)):: .cells [(.d (.sl (bk aA.1)))]:: .map (bY cf aA.2):: .cells [(.mp 9)]:: .cells [(.fn 96 [(.ptr 10 0),(.ptr 8 0)])]:: .cells [(aq v6.aJ.cg),(aq v6.aJ.cE),(aq v6.aJ.cB),(aq v6.aJ.cY),(aq v6.aJ.c8),(.d (.sl (bq v7.1))),(.d (.v (.slice none 0 0)))]::l)
def M7(v1:aZ)(v2:ak4 aX)(v6:cv)(v7:(ak4 Int)×aV×Int)(v9:(ak4 Int)×Int)(aA:(ak4 bI)×(ak4 (ak5×bA)))(bW:ak4 (ak5×bA))(bC:ak4 aR)(cA:Code)(cz:Code)(aE:(ak4 Int))(l:ak4 ao):ak4 ao:=CH v1 v2 v6 v7 v9 aA bW bC (.lp .busy 86 cA cz (dx 142 [(5,(.ptr 1 0)),(8,(.ptr 2 0)),(9,(.ptr 3 0)),(10,(.ptr 4 0)),(14,(.ptr 6 0)),(16,(.ptr 11 0)),(17,(.ptr 12 0)),(85,(.fn 113 [(.bn [[(.sl (bq aE))]] 0 0)]))])::l)
def we(v1:aZ)(v2:ak4 aX)(v6:cv)(v7:(ak4 Int)×aV×Int)(v9:(ak4 Int)×Int)(v10:ak4 Int)(l:ak4 ao):ak4 ao:=tL v1 v2 v6 v7 v9 (.vec 3 1 (ck ((v10++v9.1).map eI))::l)
def AF(v1:aZ)(v2:ak4 aX)(l:ak4 ao):ak4 ao:=tf v1 v2 (.cells [(aq (0:Int))]::l)
def Vk(v1:aZ)(v2:ak4 aX)(v6:cv)(v7:(ak4 Int)×aV×Int)(v9:(ak4 Int)×Int)(aA:(ak4 bI)×(ak4 (ak5×bA)))(v21:aR×Int×(ak4 (ak5×bA)))(bC:ak4 aR)(fi:Int64)(eP:Int64)(l:ak4 ao):ak4 ao:=Gk v1 v2 v6 v7 v9 aA (.map (bY cf v21.2.2):: .cells [(.mp 9)]:: .cells [(.fn 96 [(.ptr 10 0),(.ptr 8 0)])]:: .cells [(aq v6.aJ.cg),(aq v6.aJ.cE),(aq v6.aJ.cB),(aq v6.aJ.cY),(aq v6.aJ.c8),(.d (.sl (bq v7.1))),(.own 13 (dV (bC++[(⟨fi,eP⟩:aR)])))]:: .front 45 2 (bC++[(⟨fi,eP⟩:aR)]).length::l)
theorem acp{N v1 v2 v3 v4 r}(U:Pc N v1 v2 v3 v4=some r):KF 33 [(c7 v1),(.d (.sl (aN v2))),(.d (.sl (bk v3))),(aq v4)] (.aW [(jv r.1),(aq r.2)]):=by
 rw[Pc]at U;refine lU Tryz.func33 rfl (by kernel_rfl) ?_;refine fA [0,1,2,3] 0 (akr _) (s':=⟨142,[(0,(c7 v1)),(1,(.d (.sl (aN v2)))),(2,(.d (.sl (bk v3)))),(3,(aq v4))],[]⟩) (by kernel_rfl) ?_;refine ar ?_;refine rg [] [(4,(.ptr 0 0)),(5,(.ptr 1 0)),(8,(.ptr 2 0)),(9,(.ptr 3 0))] (AF v1 v2 []) (by kernel_rfl) ?_;refine ar ?_;refine ar ?_;obtain⟨v5,h2,U⟩:=bg U;refine yB [(29,(ax v5))] (AF v1 v2 []) ?_ ?_
 ·rcases dC (decide (v4<0))with J|J
  ·replace h2:=(dc J).symm.trans h2;have he:=akz h2;subst he;exact⟨[(9,bT J),(12,bT J),(15,bT J),(18,bT J),(21,bT J),(25,bT J)],by kernel_rfl⟩
  replace h2:=(dG J).symm.trans h2;have he:=akz h2;subst he;exact⟨[(9,bF J),(12,bF J),(15,bF J),(18,bF J),(19,oL v1.aU kp),(21,bF J),(25,bF J)],by kernel_rfl⟩
 rcases dC v5 with h3|h3
 ·replace U:=(dc h3).symm.trans U;refine cQ (t:=v5) (by kernel_rfl) h3 ?_;refine ar ?_;refine rg [] [] (tf v1 v2 [.cells [(aq (9:Int))]]) (by kernel_rfl) ?_;refine cV (cU ?_);have hr:=akz U;subst hr;exact fa (by kernel_rfl)
 replace U:=(dG h3).symm.trans U;refine dw (t:=v5) (by kernel_rfl) h3 ?_;refine cx ?_;refine aI ?_;refine ar ?_;have h5:=my U;replace U:=(dc h5).symm.trans U;obtain⟨v6,h4,U⟩:=bg U;refine rg [(10,⟨_,_, .el (xs:=gD v1.aU) (i:=v4) (of_decide_eq_true h5) (jm h4)⟩)] [(10,(.ptr 4 0))] (AF v1 v2 [.cells (eR v6).cells]) (by kernel_rfl) ?_;refine ar ?_;obtain⟨v7,h6,U⟩:=bg U;refine rg [(13,cK Ew h6)] [(11,(.d (.sl (bq v7.1)))),(13,(aq v7.2.2))] (AF v1 v2 [.cells (eR v6).cells, .cells (bX v7.2.1).cells]) (by kernel_rfl) ?_;refine ar ?_;refine ar ?_;refine rg [] [(46,(ax (v7.2.2 !=0)))] (AF v1 v2 [.cells (eR v6).cells, .cells (bX v7.2.1).cells]) (by kernel_rfl) ?_;rcases dC (v7.2.2 !=0)with h7|h7
 ·replace U:=(dc h7).symm.trans U;refine cQ (t:=(v7.2.2 !=0)) (by kernel_rfl) h7 ?_;refine ar ?_;refine rg [] [] (tf v1 v2 [.cells [(aq v7.2.2)], .cells (eR v6).cells, .cells (bX v7.2.1).cells]) (by kernel_rfl) ?_;refine cV (cU ?_);have hr:=akz U;subst hr;exact fa (by kernel_rfl)
 replace U:=(dG h7).symm.trans U;refine dw (t:=(v7.2.2 !=0)) (by kernel_rfl) h7 ?_;refine cx ?_;refine aI ?_;refine ar ?_;obtain⟨v8,h8,v9,h9,U⟩:=k00 U;refine rd bB (by kernel_rfl) [(7,cK afJ h8),(13,cK UF h9)] [(14,(.ptr 6 0)),(13,(aq v9.2))] (tL v1 v2 v6 v7 v9 []) (by kernel_rfl) ?_;refine ar ?_;refine ar ?_;refine rg [] [(58,(ax (v9.2 !=0)))] (tL v1 v2 v6 v7 v9 []) (by kernel_rfl) ?_;rcases dC (v9.2 !=0)with aO|aO
 ·replace U:=(dc aO).symm.trans U;refine cQ (t:=(v9.2 !=0)) (by kernel_rfl) aO ?_;refine ar ?_;refine rg [] [] (tf v1 v2 [.cells [(aq v9.2)], .cells (eR v6).cells, .cells (bX v7.2.1).cells, .cells [(.d (.sl (bq v9.1)))]]) (by kernel_rfl) ?_;refine cV (cU ?_);have hr:=akz U;subst hr;exact fa (by kernel_rfl)
 replace U:=(dG aO).symm.trans U;refine dw (t:=(v9.2 !=0)) (by kernel_rfl) aO ?_;refine cx ?_;refine aI ?_;refine ar ?_;refine ar ?_;obtain⟨v10,aY,U⟩:=bg U;have aT:=my U;replace U:=(dc aT).symm.trans U;obtain⟨v11,bN,U⟩:=bg U;refine ro 2 bB (.node 0 [] (.node 1 [(4,oX dm (tV (xs:=(v10.map eI)) dm) [(.d (.sl (bq v7.1)))] (tL v1 v2 v6 v7 v9 []) [] (Re aY))] (.node 2 [] (.node 3 [(10,⟨_,_, .pr (.ap (ck ((v10++v9.1).map eI)) (ck (v9.1.map eI)) (v10.length+v9.1.length) (v10.length+v9.1.length)) (HY (f:=eI) (h:=(tL v1 v2 v6 v7 v9 [.vec 3 1 (ck (v10.map eI))])) (y:=(.d (.sl (bq v9.1)))) (k:=1) rfl (by rw[<-nX];rfl) (λc hc=>Cy c (by rw[nX];exact hc)) rfl rfl (mu aT (by decide)).1 (mu aT (by decide)).2)⟩)] (.node 4 [(13,oX (tV (xs:=((v10++v9.1).map eI)) dm) (tV (xs:=((v10++v9.1).map eI)) dm) [(.vec 7 0 (v10.length+v9.1.length) (v10.length+v9.1.length) 1),(aq (65536:Int))] (we v1 v2 v6 v7 v9 v10 []) [7] (X6 bN))] (.node 5 [] .nil .nil) .nil) .nil) .nil) (.node 2 [] (.node 1 [(4,oX dm (tV (xs:=(v10.map eI)) dm) [(.d (.sl (bq v7.1)))] (tL v1 v2 v6 v7 v9 []) [] (Re aY))] (.node 3 [(10,⟨_,_, .pr (.ap (ck ((v10++v9.1).map eI)) (ck (v9.1.map eI)) (v10.length+v9.1.length) (v10.length+v9.1.length)) (HY (f:=eI) (h:=(tL v1 v2 v6 v7 v9 [.vec 3 1 (ck (v10.map eI))])) (y:=(.d (.sl (bq v9.1)))) (k:=1) rfl (by rw[<-nX];rfl) (λc hc=>Cy c (by rw[nX];exact hc)) rfl rfl (mu aT (by decide)).1 (mu aT (by decide)).2)⟩)] (.node 4 [(13,oX (tV (xs:=((v10++v9.1).map eI)) dm) (tV (xs:=((v10++v9.1).map eI)) dm) [(.vec 7 0 (v10.length+v9.1.length) (v10.length+v9.1.length) 1),(aq (65536:Int))] (we v1 v2 v6 v7 v9 v10 []) [7] (X6 bN))] (.node 5 [] .nil .nil) .nil) .nil) .nil) .nil)) .nil) [(66,(ax (decide (v11>65536))))] (we v1 v2 v6 v7 v9 v10 []) (by kernel_rfl) ?_
 rcases dC (decide (v11>65536))with bZ|bZ
 ·replace U:=(dc bZ).symm.trans U;refine cQ (t:=(decide (v11>65536))) (by kernel_rfl) bZ ?_;refine ar ?_;refine rg [] [] (tf v1 v2 [.cells [(aq (2:Int))], .cells (eR v6).cells, .cells (bX v7.2.1).cells, .cells [(.d (.sl (bq v9.1)))], .vec 3 1 (ck ((v10++v9.1).map eI))]) (by kernel_rfl) ?_;refine cV (cU ?_);have hr:=akz U;subst hr;exact fa (by kernel_rfl)
 replace U:=(dG bZ).symm.trans U;refine dw (t:=(decide (v11>65536))) (by kernel_rfl) bZ ?_;refine cx ?_;refine aI ?_;refine ar ?_;refine ar ?_;obtain⟨v12,bM,U⟩:=bg U;refine rg [(16,cK aau bM)] [(15,(aq v12))] (we v1 v2 v6 v7 v9 v10 []) (by kernel_rfl) ?_;refine ar ?_;refine rg [] [(75,(ax (v12 !=0)))] (we v1 v2 v6 v7 v9 v10 []) (by kernel_rfl) ?_;rcases dC (v12 !=0)with cn|cn
 ·replace U:=(dc cn).symm.trans U;refine cQ (t:=(v12 !=0)) (by kernel_rfl) cn ?_;refine ar ?_;refine rg [] [] (tf v1 v2 [.cells [(aq v12)], .cells (eR v6).cells, .cells (bX v7.2.1).cells, .cells [(.d (.sl (bq v9.1)))], .vec 3 1 (ck ((v10++v9.1).map eI))]) (by kernel_rfl) ?_;refine cV (cU ?_);have hr:=akz U;subst hr;exact fa (by kernel_rfl)
 replace U:=(dG cn).symm.trans U;refine dw (t:=(v12 !=0)) (by kernel_rfl) cn ?_;refine cx ?_;refine aI ?_;refine ar ?_;obtain⟨aA,dj,U⟩:=bg U;refine rg [(4,oX dm (aS (eu (aS dm))) [(.d (.sl (bk v3)))] (we v1 v2 v6 v7 v9 v10 []) [] (xV N v3 aA dj))] [(16,(.ptr 11 0))] (we v1 v2 v6 v7 v9 v10 [.cells [(.d (.sl (bk aA.1)))], .map (bY cf aA.2), .cells [(.mp 9)], .cells [(.fn 96 [(.ptr 10 0),(.ptr 8 0)])]]) (by kernel_rfl) ?_;refine ar ?_;refine rg [] [(17,(.ptr 12 0))] (LU v1 v2 v6 v7 v9 v10 aA []) (by kernel_rfl) ?_;refine ar ?_;refine ar ?_;obtain⟨aE,eC,U⟩:=bg U;refine rg [(4,oQ [(.d (.sl (bq v7.1)))] (LU v1 v2 v6 v7 v9 v10 aA []) [] (Up eC))] [(85,(.fn 113 [(.bn [[(.sl (bq aE))]] 0 0)]))] (LU v1 v2 v6 v7 v9 v10 aA []) (by kernel_rfl) ?_;refine dt ?_;obtain⟨aP,fu,U⟩:=bg U;refine acA 7 ?_;refine Z8 12 6 45 2 [] rfl (.inr ⟨rfl,rfl⟩) ?_;refine fA [5,8,9,10,14,16,17,85] 14 (ako rfl) (s':=⟨142,[(5,(.ptr 1 0)),(8,(.ptr 2 0)),(9,(.ptr 3 0)),(10,(.ptr 4 0)),(14,(.ptr 6 0)),(16,(.ptr 11 0)),(17,(.ptr 12 0)),(85,(.fn 113 [(.bn [[(.sl (bq aE))]] 0 0)]))],(Gk v1 v2 v6 v7 v9 aA [.map (bY cf aA.2), .cells [(.mp 9)], .cells [(.fn 96 [(.ptr 10 0),(.ptr 8 0)])], .cells [(aq v6.aJ.cg),(aq v6.aJ.cE),(aq v6.aJ.cB),(aq v6.aJ.cY),(aq v6.aJ.c8),(.d (.sl (bq v7.1))),(.own 13 (dV []))], .front 45 2 0])⟩) (by kernel_rfl) ?_
 refine vj (m:=14) (enc:=oz) (xs:=aP) (by kernel_rfl) (Tf fu) (λ((bC,bW):(ak4 aR)×(ak4 (ak5×bA)))=>(CH v1 v2 v6 v7 v9 aA bW bC [])) (λ((bC,bW):(ak4 aR)×(ak4 (ak5×bA))) l=>ui N v6 v7 v2 v9 aA l bC bW=some r) ([],aA.2) (by kernel_rfl) U (by rintro⟨bC,bW⟩;rfl) (by rintro⟨bC,bW⟩;kernel_rfl) (by kernel_rfl) rfl ?_ ?_
 ·rintro⟨bC,bW⟩ bH cd U dD cA cz
  try dsimp only at U
  rw[ui]at U;refine fA [5,8,9,10,14,16,17,86] 15 (akr _) (s':=⟨142,[(5,(.ptr 1 0)),(8,(.ptr 2 0)),(9,(.ptr 3 0)),(10,(.ptr 4 0)),(14,(.ptr 6 0)),(16,(.ptr 11 0)),(17,(.ptr 12 0)),(86,(.d (.sl (bq bH))))],(CH v1 v2 v6 v7 v9 aA bW bC [.lp .ready 86 cA cz (dx 142 [(5,(.ptr 1 0)),(8,(.ptr 2 0)),(9,(.ptr 3 0)),(10,(.ptr 4 0)),(14,(.ptr 6 0)),(16,(.ptr 11 0)),(17,(.ptr 12 0)),(85,(.fn 113 [(.bn [[(.sl (bq aE))]] 0 0)]))])])⟩) (by kernel_rfl) ?_;refine re [] [(18,(.d (.sl (bq bH))))] (CH v1 v2 v6 v7 v9 aA bW bC [.lp .ready 86 cA cz (dx 142 [(5,(.ptr 1 0)),(8,(.ptr 2 0)),(9,(.ptr 3 0)),(10,(.ptr 4 0)),(14,(.ptr 6 0)),(16,(.ptr 11 0)),(17,(.ptr 12 0)),(85,(.fn 113 [(.bn [[(.sl (bq aE))]] 0 0)]))])]) (by kernel_rfl) ?_;refine aI ?_;refine⟨(CH v1 v2 v6 v7 v9 aA bW bC []),[],rfl,(by kernel_rfl),?_⟩;refine fA [5,8,9,10,14,16,17,18] 15 (ako rfl) (s':=⟨142,[(5,(.ptr 1 0)),(8,(.ptr 2 0)),(9,(.ptr 3 0)),(10,(.ptr 4 0)),(14,(.ptr 6 0)),(16,(.ptr 11 0)),(17,(.ptr 12 0)),(18,(.d (.sl (bq bH))))],(M7 v1 v2 v6 v7 v9 aA bW bC cA cz aE [])⟩) (by kernel_rfl) ?_;refine dt ?_;refine ar ?_;obtain⟨v20,fW,v21,iu,U⟩:=k00 U;refine ro 2 bB (.node 0 [] (.node 1 [] (.node 2 [] (.node 3 [] (.node 4 [] (.node 5 [] (.node 6 [] (.node 7 [(22,cK RZ fW)] (.node 8 [(25,oR [(.fn 96 [(.ptr 10 0),(.ptr 8 0)]),(eR v6),(.d (.sl (bq v9.1))),(.d (.sl (aN v20)))] (M7 v1 v2 v6 v7 v9 aA bW bC cA cz aE []) [10,8,9] (Qk N v6 v9.1 v20 aA.1 bW v21 iu))] (.node 9 [] (.node 10 [] (.node 11 [] (.node 12 [] (.node 13 [] (.node 14 [] .nil .nil) .nil) .nil) .nil) .nil) .nil) (.node 12 [] (.node 8 [(25,oR [(.fn 96 [(.ptr 10 0),(.ptr 8 0)]),(eR v6),(.d (.sl (bq v9.1))),(.d (.sl (aN v20)))] (M7 v1 v2 v6 v7 v9 aA bW bC cA cz aE [.cells ir]) [10,8,9] (Qk N v6 v9.1 v20 aA.1 bW v21 iu))] (.node 9 [] (.node 10 [] (.node 11 [] (.node 13 [] (.node 14 [] .nil .nil) .nil) .nil) .nil) .nil) .nil) .nil)) .nil) .nil) .nil) .nil) .nil) .nil) .nil) .nil) [(19,(.ptr 15 0)),(20,(aq v21.2.1))] (B3 v1 v2 v6 v7 v9 aA v21 bC cA cz aE [.cells (bx v21.1).cells]) (by kernel_rfl) ?_
  refine ar ?_;refine ar ?_;obtain⟨dH,gq,U⟩:=bg U;refine yB [(114,(ax dH))] (B3 v1 v2 v6 v7 v9 aA v21 bC cA cz aE [.cells (bx v21.1).cells]) ?_ ?_
  ·rcases dC (v21.2.1==0)with fe|fe
   ·replace gq:=(dc fe).symm.trans gq;rcases dC (v6.eQ==5)with fE|fE
    ·replace gq:=(dc fE).symm.trans gq;have mc:=my gq;replace gq:=(dc mc).symm.trans gq;obtain⟨e8,lO,gq⟩:=bg gq;have he:=akz gq;subst he;exact⟨[(9,bT fe),(12,bT fe),(15,bT fe),(19,bT fe),(24,bT fE),(27,bT fE),(30,bT fE),(31,oL bH fQ),(33,bT fE),(36,bT fE),(37,⟨_,_, .el (xs:=bq bH) (i:=(aK ((bH.length:Int)-(1:Int)))) (of_decide_eq_true mc) (jb lO)⟩),(39,bT fE),(42,bT fE),(46,bT fE)],by kernel_rfl⟩
    replace gq:=(dG fE).symm.trans gq;have he:=akz gq;subst he;exact⟨[(9,bT fe),(12,bT fe),(15,bT fe),(19,bT fe),(24,bF fE),(27,bF fE),(30,bF fE),(33,bF fE),(36,bF fE),(39,bF fE),(42,bF fE),(46,bF fE)],by kernel_rfl⟩
   replace gq:=(dG fe).symm.trans gq;have he:=akz gq;subst he;exact⟨[(9,bF fe),(12,bF fe),(15,bF fe),(19,bF fe),(24,bF rfl),(27,bF rfl),(30,bF rfl),(33,bF rfl),(36,bF rfl),(39,bF rfl),(42,bF rfl),(46,bF rfl)],by kernel_rfl⟩
  refine o9 [8,9,17,19,20] 16 (λ((v24,fi,eP):Int×Int64×Int64)=>⟨142,[(8,(.ptr 2 0)),(9,(.ptr 3 0)),(17,(.ptr 12 0)),(19,(.ptr 15 0)),(20,(aq v24))],(B3 v1 v2 v6 v7 v9 aA v21 bC cA cz aE [.cells [(bG fi),(bG eP)]])⟩) (λ((v24,fi,eP):Int×Int64×Int64)=>Jf N bC (λcq fS=>ui N v6 v7 v2 v9 aA cd cq fS) v21 v24 fi eP=some r) (ako rfl) ?_ ?_
  ·rcases dC dH with oM|oM
   ·replace U:=(dc oM).symm.trans U;refine cQ (t:=dH) (by kernel_rfl) oM ?_;have Gs:=my U;replace U:=(dc Gs).symm.trans U;obtain⟨gJ,uE,v28,Ot,U⟩:=k00 U;refine V6 bB (by kernel_rfl) [(19,oL bC lV),(25,⟨_,_, .el (xs:=dV bC) (i:=(aK ((bC.length:Int)-(1:Int)))) (of_decide_eq_true Gs) (pM uE)⟩),(37,cK Qp Ot)] [(20,(aq v28.2)),(130,(aq v28.2)),(129,(bx v28.1)),(115,(.aW [(bx v28.1),(aq v28.2)])),(128,(.aW [(bx v28.1),(aq v28.2)])),(127,(.full (dV [gJ,v21.1]))),(126,(bx v21.1)),(125,(bx gJ)),(124,(.bn [Ch gJ] 0 0)),(123,(aq (aK ((bC.length:Int)-(1:Int))))),(122,(aq (bC.length:Int))),(121,(.own 13 (dV bC))),(120,(.ptr 12 6)),(119,(.own 13 (dV bC))),(118,(.ptr 12 6)),(117,(bX v6.aJ)),(116,(.ptr 4 1))] (B3 v1 v2 v6 v7 v9 aA v21 bC cA cz aE [.cells (bx v28.1).cells]) (by kernel_rfl) ?_;refine aI ?_;exact⟨(v28.2,v28.1.xN,v28.1.xD),by kernel_rfl,U⟩
   replace U:=(dG oM).symm.trans U;refine dw (t:=dH) (by kernel_rfl) oM ?_;refine cx ?_;refine aI ?_;exact⟨(v21.2.1,v21.1.xN,v21.1.xD),by kernel_rfl,U⟩
  rintro⟨v24,fi,eP⟩ U
  try dsimp only at U
  rw[Jf]at U;refine ar ?_;refine ar ?_;refine rg [] [(132,(ax (v24 !=0)))] (B3 v1 v2 v6 v7 v9 aA v21 bC cA cz aE [.cells [(bG fi),(bG eP)]]) (by kernel_rfl) ?_;rcases dC (v24 !=0)with lA|lA
  ·replace U:=(dc lA).symm.trans U;refine cQ (t:=(v24 !=0)) (by kernel_rfl) lA ?_;refine ar ?_;refine rg [] [] (tf v1 v2 [.cells [(aq v24)], .cells (eR v6).cells, .cells (bX v7.2.1).cells, .cells [(.d (.sl (bq v9.1)))], .gone, .cells [(.d (.sl (bk aA.1)))], .map (bY cf v21.2.2), .cells [(.mp 9)], .cells [(.fn 96 [(.ptr 10 0),(.ptr 8 0)])], .cells [(aq v6.aJ.cg),(aq v6.aJ.cE),(aq v6.aJ.cB),(aq v6.aJ.cY),(aq v6.aJ.c8),(.d (.sl (bq v7.1))),(.own 13 (dV bC))], .front 45 2 bC.length, .lp .busy 86 cA cz (dx 142 [(5,(.ptr 1 0)),(8,(.ptr 2 0)),(9,(.ptr 3 0)),(10,(.ptr 4 0)),(14,(.ptr 6 0)),(16,(.ptr 11 0)),(17,(.ptr 12 0)),(85,(.fn 113 [(.bn [[(.sl (bq aE))]] 0 0)]))]), .cells [(bG fi),(bG eP)]]) (by kernel_rfl) ?_;refine cV (cU (dW ?_));refine Bn [.cells (c7 v1).cells, .cells [(.d (.sl (aN v2)))], .cells [(aq (0:Int)),(aq (0:Int)),(aq (0:Int)),(aq (0:Int)),(aq (0:Int)),(.d (.sl (bq []))),(.d (.sl (dV [])))], .cells [(aq v24)], .cells (eR v6).cells, .cells (bX v7.2.1).cells, .cells [(.d (.sl (bq v9.1)))], .gone, .cells [(.d (.sl (bk aA.1)))], .map (bY cf v21.2.2), .cells [(.mp 9)], .cells [(.fn 96 [(.ptr 10 0),(.ptr 8 0)])], .cells [(aq v6.aJ.cg),(aq v6.aJ.cE),(aq v6.aJ.cB),(aq v6.aJ.cY),(aq v6.aJ.c8),(.d (.sl (bq v7.1))),(.own 13 (dV bC))], .front 45 2 bC.length] rfl (by kernel_rfl) (by kernel_rfl) ?_
   refine(dW (cU ?_));have hr:=akz U;subst hr;exact fa (by kernel_rfl)
  replace U:=(dG lA).symm.trans U;refine dw (t:=(v24 !=0)) (by kernel_rfl) lA ?_;refine cx ?_;refine aI ?_;have pO:=my U;replace U:=(dc pO).symm.trans U;refine re [(13,oA wU bC ([(⟨fi,eP⟩:aR)]) pO)] [(140,(.ptr 12 6)),(139,(.own 13 (dV (bC++[(⟨fi,eP⟩:aR)])))),(138,(.full (dV [(⟨fi,eP⟩:aR)]))),(137,(.agg [(bG fi),(bG eP)])),(136,(.own 13 (dV bC))),(135,(.ptr 12 6))] (Vk v1 v2 v6 v7 v9 aA v21 bC fi eP [.lp .busy 86 cA cz (dx 142 [(5,(.ptr 1 0)),(8,(.ptr 2 0)),(9,(.ptr 3 0)),(10,(.ptr 4 0)),(14,(.ptr 6 0)),(16,(.ptr 11 0)),(17,(.ptr 12 0)),(85,(.fn 113 [(.bn [[(.sl (bq aE))]] 0 0)]))]), .cells [(bG fi),(bG eP)]]) (by kernel_rfl) ?_;refine dX ?_;refine zd (Vk v1 v2 v6 v7 v9 aA v21 bC fi eP []) rfl (by kernel_rfl) (by kernel_rfl) ?_;exact⟨((bC++[(⟨fi,eP⟩:aR)]),v21.2.2),(by kernel_rfl),U⟩
 rintro⟨bC,bW⟩ U
 try dsimp only at U
 rw[ui]at U;refine dX ?_;refine aI ?_;refine ar ?_;refine rg [] [] [.cells (c7 v1).cells, .cells [(.d (.sl (aN v2)))], .cells [(aq v6.aJ.cg),(aq v6.aJ.cE),(aq v6.aJ.cB),(aq v6.aJ.cY),(aq v6.aJ.c8),(.d (.sl (bq v7.1))),(.own 13 (dV bC))], .cells [(aq (0:Int))], .cells (eR v6).cells, .cells (bX v7.2.1).cells, .cells [(.d (.sl (bq v9.1)))], .gone, .cells [(.d (.sl (bk aA.1)))], .map (bY cf bW), .cells [(.mp 9)], .cells [(.fn 96 [(.ptr 10 0),(.ptr 8 0)])], .cells [(aq v6.aJ.cg),(aq v6.aJ.cE),(aq v6.aJ.cB),(aq v6.aJ.cY),(aq v6.aJ.c8),(.d (.sl (bq v7.1))),(.own 13 (dV bC))], .front 45 2 bC.length, .gone] (by kernel_rfl) ?_;refine cV ?_;have hr:=akz U;subst hr;exact fa (by kernel_rfl)
def XA(N:Nat)(v1:aZ)(v2:ak4 aX):ak4 cv->Nat->(ak4 bI)->ak6 ((ak4 bI)×Int)
 |[],_,v10=>
  some (v10,(0:Int))
 |v8::v9,v6,v10=>
  Option.bind (Pc N v1 v2 v10 (v6:Int)) λv11=>
  bif (v11.2 !=0)then
   some ([],v11.2)
  else
   bif (Nat.ble ((v10.length+1)*104) 140737488355328)then
   (λcq=>XA N v1 v2 v9 (v6+1) cq) (v10++[(⟨v8.aF,v11.1⟩:bI)])
   else none
def Rh(N:Nat)(v1:aZ)(v2:ak4 aX)(v3:ak4 bI):ak6 ((ak4 bI)×Int):=
 (Df N v1 v2).bind λv4=>
 bif (v4 !=0)then
  some ([],v4)
 else
  (Kd N v1 v2 v3).bind λv5=>
  bif (v5.2 !=0)then
   some ([],v5.2)
  else
   XA N v1 v2 v1.aU 0 v5.1
theorem Zy{N v1 v2 v3}:KO 45 [(c7 v1),(.d (.sl (aN v2))),(.d (.sl (bk v3)))] (λr=> .aW [(.d (.sl (bk r.1))),(aq r.2)]) (Rh N v1 v2 v3):=
 fw Tryz.func45 (au λv4 J=>gA [[],[(7,cK R7 J)],[]] (bj λh2=>au λv5 h3=>gA [[f0 h2],[(10,oX dm (abb dm) [(c7 v1),(.d (.sl (aN v2))),(.d (.sl (bk v3)))] [.cells (c7 v1).cells] [] (acQ h3))],[]] (bj λh4=>gA [[f0 h4],[(7,oL v1.aU kp)]] (gT ud 32 v1.aU λh6=>fq 1 [] [1,3,9,32,33,34] 2 (λv6(v10:ak4 bI)=>⟨59,[(1,(.d (.sl (aN v2)))),(3,(.ptr 0 0)),(9,(.own 1 (bk v10))),(32,(.d (.sl (gD v1.aU)))),(33,(aq (v1.aU.length:Int))),(34,(aq (v6:Int)))],[.cells (c7 v1).cells, .front 56 8 v10.length]⟩) (λv6 v10 h7 f1=>gR [[],[f0 (bK h7)],[]]) (λv6 v8 v9 v10 h7 f1 aG=>au λv11 h8=>gA [[],[t0 (bJ h7)],[(4,oE (jm (bm h7)))],[(13,cL (acp h8))],[]] (bj λh9=>dh λaO=>gb aG (v10++[(⟨v8.aF,v11.1⟩:bI)]) [[f0 h9],[(19,oA GI v10 ([(⟨v8.aF,v11.1⟩:bI)]) aO)],[(2,oq (bS h7 rfl h6))]] h7))))))
def WQ(N:Nat)(v4:(ak4 bI)×Int):ak4 ak5->Nat->(ak4 bI)->ak6 ((ak4 bI)×Int)
 |[],_,v9=>
  some (v9,(0:Int))
 |v7::v8,v5,v9=>
  (Dq N v4.1 v7).bind λv10=>
  (Lk N v10.1).bind λv11=>
  bif (Nat.ble ((v9.length+1)*104) 140737488355328)then
  (λcq=>WQ N v4 v8 (v5+1) cq) (v9++[(⟨v7,v11⟩:bI)])
  else none
def Wd(N:Nat)(v1:aZ)(v2:ak4 aX)(v3:ak4 bI):ak6 ((ak4 bI)×Int):=
 (Rh N v1 v2 v3).bind λv4=>
 bif (v4.2 !=0)then
  some ([],v4.2)
 else
  WQ N v4 v1.dU 0 []
theorem abt{N v1 v2 v3}:KO 22 [(c7 v1),(.d (.sl (aN v2))),(.d (.sl (bk v3)))] (λr=> .aW [(.d (.sl (bk r.1))),(aq r.2)]) (Wd N v1 v2 v3):=
 fw Tryz.func22 (au λv4 J=>gA [[],[(10,cK Zy J)],[]] (bj λh2=>gA [[f0 h2],[],[(7,oL v1.dU fR)]] (li (λ_=>(mG 10 56 8 [] (.inr (by kernel_rfl)) ·)) (gT jK 26 v1.dU λh4=>fq 1 [] [8,10,26,27,28] 2 (λv5(v9:ak4 bI)=>⟨47,[(8,(.d (.sl (bk v4.1)))),(10,(.own 1 (bk v9))),(26,(.d (.sl (cW v1.dU)))),(27,(aq (v1.dU.length:Int))),(28,(aq (v5:Int)))],[.cells (c7 v1).cells, .front 56 8 v9.length]⟩) (λv5 v9 h5 f1=>gR [[],[f0 (bK h5)],[]]) (λv5 v7 v8 v9 h5 f1 aG=>au λv10 h6=>au λv11 h7=>dh λh8=>gb aG (v9++[(⟨v7,v11⟩:bI)]) [[],[t0 (bJ h5)],[(1,oE (mo (bm h5)))],[(7,cK Ea h6)],[(10,cK V0 h7),(19,oA GI v9 ([(⟨v7,v11⟩:bI)]) h8)],[(2,oq (bS h5 rfl h4))]] h5)))))
def Io(N:Nat)(v1:ak4 bI)(v2:ak4 aX)(v3:ay):ak6 (aR×aV×Int):=
 (zY N v3).bind λv4=>
 bif (v4 !=0)then
  some (dA,ee,v4)
 else
  (xW N v3).bind λv5=>
  bif v5 then
   some (dA,ee,(10:Int))
  else
   (Ht N v1).bind λv6=>
   (Bf N v2 v6.1 v6.2).bind λv7=>
   (HU N v3 v7 v6.1 v6.2).bind λv8=>
   bif (v8.2.1 !=0)then
    some (dA,ee,v8.2.1)
   else
    some (v8.1.jI,v8.1.gF,(0:Int))
def mi(v3:ay)(l:ak4 ao):ak4 ao:= .cells (aB v3).cells:: .cells ir:: .cells nA::l
def CQ(v3:ay)(v6:(ak4 bI)×(ak4 (ak5×bA)))(l:ak4 ao):ak4 ao:=mi v3 (.cells [(.d (.sl (bk v6.1)))]:: .map (bY cf v6.2):: .cells [(.mp 4)]:: .cells dE::l)
def C4(v3:ay)(v6:(ak4 bI)×(ak4 (ak5×bA)))(l:ak4 ao):ak4 ao:=mi v3 (.cells dE:: .cells [(.d (.sl (bk v6.1)))]:: .map (bY cf v6.2):: .cells [(.mp 5)]::l)
def Fz(v3:ay)(v6:(ak4 bI)×(ak4 (ak5×bA)))(v7:(ak4 aX))(l:ak4 ao):ak4 ao:=mi v3 (.cells [(.d (.sl (bk v6.1)))]:: .map (bY cf v6.2):: .cells [(.mp 4)]:: .cells [(.fn 96 [(.ptr 5 0),(.ptr 3 0)])]:: .cells [(.d (.sl (aN v7)))]:: .cells [(.fn 93 [(.ptr 6 0),(.ptr 7 0),(.ptr 9 0)]),(.fn 91 [(.ptr 9 0)])]:: .cells [(.ptr 8 0)]::l)
def Gf(v3:ay)(v6:(ak4 bI)×(ak4 (ak5×bA)))(v7:(ak4 aX))(l:ak4 ao):ak4 ao:=CQ v3 v6 (.cells [(.fn 96 [(.ptr 5 0),(.ptr 3 0)])]:: .cells [(.d (.sl (aN v7)))]:: .cells [(.fn 93 [(.ptr 7 0),(.ptr 8 0),(.ptr 10 0)]),(.fn 91 [(.ptr 10 0)])]:: .cells [(.ptr 9 0)]::l)
def DZ(v3:ay)(v6:(ak4 bI)×(ak4 (ak5×bA)))(v7:(ak4 aX))(l:ak4 ao):ak4 ao:=C4 v3 v6 (.cells [(.fn 96 [(.ptr 6 0),(.ptr 4 0)])]:: .cells [(.d (.sl (aN v7)))]:: .cells [(.fn 93 [(.ptr 7 0),(.ptr 8 0),(.ptr 10 0)]),(.fn 91 [(.ptr 10 0)])]:: .cells [(.ptr 9 0)]::l)
def MH(v3:ay)(v6:(ak4 bI)×(ak4 (ak5×bA)))(v8:fv×Int×(ak4 (ak5×bA)))(v7:(ak4 aX))(l:ak4 ao):ak4 ao:=mi v3 (.cells [(.d (.sl (bk v6.1)))]:: .map (bY cf v8.2.2):: .cells [(.mp 4)]:: .cells [(.fn 96 [(.ptr 5 0),(.ptr 3 0)])]:: .cells [(.d (.sl (aN v7)))]:: .cells [(.fn 93 [(.ptr 6 0),(.ptr 7 0),(.ptr 9 0)]),(.fn 91 [(.ptr 9 0)])]:: .cells [(.ptr 8 0)]:: .cells (dQ v8.1).cells::l)
def O5(v3:ay)(l:ak4 ao):ak4 ao:=mi v3 (.cells dE::l)
def Lv(v3:ay)(v6:(ak4 bI)×(ak4 (ak5×bA)))(v7:(ak4 aX))(l:ak4 ao):ak4 ao:=Fz v3 v6 v7 (.cells dE::l)
def NW(v3:ay)(v6:(ak4 bI)×(ak4 (ak5×bA)))(l:ak4 ao):ak4 ao:=mi v3 (.cells [(.d (.sl (bk v6.1)))]:: .map (bY cf v6.2):: .cells [(.mp 4)]::l)
theorem PE{N v1 v2 v3 r}(U:Io N v1 v2 v3=some r):KF 26 [(.d (.sl (bk v1))),(.d (.sl (aN v2))),(aB v3)] (.aW [(bx r.1),(bX r.2.1),(aq r.2.2)]):=by
 rw[Io]at U;refine lU Tryz.func26 rfl (by kernel_rfl) ?_;refine fA [0,1,2] 0 (akr _) (s':=⟨44,[(0,(.d (.sl (bk v1)))),(1,(.d (.sl (aN v2)))),(2,(aB v3))],[]⟩) (by kernel_rfl) ?_;refine ar ?_;refine rg [] [(5,(.ptr 0 0)),(6,(.ptr 1 0)),(7,(.ptr 2 0))] (mi v3 []) (by kernel_rfl) ?_;refine ar ?_;refine ar ?_;obtain⟨v4,J,U⟩:=bg U;refine rg [(4,cL (XX J))] [(9,(aq v4))] (mi v3 []) (by kernel_rfl) ?_;refine ar ?_;refine rg [] [(15,(ax (v4 !=0)))] (mi v3 []) (by kernel_rfl) ?_;rcases dC (v4 !=0)with h2|h2
 ·replace U:=(dc h2).symm.trans U;refine cQ (t:=(v4 !=0)) (by kernel_rfl) h2 ?_;refine ar ?_;refine rg [] [(8,(aq v4))] (mi v3 []) (by kernel_rfl) ?_;refine cV (cU ?_);have hr:=akz U;subst hr;exact fa (by kernel_rfl)
 replace U:=(dG h2).symm.trans U;refine dw (t:=(v4 !=0)) (by kernel_rfl) h2 ?_;refine cx ?_;refine aI ?_;refine ar ?_;refine ar ?_;obtain⟨v5,h3,U⟩:=bg U;refine rg [(4,cK Ph h3)] [(20,(ax v5))] (mi v3 []) (by kernel_rfl) ?_;rcases dC v5 with h4|h4
 ·replace U:=(dc h4).symm.trans U;refine cQ (t:=v5) (by kernel_rfl) h4 ?_;refine ar ?_;refine rg [] [(8,(aq (10:Int)))] (mi v3 []) (by kernel_rfl) ?_;refine cV (cU ?_);have hr:=akz U;subst hr;exact fa (by kernel_rfl)
 replace U:=(dG h4).symm.trans U;refine dw (t:=v5) (by kernel_rfl) h4 ?_;refine cx ?_;refine aI ?_;refine ar ?_;obtain⟨v6,h5,v7,h6,U⟩:=k00 U;obtain⟨v8,h7,U⟩:=bg U;refine ro 14 bB (.node 0 [] (.node 2 [] (.node 1 [(4,oX dm (aS (eu (aS dm))) [(.d (.sl (bk v1)))] (mi v3 []) [] (xV N v1 v6 h5))] (.node 3 [(10,oX (aS (aS (eu dm))) (aS (aS (eu (aS (aS (aS (aS dm))))))) [(.fn 96 [(.ptr 5 0),(.ptr 3 0)]),(.d (.sl (aN v2)))] (NW v3 v6 []) [5,3,4] (jq h6))] (.node 4 [] (.node 5 [] (.node 6 [] (.node 7 [] (.node 8 [(25,oR [(aB v3),(.ptr 6 0),(.ptr 7 0),(.ptr 9 0)] (Fz v3 v6 v7 []) [6,7,9,5,3,8,4] (gM N v3 v7 v6.1 v6.2 v8 h7))] (.node 9 [] (.node 10 [] (.node 11 [] (.node 12 [] (.node 13 [] (.node 14 [] .nil .nil) .nil) .nil) .nil) .nil) .nil) (.node 12 [] (.node 8 [(25,oR [(aB v3),(.ptr 6 0),(.ptr 7 0),(.ptr 9 0)] (Lv v3 v6 v7 []) [6,7,9,5,3,8,4] (gM N v3 v7 v6.1 v6.2 v8 h7))] (.node 9 [] (.node 10 [] (.node 11 [] (.node 13 [] (.node 14 [] .nil .nil) .nil) .nil) .nil) .nil) .nil) .nil)) .nil) .nil) .nil) .nil) (.node 7 [] (.node 3 [(10,oX (aS (aS (eu dm))) (aS (aS (eu (aS (aS (aS (aS dm))))))) [(.fn 96 [(.ptr 5 0),(.ptr 3 0)]),(.d (.sl (aN v2)))] (NW v3 v6 []) [5,3,4] (jq h6))] (.node 4 [] (.node 5 [] (.node 6 [] (.node 8 [(25,oR [(aB v3),(.ptr 6 0),(.ptr 7 0),(.ptr 9 0)] (Fz v3 v6 v7 []) [6,7,9,5,3,8,4] (gM N v3 v7 v6.1 v6.2 v8 h7))] (.node 9 [] (.node 10 [] (.node 11 [] (.node 12 [] (.node 13 [] (.node 14 [] .nil .nil) .nil) .nil) .nil) .nil) .nil) (.node 12 [] (.node 8 [(25,oR [(aB v3),(.ptr 6 0),(.ptr 7 0),(.ptr 9 0)] (Lv v3 v6 v7 []) [6,7,9,5,3,8,4] (gM N v3 v7 v6.1 v6.2 v8 h7))] (.node 9 [] (.node 10 [] (.node 11 [] (.node 13 [] (.node 14 [] .nil .nil) .nil) .nil) .nil) .nil) .nil) .nil)) .nil) .nil) .nil) (.node 12 [] (.node 3 [(10,oX (aS (aS (eu dm))) (aS (aS (eu (aS (aS (aS (aS dm))))))) [(.fn 96 [(.ptr 5 0),(.ptr 3 0)]),(.d (.sl (aN v2)))] (CQ v3 v6 []) [5,3,4] (jq h6))] (.node 4 [] (.node 5 [] (.node 6 [] (.node 8 [(25,oR [(aB v3),(.ptr 7 0),(.ptr 8 0),(.ptr 10 0)] (Gf v3 v6 v7 []) [7,8,10,5,3,9,4] (gM N v3 v7 v6.1 v6.2 v8 h7))] (.node 9 [] (.node 10 [] (.node 11 [] (.node 13 [] (.node 14 [] .nil .nil) .nil) .nil) .nil) .nil) .nil) .nil) .nil) .nil) .nil) .nil)) (.node 12 [] (.node 3 [(10,oX (aS (aS (eu dm))) (aS (aS (eu (aS (aS (aS (aS dm))))))) [(.fn 96 [(.ptr 5 0),(.ptr 3 0)]),(.d (.sl (aN v2)))] (CQ v3 v6 []) [5,3,4] (jq h6))] (.node 4 [] (.node 5 [] (.node 6 [] (.node 7 [] (.node 8 [(25,oR [(aB v3),(.ptr 7 0),(.ptr 8 0),(.ptr 10 0)] (Gf v3 v6 v7 []) [7,8,10,5,3,9,4] (gM N v3 v7 v6.1 v6.2 v8 h7))] (.node 9 [] (.node 10 [] (.node 11 [] (.node 13 [] (.node 14 [] .nil .nil) .nil) .nil) .nil) .nil) .nil) .nil) .nil) .nil) .nil) (.node 7 [] (.node 3 [(10,oX (aS (aS (eu dm))) (aS (aS (eu (aS (aS (aS (aS dm))))))) [(.fn 96 [(.ptr 5 0),(.ptr 3 0)]),(.d (.sl (aN v2)))] (CQ v3 v6 []) [5,3,4] (jq h6))] (.node 4 [] (.node 5 [] (.node 6 [] (.node 8 [(25,oR [(aB v3),(.ptr 7 0),(.ptr 8 0),(.ptr 10 0)] (Gf v3 v6 v7 []) [7,8,10,5,3,9,4] (gM N v3 v7 v6.1 v6.2 v8 h7))] (.node 9 [] (.node 10 [] (.node 11 [] (.node 13 [] (.node 14 [] .nil .nil) .nil) .nil) .nil) .nil) .nil) .nil) .nil) .nil) .nil) .nil)) .nil))) (.node 7 [] (.node 1 [(4,oX dm (aS (eu (aS dm))) [(.d (.sl (bk v1)))] (mi v3 []) [] (xV N v1 v6 h5))] (.node 3 [(10,oX (aS (aS (eu dm))) (aS (aS (eu (aS (aS (aS (aS dm))))))) [(.fn 96 [(.ptr 5 0),(.ptr 3 0)]),(.d (.sl (aN v2)))] (NW v3 v6 []) [5,3,4] (jq h6))] (.node 4 [] (.node 5 [] (.node 6 [] (.node 8 [(25,oR [(aB v3),(.ptr 6 0),(.ptr 7 0),(.ptr 9 0)] (Fz v3 v6 v7 []) [6,7,9,5,3,8,4] (gM N v3 v7 v6.1 v6.2 v8 h7))] (.node 9 [] (.node 10 [] (.node 11 [] (.node 12 [] (.node 13 [] (.node 14 [] .nil .nil) .nil) .nil) .nil) .nil) .nil) (.node 12 [] (.node 8 [(25,oR [(aB v3),(.ptr 6 0),(.ptr 7 0),(.ptr 9 0)] (Lv v3 v6 v7 []) [6,7,9,5,3,8,4] (gM N v3 v7 v6.1 v6.2 v8 h7))] (.node 9 [] (.node 10 [] (.node 11 [] (.node 13 [] (.node 14 [] .nil .nil) .nil) .nil) .nil) .nil) .nil) .nil)) .nil) .nil) .nil) (.node 12 [] (.node 3 [(10,oX (aS (aS (eu dm))) (aS (aS (eu (aS (aS (aS (aS dm))))))) [(.fn 96 [(.ptr 5 0),(.ptr 3 0)]),(.d (.sl (aN v2)))] (CQ v3 v6 []) [5,3,4] (jq h6))] (.node 4 [] (.node 5 [] (.node 6 [] (.node 8 [(25,oR [(aB v3),(.ptr 7 0),(.ptr 8 0),(.ptr 10 0)] (Gf v3 v6 v7 []) [7,8,10,5,3,9,4] (gM N v3 v7 v6.1 v6.2 v8 h7))] (.node 9 [] (.node 10 [] (.node 11 [] (.node 13 [] (.node 14 [] .nil .nil) .nil) .nil) .nil) .nil) .nil) .nil) .nil) .nil) .nil) .nil)) (.node 12 [] (.node 1 [(4,oX dm (aS (eu (aS dm))) [(.d (.sl (bk v1)))] (O5 v3 []) [] (xV N v1 v6 h5))] (.node 3 [(10,oX (aS (aS (eu dm))) (aS (aS (eu (aS (aS (aS (aS dm))))))) [(.fn 96 [(.ptr 6 0),(.ptr 4 0)]),(.d (.sl (aN v2)))] (C4 v3 v6 []) [6,4,5] (jq h6))] (.node 4 [] (.node 5 [] (.node 6 [] (.node 8 [(25,oR [(aB v3),(.ptr 7 0),(.ptr 8 0),(.ptr 10 0)] (DZ v3 v6 v7 []) [7,8,10,6,4,9,5] (gM N v3 v7 v6.1 v6.2 v8 h7))] (.node 9 [] (.node 10 [] (.node 11 [] (.node 13 [] (.node 14 [] .nil .nil) .nil) .nil) .nil) .nil) .nil) .nil) .nil) .nil) .nil) .nil) .nil)) (.node 12 [] (.node 1 [(4,oX dm (aS (eu (aS dm))) [(.d (.sl (bk v1)))] (O5 v3 []) [] (xV N v1 v6 h5))] (.node 3 [(10,oX (aS (aS (eu dm))) (aS (aS (eu (aS (aS (aS (aS dm))))))) [(.fn 96 [(.ptr 6 0),(.ptr 4 0)]),(.d (.sl (aN v2)))] (C4 v3 v6 []) [6,4,5] (jq h6))] (.node 4 [] (.node 5 [] (.node 6 [] (.node 7 [] (.node 8 [(25,oR [(aB v3),(.ptr 7 0),(.ptr 8 0),(.ptr 10 0)] (DZ v3 v6 v7 []) [7,8,10,6,4,9,5] (gM N v3 v7 v6.1 v6.2 v8 h7))] (.node 9 [] (.node 10 [] (.node 11 [] (.node 13 [] (.node 14 [] .nil .nil) .nil) .nil) .nil) .nil) .nil) .nil) .nil) .nil) .nil) (.node 7 [] (.node 3 [(10,oX (aS (aS (eu dm))) (aS (aS (eu (aS (aS (aS (aS dm))))))) [(.fn 96 [(.ptr 6 0),(.ptr 4 0)]),(.d (.sl (aN v2)))] (C4 v3 v6 []) [6,4,5] (jq h6))] (.node 4 [] (.node 5 [] (.node 6 [] (.node 8 [(25,oR [(aB v3),(.ptr 7 0),(.ptr 8 0),(.ptr 10 0)] (DZ v3 v6 v7 []) [7,8,10,6,4,9,5] (gM N v3 v7 v6.1 v6.2 v8 h7))] (.node 9 [] (.node 10 [] (.node 11 [] (.node 13 [] (.node 14 [] .nil .nil) .nil) .nil) .nil) .nil) .nil) .nil) .nil) .nil) .nil) .nil)) (.node 7 [] (.node 1 [(4,oX dm (aS (eu (aS dm))) [(.d (.sl (bk v1)))] (O5 v3 []) [] (xV N v1 v6 h5))] (.node 3 [(10,oX (aS (aS (eu dm))) (aS (aS (eu (aS (aS (aS (aS dm))))))) [(.fn 96 [(.ptr 6 0),(.ptr 4 0)]),(.d (.sl (aN v2)))] (C4 v3 v6 []) [6,4,5] (jq h6))] (.node 4 [] (.node 5 [] (.node 6 [] (.node 8 [(25,oR [(aB v3),(.ptr 7 0),(.ptr 8 0),(.ptr 10 0)] (DZ v3 v6 v7 []) [7,8,10,6,4,9,5] (gM N v3 v7 v6.1 v6.2 v8 h7))] (.node 9 [] (.node 10 [] (.node 11 [] (.node 13 [] (.node 14 [] .nil .nil) .nil) .nil) .nil) .nil) .nil) .nil) .nil) .nil) .nil) .nil) .nil)) .nil))) .nil) .nil) [(10,(.ptr 10 0)),(11,(aq v8.2.1))] (MH v3 v6 v8 v7 []) (by kernel_rfl) ?_
 refine ar ?_;refine ar ?_;refine rg [] [(36,(ax (v8.2.1 !=0)))] (MH v3 v6 v8 v7 []) (by kernel_rfl) ?_;rcases dC (v8.2.1 !=0)with h8|h8
 ·replace U:=(dc h8).symm.trans U;refine cQ (t:=(v8.2.1 !=0)) (by kernel_rfl) h8 ?_;refine ar ?_;refine rg [] [(8,(aq v8.2.1))] (MH v3 v6 v8 v7 []) (by kernel_rfl) ?_;refine cV (cU ?_);have hr:=akz U;subst hr;exact fa (by kernel_rfl)
 replace U:=(dG h8).symm.trans U;refine dw (t:=(v8.2.1 !=0)) (by kernel_rfl) h8 ?_;refine cx ?_;refine aI ?_;refine ar ?_;refine rt 2 bB [] [(8,(aq (0:Int)))] [.cells (aB v3).cells, .cells (bx v8.1.jI).cells, .cells (bX v8.1.gF).cells, .cells [(.d (.sl (bk v6.1)))], .map (bY cf v8.2.2), .cells [(.mp 4)], .cells [(.fn 96 [(.ptr 5 0),(.ptr 3 0)])], .cells [(.d (.sl (aN v7)))], .cells [(.fn 93 [(.ptr 6 0),(.ptr 7 0),(.ptr 9 0)]),(.fn 91 [(.ptr 9 0)])], .cells [(.ptr 8 0)], .cells (dQ v8.1).cells] (by kernel_rfl) ?_;refine cV ?_;have hr:=akz U;subst hr;exact fa (by kernel_rfl)
def Sj(N:Nat)(v2:ak4 aR):ak4 aR->Nat->ak6 Bool
 |[],_=>
  some true
 |v5::v6,v3=>
  Option.bind (v2[((v3:Int)).toNat]?) λv7=>
  bif ((v5.xN.toInt==v7.xN.toInt)&&((v5.xD.toInt==v7.xD.toInt)&&true))then
   (Sj N v2 v6 (v3+1))
  else
   some false
def SF(N:Nat)(v1:ak4 aR)(v2:ak4 aR):ak6 Bool:=
 bif ((v1.length:Int) !=(v2.length:Int))then
  some false
 else
  Sj N v2 v1 0
theorem ZH{N v1 v2}:KO 31 [(.d (.sl (dV v1))),(.d (.sl (dV v2)))] ax (SF N v1 v2):=
 fw Tryz.func31 (gA [[],[(4,oL v1 lV),(10,oL v2 lV)]] (fU λ_=>gT wU 0 v1 λh3=>dP 1 [] [0,1,5] 0 (λv3=>⟨26,[(0,(.d (.sl (dV v1)))),(1,(.d (.sl (dV v2)))),(5,(aq (v3:Int)))],[]⟩) (λv3 h4 f1=>gR [[(7,oL v1 lV)],[f0 (bK h4)],[]]) (λv3 v5 v6 h4 f1 aG=>au λv7 h5=>gA [[(7,oL v1 lV)],[t0 (bJ h4)],[(7,oE (pM (bm h4))),(19,oE (pM h5))]] (ft λh7=>gb aG () [[f0 (cH h7)],[(5,oq (bS h4 rfl h3))]] h4))))
def C8(N:Nat):ak6 Bool:=
 Option.bind (Wd N (⟨[(bs [110])],[],[(⟨(bs [97]),(⟨(1:Int),(0:Int),(0:Int),(0:Int),(0:Int)⟩:aV),[(⟨(0:Int64),[(⟨(bs [110]),(1:Int64)⟩:dK)]⟩:bp)]⟩:eV)],[(⟨(bs [115]),(⟨(1:Int),(0:Int),(0:Int),(0:Int),(0:Int)⟩:aV),[],[(⟨(bs [105]),(⟨(0:Int64),[(⟨(bs [110]),(1:Int64)⟩:dK)]⟩:bp)⟩:dJ)],(1:Int),(⟨(3:Int),(bs [97]),dA,ee,kr,[(⟨(⟨(0:Int64),[(⟨(bs [105]),(1:Int64)⟩:dK)]⟩:bp),(bs []),[]⟩:dd)],[]⟩:ay)⟩:cv)],[(bs [115])]⟩:aZ) ([(⟨(bs [110]),(3:Int64)⟩:aX)]) ([(⟨(bs [97]),(⟨(⟨(1:Int),(0:Int),(0:Int),(0:Int),(0:Int)⟩:aV),[(3:Int)],[(⟨(1:Int64),(2:Int64)⟩:aR),(⟨(1:Int64),(3:Int64)⟩:aR),(⟨(1:Int64),(6:Int64)⟩:aR)]⟩:bA)⟩:bI)])) λv1=>
 Option.bind (Io N ([(⟨(bs [97]),(⟨(⟨(1:Int),(0:Int),(0:Int),(0:Int),(0:Int)⟩:aV),[(3:Int)],[(⟨(1:Int64),(2:Int64)⟩:aR),(⟨(1:Int64),(3:Int64)⟩:aR),(⟨(1:Int64),(6:Int64)⟩:aR)]⟩:bA)⟩:bI),(⟨(bs [98]),(⟨(⟨(3:Int),(0:Int),(0:Int),(0:Int),(0:Int)⟩:aV),[(1:Int)],[(⟨(7:Int64),(1:Int64)⟩:aR)]⟩:bA)⟩:bI)]) [] (⟨(3:Int),(bs [97]),dA,ee,kr,[(⟨kr,(bs [98]),[kr]⟩:dd)],[]⟩:ay)) λv2=>
 Option.bind (Io N [] ([(⟨(bs [105]),(0:Int64)⟩:aX)]) (⟨(11:Int),(bs []),dA,ee,kr,[],[(⟨(13:Int),(bs []),dA,ee,kr,[],[(⟨(2:Int),(bs []),dA,ee,(⟨(0:Int64),[(⟨(bs [105]),(1:Int64)⟩:dK)]⟩:bp),[],[]⟩:ay),(⟨(2:Int),(bs []),dA,ee,(⟨(1:Int64),[]⟩:bp),[],[]⟩:ay)]⟩:ay),(⟨(1:Int),(bs []),(⟨(1:Int64),(1:Int64)⟩:aR),(⟨(1:Int),(0:Int),(0:Int),(0:Int),(0:Int)⟩:aV),kr,[],[]⟩:ay),(⟨(7:Int),(bs []),dA,ee,kr,[],[(⟨(1:Int),(bs []),(⟨(1:Int64),(1:Int64)⟩:aR),(⟨(1:Int),(0:Int),(0:Int),(0:Int),(0:Int)⟩:aV),kr,[],[]⟩:ay),(⟨(1:Int),(bs []),(⟨(0:Int64),(1:Int64)⟩:aR),(⟨(1:Int),(0:Int),(0:Int),(0:Int),(0:Int)⟩:aV),kr,[],[]⟩:ay)]⟩:ay)]⟩:ay)) λv3=>
 Option.bind (bif (v1.2==0)then(bif ((v1.1.length:Int)==1)then Option.bind (v1.1[0]?) λv4=>
 Option.bind (SF N v4.kY.kh ([(⟨(1:Int64),(1:Int64)⟩:aR)])) λv5=>
 (bif v5 then(bif (v2.2.2==0)then(bif ((v2.1.xN.toInt==(1:Int64).toInt)&&((v2.1.xD.toInt==(6:Int64).toInt)&&true))then(bif ((v2.2.1.cg==1)&&((v2.2.1.cE==0)&&((v2.2.1.cB==0)&&((v2.2.1.cY==0)&&((v2.2.1.c8==0)&&true)))))then(bif (v3.2.2==0)then some ((v3.1.xN.toInt==(1:Int64).toInt)&&((v3.1.xD.toInt==(1:Int64).toInt)&&true))else some false)else some false)else some false)else some false)else some false)else some false)else some false) λv6=>
 some v6
theorem VC{N}:KO 9 [] ax (C8 N):=
 fw Tryz.func9 (au λv1 J=>au λv2 h2=>au λv3 h3=>gA [[],[],[],[],[],[],[],[],[(16,cK abt J)],[(25,cL (PE h2))],[],[],[(14,⟨_,_, .eq (congrArg AV.full (ox [(⟨(2:Int),(bs []),dA,ee,(⟨(0:Int64),[(⟨(bs [105]),(1:Int64)⟩:dK)]⟩:bp),[],[]⟩:ay),(⟨(2:Int),(bs []),dA,ee,(⟨(1:Int64),[]⟩:bp),[],[]⟩:ay)]).symm)⟩)],[(20,⟨_,_, .eq (congrArg AV.full (ox [(⟨(1:Int),(bs []),(⟨(1:Int64),(1:Int64)⟩:aR),(⟨(1:Int),(0:Int),(0:Int),(0:Int),(0:Int)⟩:aV),kr,[],[]⟩:ay),(⟨(1:Int),(bs []),(⟨(0:Int64),(1:Int64)⟩:aR),(⟨(1:Int),(0:Int),(0:Int),(0:Int),(0:Int)⟩:aV),kr,[],[]⟩:ay)]).symm)⟩),(26,⟨_,_, .eq (congrArg AV.full (ox [(⟨(13:Int),(bs []),dA,ee,kr,[],[(⟨(2:Int),(bs []),dA,ee,(⟨(0:Int64),[(⟨(bs [105]),(1:Int64)⟩:dK)]⟩:bp),[],[]⟩:ay),(⟨(2:Int),(bs []),dA,ee,(⟨(1:Int64),[]⟩:bp),[],[]⟩:ay)]⟩:ay),(⟨(1:Int),(bs []),(⟨(1:Int64),(1:Int64)⟩:aR),(⟨(1:Int),(0:Int),(0:Int),(0:Int),(0:Int)⟩:aV),kr,[],[]⟩:ay),(⟨(7:Int),(bs []),dA,ee,kr,[],[(⟨(1:Int),(bs []),(⟨(1:Int64),(1:Int64)⟩:aR),(⟨(1:Int),(0:Int),(0:Int),(0:Int),(0:Int)⟩:aV),kr,[],[]⟩:ay),(⟨(1:Int),(bs []),(⟨(0:Int64),(1:Int64)⟩:aR),(⟨(1:Int),(0:Int),(0:Int),(0:Int),(0:Int)⟩:aV),kr,[],[]⟩:ay)]⟩:ay)]).symm)⟩),(31,cL (PE h3))]] (gG (λv6=>[(0,(ax v6))]) (λ_=>[.cells [(aq (1:Int)),(aq (0:Int)),(aq (0:Int)),(aq (0:Int)),(aq (0:Int))], .cells [(aq (3:Int)),(aq (0:Int)),(aq (0:Int)),(aq (0:Int)),(aq (0:Int))], .cells [(bG (0:Int64)),(.full (ga [(⟨(bs [110]),(1:Int64)⟩:dK)]))], .cells [(bG (0:Int64)),(.full (ga [(⟨(bs [105]),(1:Int64)⟩:dK)]))], .cells [(c6 (bs [115])),(aq (1:Int)),(aq (0:Int)),(aq (0:Int)),(aq (0:Int)),(aq (0:Int)),(.d (.v (.slice none 0 0))),(.full (gx [(⟨(bs [105]),(⟨(0:Int64),[(⟨(bs [110]),(1:Int64)⟩:dK)]⟩:bp)⟩:dJ)])),(aq (1:Int)),(aq (3:Int)),(c6 (bs [97])),(bG (0:Int64)),(bG (0:Int64)),(aq (0:Int)),(aq (0:Int)),(aq (0:Int)),(aq (0:Int)),(aq (0:Int)),(bG (0:Int64)),(.d (.v (.slice none 0 0))),(.full (eJ [(⟨(⟨(0:Int64),[(⟨(bs [105]),(1:Int64)⟩:dK)]⟩:bp),(bs []),[]⟩:dd)])),(.d (.v (.slice none 0 0)))], .cells [(.full (cW [(bs [110])])),(.d (.v (.slice none 0 0))),(.full (jW [(⟨(bs [97]),(⟨(1:Int),(0:Int),(0:Int),(0:Int),(0:Int)⟩:aV),[(⟨(0:Int64),[(⟨(bs [110]),(1:Int64)⟩:dK)]⟩:bp)]⟩:eV)])),(.full (gD [(⟨(bs [115]),(⟨(1:Int),(0:Int),(0:Int),(0:Int),(0:Int)⟩:aV),[],[(⟨(bs [105]),(⟨(0:Int64),[(⟨(bs [110]),(1:Int64)⟩:dK)]⟩:bp)⟩:dJ)],(1:Int),(⟨(3:Int),(bs [97]),dA,ee,kr,[(⟨(⟨(0:Int64),[(⟨(bs [105]),(1:Int64)⟩:dK)]⟩:bp),(bs []),[]⟩:dd)],[]⟩:ay)⟩:cv)])),(.full (cW [(bs [115])]))], .cells [(c6 (bs [97])),(aq (1:Int)),(aq (0:Int)),(aq (0:Int)),(aq (0:Int)),(aq (0:Int)),(.full (bq [(3:Int)])),(.full (dV [(⟨(1:Int64),(2:Int64)⟩:aR),(⟨(1:Int64),(3:Int64)⟩:aR),(⟨(1:Int64),(6:Int64)⟩:aR)]))], .cells [(c6 (bs [98])),(aq (3:Int)),(aq (0:Int)),(aq (0:Int)),(aq (0:Int)),(aq (0:Int)),(.full (bq [(1:Int)])),(.full (dV [(⟨(7:Int64),(1:Int64)⟩:aR)]))], .cells (bx v2.1).cells, .cells (bX v2.2.1).cells, .cells [(aq (1:Int)),(c6 (bs [])),(bG (1:Int64)),(bG (1:Int64)),(aq (1:Int)),(aq (0:Int)),(aq (0:Int)),(aq (0:Int)),(aq (0:Int)),(bG (0:Int64)),(.d (.v (.slice none 0 0))),(.d (.v (.slice none 0 0))),(.d (.v (.slice none 0 0)))], .cells [(aq (1:Int)),(c6 (bs [])),(bG (0:Int64)),(bG (1:Int64)),(aq (1:Int)),(aq (0:Int)),(aq (0:Int)),(aq (0:Int)),(aq (0:Int)),(bG (0:Int64)),(.d (.v (.slice none 0 0))),(.d (.v (.slice none 0 0))),(.d (.v (.slice none 0 0)))], .cells [(aq (13:Int)),(c6 (bs [])),(bG (0:Int64)),(bG (0:Int64)),(aq (0:Int)),(aq (0:Int)),(aq (0:Int)),(aq (0:Int)),(aq (0:Int)),(bG (0:Int64)),(.d (.v (.slice none 0 0))),(.d (.v (.slice none 0 0))),(.full (ig [(⟨(2:Int),(bs []),dA,ee,(⟨(0:Int64),[(⟨(bs [105]),(1:Int64)⟩:dK)]⟩:bp),[],[]⟩:ay),(⟨(2:Int),(bs []),dA,ee,(⟨(1:Int64),[]⟩:bp),[],[]⟩:ay)]))], .cells (bx v3.1).cells, .cells (bX v3.2.1).cells]) (aw (λh4=>cr (2,bT h4) (c9 (13,oL v1.1 LO) (aw (λh5=>au λv4 h6=>au λv5 h7=>cr (7,bT h5) (c9 (28,oE (k:=0) (M1 h6)) (c9 (46,cK ZH h7) (aw (λh8=>cr (17,bT h8) (aw (λh9=>cr (21,bT h9) (aw (λaO=>cr (26,bT aO) (aw (λaY=>cr (31,bT aY) (aw (λaT=>gE [(35,bT aT)] []) λaT=>gE [(35,bF aT)] [])) λaY=>gE [(31,bF aY),(35,bF rfl)] [])) λaO=>gE [(26,bF aO),(31,bF rfl),(35,bF rfl)] [])) λh9=>gE [(21,bF h9),(26,bF rfl),(31,bF rfl),(35,bF rfl)] [])) λh8=>gE [(17,bF h8),(21,bF rfl),(26,bF rfl),(31,bF rfl),(35,bF rfl)] [])))) λh5=>gE [(7,bF h5),(17,bF rfl),(21,bF rfl),(26,bF rfl),(31,bF rfl),(35,bF rfl)] []))) λh4=>gE [(2,bF h4),(7,bF rfl),(17,bF rfl),(21,bF rfl),(26,bF rfl),(31,bF rfl),(35,bF rfl)] []) λv6=>gR []))
def wW(N:Nat)(v2:Int)(Ry:ay->Int->ak6 Int):ak4 ay->Nat->Int->ak6 Int
 |[],_,v7=>
  some v7
 |v5::v6,v3,v7=>
  bif (decide (v2>1))then
   Option.bind (Ry v5 (aK (v2-(1:Int)))) λv8=>
   (λcq=>wW N v2 Ry v6 (v3+1) cq) (if(aK ((1:Int)+v8))>v7 then(aK ((1:Int)+v8))else v7)
  else
   some v7
def pV(N:Nat):Nat->ay->Int->ak6 Int
 |0,_,_=>none
 |d+1,v1,v2=>
  wW N v2 (pV N d) v1.cl 0 (1:Int)
def O6(N:Nat)(v1:ay)(v2:Int):ak6 Int:=pV N N v1 v2
theorem acZ(N:Nat):∀d:Nat,(∀{v1:ay}{v2:Int},KO 163 [(aB v1),(aq v2)] aq (pV N d v1 v2)):=by
 intro d
 induction d with
 |zero=>intro v1 v2 r U;rw[pV]at U;cases U
 |succ d ih=>
  have ajA:= @ih;intro v1 v2;rw[pV];exact fw Tryz.func163 (gA [[],[],[]] (gB ql 0 12 v1.cl λh2=>fq 1 [] [1,2,5,6] 1 (λv3(v7:Int)=>⟨30,[(1,(aq v2)),(2,(.ptr 0 0)),(5,(aq v7)),(6,(aq (v3:Int)))],[.cells (aB v1).cells]⟩) (λv3 v7 h3 f1=>gR [[(10,oL v1.cl iO),(18,bF (bK h3)),(21,bF (bK h3)),(25,bF (bK h3))],[(0,bF rfl)],[]]) (λv3 v5 v6 v7 h3 f1 aG=>gA [[(10,oL v1.cl iO),(18,bT (bJ h3)),(21,bT (bJ h3)),(25,bT (bJ h3))]] (lC λh4=>au λv8 h5=>gb aG (if(aK ((1:Int)+v8))>v7 then(aK ((1:Int)+v8))else v7) [[(0,bT h4)],[(13,oE (jM (bm h3))),(25,cK ajA h5)],[(5,oq (bS h3 rfl h2))]] h3))))
theorem ado{N v1 v2}:KO 163 [(aB v1),(aq v2)] aq (O6 N v1 v2):=(acZ N N)
def KX(N:Nat)(v1:ay):ak6 Int:=
 Option.bind (O6 N v1 (41:Int)) λv2=>
 some v2
theorem ajk{N v1}:KO 98 [(aB v1)] aq (KX N v1):=
 fw Tryz.func98 (au λv2 J=>gR [[],[(4,cK ado J)]])
def De(N:Nat)(v2:Int)(Sv:ay->Int->ak6 Int):ak4 ay->Nat->Int->ak6 Int
 |[],_,v7=>
  some v7
 |v5::v6,v3,v7=>
  bif (decide (v7<=v2))then
   Option.bind (Sv v5 (aK (v2-v7))) λv8=>
   (λcq=>De N v2 Sv v6 (v3+1) cq) (aK (v7+v8))
  else
   some v7
def rl(N:Nat):Nat->ay->Int->ak6 Int
 |0,_,_=>none
 |d+1,v1,v2=>
  De N v2 (rl N d) v1.cl 0 (1:Int)
def LV(N:Nat)(v1:ay)(v2:Int):ak6 Int:=rl N N v1 v2
theorem aij(N:Nat):∀d:Nat,(∀{v1:ay}{v2:Int},KO 164 [(aB v1),(aq v2)] aq (rl N d v1 v2)):=by
 intro d
 induction d with
 |zero=>intro v1 v2 r U;rw[rl]at U;cases U
 |succ d ih=>
  have acS:= @ih;intro v1 v2;rw[rl];exact fw Tryz.func164 (gA [[],[],[]] (gB ql 0 12 v1.cl λh2=>fq 1 [] [1,2,5,6] 1 (λv3(v7:Int)=>⟨31,[(1,(aq v2)),(2,(.ptr 0 0)),(5,(aq v7)),(6,(aq (v3:Int)))],[.cells (aB v1).cells]⟩) (λv3 v7 h3 f1=>gR [[(10,oL v1.cl iO),(18,bF (bK h3)),(21,bF (bK h3)),(24,bF (bK h3)),(28,bF (bK h3))],[(0,bF rfl)],[]]) (λv3 v5 v6 v7 h3 f1 aG=>gA [[(10,oL v1.cl iO),(18,bT (bJ h3)),(21,bT (bJ h3)),(24,bT (bJ h3)),(28,bT (bJ h3))]] (lC λh4=>au λv8 h5=>gb aG (aK (v7+v8)) [[(0,bT h4)],[(13,oE (jM (bm h3))),(28,cK acS h5)],[(5,oq (bS h3 rfl h2))]] h3))))
theorem aaI{N v1 v2}:KO 164 [(aB v1),(aq v2)] aq (LV N v1 v2):=(aij N N)
def NJ(N:Nat)(v1:ay):ak6 Int:=
 Option.bind (LV N v1 (2000:Int)) λv2=>
 some (if(2001:Int)<v2 then(2001:Int)else v2)
theorem ad7{N v1}:KO 99 [(aB v1)] aq (NJ N v1):=
 fw Tryz.func99 (au λv2 J=>gR [[],[(4,cK aaI J)]])
def Gr(N:Nat):ak4 dd->Nat->ak6 Bool
 |[],_=>
  some true
 |v7::v8,v5=>
  Option.bind (bif (bL v7.dk==bL (bs []))then(bif (decide ((v7.da.length:Int)>0))then some true else some false)else(bif (v7.bO.xK.toInt !=0)then some true else some (decide ((v7.bO.xL.length:Int)>0)))) λv9=>
  bif v9 then
   some false
  else
   (Gr N v8 (v5+1))
def Ic(N:Nat)(v1:ay):ak6 Bool:=
 Option.bind (bif (decide (v1.aQ<1))then some true else some (decide (v1.aQ>18))) λv2=>
 bif v2 then
  some false
 else
  Option.bind (bif (v1.aQ !=1)then(bif ((v1.dS.xN.toInt==(0:Int64).toInt)&&((v1.dS.xD.toInt==(0:Int64).toInt)&&true))then(bif (v1.aQ !=12)then some (!((v1.aJ.cg==0)&&((v1.aJ.cE==0)&&((v1.aJ.cB==0)&&((v1.aJ.cY==0)&&((v1.aJ.c8==0)&&true))))))else some false)else some true)else some false) λv3=>
  bif v3 then
   some false
  else
   Option.bind (bif (v1.aQ !=2)then(bif (v1.bO.xK.toInt !=0)then some true else(bif (decide ((v1.bO.xL.length:Int)>0))then some true else(bif (v1.aQ !=3)then(bif (bL v1.aF==bL (bs []))then some (decide ((v1.xIdx.length:Int)>0))else some true)else some false)))else(bif (v1.aQ !=3)then(bif (bL v1.aF==bL (bs []))then some (decide ((v1.xIdx.length:Int)>0))else some true)else some false)) λv4=>
   bif v4 then
    some false
   else
    Gr N v1.xIdx 0
def BQ(v1:ay)(l:ak4 ao):ak4 ao:= .cells (aB v1).cells::l
theorem abi{N v1}:KO 165 [(aB v1)] ax (Ic N v1):=
 fw Tryz.func165 (gA [[]] (gG (λv2=>[(12,(ax v2))]) (λ_=>(BQ v1 [])) (aw (λJ=>gE [(3,bT J)] []) λJ=>gE [(3,bF J)] []) λv2=>bj λh3=>gA [[f0 h3]] (gG (λv3=>[(37,(ax v3))]) (λ_=>(BQ v1 [])) (aw (λh4=>cr (3,bT h4) (aw (λh5=>cr (9,bF (cH h5)) (cr (13,bT h4) (c9 (52,bT h4) (aw (λh6=>gE [(18,bT h6)] [(70,bT h6)]) λh6=>gE [(18,bF h6)] [(70,bF h6)])))) λh5=>gE [(9,bT (dq h5)),(13,uN),(18,uN)] [])) λh4=>gE [(3,bF h4),(9,bF rfl),(13,bF h4),(18,bF rfl)] [(52,bF h4),(70,bF rfl)]) λv3=>bj λh8=>gA [[f0 h8]] (gG (λv4=>[(69,(ax v4))]) (λ_=>(BQ v1 [])) (aw (λh9=>cr (3,bT h9) (aw (λaO=>gE [(8,bT aO),(16,bT rfl),(20,uN),(24,uN)] [(43,bT aO)]) λaO=>cr (8,bF aO) (c9 (37,oL v1.bO.xL iZ) (c9 (43,bF aO) (aw (λaY=>gE [(16,bT aY),(20,uN),(24,uN)] []) λaY=>cr (16,bF aY) (aw (λaT=>cr (20,bT aT) (c9 (91,bT aT) (aw (λbN=>gE [(24,bF (cH bN))] [(82,oL v1.xIdx fZ),(88,bF (cH bN))]) λbN=>gE [(24,bT (dq bN))] [(88,bT (dq bN))]))) λaT=>gE [(20,bF aT),(24,uN)] [(91,bF aT)])))))) λh9=>cr (3,bF h9) (cr (8,uN) (cr (16,bF rfl) (aw (λbZ=>cr (20,bT bZ) (c9 (91,bT bZ) (aw (λbM=>gE [(24,bF (cH bM))] [(82,oL v1.xIdx fZ),(88,bF (cH bM))]) λbM=>gE [(24,bT (dq bM))] [(88,bT (dq bM))]))) λbZ=>gE [(20,bF bZ),(24,uN)] [(91,bF bZ)])))) λv4=>fU λ_=>gB pE 0 11 v1.xIdx λfu=>dP 1 [] [1,3] 1 (λv5=>⟨109,[(1,(.ptr 0 0)),(3,(aq (v5:Int)))],(BQ v1 [])⟩) (λv5 dD f1=>gR [[(10,oL v1.xIdx fZ)],[f0 (bK dD)],[]]) (λv5 v7 v8 dD f1 aG=>gA [[(10,oL v1.xIdx fZ)],[t0 (bJ dD)],[(10,oE (iG (bm dD)))]] (gG (λv9=>[(108,(ax v9))]) (λ_=>(BQ v1 [.cells (gC v7).cells])) (aw (λfW=>cr (3,bT fW) (c9 (19,oL v7.da fy) (aw (λiu=>gE [(9,bT iu),(13,uN),(18,uN)] []) λiu=>gE [(9,bF iu),(13,bF (cH fW)),(18,uN)] [(76,bF (cH fW))]))) λfW=>cr (3,bF fW) (cr (9,bF rfl) (cr (13,bT (dq fW)) (c9 (76,bT (dq fW)) (aw (λfe=>gE [(18,bT fe)] [(73,bT fe)]) λfe=>gE [(18,bF fe)] [(67,oL v7.bO.xL iZ),(73,bF fe)]))))) λv9=>bj λlO=>gb aG () [[f0 lO],[(5,oq (bS dD rfl fu))]] dD))))))
def Kh(N:Nat):ak6 ((ak4 ak5)):=
 some [(bs [115,105,122,101]),(bs [119,104,101,114,101]),(bs [105,110]),(bs [100,101,102]),(bs [111,117,116]),(bs [115,117,109]),(bs [112,114,111,100]),(bs [109,105,110]),(bs [109,97,120]),(bs [115,99,97,110]),(bs [111,118,101,114]),(bs [105,102]),(bs [99,97,115,116]),(bs [102,114,97,99]),(bs [105,110,116]),(bs [102,105,120]),(bs [99,101,105,108]),(bs [102,108,111,111,114]),(bs [122,101,114,111]),(bs [101,118,101,110]),(bs [115,97,116]),(bs [119,114,97,112])]
theorem Yw{N}:KO 281 [] (λr=> .d (.sl (cW r))) (Kh N):=
 fw Tryz.func281 (gR [[],[]])
def IU(N:Nat)(v2:ak5):ak4 ak5->Nat->ak6 Bool
 |[],_=>
  some false
 |v5::v6,v3=>
  bif (bL v5==bL v2)then
   some true
  else
   (IU N v2 v6 (v3+1))
def sY(N:Nat)(v1:ak4 ak5)(v2:ak5):ak6 Bool:=
 IU N v2 v1 0
theorem BH{N v1 v2}:KO 126 [(.d (.sl (cW v1))),(c6 v2)] ax (sY N v1 v2):=
 fw Tryz.func126 (gA [[],[]] (gT jK 0 v1 λh2=>dP 1 [] [0,1,5] 0 (λv3=>⟨18,[(0,(.d (.sl (cW v1)))),(1,(c6 v2)),(5,(aq (v3:Int)))],[]⟩) (λv3 h3 f1=>gR [[(7,oL v1 fR)],[f0 (bK h3)],[]]) (λv3 v5 v6 h3 f1 aG=>gA [[(7,oL v1 fR)],[t0 (bJ h3)],[(7,oE (mo (bm h3)))]] (bj λh4=>gb aG () [[f0 h4],[(5,oq (bS h3 rfl h2))]] h3))))
def yK(N:Nat)(v1:ak5):Nat->Int->ak6 Bool
 |0,_=>none
 |v5+1,v6=>
  bif (decide (v6<(v1.size:Int)))then
   bif (decide ((0:Int)<=v6))then
   Option.bind (v1[(v6).toNat]?) λv7=>
   Option.bind (bif (decide ((v7.toNat:Int)>=97))then(bif (decide ((v7.toNat:Int)<=122))then some (!true)else(bif (decide (v6>0))then(bif (decide ((v7.toNat:Int)>=48))then(bif (decide ((v7.toNat:Int)<=57))then some (!true)else some (!((v7.toNat:Int)==95)))else some (!((v7.toNat:Int)==95)))else some (!false)))else(bif (decide (v6>0))then(bif (decide ((v7.toNat:Int)>=48))then(bif (decide ((v7.toNat:Int)<=57))then some (!true)else some (!((v7.toNat:Int)==95)))else some (!((v7.toNat:Int)==95)))else some (!false))) λv8=>
   bif v8 then
    some false
   else
    (λcq=>yK N v1 v5 cq) (aK (v6+(1:Int)))
   else none
  else
   some true
def vS(N:Nat)(v1:ak5):ak6 Bool:=
 Option.bind (bif (decide ((v1.size:Int)<1))then some true else(bif (decide ((v1.size:Int)>16))then some true else (Kh N).bind λv2=>
 (sY N v2 v1).bind λv3=>
 some v3)) λv4=>
 bif v4 then
  some false
 else
  yK N v1 N (0:Int)
theorem E7{N v1}:KO 242 [(c6 v1)] ax (vS N v1):=
 fw Tryz.func242 (gA [[]] (gG (λv4=>[(17,(ax v4))]) (λ_=>[]) (aw (λJ=>gE [(3,bT J),(8,bT rfl)] []) λJ=>cr (3,bF J) (aw (λh2=>gE [(8,bT h2)] []) λh2=>au λv2 h3=>au λv3 h4=>gE [(8,bF h2)] [(28,cK Yw h3),(34,cK BH h4)])) λv4=>bj λh6=>HG 1 [[f0 h6],[]] [0,3] 0 (λ(v6:Int)=>⟨50,[(0,(c6 v1)),(3,(aq v6))],[]⟩) (yK N v1) (λv5 v6 f1 aG=>gA [[]] (lC λh7=>dh λh9=>au λv7 h8=>gA [[t0 h7],[(7,⟨_,_, .ch (i:=v6) (of_decide_eq_true h9) h8⟩)]] (gG (λv8=>[(49,(ax v8))]) (λ_=>[]) (aw (λaO=>cr (2,bT aO) (aw (λaY=>gE [(6,bT aY),(9,uN),(12,uN),(16,uN)] []) λaY=>cr (6,bF aY) (aw (λaT=>cr (9,bT aT) (c9 (61,bT aT) (aw (λbN=>cr (12,bT bN) (c9 (46,bT bN) (aw (λbZ=>gE [(16,bT bZ)] [(58,bT bZ)]) λbZ=>gE [(16,bF bZ)] [(58,bF bZ)]))) λbN=>gE [(12,bF bN),(16,bF rfl)] [(46,bF bN),(58,bF rfl)]))) λaT=>gE [(9,bF aT),(12,uN),(16,uN)] [(61,bF aT)]))) λaO=>cr (2,bF aO) (cr (6,bF rfl) (aw (λbM=>cr (9,bT bM) (c9 (61,bT bM) (aw (λcn=>cr (12,bT cn) (c9 (46,bT cn) (aw (λdj=>gE [(16,bT dj)] [(58,bT dj)]) λdj=>gE [(16,bF dj)] [(58,bF dj)]))) λcn=>gE [(12,bF cn),(16,bF rfl)] [(46,bF cn),(58,bF rfl)]))) λbM=>gE [(9,bF bM),(12,uN),(16,uN)] [(61,bF bM)]))) λv8=>bj λfu=>yP aG (aK (v6+(1:Int))) [[f0 fu],[]])))))
def IK(N:Nat):ak4 dd->Nat->ak6 Bool
 |[],_=>
  some true
 |v6::v7,v4=>
  Option.bind (bif (bL v6.dk==bL (bs []))then some false else (vS N v6.dk).bind λv8=>
  some (!v8)) λv9=>
  bif v9 then
   some false
  else
   (IK N v7 (v4+1))
def GA(N:Nat)(v1:ay):ak6 Bool:=
 Option.bind (bif (v1.aQ==3)then (vS N v1.aF).bind λv2=>
 some (!v2)else some false) λv3=>
 bif v3 then
  some false
 else
  IK N v1.xIdx 0
theorem ac8{N v1}:KO 166 [(aB v1)] ax (GA N v1):=
 fw Tryz.func166 (gA [[]] (gG (λv3=>[(12,(ax v3))]) (λ_=>[.cells (aB v1).cells]) (aw (λJ=>au λv2 h2=>gE [(3,bT J)] [(19,cK E7 h2)]) λJ=>gE [(3,bF J)] []) λv3=>fU λ_=>gB pE 0 11 v1.xIdx λh6=>dP 1 [] [1,3] 1 (λv4=>⟨37,[(1,(.ptr 0 0)),(3,(aq (v4:Int)))],[.cells (aB v1).cells]⟩) (λv4 h7 f1=>gR [[(10,oL v1.xIdx fZ)],[f0 (bK h7)],[]]) (λv4 v6 v7 h7 f1 aG=>gA [[(10,oL v1.xIdx fZ)],[t0 (bJ h7)]] (gG (λv9=>[(36,(ax v9))]) (λ_=>[.cells (aB v1).cells]) (c9 (10,oE (iG (bm h7))) (aw (λh8=>gE [(7,bF (cH h8))] []) λh8=>au λv8 h9=>gE [(7,bT (dq h8))] [(34,oE (iG (bm h7))),(43,cK E7 h9)])) λv9=>bj λaY=>gb aG () [[f0 aY],[(5,oq (bS h7 rfl h6))]] h7))))
def Dw(N:Nat)(v1:Int)(v3:Bool):ak6 Int:=
 bif v3 then
  some (1:Int)
 else
  bif (v1==11)then
   some (3:Int)
  else
   some (2:Int)
def Bp(N:Nat)(v1:Int)(v2:Bool):ak6 Int:=
 bif v2 then
  some (0:Int)
 else
  bif (v1==8)then
   Dw N v1 (v1==8)
  else
   bif (v1==12)then
    Dw N v1 (v1==12)
   else
    Dw N v1 (v1==18)
def D0(N:Nat)(v1:Int):ak6 Int:=
 bif (v1==1)then
  Bp N v1 (v1==1)
 else
  bif (v1==2)then
   Bp N v1 (v1==2)
  else
   Bp N v1 (v1==3)
theorem adb{N v1}:KO 243 [(aq v1)] aq (D0 N v1):=
 fw Tryz.func243 (k8 1 [[],[],[]] [3,4] 0 (λ(v2:Bool)=>⟨14,[(3,(aq v1)),(4,(ax v2))],[]⟩) (Bp N v1) (λf1 aG=>aw (λh6=>gm aG (v1==1) [[t0 h6]]) λh6=>gA [[f0 h6],[]] (aw (λh7=>gm aG (v1==2) [[t0 h7]]) λh7=>gm aG (v1==3) [[f0 h7],[]])) (λv2=>bj λJ=>k8 2 [[f0 J],[]] [3,8] 0 (λ(v3:Bool)=>⟨14,[(3,(aq v1)),(8,(ax v3))],[]⟩) (Dw N v1) (λf2 dT=>aw (λh4=>gm dT (v1==8) [[t0 h4]]) λh4=>gA [[f0 h4],[]] (aw (λh5=>gm dT (v1==12) [[t0 h5]]) λh5=>gm dT (v1==18) [[f0 h5],[]])) (λv3=>fU λ_=>bj λh3=>gR [[f0 h3],[]])))
def Fl(N:Nat):ak4 dd->Nat->ak6 Bool
 |[],_=>
  some true
 |v6::v7,v4=>
  bif (decide ((v6.da.length:Int)>6))then
   some false
  else
   (Fl N v7 (v4+1))
def Ix(N:Nat)(v1:ay):ak6 Bool:=
 (D0 N v1.aQ).bind λv2=>
 Option.bind (bif ((v1.cl.length:Int) !=v2)then some true else some (decide ((v1.xIdx.length:Int)>6))) λv3=>
 bif v3 then
  some false
 else
  Fl N v1.xIdx 0
theorem Z0{N v1}:KO 167 [(aB v1)] ax (Ix N v1):=
 fw Tryz.func167 (gA [[]] (au λv2 J=>gG (λv3=>[(16,(ax v3))]) (λ_=>[.cells (aB v1).cells]) (c9 (7,oL v1.cl iO) (c9 (16,cK adb J) (aw (λh2=>gE [(7,bT h2)] []) λh2=>gE [(7,bF h2)] [(31,oL v1.xIdx fZ)]))) λv3=>fU λ_=>gB pE 0 11 v1.xIdx λh6=>dP 1 [] [1,3] 1 (λv4=>⟨32,[(1,(.ptr 0 0)),(3,(aq (v4:Int)))],[.cells (aB v1).cells]⟩) (λv4 h7 f1=>gR [[(10,oL v1.xIdx fZ)],[f0 (bK h7)],[]]) (λv4 v6 v7 h7 f1 aG=>gA [[(10,oL v1.xIdx fZ)],[t0 (bJ h7)],[(10,oE (iG (bm h7))),(19,oL v6.da fy)]] (bj λh8=>gb aG () [[f0 h8],[(5,oq (bS h7 rfl h6))]] h7))))
def vz(N:Nat)(v1:aV):ak6 Bool:=
 Option.bind (bif (v1.cg==1)then some true else some (v1.cg==3)) λv2=>
 bif v2 then
  Option.bind (bif (v1.cE==0)then(bif (v1.cB==0)then(bif (v1.cY==0)then some (v1.c8==0)else some false)else some false)else some false) λv3=>
  some v3
 else
  Option.bind (bif (v1.cg==2)then(bif (decide (v1.cE>=2))then(bif (decide (v1.cE<=31))then(bif (decide (v1.cB>=0))then(bif (decide (v1.cB<=30))then(bif (decide (v1.cY>=1))then(bif (decide (v1.cY<=4))then(bif (v1.c8==1)then some true else some (v1.c8==2))else some false)else some false)else some false)else some false)else some false)else some false)else some false) λv4=>
  some v4
theorem Ej{N v1}:KO 128 [(bX v1)] ax (vz N v1):=
 fw Tryz.func128 (gA [[]] (gG (λv2=>[(10,(ax v2))]) (λ_=>[.cells (bX v1).cells]) (aw (λJ=>gE [(3,bT J)] []) λJ=>gE [(3,bF J)] []) λv2=>aw (λh3=>gA [[t0 h3]] (gG (λv3=>[(2,(ax v3))]) (λ_=>[.cells (bX v1).cells]) (aw (λh4=>cr (3,bT h4) (aw (λh5=>cr (8,bT h5) (aw (λh6=>gE [(13,bT h6)] []) λh6=>gE [(13,bF h6)] [])) λh5=>gE [(8,bF h5),(13,bF rfl)] [])) λh4=>gE [(3,bF h4),(8,bF rfl),(13,bF rfl)] []) λv3=>gR [])) λh3=>gA [[f0 h3]] (gG (λv4=>[(2,(ax v4))]) (λ_=>[.cells (bX v1).cells]) (aw (λh8=>cr (3,bT h8) (aw (λh9=>cr (8,bT h9) (aw (λaO=>cr (13,bT aO) (aw (λaY=>cr (18,bT aY) (aw (λaT=>cr (23,bT aT) (aw (λbN=>cr (28,bT bN) (aw (λbZ=>cr (33,bT bZ) (aw (λbM=>gE [(37,bT bM)] [(124,bT bM)]) λbM=>gE [(37,bF bM)] [(124,bF bM)])) λbZ=>gE [(33,bF bZ),(37,uN)] [])) λbN=>gE [(28,bF bN),(33,bF rfl),(37,uN)] [])) λaT=>gE [(23,bF aT),(28,bF rfl),(33,bF rfl),(37,uN)] [])) λaY=>gE [(18,bF aY),(23,bF rfl),(28,bF rfl),(33,bF rfl),(37,uN)] [])) λaO=>gE [(13,bF aO),(18,bF rfl),(23,bF rfl),(28,bF rfl),(33,bF rfl),(37,uN)] [])) λh9=>gE [(8,bF h9),(13,bF rfl),(18,bF rfl),(23,bF rfl),(28,bF rfl),(33,bF rfl),(37,uN)] [])) λh8=>gE [(3,bF h8),(8,bF rfl),(13,bF rfl),(18,bF rfl),(23,bF rfl),(28,bF rfl),(33,bF rfl),(37,uN)] []) λv4=>gR [])))
def DB(N:Nat)(v1:ay):ak6 Bool:=
 Option.bind (bif (decide (v1.aQ>=13))then some (decide (v1.aQ<=18))else some false) λv2=>
 some v2
theorem Vm{N v1}:KO 56 [(aB v1)] ax (DB N v1):=
 fw Tryz.func56 (gA [[]] (gG (λv2=>[(2,(ax v2))]) (λ_=>[.cells (aB v1).cells]) (aw (λJ=>gE [(3,bT J)] []) λJ=>gE [(3,bF J)] []) λv2=>gR []))
def Gd(N:Nat)(v1:Int)(v2:Int):ak6 Bool:=
 Option.bind (bif (v1==11)then(bif (v2==0)then some true else(bif (v1==16)then some true else(bif (v1==17)then some true else some (v1==18))))else(bif (v1==16)then some true else(bif (v1==17)then some true else some (v1==18)))) λv3=>
 some v3
theorem YU{N v1 v2}:KO 244 [(aq v1),(aq v2)] ax (Gd N v1 v2):=
 fw Tryz.func244 (gA [[]] (gG (λv3=>[(4,(ax v3))]) (λ_=>[]) (aw (λJ=>cr (2,bT J) (aw (λh2=>gE [(6,bT h2),(10,bT rfl),(14,bT rfl)] []) λh2=>cr (6,bF h2) (aw (λh3=>gE [(10,bT h3),(14,bT rfl)] []) λh3=>cr (10,bF h3) (aw (λh4=>gE [(14,bT h4)] []) λh4=>gE [(14,bF h4)] [])))) λJ=>cr (2,bF J) (cr (6,bF rfl) (aw (λh5=>gE [(10,bT h5),(14,bT rfl)] []) λh5=>cr (10,bF h5) (aw (λh6=>gE [(14,bT h6)] []) λh6=>gE [(14,bF h6)] [])))) λv3=>gR []))
def FZ(N:Nat)(v1:ay):ak4 ay->Nat->ak6 Bool
 |[],_=>
  some true
 |v7::v8,v5=>
  (DB N v7).bind λv9=>
  Option.bind (Gd N v1.aQ (v5:Int)) λv10=>
  bif (v9==v10)then
   (FZ N v1 v8 (v5+1))
  else
   some false
def I3(N:Nat)(v1:ay):ak6 Bool:=
 Option.bind (bif (v1.aQ==1)then (vz N v1.aJ).bind λv2=>
 some (!v2)else(bif (v1.aQ==12)then (vz N v1.aJ).bind λv3=>
 some (!v3)else some false)) λv4=>
 bif v4 then
  some false
 else
  FZ N v1 v1.cl 0
theorem ahA{N v1}:KO 168 [(aB v1)] ax (I3 N v1):=
 fw Tryz.func168 (gA [[]] (gG (λv4=>[(17,(ax v4))]) (λ_=>[.cells (aB v1).cells]) (aw (λJ=>au λv2 h2=>gE [(3,bT J),(8,bT rfl)] [(34,cK Ej h2)]) λJ=>cr (3,bF J) (aw (λh3=>au λv3 h4=>gE [(8,bT h3)] [(34,cK Ej h4)]) λh3=>gE [(8,bF h3)] [])) λv4=>fU λ_=>gB ql 0 12 v1.cl λh8=>dP 1 [] [1,3] 1 (λv5=>⟨36,[(1,(.ptr 0 0)),(3,(aq (v5:Int)))],[.cells (aB v1).cells]⟩) (λv5 h9 f1=>gR [[(10,oL v1.cl iO)],[f0 (bK h9)],[]]) (λv5 v7 v8 h9 f1 aG=>au λv9 aO=>au λv10 aY=>gA [[(10,oL v1.cl iO)],[t0 (bJ h9)],[(10,oE (jM (bm h9))),(16,cK Vm aO),(28,cK YU aY)]] (ft λaT=>gb aG () [[f0 (cH aT)],[(5,oq (bS h9 rfl h8))]] h9))))
def BN(N:Nat):Nat->Int64->Int64->ak6 Int64
 |0,_,_=>none
 |v3+1,v4,v5=>
  bif (v5.toInt !=0)then
   (λcq fS=>BN N v3 cq fS) v5 (Int64.ofInt ((v4.toInt).tmod v5.toInt))
  else
   some v4
def Jx(N:Nat)(v1:Int64)(v2:Int64):ak6 Int64:=
 BN N N v1 v2
theorem acK{N v1 v2}:KO 217 [(bG v1),(bG v2)] bG (Jx N v1 v2):=
 fw Tryz.func217 (Vd 1 [[]] [0,1] 0 (λ(v4:Int64)(v5:Int64)=>⟨12,[(0,(bG v4)),(1,(bG v5))],[]⟩) (BN N) (λv3 v4 v5 f1 aG=>gA [[]] (lC λJ=>yP aG (v5,(Int64.ofInt ((v4.toInt).tmod v5.toInt))) [[t0 J],[(10,⟨_,_, .nz (b:=v5.toInt) (bne_iff_ne.1 J)⟩),(11,⟨_,_, .eq (JM v4 v5.toInt)⟩)]])))
def ES(N:Nat)(v1:aV)(v2:aR):ak6 Bool:=
 bif (v1.cg==2)then
  bif (decide ((0:Int)<=(aK (v1.cE-(1:Int)))))then
  Option.bind (bif (v2.xD.toInt==1)then(bif (decide (v2.xN.toInt>=(-(Int64.ofInt ((1:Int)*2^(min ((aK (v1.cE-(1:Int)))).toNat (IntKind.bits .i64))))).toInt))then some (decide (v2.xN.toInt<(Int64.ofInt ((1:Int)*2^(min ((aK (v1.cE-(1:Int)))).toNat (IntKind.bits .i64)))).toInt))else some false)else some false) λv3=>
  some v3
  else none
 else
  Option.bind (bif (decide (v2.xN.toInt>2147483647))then some true else(bif (decide (v2.xN.toInt<(-2147483647:Int)))then some true else(bif (decide (v2.xD.toInt<1))then some true else some (decide (v2.xD.toInt>2147483647))))) λv4=>
  bif v4 then
   some false
  else
   bif (v1.cg==3)then
    some (v2.xD.toInt==1)
   else
    Option.bind (Jx N (yv v2.xN (-v2.xN)) v2.xD) λv5=>
    some (v5.toInt==1)
theorem afM{N v1 v2}:KO 129 [(bX v1),(bx v2)] ax (ES N v1 v2):=
 fw Tryz.func129 (gA [[],[]] (aw (λJ=>dh λh2=>gA [[t0 J],[(10,⟨_,_, .nn (b:=(aK (v1.cE-(1:Int)))) (of_decide_eq_true h2)⟩),(11,⟨_,_, .eq (jt ((1:Int)*2^(min ((aK (v1.cE-(1:Int)))).toNat (IntKind.bits .i64))))⟩)]] (gG (λv3=>[(4,(ax v3))]) (λ_=>[.cells (bX v1).cells, .cells (bx v2).cells]) (aw (λh3=>cr (3,bT h3) (c9 (23,⟨_,_, .eq (sW (Int64.ofInt ((1:Int)*2^(min ((aK (v1.cE-(1:Int)))).toNat (IntKind.bits .i64)))))⟩) (aw (λh4=>gE [(10,bT h4)] []) λh4=>gE [(10,bF h4)] []))) λh3=>gE [(3,bF h3),(10,bF rfl)] []) λv3=>gR [])) λJ=>gA [[f0 J]] (gG (λv4=>[(46,(ax v4))]) (λ_=>[.cells (bX v1).cells, .cells (bx v2).cells]) (aw (λh6=>gE [(3,bT h6),(8,bT rfl),(13,bT rfl)] []) λh6=>cr (3,bF h6) (aw (λh7=>gE [(8,bT h7),(13,bT rfl)] []) λh7=>cr (8,bF h7) (aw (λh8=>gE [(13,bT h8)] []) λh8=>gE [(13,bF h8)] []))) λv4=>fU λ_=>bj λaY=>au λv5 aT=>gR [[f0 aY],[(14,⟨_,_, .eq (sW v2.xN)⟩),(17,⟨_,_, .eq (ag1 v2.xN (-v2.xN))⟩),(25,cK acK aT)]])))
def Ig(N:Nat)(v1:bp):ak4 dK->Nat->ak6 Bool
 |[],_=>
  some true
 |v4::v5,v2=>
  (vS N v4.aF).bind λv6=>
  Option.bind (bif v6 then(bif (v4.eN.toInt==0)then some true else(bif (decide ((v2:Int)>0))then bif (decide ((0:Int)<=(aK ((v2:Int)-(1:Int)))))then
  Option.bind (v1.xL[((aK ((v2:Int)-(1:Int)))).toNat]?) λv7=>
  some (!(Op.bytesLess (bL v7.aF) (bL v4.aF)))
  else none else some false))else some true) λv8=>
  bif v8 then
   some false
  else
   (Ig N v1 v5 (v2+1))
def tt(N:Nat)(v1:bp):ak6 Bool:=
 Ig N v1 v1.xL 0
theorem xO{N v1}:KO 209 [(dN v1)] ax (tt N v1):=
 fw Tryz.func209 (gA [[],[]] (gB tT 0 1 v1.xL λh2=>dP 1 [] [1,3] 1 (λv2=>⟨48,[(1,(.ptr 0 0)),(3,(aq (v2:Int)))],[.cells (dN v1).cells]⟩) (λv2 h3 f1=>gR [[(10,oL v1.xL iZ)],[f0 (bK h3)],[]]) (λv2 v4 v5 h3 f1 aG=>gA [[(10,oL v1.xL iZ)],[t0 (bJ h3)]] (au λv6 h4=>gG (λv8=>[(47,(ax v8))]) (λ_=>[.cells (dN v1).cells]) (c9 (10,oE (lX (bm h3))) (c9 (19,cK E7 h4) (aw (λh5=>cr (8,bF (cH h5)) (c9 (37,oE (lX (bm h3))) (aw (λh6=>gE [(17,bT h6),(20,uN)] []) λh6=>cr (17,bF h6) (aw (λh7=>dh λh9=>au λv7 h8=>gE [(20,bT h7)] [(76,⟨_,_, .el (xs:=ga v1.xL) (i:=(aK ((v2:Int)-(1:Int)))) (of_decide_eq_true h9) (lX h8)⟩),(94,oE (lX (bm h3))),(106,bT h7)]) λh7=>gE [(20,bF h7)] [(106,bF h7)])))) λh5=>gE [(8,bT (dq h5)),(17,bT rfl),(20,uN)] []))) λv8=>bj λaY=>gb aG () [[f0 aY],[(5,oq (bS h3 rfl h2))]] h3))))
def GO(N:Nat)(ky:ak6 Bool):ak4 bp->Nat->ak6 Bool
 |[],_=>
  ky
 |aA::aE,v11=>
  (tt N aA).bind λaP=>
  bif aP then
   (GO N ky aE (v11+1))
  else
   some false
def Ie(N:Nat):ak4 dd->Nat->ak6 Bool
 |[],_=>
  some true
 |v8::v9,v6=>
  (tt N v8.bO).bind λv10=>
  bif v10 then
   GO N (Ie N v9 (v6+1)) v8.da 0
  else
   some false
def Fc(N:Nat)(v1:ay):ak6 Bool:=
 Option.bind (bif (v1.aQ==1)then (ES N v1.aJ v1.dS).bind λv2=>
 (bif v2 then (tt N v1.bO).bind λv3=>
 some (!v3)else some true)else (tt N v1.bO).bind λv4=>
 some (!v4)) λv5=>
 bif v5 then
  some false
 else
  Ie N v1.xIdx 0
theorem ZN{N v1}:KO 169 [(aB v1)] ax (Fc N v1):=
 fw Tryz.func169 (gA [[]] (gG (λv5=>[(21,(ax v5))]) (λ_=>[.cells (aB v1).cells]) (aw (λJ=>au λv2 h2=>cr (3,bT J) (c9 (25,cK afM h2) (aw (λh3=>au λv3 h4=>gE [(11,bF (cH h3))] [(43,cK xO h4)]) λh3=>gE [(11,bT (dq h3))] []))) λJ=>au λv4 h5=>gE [(3,bF J),(11,bF rfl)] [(43,cK xO h5)]) λv5=>fU λ_=>gB pE 0 11 v1.xIdx λh9=>dP 1 [] [1,3] 1 (λv6=>⟨59,[(1,(.ptr 0 0)),(3,(aq (v6:Int)))],[.cells (aB v1).cells]⟩) (λv6 aO f1=>gR [[(10,oL v1.xIdx fZ)],[f0 (bK aO)],[]]) (λv6 v8 v9 aO f1 aG=>au λv10 aY=>gA [[(10,oL v1.xIdx fZ)],[t0 (bJ aO)],[(10,oE (iG (bm aO))),(19,cK xO aY)]] (ft λaT=>gA [[f0 (cH aT)],[]] (FH (λ_=>(gw_okB 0 11 (eJ v1.xIdx) (by kernel_rfl) ·)) λbN=>have bZ:=qz fy (Hp (j:=3) (d:= .sl (eW v8.da)) bN (iG (bm aO)) rfl);dP 2 [] [1,3,4] 1 (λv11=>⟨59,[(1,(.ptr 0 0)),(3,(aq (v6:Int))),(4,(aq (v11:Int)))],[.cells (aB v1).cells]⟩) (λv11 bM f2=>gb aG () [[(13,oE (iG (bm aO))),(22,oL v8.da fy)],[f0 (bK bM)],[(5,oq (bS aO rfl h9))]] aO) (λv11 aA aE bM f2 dT=>au λaP cn=>gA [[(13,oE (iG (bm aO))),(22,oL v8.da fy)],[t0 (bJ bM)],[(10,oE (iG (bm aO))),(22,oE (ng (bm bM))),(28,cK xO cn)]] (ft λdj=>gb dT () [[f0 (cH dj)],[(5,oq (bS bM rfl bZ))]] bM)))))))
def EG(N:Nat)(Vb:ay->ak6 Int):ak4 ay->Nat->ak6 Int
 |[],_=>
  some (0:Int)
 |v9::v10,v7=>
  (Vb v9).bind λv11=>
  bif (v11 !=0)then
   some v11
  else
   (EG N Vb v10 (v7+1))
def sm(N:Nat):Nat->ay->ak6 Int
 |0,_=>none
 |d+1,v1=>
  (Ic N v1).bind λv2=>
  bif v2 then
   (GA N v1).bind λv3=>
   bif v3 then
    (Ix N v1).bind λv4=>
    bif v4 then
     (I3 N v1).bind λv5=>
     bif v5 then
      (Fc N v1).bind λv6=>
      bif v6 then
       EG N (sm N d) v1.cl 0
      else
       some (1:Int)
     else
      some (10:Int)
    else
     some (11:Int)
   else
    some (7:Int)
  else
   some (5:Int)
def KT(N:Nat)(v1:ay):ak6 Int:=sm N N v1
theorem Yu(N:Nat):∀d:Nat,(∀{v1:ay},KO 100 [(aB v1)] aq (sm N d v1)):=by
 intro d
 induction d with
 |zero=>intro v1 r U;rw[sm]at U;cases U
 |succ d ih=>
  have ahQ:= @ih;intro v1;rw[sm];exact fw Tryz.func100 (au λv2 J=>gA [[],[(4,cK abi J)]] (ft λh2=>au λv3 h3=>gA [[(0,bF (cH h2))],[(4,cK ac8 h3)]] (ft λh4=>au λv4 h5=>gA [[(0,bF (cH h4))],[(4,cK Z0 h5)]] (ft λh6=>au λv5 h7=>gA [[(0,bF (cH h6))],[(4,cK ahA h7)]] (ft λh8=>au λv6 h9=>gA [[(0,bF (cH h8))],[(4,cK ZN h9)]] (ft λaO=>gA [[(0,bF (cH aO))],[]] (gB ql 0 12 v1.cl λaT=>dP 1 [] [1,3] 1 (λv7=>⟨41,[(1,(.ptr 0 0)),(3,(aq (v7:Int)))],[.cells (aB v1).cells]⟩) (λv7 bN f1=>gR [[(10,oL v1.cl iO)],[(0,bF (bK bN))],[]]) (λv7 v9 v10 bN f1 aG=>au λv11 bZ=>gA [[(10,oL v1.cl iO)],[(0,bT (bJ bN))],[(10,oE (jM (bm bN))),(16,cK ahQ bZ)],[]] (bj λbM=>gb aG () [[(0,bF bM)],[(5,oq (bS bN rfl aT))]] bN)))))))))
theorem ahr{N v1}:KO 100 [(aB v1)] aq (KT N v1):=(Yu N N)
def C0(N:Nat)(v1:ay):ak6 Int:=
 (KX N v1).bind λv2=>
 bif (decide (v2>40))then
  some (13:Int)
 else
  (NJ N v1).bind λv3=>
  bif (decide (v3>2000))then
   some (2:Int)
  else
   (KT N v1).bind λv4=>
   some v4
theorem aiL{N v1}:KO 55 [(aB v1)] aq (C0 N v1):=
 fw Tryz.func55 (au λv2 J=>gA [[],[(4,cK ajk J)]] (bj λh2=>au λv3 h3=>gA [[f0 h2],[(4,cK ad7 h3)]] (bj λh4=>au λv4 h5=>gR [[f0 h4],[(4,cK ahr h5)]])))
def Ik(N:Nat)(v1:bp):ak6 Int:=
 (tt N v1).bind λv2=>
 bif v2 then
  some (0:Int)
 else
  some (1:Int)
theorem aeK{N v1}:KO 141 [(dN v1)] aq (Ik N v1):=
 fw Tryz.func141 (au λv2 J=>gA [[],[(4,cK xO J)]] (mD λh2=>gR [[t0 (dq h2)],[]]))
def rP(N:Nat)(v1:Int64):ak6 Int:=
 bif (decide (v1.toInt<0))then
  some (IntKind.u64.wrap ((IntKind.u64.wrap (-(v1+(1:Int64))).toInt)+(1:Int)))
 else
  some (IntKind.u64.wrap v1.toInt)
theorem w5{N v1}:KO 143 [(bG v1)] (λr=> .d (.v (.int .u64 r))) (rP N v1):=
 fw Tryz.func143 (gA [[],[]] (lC λJ=>gR [[t0 J],[(5,⟨_,_, .eq (Fj v1 (1:Int64))⟩),(8,⟨_,_, .eq (sW (v1+(1:Int64)))⟩)]]))
def AK(N:Nat)(v1:cm)(v2:Int):ak6 cm:=
 Option.bind (some (IntKind.u64.wrap ((IntKind.u64.wrap (v1.cu+((v2).tmod (4294967296:Int))))+(0:Int)))) λv3=>
 Option.bind (some (IntKind.u64.wrap ((v3).tdiv (4294967296:Int)))) λv4=>
 Option.bind (some (IntKind.u64.wrap ((v2).tdiv (4294967296:Int)))) λv5=>
 Option.bind (some (IntKind.u64.wrap ((IntKind.u64.wrap (v1.cC+((v5).tmod (4294967296:Int))))+v4))) λv6=>
 Option.bind (some (IntKind.u64.wrap ((v6).tdiv (4294967296:Int)))) λv7=>
 Option.bind (some (IntKind.u64.wrap ((v5).tdiv (4294967296:Int)))) λv8=>
 Option.bind (some (IntKind.u64.wrap ((IntKind.u64.wrap (v1.cX+((v8).tmod (4294967296:Int))))+v7))) λv9=>
 Option.bind (some (IntKind.u64.wrap ((v9).tdiv (4294967296:Int)))) λv10=>
 Option.bind (some (IntKind.u64.wrap ((v8).tdiv (4294967296:Int)))) λv11=>
 Option.bind (some (IntKind.u64.wrap ((IntKind.u64.wrap (v1.cS+((v11).tmod (4294967296:Int))))+v10))) λv12=>
 Option.bind (some (IntKind.u64.wrap ((v12).tdiv (4294967296:Int)))) λaA=>
 Option.bind (some (IntKind.u64.wrap ((v11).tdiv (4294967296:Int)))) λaE=>
 Option.bind (some (IntKind.u64.wrap ((IntKind.u64.wrap (v1.cJ+((aE).tmod (4294967296:Int))))+aA))) λaP=>
 Option.bind (some (IntKind.u64.wrap ((aP).tdiv (4294967296:Int)))) λbC=>
 Option.bind (some (IntKind.u64.wrap ((aE).tdiv (4294967296:Int)))) λbW=>
 Option.bind (some (IntKind.u64.wrap ((IntKind.u64.wrap (v1.cF+((bW).tmod (4294967296:Int))))+bC))) λbH=>
 Option.bind (some (IntKind.u64.wrap ((bH).tdiv (4294967296:Int)))) λcd=>
 Option.bind (some (IntKind.u64.wrap ((bW).tdiv (4294967296:Int)))) λv20=>
 some (⟨((v3).tmod (4294967296:Int)),((v6).tmod (4294967296:Int)),((v9).tmod (4294967296:Int)),((v12).tmod (4294967296:Int)),((aP).tmod (4294967296:Int)),((bH).tmod (4294967296:Int))⟩:cm)
def yZ(v3:Int)(v6:Int)(v9:Int)(v12:Int)(aP:Int)(v1:cm)(l:ak4 ao):ak4 ao:= .cells [(.d (.v (.int .u64 ((v3).tmod (4294967296:Int))))),(.d (.v (.int .u64 ((v6).tmod (4294967296:Int))))),(.d (.v (.int .u64 ((v9).tmod (4294967296:Int))))),(.d (.v (.int .u64 ((v12).tmod (4294967296:Int))))),(.d (.v (.int .u64 ((aP).tmod (4294967296:Int))))),(.d (.v (.int .u64 v1.cF)))]:: .cells [(.d (.v (.int .u64 (0:Int)))),(.d (.v (.int .u64 (0:Int)))),(.d (.v (.int .u64 (0:Int)))),(.d (.v (.int .u64 (0:Int)))),(.d (.v (.int .u64 (0:Int)))),(.d (.v (.int .u64 (0:Int))))]::l
def wV(v3:Int)(v6:Int)(v9:Int)(v12:Int)(v1:cm)(l:ak4 ao):ak4 ao:= .cells [(.d (.v (.int .u64 ((v3).tmod (4294967296:Int))))),(.d (.v (.int .u64 ((v6).tmod (4294967296:Int))))),(.d (.v (.int .u64 ((v9).tmod (4294967296:Int))))),(.d (.v (.int .u64 ((v12).tmod (4294967296:Int))))),(.d (.v (.int .u64 v1.cJ))),(.d (.v (.int .u64 v1.cF)))]:: .cells [(.d (.v (.int .u64 (0:Int)))),(.d (.v (.int .u64 (0:Int)))),(.d (.v (.int .u64 (0:Int)))),(.d (.v (.int .u64 (0:Int)))),(.d (.v (.int .u64 (0:Int)))),(.d (.v (.int .u64 (0:Int))))]::l
def yD(v3:Int)(v6:Int)(v9:Int)(v1:cm)(l:ak4 ao):ak4 ao:= .cells [(.d (.v (.int .u64 ((v3).tmod (4294967296:Int))))),(.d (.v (.int .u64 ((v6).tmod (4294967296:Int))))),(.d (.v (.int .u64 ((v9).tmod (4294967296:Int))))),(.d (.v (.int .u64 v1.cS))),(.d (.v (.int .u64 v1.cJ))),(.d (.v (.int .u64 v1.cF)))]:: .cells [(.d (.v (.int .u64 (0:Int)))),(.d (.v (.int .u64 (0:Int)))),(.d (.v (.int .u64 (0:Int)))),(.d (.v (.int .u64 (0:Int)))),(.d (.v (.int .u64 (0:Int)))),(.d (.v (.int .u64 (0:Int))))]::l
def xJ(v3:Int)(v6:Int)(v1:cm)(l:ak4 ao):ak4 ao:= .cells [(.d (.v (.int .u64 ((v3).tmod (4294967296:Int))))),(.d (.v (.int .u64 ((v6).tmod (4294967296:Int))))),(.d (.v (.int .u64 v1.cX))),(.d (.v (.int .u64 v1.cS))),(.d (.v (.int .u64 v1.cJ))),(.d (.v (.int .u64 v1.cF)))]:: .cells [(.d (.v (.int .u64 (0:Int)))),(.d (.v (.int .u64 (0:Int)))),(.d (.v (.int .u64 (0:Int)))),(.d (.v (.int .u64 (0:Int)))),(.d (.v (.int .u64 (0:Int)))),(.d (.v (.int .u64 (0:Int))))]::l
def yA(v3:Int)(v1:cm)(l:ak4 ao):ak4 ao:= .cells [(.d (.v (.int .u64 ((v3).tmod (4294967296:Int))))),(.d (.v (.int .u64 v1.cC))),(.d (.v (.int .u64 v1.cX))),(.d (.v (.int .u64 v1.cS))),(.d (.v (.int .u64 v1.cJ))),(.d (.v (.int .u64 v1.cF)))]:: .cells [(.d (.v (.int .u64 (0:Int)))),(.d (.v (.int .u64 (0:Int)))),(.d (.v (.int .u64 (0:Int)))),(.d (.v (.int .u64 (0:Int)))),(.d (.v (.int .u64 (0:Int)))),(.d (.v (.int .u64 (0:Int))))]::l
def Cj(v3:Int)(v6:Int)(v9:Int)(v12:Int)(aP:Int)(bH:Int)(l:ak4 ao):ak4 ao:= .cells [(.d (.v (.int .u64 ((v3).tmod (4294967296:Int))))),(.d (.v (.int .u64 ((v6).tmod (4294967296:Int))))),(.d (.v (.int .u64 ((v9).tmod (4294967296:Int))))),(.d (.v (.int .u64 ((v12).tmod (4294967296:Int))))),(.d (.v (.int .u64 ((aP).tmod (4294967296:Int))))),(.d (.v (.int .u64 ((bH).tmod (4294967296:Int)))))]:: .cells [(.d (.v (.int .u64 (0:Int)))),(.d (.v (.int .u64 (0:Int)))),(.d (.v (.int .u64 (0:Int)))),(.d (.v (.int .u64 (0:Int)))),(.d (.v (.int .u64 (0:Int)))),(.d (.v (.int .u64 (0:Int))))]::l
def Bz(v1:cm)(l:ak4 ao):ak4 ao:= .cells (eD v1).cells:: .cells [(.d (.v (.int .u64 (0:Int)))),(.d (.v (.int .u64 (0:Int)))),(.d (.v (.int .u64 (0:Int)))),(.d (.v (.int .u64 (0:Int)))),(.d (.v (.int .u64 (0:Int)))),(.d (.v (.int .u64 (0:Int))))]::l
theorem aaO{N v1 v2 r}(U:AK N v1 v2=some r):KF 224 [(eD v1),(aq (0:Int)),(.d (.v (.int .u64 v2)))] (eD r):=by
 rw[AK]at U;refine lU Tryz.func224 rfl (by kernel_rfl) ?_;refine fA [0,1,2] 0 (akr _) (s':=⟨32,[(0,(eD v1)),(1,(aq (0:Int))),(2,(.d (.v (.int .u64 v2))))],[]⟩) (by kernel_rfl) ?_;refine ar ?_;refine rg [] [(3,(.ptr 0 0)),(6,(.ptr 1 0))] (Bz v1 []) (by kernel_rfl) ?_;refine ar ?_;refine rg [] [(7,(.d (.v (.int .u64 (0:Int)))))] (Bz v1 []) (by kernel_rfl) ?_;refine ar ?_;refine ar ?_;refine rg [] [(8,(aq (0:Int)))] (Bz v1 []) (by kernel_rfl) ?_;refine dt ?_;refine Cc 8 ?_;refine gd ?_;refine ar ?_;refine ar ?_;refine rg [] [(12,(ax (decide ((0:Int)<6))))] (Bz v1 []) (by kernel_rfl) ?_;refine cQ (t:=(decide ((0:Int)<6))) (by kernel_rfl) rfl ?_;refine cx ?_;refine aI ?_;refine ar ?_;refine dt ?_;refine ar ?_;obtain⟨v3,J,U⟩:=bg U;refine rg [(4,⟨_,_, .lt (z:=0) (n:=6) (by decide) (by decide)⟩),(13,⟨_,_, .nz (b:=4294967296) (by decide)⟩),(26,⟨_,_, .eq (congrArg (λz=>AV.d (.v (.int .u64 z))) (akz J))⟩)] [(9,(.d (.v (.int .u64 v3))))] (Bz v1 []) (by kernel_rfl) ?_;refine ar ?_;refine rg [(7,⟨_,_, .nz (b:=4294967296) (by decide)⟩),(10,⟨_,_, .lt (z:=0) (n:=6) (by decide) (by decide)⟩)] [] (yA v3 v1 []) (by kernel_rfl) ?_;refine ar ?_;obtain⟨v4,h2,U⟩:=bg U
 refine rg [(4,⟨_,_, .nz (b:=4294967296) (by decide)⟩),(8,⟨_,_, .eq (congrArg (λz=>AV.d (.v (.int .u64 z))) (akz h2))⟩)] [(7,(.d (.v (.int .u64 v4))))] (yA v3 v1 []) (by kernel_rfl) ?_;obtain⟨v5,h3,U⟩:=bg U;refine re [(4,⟨_,_, .nz (b:=4294967296) (by decide)⟩),(8,⟨_,_, .eq (congrArg (λz=>AV.d (.v (.int .u64 z))) (akz h3))⟩)] [(2,(.d (.v (.int .u64 v5)))),(30,(.d (.v (.int .u64 (IntKind.u64.wrap ((v2).tdiv (4294967296:Int))))))),(29,(.d (.v (.int .u64 v2))))] (yA v3 v1 []) (by kernel_rfl) ?_;refine dX ?_;refine aI ?_;refine re [(5,⟨_,_, .eq (x:=(aq (aK ((0:Int)+(1:Int))))) (y:=(aq (1:Int))) (by kernel_rfl)⟩)] [(8,(aq (1:Int))),(14,(aq (1:Int))),(13,(aq (0:Int)))] (yA v3 v1 []) (by kernel_rfl) ?_;refine aI ?_;refine gd ?_;refine ar ?_;refine ar ?_;refine rg [] [(12,(ax (decide ((1:Int)<6))))] (yA v3 v1 []) (by kernel_rfl) ?_;refine cQ (t:=(decide ((1:Int)<6))) (by kernel_rfl) rfl ?_;refine cx ?_;refine aI ?_;refine ar ?_;refine dt ?_;refine ar ?_;obtain⟨v6,h4,U⟩:=bg U;refine rg [(4,⟨_,_, .lt (z:=1) (n:=6) (by decide) (by decide)⟩),(13,⟨_,_, .nz (b:=4294967296) (by decide)⟩),(26,⟨_,_, .eq (congrArg (λz=>AV.d (.v (.int .u64 z))) (akz h4))⟩)] [(9,(.d (.v (.int .u64 v6))))] (yA v3 v1 []) (by kernel_rfl) ?_
 refine ar ?_;refine rg [(7,⟨_,_, .nz (b:=4294967296) (by decide)⟩),(10,⟨_,_, .lt (z:=1) (n:=6) (by decide) (by decide)⟩)] [] (xJ v3 v6 v1 []) (by kernel_rfl) ?_;refine ar ?_;obtain⟨v7,h5,U⟩:=bg U;refine rg [(4,⟨_,_, .nz (b:=4294967296) (by decide)⟩),(8,⟨_,_, .eq (congrArg (λz=>AV.d (.v (.int .u64 z))) (akz h5))⟩)] [(7,(.d (.v (.int .u64 v7))))] (xJ v3 v6 v1 []) (by kernel_rfl) ?_;obtain⟨v8,h6,U⟩:=bg U;refine re [(4,⟨_,_, .nz (b:=4294967296) (by decide)⟩),(8,⟨_,_, .eq (congrArg (λz=>AV.d (.v (.int .u64 z))) (akz h6))⟩)] [(2,(.d (.v (.int .u64 v8)))),(30,(.d (.v (.int .u64 (IntKind.u64.wrap ((v5).tdiv (4294967296:Int))))))),(29,(.d (.v (.int .u64 v5))))] (xJ v3 v6 v1 []) (by kernel_rfl) ?_;refine dX ?_;refine aI ?_;refine re [(5,⟨_,_, .eq (x:=(aq (aK ((1:Int)+(1:Int))))) (y:=(aq (2:Int))) (by kernel_rfl)⟩)] [(8,(aq (2:Int))),(14,(aq (2:Int))),(13,(aq (1:Int)))] (xJ v3 v6 v1 []) (by kernel_rfl) ?_;refine aI ?_;refine gd ?_;refine ar ?_;refine ar ?_;refine rg [] [(12,(ax (decide ((2:Int)<6))))] (xJ v3 v6 v1 []) (by kernel_rfl) ?_;refine cQ (t:=(decide ((2:Int)<6))) (by kernel_rfl) rfl ?_;refine cx ?_;refine aI ?_;refine ar ?_;refine dt ?_;refine ar ?_;obtain⟨v9,h7,U⟩:=bg U
 refine rg [(4,⟨_,_, .lt (z:=2) (n:=6) (by decide) (by decide)⟩),(13,⟨_,_, .nz (b:=4294967296) (by decide)⟩),(26,⟨_,_, .eq (congrArg (λz=>AV.d (.v (.int .u64 z))) (akz h7))⟩)] [(9,(.d (.v (.int .u64 v9))))] (xJ v3 v6 v1 []) (by kernel_rfl) ?_;refine ar ?_;refine rg [(7,⟨_,_, .nz (b:=4294967296) (by decide)⟩),(10,⟨_,_, .lt (z:=2) (n:=6) (by decide) (by decide)⟩)] [] (yD v3 v6 v9 v1 []) (by kernel_rfl) ?_;refine ar ?_;obtain⟨v10,h8,U⟩:=bg U;refine rg [(4,⟨_,_, .nz (b:=4294967296) (by decide)⟩),(8,⟨_,_, .eq (congrArg (λz=>AV.d (.v (.int .u64 z))) (akz h8))⟩)] [(7,(.d (.v (.int .u64 v10))))] (yD v3 v6 v9 v1 []) (by kernel_rfl) ?_;obtain⟨v11,h9,U⟩:=bg U;refine re [(4,⟨_,_, .nz (b:=4294967296) (by decide)⟩),(8,⟨_,_, .eq (congrArg (λz=>AV.d (.v (.int .u64 z))) (akz h9))⟩)] [(2,(.d (.v (.int .u64 v11)))),(30,(.d (.v (.int .u64 (IntKind.u64.wrap ((v8).tdiv (4294967296:Int))))))),(29,(.d (.v (.int .u64 v8))))] (yD v3 v6 v9 v1 []) (by kernel_rfl) ?_;refine dX ?_;refine aI ?_;refine re [(5,⟨_,_, .eq (x:=(aq (aK ((2:Int)+(1:Int))))) (y:=(aq (3:Int))) (by kernel_rfl)⟩)] [(8,(aq (3:Int))),(14,(aq (3:Int))),(13,(aq (2:Int)))] (yD v3 v6 v9 v1 []) (by kernel_rfl) ?_;refine aI ?_;refine gd ?_;refine ar ?_;refine ar ?_
 refine rg [] [(12,(ax (decide ((3:Int)<6))))] (yD v3 v6 v9 v1 []) (by kernel_rfl) ?_;refine cQ (t:=(decide ((3:Int)<6))) (by kernel_rfl) rfl ?_;refine cx ?_;refine aI ?_;refine ar ?_;refine dt ?_;refine ar ?_;obtain⟨v12,aO,U⟩:=bg U;refine rg [(4,⟨_,_, .lt (z:=3) (n:=6) (by decide) (by decide)⟩),(13,⟨_,_, .nz (b:=4294967296) (by decide)⟩),(26,⟨_,_, .eq (congrArg (λz=>AV.d (.v (.int .u64 z))) (akz aO))⟩)] [(9,(.d (.v (.int .u64 v12))))] (yD v3 v6 v9 v1 []) (by kernel_rfl) ?_;refine ar ?_;refine rg [(7,⟨_,_, .nz (b:=4294967296) (by decide)⟩),(10,⟨_,_, .lt (z:=3) (n:=6) (by decide) (by decide)⟩)] [] (wV v3 v6 v9 v12 v1 []) (by kernel_rfl) ?_;refine ar ?_;obtain⟨aA,aY,U⟩:=bg U;refine rg [(4,⟨_,_, .nz (b:=4294967296) (by decide)⟩),(8,⟨_,_, .eq (congrArg (λz=>AV.d (.v (.int .u64 z))) (akz aY))⟩)] [(7,(.d (.v (.int .u64 aA))))] (wV v3 v6 v9 v12 v1 []) (by kernel_rfl) ?_;obtain⟨aE,aT,U⟩:=bg U;refine re [(4,⟨_,_, .nz (b:=4294967296) (by decide)⟩),(8,⟨_,_, .eq (congrArg (λz=>AV.d (.v (.int .u64 z))) (akz aT))⟩)] [(2,(.d (.v (.int .u64 aE)))),(30,(.d (.v (.int .u64 (IntKind.u64.wrap ((v11).tdiv (4294967296:Int))))))),(29,(.d (.v (.int .u64 v11))))] (wV v3 v6 v9 v12 v1 []) (by kernel_rfl) ?_
 refine dX ?_;refine aI ?_;refine re [(5,⟨_,_, .eq (x:=(aq (aK ((3:Int)+(1:Int))))) (y:=(aq (4:Int))) (by kernel_rfl)⟩)] [(8,(aq (4:Int))),(14,(aq (4:Int))),(13,(aq (3:Int)))] (wV v3 v6 v9 v12 v1 []) (by kernel_rfl) ?_;refine aI ?_;refine gd ?_;refine ar ?_;refine ar ?_;refine rg [] [(12,(ax (decide ((4:Int)<6))))] (wV v3 v6 v9 v12 v1 []) (by kernel_rfl) ?_;refine cQ (t:=(decide ((4:Int)<6))) (by kernel_rfl) rfl ?_;refine cx ?_;refine aI ?_;refine ar ?_;refine dt ?_;refine ar ?_;obtain⟨aP,bN,U⟩:=bg U;refine rg [(4,⟨_,_, .lt (z:=4) (n:=6) (by decide) (by decide)⟩),(13,⟨_,_, .nz (b:=4294967296) (by decide)⟩),(26,⟨_,_, .eq (congrArg (λz=>AV.d (.v (.int .u64 z))) (akz bN))⟩)] [(9,(.d (.v (.int .u64 aP))))] (wV v3 v6 v9 v12 v1 []) (by kernel_rfl) ?_;refine ar ?_;refine rg [(7,⟨_,_, .nz (b:=4294967296) (by decide)⟩),(10,⟨_,_, .lt (z:=4) (n:=6) (by decide) (by decide)⟩)] [] (yZ v3 v6 v9 v12 aP v1 []) (by kernel_rfl) ?_;refine ar ?_;obtain⟨bC,bZ,U⟩:=bg U;refine rg [(4,⟨_,_, .nz (b:=4294967296) (by decide)⟩),(8,⟨_,_, .eq (congrArg (λz=>AV.d (.v (.int .u64 z))) (akz bZ))⟩)] [(7,(.d (.v (.int .u64 bC))))] (yZ v3 v6 v9 v12 aP v1 []) (by kernel_rfl) ?_;obtain⟨bW,bM,U⟩:=bg U
 refine re [(4,⟨_,_, .nz (b:=4294967296) (by decide)⟩),(8,⟨_,_, .eq (congrArg (λz=>AV.d (.v (.int .u64 z))) (akz bM))⟩)] [(2,(.d (.v (.int .u64 bW)))),(30,(.d (.v (.int .u64 (IntKind.u64.wrap ((aE).tdiv (4294967296:Int))))))),(29,(.d (.v (.int .u64 aE))))] (yZ v3 v6 v9 v12 aP v1 []) (by kernel_rfl) ?_;refine dX ?_;refine aI ?_;refine re [(5,⟨_,_, .eq (x:=(aq (aK ((4:Int)+(1:Int))))) (y:=(aq (5:Int))) (by kernel_rfl)⟩)] [(8,(aq (5:Int))),(14,(aq (5:Int))),(13,(aq (4:Int)))] (yZ v3 v6 v9 v12 aP v1 []) (by kernel_rfl) ?_;refine aI ?_;refine gd ?_;refine ar ?_;refine ar ?_;refine rg [] [(12,(ax (decide ((5:Int)<6))))] (yZ v3 v6 v9 v12 aP v1 []) (by kernel_rfl) ?_;refine cQ (t:=(decide ((5:Int)<6))) (by kernel_rfl) rfl ?_;refine cx ?_;refine aI ?_;refine ar ?_;refine dt ?_;refine ar ?_;obtain⟨bH,cn,U⟩:=bg U;refine rg [(4,⟨_,_, .lt (z:=5) (n:=6) (by decide) (by decide)⟩),(13,⟨_,_, .nz (b:=4294967296) (by decide)⟩),(26,⟨_,_, .eq (congrArg (λz=>AV.d (.v (.int .u64 z))) (akz cn))⟩)] [(9,(.d (.v (.int .u64 bH))))] (yZ v3 v6 v9 v12 aP v1 []) (by kernel_rfl) ?_;refine ar ?_;refine rg [(7,⟨_,_, .nz (b:=4294967296) (by decide)⟩),(10,⟨_,_, .lt (z:=5) (n:=6) (by decide) (by decide)⟩)] [] (Cj v3 v6 v9 v12 aP bH []) (by kernel_rfl) ?_
 refine ar ?_;obtain⟨cd,dj,U⟩:=bg U;refine rg [(4,⟨_,_, .nz (b:=4294967296) (by decide)⟩),(8,⟨_,_, .eq (congrArg (λz=>AV.d (.v (.int .u64 z))) (akz dj))⟩)] [(7,(.d (.v (.int .u64 cd))))] (Cj v3 v6 v9 v12 aP bH []) (by kernel_rfl) ?_;obtain⟨v20,eC,U⟩:=bg U;refine re [(4,⟨_,_, .nz (b:=4294967296) (by decide)⟩),(8,⟨_,_, .eq (congrArg (λz=>AV.d (.v (.int .u64 z))) (akz eC))⟩)] [(2,(.d (.v (.int .u64 v20)))),(30,(.d (.v (.int .u64 (IntKind.u64.wrap ((bW).tdiv (4294967296:Int))))))),(29,(.d (.v (.int .u64 bW))))] (Cj v3 v6 v9 v12 aP bH []) (by kernel_rfl) ?_;refine dX ?_;refine aI ?_;refine re [(5,⟨_,_, .eq (x:=(aq (aK ((5:Int)+(1:Int))))) (y:=(aq (6:Int))) (by kernel_rfl)⟩)] [(8,(aq (6:Int))),(14,(aq (6:Int))),(13,(aq (5:Int)))] (Cj v3 v6 v9 v12 aP bH []) (by kernel_rfl) ?_;refine aI ?_;refine gd ?_;refine ar ?_;refine ar ?_;refine rg [] [(12,(ax (decide ((6:Int)<6))))] (Cj v3 v6 v9 v12 aP bH []) (by kernel_rfl) ?_;refine dw (t:=(decide ((6:Int)<6))) (by kernel_rfl) rfl ?_;refine kR (gO (gO (lS rfl ?_)));refine aI ?_;refine ar ?_;refine rg [] [] [.cells [(.d (.v (.int .u64 ((v3).tmod (4294967296:Int))))),(.d (.v (.int .u64 ((v6).tmod (4294967296:Int))))),(.d (.v (.int .u64 ((v9).tmod (4294967296:Int))))),(.d (.v (.int .u64 ((v12).tmod (4294967296:Int))))),(.d (.v (.int .u64 ((aP).tmod (4294967296:Int))))),(.d (.v (.int .u64 ((bH).tmod (4294967296:Int)))))], .cells [(.d (.v (.int .u64 ((v3).tmod (4294967296:Int))))),(.d (.v (.int .u64 ((v6).tmod (4294967296:Int))))),(.d (.v (.int .u64 ((v9).tmod (4294967296:Int))))),(.d (.v (.int .u64 ((v12).tmod (4294967296:Int))))),(.d (.v (.int .u64 ((aP).tmod (4294967296:Int))))),(.d (.v (.int .u64 ((bH).tmod (4294967296:Int)))))]] (by kernel_rfl) ?_
 refine cV ?_;have hr:=akz U;subst hr;exact fa (by kernel_rfl)
def yO(N:Nat)(v1:cm)(v2:Int):ak6 cm:=
 Option.bind (some (IntKind.u64.wrap ((IntKind.u64.wrap (v1.cC+((v2).tmod (4294967296:Int))))+(0:Int)))) λv3=>
 Option.bind (some (IntKind.u64.wrap ((v3).tdiv (4294967296:Int)))) λv4=>
 Option.bind (some (IntKind.u64.wrap ((v2).tdiv (4294967296:Int)))) λv5=>
 Option.bind (some (IntKind.u64.wrap ((IntKind.u64.wrap (v1.cX+((v5).tmod (4294967296:Int))))+v4))) λv6=>
 Option.bind (some (IntKind.u64.wrap ((v6).tdiv (4294967296:Int)))) λv7=>
 Option.bind (some (IntKind.u64.wrap ((v5).tdiv (4294967296:Int)))) λv8=>
 Option.bind (some (IntKind.u64.wrap ((IntKind.u64.wrap (v1.cS+((v8).tmod (4294967296:Int))))+v7))) λv9=>
 Option.bind (some (IntKind.u64.wrap ((v9).tdiv (4294967296:Int)))) λv10=>
 Option.bind (some (IntKind.u64.wrap ((v8).tdiv (4294967296:Int)))) λv11=>
 Option.bind (some (IntKind.u64.wrap ((IntKind.u64.wrap (v1.cJ+((v11).tmod (4294967296:Int))))+v10))) λv12=>
 Option.bind (some (IntKind.u64.wrap ((v12).tdiv (4294967296:Int)))) λaA=>
 Option.bind (some (IntKind.u64.wrap ((v11).tdiv (4294967296:Int)))) λaE=>
 Option.bind (some (IntKind.u64.wrap ((IntKind.u64.wrap (v1.cF+((aE).tmod (4294967296:Int))))+aA))) λaP=>
 Option.bind (some (IntKind.u64.wrap ((aP).tdiv (4294967296:Int)))) λbC=>
 Option.bind (some (IntKind.u64.wrap ((aE).tdiv (4294967296:Int)))) λbW=>
 some (⟨v1.cu,((v3).tmod (4294967296:Int)),((v6).tmod (4294967296:Int)),((v9).tmod (4294967296:Int)),((v12).tmod (4294967296:Int)),((aP).tmod (4294967296:Int))⟩:cm)
def xS(v1:cm)(v3:Int)(v6:Int)(v9:Int)(v12:Int)(l:ak4 ao):ak4 ao:= .cells [(.d (.v (.int .u64 v1.cu))),(.d (.v (.int .u64 ((v3).tmod (4294967296:Int))))),(.d (.v (.int .u64 ((v6).tmod (4294967296:Int))))),(.d (.v (.int .u64 ((v9).tmod (4294967296:Int))))),(.d (.v (.int .u64 ((v12).tmod (4294967296:Int))))),(.d (.v (.int .u64 v1.cF)))]:: .cells [(.d (.v (.int .u64 (0:Int)))),(.d (.v (.int .u64 (0:Int)))),(.d (.v (.int .u64 (0:Int)))),(.d (.v (.int .u64 (0:Int)))),(.d (.v (.int .u64 (0:Int)))),(.d (.v (.int .u64 (0:Int))))]::l
def yn(v1:cm)(v3:Int)(v6:Int)(v9:Int)(l:ak4 ao):ak4 ao:= .cells [(.d (.v (.int .u64 v1.cu))),(.d (.v (.int .u64 ((v3).tmod (4294967296:Int))))),(.d (.v (.int .u64 ((v6).tmod (4294967296:Int))))),(.d (.v (.int .u64 ((v9).tmod (4294967296:Int))))),(.d (.v (.int .u64 v1.cJ))),(.d (.v (.int .u64 v1.cF)))]:: .cells [(.d (.v (.int .u64 (0:Int)))),(.d (.v (.int .u64 (0:Int)))),(.d (.v (.int .u64 (0:Int)))),(.d (.v (.int .u64 (0:Int)))),(.d (.v (.int .u64 (0:Int)))),(.d (.v (.int .u64 (0:Int))))]::l
def yY(v1:cm)(v3:Int)(v6:Int)(l:ak4 ao):ak4 ao:= .cells [(.d (.v (.int .u64 v1.cu))),(.d (.v (.int .u64 ((v3).tmod (4294967296:Int))))),(.d (.v (.int .u64 ((v6).tmod (4294967296:Int))))),(.d (.v (.int .u64 v1.cS))),(.d (.v (.int .u64 v1.cJ))),(.d (.v (.int .u64 v1.cF)))]:: .cells [(.d (.v (.int .u64 (0:Int)))),(.d (.v (.int .u64 (0:Int)))),(.d (.v (.int .u64 (0:Int)))),(.d (.v (.int .u64 (0:Int)))),(.d (.v (.int .u64 (0:Int)))),(.d (.v (.int .u64 (0:Int))))]::l
def yi(v1:cm)(v3:Int)(l:ak4 ao):ak4 ao:= .cells [(.d (.v (.int .u64 v1.cu))),(.d (.v (.int .u64 ((v3).tmod (4294967296:Int))))),(.d (.v (.int .u64 v1.cX))),(.d (.v (.int .u64 v1.cS))),(.d (.v (.int .u64 v1.cJ))),(.d (.v (.int .u64 v1.cF)))]:: .cells [(.d (.v (.int .u64 (0:Int)))),(.d (.v (.int .u64 (0:Int)))),(.d (.v (.int .u64 (0:Int)))),(.d (.v (.int .u64 (0:Int)))),(.d (.v (.int .u64 (0:Int)))),(.d (.v (.int .u64 (0:Int))))]::l
def Ad(v1:cm)(v3:Int)(v6:Int)(v9:Int)(v12:Int)(aP:Int)(l:ak4 ao):ak4 ao:= .cells [(.d (.v (.int .u64 v1.cu))),(.d (.v (.int .u64 ((v3).tmod (4294967296:Int))))),(.d (.v (.int .u64 ((v6).tmod (4294967296:Int))))),(.d (.v (.int .u64 ((v9).tmod (4294967296:Int))))),(.d (.v (.int .u64 ((v12).tmod (4294967296:Int))))),(.d (.v (.int .u64 ((aP).tmod (4294967296:Int)))))]:: .cells [(.d (.v (.int .u64 (0:Int)))),(.d (.v (.int .u64 (0:Int)))),(.d (.v (.int .u64 (0:Int)))),(.d (.v (.int .u64 (0:Int)))),(.d (.v (.int .u64 (0:Int)))),(.d (.v (.int .u64 (0:Int))))]::l
def AX(v1:cm)(l:ak4 ao):ak4 ao:= .cells (eD v1).cells:: .cells [(.d (.v (.int .u64 (0:Int)))),(.d (.v (.int .u64 (0:Int)))),(.d (.v (.int .u64 (0:Int)))),(.d (.v (.int .u64 (0:Int)))),(.d (.v (.int .u64 (0:Int)))),(.d (.v (.int .u64 (0:Int))))]::l
theorem RT{N v1 v2 r}(U:yO N v1 v2=some r):KF 224 [(eD v1),(aq (1:Int)),(.d (.v (.int .u64 v2)))] (eD r):=by
 rw[yO]at U;refine lU Tryz.func224 rfl (by kernel_rfl) ?_;refine fA [0,1,2] 0 (akr _) (s':=⟨32,[(0,(eD v1)),(1,(aq (1:Int))),(2,(.d (.v (.int .u64 v2))))],[]⟩) (by kernel_rfl) ?_;refine ar ?_;refine rg [] [(3,(.ptr 0 0)),(6,(.ptr 1 0))] (AX v1 []) (by kernel_rfl) ?_;refine ar ?_;refine rg [] [(7,(.d (.v (.int .u64 (0:Int)))))] (AX v1 []) (by kernel_rfl) ?_;refine ar ?_;refine ar ?_;refine rg [] [(8,(aq (1:Int)))] (AX v1 []) (by kernel_rfl) ?_;refine dt ?_;refine Cc 8 ?_;refine gd ?_;refine ar ?_;refine ar ?_;refine rg [] [(12,(ax (decide ((1:Int)<6))))] (AX v1 []) (by kernel_rfl) ?_;refine cQ (t:=(decide ((1:Int)<6))) (by kernel_rfl) rfl ?_;refine cx ?_;refine aI ?_;refine ar ?_;refine dt ?_;refine ar ?_;obtain⟨v3,J,U⟩:=bg U;refine rg [(4,⟨_,_, .lt (z:=1) (n:=6) (by decide) (by decide)⟩),(13,⟨_,_, .nz (b:=4294967296) (by decide)⟩),(26,⟨_,_, .eq (congrArg (λz=>AV.d (.v (.int .u64 z))) (akz J))⟩)] [(9,(.d (.v (.int .u64 v3))))] (AX v1 []) (by kernel_rfl) ?_;refine ar ?_;refine rg [(7,⟨_,_, .nz (b:=4294967296) (by decide)⟩),(10,⟨_,_, .lt (z:=1) (n:=6) (by decide) (by decide)⟩)] [] (yi v1 v3 []) (by kernel_rfl) ?_;refine ar ?_;obtain⟨v4,h2,U⟩:=bg U
 refine rg [(4,⟨_,_, .nz (b:=4294967296) (by decide)⟩),(8,⟨_,_, .eq (congrArg (λz=>AV.d (.v (.int .u64 z))) (akz h2))⟩)] [(7,(.d (.v (.int .u64 v4))))] (yi v1 v3 []) (by kernel_rfl) ?_;obtain⟨v5,h3,U⟩:=bg U;refine re [(4,⟨_,_, .nz (b:=4294967296) (by decide)⟩),(8,⟨_,_, .eq (congrArg (λz=>AV.d (.v (.int .u64 z))) (akz h3))⟩)] [(2,(.d (.v (.int .u64 v5)))),(30,(.d (.v (.int .u64 (IntKind.u64.wrap ((v2).tdiv (4294967296:Int))))))),(29,(.d (.v (.int .u64 v2))))] (yi v1 v3 []) (by kernel_rfl) ?_;refine dX ?_;refine aI ?_;refine re [(5,⟨_,_, .eq (x:=(aq (aK ((1:Int)+(1:Int))))) (y:=(aq (2:Int))) (by kernel_rfl)⟩)] [(8,(aq (2:Int))),(14,(aq (2:Int))),(13,(aq (1:Int)))] (yi v1 v3 []) (by kernel_rfl) ?_;refine aI ?_;refine gd ?_;refine ar ?_;refine ar ?_;refine rg [] [(12,(ax (decide ((2:Int)<6))))] (yi v1 v3 []) (by kernel_rfl) ?_;refine cQ (t:=(decide ((2:Int)<6))) (by kernel_rfl) rfl ?_;refine cx ?_;refine aI ?_;refine ar ?_;refine dt ?_;refine ar ?_;obtain⟨v6,h4,U⟩:=bg U;refine rg [(4,⟨_,_, .lt (z:=2) (n:=6) (by decide) (by decide)⟩),(13,⟨_,_, .nz (b:=4294967296) (by decide)⟩),(26,⟨_,_, .eq (congrArg (λz=>AV.d (.v (.int .u64 z))) (akz h4))⟩)] [(9,(.d (.v (.int .u64 v6))))] (yi v1 v3 []) (by kernel_rfl) ?_
 refine ar ?_;refine rg [(7,⟨_,_, .nz (b:=4294967296) (by decide)⟩),(10,⟨_,_, .lt (z:=2) (n:=6) (by decide) (by decide)⟩)] [] (yY v1 v3 v6 []) (by kernel_rfl) ?_;refine ar ?_;obtain⟨v7,h5,U⟩:=bg U;refine rg [(4,⟨_,_, .nz (b:=4294967296) (by decide)⟩),(8,⟨_,_, .eq (congrArg (λz=>AV.d (.v (.int .u64 z))) (akz h5))⟩)] [(7,(.d (.v (.int .u64 v7))))] (yY v1 v3 v6 []) (by kernel_rfl) ?_;obtain⟨v8,h6,U⟩:=bg U;refine re [(4,⟨_,_, .nz (b:=4294967296) (by decide)⟩),(8,⟨_,_, .eq (congrArg (λz=>AV.d (.v (.int .u64 z))) (akz h6))⟩)] [(2,(.d (.v (.int .u64 v8)))),(30,(.d (.v (.int .u64 (IntKind.u64.wrap ((v5).tdiv (4294967296:Int))))))),(29,(.d (.v (.int .u64 v5))))] (yY v1 v3 v6 []) (by kernel_rfl) ?_;refine dX ?_;refine aI ?_;refine re [(5,⟨_,_, .eq (x:=(aq (aK ((2:Int)+(1:Int))))) (y:=(aq (3:Int))) (by kernel_rfl)⟩)] [(8,(aq (3:Int))),(14,(aq (3:Int))),(13,(aq (2:Int)))] (yY v1 v3 v6 []) (by kernel_rfl) ?_;refine aI ?_;refine gd ?_;refine ar ?_;refine ar ?_;refine rg [] [(12,(ax (decide ((3:Int)<6))))] (yY v1 v3 v6 []) (by kernel_rfl) ?_;refine cQ (t:=(decide ((3:Int)<6))) (by kernel_rfl) rfl ?_;refine cx ?_;refine aI ?_;refine ar ?_;refine dt ?_;refine ar ?_;obtain⟨v9,h7,U⟩:=bg U
 refine rg [(4,⟨_,_, .lt (z:=3) (n:=6) (by decide) (by decide)⟩),(13,⟨_,_, .nz (b:=4294967296) (by decide)⟩),(26,⟨_,_, .eq (congrArg (λz=>AV.d (.v (.int .u64 z))) (akz h7))⟩)] [(9,(.d (.v (.int .u64 v9))))] (yY v1 v3 v6 []) (by kernel_rfl) ?_;refine ar ?_;refine rg [(7,⟨_,_, .nz (b:=4294967296) (by decide)⟩),(10,⟨_,_, .lt (z:=3) (n:=6) (by decide) (by decide)⟩)] [] (yn v1 v3 v6 v9 []) (by kernel_rfl) ?_;refine ar ?_;obtain⟨v10,h8,U⟩:=bg U;refine rg [(4,⟨_,_, .nz (b:=4294967296) (by decide)⟩),(8,⟨_,_, .eq (congrArg (λz=>AV.d (.v (.int .u64 z))) (akz h8))⟩)] [(7,(.d (.v (.int .u64 v10))))] (yn v1 v3 v6 v9 []) (by kernel_rfl) ?_;obtain⟨v11,h9,U⟩:=bg U;refine re [(4,⟨_,_, .nz (b:=4294967296) (by decide)⟩),(8,⟨_,_, .eq (congrArg (λz=>AV.d (.v (.int .u64 z))) (akz h9))⟩)] [(2,(.d (.v (.int .u64 v11)))),(30,(.d (.v (.int .u64 (IntKind.u64.wrap ((v8).tdiv (4294967296:Int))))))),(29,(.d (.v (.int .u64 v8))))] (yn v1 v3 v6 v9 []) (by kernel_rfl) ?_;refine dX ?_;refine aI ?_;refine re [(5,⟨_,_, .eq (x:=(aq (aK ((3:Int)+(1:Int))))) (y:=(aq (4:Int))) (by kernel_rfl)⟩)] [(8,(aq (4:Int))),(14,(aq (4:Int))),(13,(aq (3:Int)))] (yn v1 v3 v6 v9 []) (by kernel_rfl) ?_;refine aI ?_;refine gd ?_;refine ar ?_;refine ar ?_
 refine rg [] [(12,(ax (decide ((4:Int)<6))))] (yn v1 v3 v6 v9 []) (by kernel_rfl) ?_;refine cQ (t:=(decide ((4:Int)<6))) (by kernel_rfl) rfl ?_;refine cx ?_;refine aI ?_;refine ar ?_;refine dt ?_;refine ar ?_;obtain⟨v12,aO,U⟩:=bg U;refine rg [(4,⟨_,_, .lt (z:=4) (n:=6) (by decide) (by decide)⟩),(13,⟨_,_, .nz (b:=4294967296) (by decide)⟩),(26,⟨_,_, .eq (congrArg (λz=>AV.d (.v (.int .u64 z))) (akz aO))⟩)] [(9,(.d (.v (.int .u64 v12))))] (yn v1 v3 v6 v9 []) (by kernel_rfl) ?_;refine ar ?_;refine rg [(7,⟨_,_, .nz (b:=4294967296) (by decide)⟩),(10,⟨_,_, .lt (z:=4) (n:=6) (by decide) (by decide)⟩)] [] (xS v1 v3 v6 v9 v12 []) (by kernel_rfl) ?_;refine ar ?_;obtain⟨aA,aY,U⟩:=bg U;refine rg [(4,⟨_,_, .nz (b:=4294967296) (by decide)⟩),(8,⟨_,_, .eq (congrArg (λz=>AV.d (.v (.int .u64 z))) (akz aY))⟩)] [(7,(.d (.v (.int .u64 aA))))] (xS v1 v3 v6 v9 v12 []) (by kernel_rfl) ?_;obtain⟨aE,aT,U⟩:=bg U;refine re [(4,⟨_,_, .nz (b:=4294967296) (by decide)⟩),(8,⟨_,_, .eq (congrArg (λz=>AV.d (.v (.int .u64 z))) (akz aT))⟩)] [(2,(.d (.v (.int .u64 aE)))),(30,(.d (.v (.int .u64 (IntKind.u64.wrap ((v11).tdiv (4294967296:Int))))))),(29,(.d (.v (.int .u64 v11))))] (xS v1 v3 v6 v9 v12 []) (by kernel_rfl) ?_
 refine dX ?_;refine aI ?_;refine re [(5,⟨_,_, .eq (x:=(aq (aK ((4:Int)+(1:Int))))) (y:=(aq (5:Int))) (by kernel_rfl)⟩)] [(8,(aq (5:Int))),(14,(aq (5:Int))),(13,(aq (4:Int)))] (xS v1 v3 v6 v9 v12 []) (by kernel_rfl) ?_;refine aI ?_;refine gd ?_;refine ar ?_;refine ar ?_;refine rg [] [(12,(ax (decide ((5:Int)<6))))] (xS v1 v3 v6 v9 v12 []) (by kernel_rfl) ?_;refine cQ (t:=(decide ((5:Int)<6))) (by kernel_rfl) rfl ?_;refine cx ?_;refine aI ?_;refine ar ?_;refine dt ?_;refine ar ?_;obtain⟨aP,bN,U⟩:=bg U;refine rg [(4,⟨_,_, .lt (z:=5) (n:=6) (by decide) (by decide)⟩),(13,⟨_,_, .nz (b:=4294967296) (by decide)⟩),(26,⟨_,_, .eq (congrArg (λz=>AV.d (.v (.int .u64 z))) (akz bN))⟩)] [(9,(.d (.v (.int .u64 aP))))] (xS v1 v3 v6 v9 v12 []) (by kernel_rfl) ?_;refine ar ?_;refine rg [(7,⟨_,_, .nz (b:=4294967296) (by decide)⟩),(10,⟨_,_, .lt (z:=5) (n:=6) (by decide) (by decide)⟩)] [] (Ad v1 v3 v6 v9 v12 aP []) (by kernel_rfl) ?_;refine ar ?_;obtain⟨bC,bZ,U⟩:=bg U;refine rg [(4,⟨_,_, .nz (b:=4294967296) (by decide)⟩),(8,⟨_,_, .eq (congrArg (λz=>AV.d (.v (.int .u64 z))) (akz bZ))⟩)] [(7,(.d (.v (.int .u64 bC))))] (Ad v1 v3 v6 v9 v12 aP []) (by kernel_rfl) ?_;obtain⟨bW,bM,U⟩:=bg U
 refine re [(4,⟨_,_, .nz (b:=4294967296) (by decide)⟩),(8,⟨_,_, .eq (congrArg (λz=>AV.d (.v (.int .u64 z))) (akz bM))⟩)] [(2,(.d (.v (.int .u64 bW)))),(30,(.d (.v (.int .u64 (IntKind.u64.wrap ((aE).tdiv (4294967296:Int))))))),(29,(.d (.v (.int .u64 aE))))] (Ad v1 v3 v6 v9 v12 aP []) (by kernel_rfl) ?_;refine dX ?_;refine aI ?_;refine re [(5,⟨_,_, .eq (x:=(aq (aK ((5:Int)+(1:Int))))) (y:=(aq (6:Int))) (by kernel_rfl)⟩)] [(8,(aq (6:Int))),(14,(aq (6:Int))),(13,(aq (5:Int)))] (Ad v1 v3 v6 v9 v12 aP []) (by kernel_rfl) ?_;refine aI ?_;refine gd ?_;refine ar ?_;refine ar ?_;refine rg [] [(12,(ax (decide ((6:Int)<6))))] (Ad v1 v3 v6 v9 v12 aP []) (by kernel_rfl) ?_;refine dw (t:=(decide ((6:Int)<6))) (by kernel_rfl) rfl ?_;refine kR (gO (gO (lS rfl ?_)));refine aI ?_;refine ar ?_;refine rg [] [] [.cells [(.d (.v (.int .u64 v1.cu))),(.d (.v (.int .u64 ((v3).tmod (4294967296:Int))))),(.d (.v (.int .u64 ((v6).tmod (4294967296:Int))))),(.d (.v (.int .u64 ((v9).tmod (4294967296:Int))))),(.d (.v (.int .u64 ((v12).tmod (4294967296:Int))))),(.d (.v (.int .u64 ((aP).tmod (4294967296:Int)))))], .cells [(.d (.v (.int .u64 v1.cu))),(.d (.v (.int .u64 ((v3).tmod (4294967296:Int))))),(.d (.v (.int .u64 ((v6).tmod (4294967296:Int))))),(.d (.v (.int .u64 ((v9).tmod (4294967296:Int))))),(.d (.v (.int .u64 ((v12).tmod (4294967296:Int))))),(.d (.v (.int .u64 ((aP).tmod (4294967296:Int)))))]] (by kernel_rfl) ?_
 refine cV ?_;have hr:=akz U;subst hr;exact fa (by kernel_rfl)
def Ag(N:Nat)(v1:cm)(v2:Int):ak6 cm:=
 Option.bind (some (IntKind.u64.wrap ((IntKind.u64.wrap (v1.cX+((v2).tmod (4294967296:Int))))+(0:Int)))) λv3=>
 Option.bind (some (IntKind.u64.wrap ((v3).tdiv (4294967296:Int)))) λv4=>
 Option.bind (some (IntKind.u64.wrap ((v2).tdiv (4294967296:Int)))) λv5=>
 Option.bind (some (IntKind.u64.wrap ((IntKind.u64.wrap (v1.cS+((v5).tmod (4294967296:Int))))+v4))) λv6=>
 Option.bind (some (IntKind.u64.wrap ((v6).tdiv (4294967296:Int)))) λv7=>
 Option.bind (some (IntKind.u64.wrap ((v5).tdiv (4294967296:Int)))) λv8=>
 Option.bind (some (IntKind.u64.wrap ((IntKind.u64.wrap (v1.cJ+((v8).tmod (4294967296:Int))))+v7))) λv9=>
 Option.bind (some (IntKind.u64.wrap ((v9).tdiv (4294967296:Int)))) λv10=>
 Option.bind (some (IntKind.u64.wrap ((v8).tdiv (4294967296:Int)))) λv11=>
 Option.bind (some (IntKind.u64.wrap ((IntKind.u64.wrap (v1.cF+((v11).tmod (4294967296:Int))))+v10))) λv12=>
 Option.bind (some (IntKind.u64.wrap ((v12).tdiv (4294967296:Int)))) λaA=>
 Option.bind (some (IntKind.u64.wrap ((v11).tdiv (4294967296:Int)))) λaE=>
 some (⟨v1.cu,v1.cC,((v3).tmod (4294967296:Int)),((v6).tmod (4294967296:Int)),((v9).tmod (4294967296:Int)),((v12).tmod (4294967296:Int))⟩:cm)
def zK(v1:cm)(v3:Int)(v6:Int)(v9:Int)(l:ak4 ao):ak4 ao:= .cells [(.d (.v (.int .u64 v1.cu))),(.d (.v (.int .u64 v1.cC))),(.d (.v (.int .u64 ((v3).tmod (4294967296:Int))))),(.d (.v (.int .u64 ((v6).tmod (4294967296:Int))))),(.d (.v (.int .u64 ((v9).tmod (4294967296:Int))))),(.d (.v (.int .u64 v1.cF)))]:: .cells [(.d (.v (.int .u64 (0:Int)))),(.d (.v (.int .u64 (0:Int)))),(.d (.v (.int .u64 (0:Int)))),(.d (.v (.int .u64 (0:Int)))),(.d (.v (.int .u64 (0:Int)))),(.d (.v (.int .u64 (0:Int))))]::l
def xo(v1:cm)(v3:Int)(v6:Int)(l:ak4 ao):ak4 ao:= .cells [(.d (.v (.int .u64 v1.cu))),(.d (.v (.int .u64 v1.cC))),(.d (.v (.int .u64 ((v3).tmod (4294967296:Int))))),(.d (.v (.int .u64 ((v6).tmod (4294967296:Int))))),(.d (.v (.int .u64 v1.cJ))),(.d (.v (.int .u64 v1.cF)))]:: .cells [(.d (.v (.int .u64 (0:Int)))),(.d (.v (.int .u64 (0:Int)))),(.d (.v (.int .u64 (0:Int)))),(.d (.v (.int .u64 (0:Int)))),(.d (.v (.int .u64 (0:Int)))),(.d (.v (.int .u64 (0:Int))))]::l
def wL(v1:cm)(v3:Int)(l:ak4 ao):ak4 ao:= .cells [(.d (.v (.int .u64 v1.cu))),(.d (.v (.int .u64 v1.cC))),(.d (.v (.int .u64 ((v3).tmod (4294967296:Int))))),(.d (.v (.int .u64 v1.cS))),(.d (.v (.int .u64 v1.cJ))),(.d (.v (.int .u64 v1.cF)))]:: .cells [(.d (.v (.int .u64 (0:Int)))),(.d (.v (.int .u64 (0:Int)))),(.d (.v (.int .u64 (0:Int)))),(.d (.v (.int .u64 (0:Int)))),(.d (.v (.int .u64 (0:Int)))),(.d (.v (.int .u64 (0:Int))))]::l
def C7(v1:cm)(v3:Int)(v6:Int)(v9:Int)(v12:Int)(l:ak4 ao):ak4 ao:= .cells [(.d (.v (.int .u64 v1.cu))),(.d (.v (.int .u64 v1.cC))),(.d (.v (.int .u64 ((v3).tmod (4294967296:Int))))),(.d (.v (.int .u64 ((v6).tmod (4294967296:Int))))),(.d (.v (.int .u64 ((v9).tmod (4294967296:Int))))),(.d (.v (.int .u64 ((v12).tmod (4294967296:Int)))))]:: .cells [(.d (.v (.int .u64 (0:Int)))),(.d (.v (.int .u64 (0:Int)))),(.d (.v (.int .u64 (0:Int)))),(.d (.v (.int .u64 (0:Int)))),(.d (.v (.int .u64 (0:Int)))),(.d (.v (.int .u64 (0:Int))))]::l
def Bo(v1:cm)(l:ak4 ao):ak4 ao:= .cells (eD v1).cells:: .cells [(.d (.v (.int .u64 (0:Int)))),(.d (.v (.int .u64 (0:Int)))),(.d (.v (.int .u64 (0:Int)))),(.d (.v (.int .u64 (0:Int)))),(.d (.v (.int .u64 (0:Int)))),(.d (.v (.int .u64 (0:Int))))]::l
theorem ai9{N v1 v2 r}(U:Ag N v1 v2=some r):KF 224 [(eD v1),(aq (2:Int)),(.d (.v (.int .u64 v2)))] (eD r):=by
 rw[Ag]at U;refine lU Tryz.func224 rfl (by kernel_rfl) ?_;refine fA [0,1,2] 0 (akr _) (s':=⟨32,[(0,(eD v1)),(1,(aq (2:Int))),(2,(.d (.v (.int .u64 v2))))],[]⟩) (by kernel_rfl) ?_;refine ar ?_;refine rg [] [(3,(.ptr 0 0)),(6,(.ptr 1 0))] (Bo v1 []) (by kernel_rfl) ?_;refine ar ?_;refine rg [] [(7,(.d (.v (.int .u64 (0:Int)))))] (Bo v1 []) (by kernel_rfl) ?_;refine ar ?_;refine ar ?_;refine rg [] [(8,(aq (2:Int)))] (Bo v1 []) (by kernel_rfl) ?_;refine dt ?_;refine Cc 8 ?_;refine gd ?_;refine ar ?_;refine ar ?_;refine rg [] [(12,(ax (decide ((2:Int)<6))))] (Bo v1 []) (by kernel_rfl) ?_;refine cQ (t:=(decide ((2:Int)<6))) (by kernel_rfl) rfl ?_;refine cx ?_;refine aI ?_;refine ar ?_;refine dt ?_;refine ar ?_;obtain⟨v3,J,U⟩:=bg U;refine rg [(4,⟨_,_, .lt (z:=2) (n:=6) (by decide) (by decide)⟩),(13,⟨_,_, .nz (b:=4294967296) (by decide)⟩),(26,⟨_,_, .eq (congrArg (λz=>AV.d (.v (.int .u64 z))) (akz J))⟩)] [(9,(.d (.v (.int .u64 v3))))] (Bo v1 []) (by kernel_rfl) ?_;refine ar ?_;refine rg [(7,⟨_,_, .nz (b:=4294967296) (by decide)⟩),(10,⟨_,_, .lt (z:=2) (n:=6) (by decide) (by decide)⟩)] [] (wL v1 v3 []) (by kernel_rfl) ?_;refine ar ?_;obtain⟨v4,h2,U⟩:=bg U
 refine rg [(4,⟨_,_, .nz (b:=4294967296) (by decide)⟩),(8,⟨_,_, .eq (congrArg (λz=>AV.d (.v (.int .u64 z))) (akz h2))⟩)] [(7,(.d (.v (.int .u64 v4))))] (wL v1 v3 []) (by kernel_rfl) ?_;obtain⟨v5,h3,U⟩:=bg U;refine re [(4,⟨_,_, .nz (b:=4294967296) (by decide)⟩),(8,⟨_,_, .eq (congrArg (λz=>AV.d (.v (.int .u64 z))) (akz h3))⟩)] [(2,(.d (.v (.int .u64 v5)))),(30,(.d (.v (.int .u64 (IntKind.u64.wrap ((v2).tdiv (4294967296:Int))))))),(29,(.d (.v (.int .u64 v2))))] (wL v1 v3 []) (by kernel_rfl) ?_;refine dX ?_;refine aI ?_;refine re [(5,⟨_,_, .eq (x:=(aq (aK ((2:Int)+(1:Int))))) (y:=(aq (3:Int))) (by kernel_rfl)⟩)] [(8,(aq (3:Int))),(14,(aq (3:Int))),(13,(aq (2:Int)))] (wL v1 v3 []) (by kernel_rfl) ?_;refine aI ?_;refine gd ?_;refine ar ?_;refine ar ?_;refine rg [] [(12,(ax (decide ((3:Int)<6))))] (wL v1 v3 []) (by kernel_rfl) ?_;refine cQ (t:=(decide ((3:Int)<6))) (by kernel_rfl) rfl ?_;refine cx ?_;refine aI ?_;refine ar ?_;refine dt ?_;refine ar ?_;obtain⟨v6,h4,U⟩:=bg U;refine rg [(4,⟨_,_, .lt (z:=3) (n:=6) (by decide) (by decide)⟩),(13,⟨_,_, .nz (b:=4294967296) (by decide)⟩),(26,⟨_,_, .eq (congrArg (λz=>AV.d (.v (.int .u64 z))) (akz h4))⟩)] [(9,(.d (.v (.int .u64 v6))))] (wL v1 v3 []) (by kernel_rfl) ?_
 refine ar ?_;refine rg [(7,⟨_,_, .nz (b:=4294967296) (by decide)⟩),(10,⟨_,_, .lt (z:=3) (n:=6) (by decide) (by decide)⟩)] [] (xo v1 v3 v6 []) (by kernel_rfl) ?_;refine ar ?_;obtain⟨v7,h5,U⟩:=bg U;refine rg [(4,⟨_,_, .nz (b:=4294967296) (by decide)⟩),(8,⟨_,_, .eq (congrArg (λz=>AV.d (.v (.int .u64 z))) (akz h5))⟩)] [(7,(.d (.v (.int .u64 v7))))] (xo v1 v3 v6 []) (by kernel_rfl) ?_;obtain⟨v8,h6,U⟩:=bg U;refine re [(4,⟨_,_, .nz (b:=4294967296) (by decide)⟩),(8,⟨_,_, .eq (congrArg (λz=>AV.d (.v (.int .u64 z))) (akz h6))⟩)] [(2,(.d (.v (.int .u64 v8)))),(30,(.d (.v (.int .u64 (IntKind.u64.wrap ((v5).tdiv (4294967296:Int))))))),(29,(.d (.v (.int .u64 v5))))] (xo v1 v3 v6 []) (by kernel_rfl) ?_;refine dX ?_;refine aI ?_;refine re [(5,⟨_,_, .eq (x:=(aq (aK ((3:Int)+(1:Int))))) (y:=(aq (4:Int))) (by kernel_rfl)⟩)] [(8,(aq (4:Int))),(14,(aq (4:Int))),(13,(aq (3:Int)))] (xo v1 v3 v6 []) (by kernel_rfl) ?_;refine aI ?_;refine gd ?_;refine ar ?_;refine ar ?_;refine rg [] [(12,(ax (decide ((4:Int)<6))))] (xo v1 v3 v6 []) (by kernel_rfl) ?_;refine cQ (t:=(decide ((4:Int)<6))) (by kernel_rfl) rfl ?_;refine cx ?_;refine aI ?_;refine ar ?_;refine dt ?_;refine ar ?_;obtain⟨v9,h7,U⟩:=bg U
 refine rg [(4,⟨_,_, .lt (z:=4) (n:=6) (by decide) (by decide)⟩),(13,⟨_,_, .nz (b:=4294967296) (by decide)⟩),(26,⟨_,_, .eq (congrArg (λz=>AV.d (.v (.int .u64 z))) (akz h7))⟩)] [(9,(.d (.v (.int .u64 v9))))] (xo v1 v3 v6 []) (by kernel_rfl) ?_;refine ar ?_;refine rg [(7,⟨_,_, .nz (b:=4294967296) (by decide)⟩),(10,⟨_,_, .lt (z:=4) (n:=6) (by decide) (by decide)⟩)] [] (zK v1 v3 v6 v9 []) (by kernel_rfl) ?_;refine ar ?_;obtain⟨v10,h8,U⟩:=bg U;refine rg [(4,⟨_,_, .nz (b:=4294967296) (by decide)⟩),(8,⟨_,_, .eq (congrArg (λz=>AV.d (.v (.int .u64 z))) (akz h8))⟩)] [(7,(.d (.v (.int .u64 v10))))] (zK v1 v3 v6 v9 []) (by kernel_rfl) ?_;obtain⟨v11,h9,U⟩:=bg U;refine re [(4,⟨_,_, .nz (b:=4294967296) (by decide)⟩),(8,⟨_,_, .eq (congrArg (λz=>AV.d (.v (.int .u64 z))) (akz h9))⟩)] [(2,(.d (.v (.int .u64 v11)))),(30,(.d (.v (.int .u64 (IntKind.u64.wrap ((v8).tdiv (4294967296:Int))))))),(29,(.d (.v (.int .u64 v8))))] (zK v1 v3 v6 v9 []) (by kernel_rfl) ?_;refine dX ?_;refine aI ?_;refine re [(5,⟨_,_, .eq (x:=(aq (aK ((4:Int)+(1:Int))))) (y:=(aq (5:Int))) (by kernel_rfl)⟩)] [(8,(aq (5:Int))),(14,(aq (5:Int))),(13,(aq (4:Int)))] (zK v1 v3 v6 v9 []) (by kernel_rfl) ?_;refine aI ?_;refine gd ?_;refine ar ?_;refine ar ?_
 refine rg [] [(12,(ax (decide ((5:Int)<6))))] (zK v1 v3 v6 v9 []) (by kernel_rfl) ?_;refine cQ (t:=(decide ((5:Int)<6))) (by kernel_rfl) rfl ?_;refine cx ?_;refine aI ?_;refine ar ?_;refine dt ?_;refine ar ?_;obtain⟨v12,aO,U⟩:=bg U;refine rg [(4,⟨_,_, .lt (z:=5) (n:=6) (by decide) (by decide)⟩),(13,⟨_,_, .nz (b:=4294967296) (by decide)⟩),(26,⟨_,_, .eq (congrArg (λz=>AV.d (.v (.int .u64 z))) (akz aO))⟩)] [(9,(.d (.v (.int .u64 v12))))] (zK v1 v3 v6 v9 []) (by kernel_rfl) ?_;refine ar ?_;refine rg [(7,⟨_,_, .nz (b:=4294967296) (by decide)⟩),(10,⟨_,_, .lt (z:=5) (n:=6) (by decide) (by decide)⟩)] [] (C7 v1 v3 v6 v9 v12 []) (by kernel_rfl) ?_;refine ar ?_;obtain⟨aA,aY,U⟩:=bg U;refine rg [(4,⟨_,_, .nz (b:=4294967296) (by decide)⟩),(8,⟨_,_, .eq (congrArg (λz=>AV.d (.v (.int .u64 z))) (akz aY))⟩)] [(7,(.d (.v (.int .u64 aA))))] (C7 v1 v3 v6 v9 v12 []) (by kernel_rfl) ?_;obtain⟨aE,aT,U⟩:=bg U;refine re [(4,⟨_,_, .nz (b:=4294967296) (by decide)⟩),(8,⟨_,_, .eq (congrArg (λz=>AV.d (.v (.int .u64 z))) (akz aT))⟩)] [(2,(.d (.v (.int .u64 aE)))),(30,(.d (.v (.int .u64 (IntKind.u64.wrap ((v11).tdiv (4294967296:Int))))))),(29,(.d (.v (.int .u64 v11))))] (C7 v1 v3 v6 v9 v12 []) (by kernel_rfl) ?_
 refine dX ?_;refine aI ?_;refine re [(5,⟨_,_, .eq (x:=(aq (aK ((5:Int)+(1:Int))))) (y:=(aq (6:Int))) (by kernel_rfl)⟩)] [(8,(aq (6:Int))),(14,(aq (6:Int))),(13,(aq (5:Int)))] (C7 v1 v3 v6 v9 v12 []) (by kernel_rfl) ?_;refine aI ?_;refine gd ?_;refine ar ?_;refine ar ?_;refine rg [] [(12,(ax (decide ((6:Int)<6))))] (C7 v1 v3 v6 v9 v12 []) (by kernel_rfl) ?_;refine dw (t:=(decide ((6:Int)<6))) (by kernel_rfl) rfl ?_;refine kR (gO (gO (lS rfl ?_)));refine aI ?_;refine ar ?_;refine rg [] [] [.cells [(.d (.v (.int .u64 v1.cu))),(.d (.v (.int .u64 v1.cC))),(.d (.v (.int .u64 ((v3).tmod (4294967296:Int))))),(.d (.v (.int .u64 ((v6).tmod (4294967296:Int))))),(.d (.v (.int .u64 ((v9).tmod (4294967296:Int))))),(.d (.v (.int .u64 ((v12).tmod (4294967296:Int)))))], .cells [(.d (.v (.int .u64 v1.cu))),(.d (.v (.int .u64 v1.cC))),(.d (.v (.int .u64 ((v3).tmod (4294967296:Int))))),(.d (.v (.int .u64 ((v6).tmod (4294967296:Int))))),(.d (.v (.int .u64 ((v9).tmod (4294967296:Int))))),(.d (.v (.int .u64 ((v12).tmod (4294967296:Int)))))]] (by kernel_rfl) ?_;refine cV ?_;have hr:=akz U;subst hr;exact fa (by kernel_rfl)
def wq(N:Nat)(v1:cm)(v2:Int)(v3:Int):ak6 cm:=
 Option.bind (AK N v1 (IntKind.u64.wrap (((v2).tmod (4294967296:Int))*((v3).tmod (4294967296:Int))))) λv4=>
 Option.bind (yO N v4 (IntKind.u64.wrap (((v2).tmod (4294967296:Int))*(IntKind.u64.wrap ((v3).tdiv (4294967296:Int)))))) λv5=>
 Option.bind (yO N v5 (IntKind.u64.wrap ((IntKind.u64.wrap ((v2).tdiv (4294967296:Int)))*((v3).tmod (4294967296:Int))))) λv6=>
 Option.bind (Ag N v6 (IntKind.u64.wrap ((IntKind.u64.wrap ((v2).tdiv (4294967296:Int)))*(IntKind.u64.wrap ((v3).tdiv (4294967296:Int)))))) λv7=>
 some v7
theorem Gy{N v1 v2 v3}:KO 142 [(eD v1),(.d (.v (.int .u64 v2))),(.d (.v (.int .u64 v3)))] eD (wq N v1 v2 v3):=
 fw Tryz.func142 (au λv4 J=>au λv5 h2=>au λv6 h3=>au λv7 h4=>gR [[],[(4,⟨_,_, .nz (b:=4294967296) (by decide)⟩),(10,⟨_,_, .nz (b:=4294967296) (by decide)⟩),(16,⟨_,_, .nz (b:=4294967296) (by decide)⟩),(22,⟨_,_, .nz (b:=4294967296) (by decide)⟩)],[(13,cL (aaO J))],[(13,cL (RT h2))],[(13,cL (RT h3))],[(13,cL (ai9 h4))]])
def Cn(N:Nat)(v2:ak5):ak4 aX->Nat->ak6 (Int64×Bool)
 |[],_=>
  some ((0:Int64),false)
 |v5::v6,v3=>
  bif (bL v5.aF==bL v2)then
   some (v5.dS,true)
  else
   (Cn N v2 v6 (v3+1))
def MM(N:Nat)(v1:ak4 aX)(v2:ak5):ak6 (Int64×Bool):=
 Cn N v2 v1 0
theorem ajW{N v1 v2}:KO 144 [(.d (.sl (aN v1))),(c6 v2)] (λr=> .aW [(bG r.1),(ax r.2)]) (MM N v1 v2):=
 fw Tryz.func144 (gA [[],[]] (gT ve 0 v1 λh2=>dP 1 [] [0,1,6] 0 (λv3=>⟨25,[(0,(.d (.sl (aN v1)))),(1,(c6 v2)),(6,(aq (v3:Int)))],[]⟩) (λv3 h3 f1=>gR [[(7,oL v1 nI)],[f0 (bK h3)],[]]) (λv3 v5 v6 h3 f1 aG=>gA [[(7,oL v1 nI)],[t0 (bJ h3)],[(7,oE (qb (bm h3)))]] (aw (λh4=>gR [[t0 h4],[(7,oE (qb (bm h3)))]]) λh4=>gb aG () [[f0 h4],[(5,oq (bS h3 rfl h2))]] h3))))
def BC(N:Nat)(v1:cm)(v2:cm):ak6 Bool:=
 bif (v1.cF !=v2.cF)then
  some (decide (v1.cF<v2.cF))
 else
  bif (v1.cJ !=v2.cJ)then
   some (decide (v1.cJ<v2.cJ))
  else
   bif (v1.cS !=v2.cS)then
    some (decide (v1.cS<v2.cS))
   else
    bif (v1.cX !=v2.cX)then
     some (decide (v1.cX<v2.cX))
    else
     bif (v1.cC !=v2.cC)then
      some (decide (v1.cC<v2.cC))
     else
      bif (v1.cu !=v2.cu)then
       some (decide (v1.cu<v2.cu))
      else
       some false
def gK(v1:cm)(v2:cm)(l:ak4 ao):ak4 ao:= .cells (eD v1).cells:: .cells (eD v2).cells::l
theorem aiX{N v1 v2 r}(U:BC N v1 v2=some r):KF 145 [(eD v1),(eD v2)] (ax r):=by
 rw[BC]at U;refine lU Tryz.func145 rfl (by kernel_rfl) ?_;refine fA [0,1] 0 (akr _) (s':=⟨24,[(0,(eD v1)),(1,(eD v2))],[]⟩) (by kernel_rfl) ?_;refine ar ?_;refine rg [] [(2,(.ptr 0 0)),(3,(.ptr 1 0))] (gK v1 v2 []) (by kernel_rfl) ?_;refine ar ?_;refine ar ?_;refine rg [] [(5,(aq (5:Int)))] (gK v1 v2 []) (by kernel_rfl) ?_;refine dt ?_;refine Cc 8 ?_;refine gd ?_;refine ar ?_;refine ar ?_;refine rg [] [(7,(ax (decide ((5:Int)>=0))))] (gK v1 v2 []) (by kernel_rfl) ?_;refine cQ (t:=(decide ((5:Int)>=0))) (by kernel_rfl) rfl ?_;refine cx ?_;refine aI ?_;refine ar ?_;refine dt ?_;refine ar ?_;refine rd bB (by kernel_rfl) [(4,⟨_,_, .lt (z:=5) (n:=6) (by decide) (by decide)⟩),(13,⟨_,_, .lt (z:=5) (n:=6) (by decide) (by decide)⟩)] [(16,(ax (v1.cF !=v2.cF)))] (gK v1 v2 []) (by kernel_rfl) ?_;rcases dC (v1.cF !=v2.cF)with J|J
 ·replace U:=(dc J).symm.trans U;refine cQ (t:=(v1.cF !=v2.cF)) (by kernel_rfl) J ?_;refine ar ?_;refine rd bB (by kernel_rfl) [(4,⟨_,_, .lt (z:=5) (n:=6) (by decide) (by decide)⟩),(13,⟨_,_, .lt (z:=5) (n:=6) (by decide) (by decide)⟩)] [(4,(ax (decide (v1.cF<v2.cF))))] (gK v1 v2 []) (by kernel_rfl) ?_;refine cV (dW (cU (cU (dW (cU ?_)))));have hr:=akz U;subst hr;exact fa (by kernel_rfl)
 replace U:=(dG J).symm.trans U;refine dw (t:=(v1.cF !=v2.cF)) (by kernel_rfl) J ?_;refine cx ?_;refine dX ?_;refine aI ?_;refine re [(5,⟨_,_, .eq (x:=(aq (aK ((5:Int)-(1:Int))))) (y:=(aq (4:Int))) (by kernel_rfl)⟩)] [(5,(aq (4:Int))),(9,(aq (4:Int))),(8,(aq (5:Int)))] (gK v1 v2 []) (by kernel_rfl) ?_;refine aI ?_;refine gd ?_;refine ar ?_;refine ar ?_;refine rg [] [(7,(ax (decide ((4:Int)>=0))))] (gK v1 v2 []) (by kernel_rfl) ?_;refine cQ (t:=(decide ((4:Int)>=0))) (by kernel_rfl) rfl ?_;refine cx ?_;refine aI ?_;refine ar ?_;refine dt ?_;refine ar ?_;refine rd bB (by kernel_rfl) [(4,⟨_,_, .lt (z:=4) (n:=6) (by decide) (by decide)⟩),(13,⟨_,_, .lt (z:=4) (n:=6) (by decide) (by decide)⟩)] [(16,(ax (v1.cJ !=v2.cJ)))] (gK v1 v2 []) (by kernel_rfl) ?_;rcases dC (v1.cJ !=v2.cJ)with h2|h2
 ·replace U:=(dc h2).symm.trans U;refine cQ (t:=(v1.cJ !=v2.cJ)) (by kernel_rfl) h2 ?_;refine ar ?_;refine rd bB (by kernel_rfl) [(4,⟨_,_, .lt (z:=4) (n:=6) (by decide) (by decide)⟩),(13,⟨_,_, .lt (z:=4) (n:=6) (by decide) (by decide)⟩)] [(4,(ax (decide (v1.cJ<v2.cJ))))] (gK v1 v2 []) (by kernel_rfl) ?_;refine cV (dW (cU (cU (dW (cU ?_)))));have hr:=akz U;subst hr;exact fa (by kernel_rfl)
 replace U:=(dG h2).symm.trans U;refine dw (t:=(v1.cJ !=v2.cJ)) (by kernel_rfl) h2 ?_;refine cx ?_;refine dX ?_;refine aI ?_;refine re [(5,⟨_,_, .eq (x:=(aq (aK ((4:Int)-(1:Int))))) (y:=(aq (3:Int))) (by kernel_rfl)⟩)] [(5,(aq (3:Int))),(9,(aq (3:Int))),(8,(aq (4:Int)))] (gK v1 v2 []) (by kernel_rfl) ?_;refine aI ?_;refine gd ?_;refine ar ?_;refine ar ?_;refine rg [] [(7,(ax (decide ((3:Int)>=0))))] (gK v1 v2 []) (by kernel_rfl) ?_;refine cQ (t:=(decide ((3:Int)>=0))) (by kernel_rfl) rfl ?_;refine cx ?_;refine aI ?_;refine ar ?_;refine dt ?_;refine ar ?_;refine rd bB (by kernel_rfl) [(4,⟨_,_, .lt (z:=3) (n:=6) (by decide) (by decide)⟩),(13,⟨_,_, .lt (z:=3) (n:=6) (by decide) (by decide)⟩)] [(16,(ax (v1.cS !=v2.cS)))] (gK v1 v2 []) (by kernel_rfl) ?_;rcases dC (v1.cS !=v2.cS)with h3|h3
 ·replace U:=(dc h3).symm.trans U;refine cQ (t:=(v1.cS !=v2.cS)) (by kernel_rfl) h3 ?_;refine ar ?_;refine rd bB (by kernel_rfl) [(4,⟨_,_, .lt (z:=3) (n:=6) (by decide) (by decide)⟩),(13,⟨_,_, .lt (z:=3) (n:=6) (by decide) (by decide)⟩)] [(4,(ax (decide (v1.cS<v2.cS))))] (gK v1 v2 []) (by kernel_rfl) ?_;refine cV (dW (cU (cU (dW (cU ?_)))));have hr:=akz U;subst hr;exact fa (by kernel_rfl)
 replace U:=(dG h3).symm.trans U;refine dw (t:=(v1.cS !=v2.cS)) (by kernel_rfl) h3 ?_;refine cx ?_;refine dX ?_;refine aI ?_;refine re [(5,⟨_,_, .eq (x:=(aq (aK ((3:Int)-(1:Int))))) (y:=(aq (2:Int))) (by kernel_rfl)⟩)] [(5,(aq (2:Int))),(9,(aq (2:Int))),(8,(aq (3:Int)))] (gK v1 v2 []) (by kernel_rfl) ?_;refine aI ?_;refine gd ?_;refine ar ?_;refine ar ?_;refine rg [] [(7,(ax (decide ((2:Int)>=0))))] (gK v1 v2 []) (by kernel_rfl) ?_;refine cQ (t:=(decide ((2:Int)>=0))) (by kernel_rfl) rfl ?_;refine cx ?_;refine aI ?_;refine ar ?_;refine dt ?_;refine ar ?_;refine rd bB (by kernel_rfl) [(4,⟨_,_, .lt (z:=2) (n:=6) (by decide) (by decide)⟩),(13,⟨_,_, .lt (z:=2) (n:=6) (by decide) (by decide)⟩)] [(16,(ax (v1.cX !=v2.cX)))] (gK v1 v2 []) (by kernel_rfl) ?_;rcases dC (v1.cX !=v2.cX)with h4|h4
 ·replace U:=(dc h4).symm.trans U;refine cQ (t:=(v1.cX !=v2.cX)) (by kernel_rfl) h4 ?_;refine ar ?_;refine rd bB (by kernel_rfl) [(4,⟨_,_, .lt (z:=2) (n:=6) (by decide) (by decide)⟩),(13,⟨_,_, .lt (z:=2) (n:=6) (by decide) (by decide)⟩)] [(4,(ax (decide (v1.cX<v2.cX))))] (gK v1 v2 []) (by kernel_rfl) ?_;refine cV (dW (cU (cU (dW (cU ?_)))));have hr:=akz U;subst hr;exact fa (by kernel_rfl)
 replace U:=(dG h4).symm.trans U;refine dw (t:=(v1.cX !=v2.cX)) (by kernel_rfl) h4 ?_;refine cx ?_;refine dX ?_;refine aI ?_;refine re [(5,⟨_,_, .eq (x:=(aq (aK ((2:Int)-(1:Int))))) (y:=(aq (1:Int))) (by kernel_rfl)⟩)] [(5,(aq (1:Int))),(9,(aq (1:Int))),(8,(aq (2:Int)))] (gK v1 v2 []) (by kernel_rfl) ?_;refine aI ?_;refine gd ?_;refine ar ?_;refine ar ?_;refine rg [] [(7,(ax (decide ((1:Int)>=0))))] (gK v1 v2 []) (by kernel_rfl) ?_;refine cQ (t:=(decide ((1:Int)>=0))) (by kernel_rfl) rfl ?_;refine cx ?_;refine aI ?_;refine ar ?_;refine dt ?_;refine ar ?_;refine rd bB (by kernel_rfl) [(4,⟨_,_, .lt (z:=1) (n:=6) (by decide) (by decide)⟩),(13,⟨_,_, .lt (z:=1) (n:=6) (by decide) (by decide)⟩)] [(16,(ax (v1.cC !=v2.cC)))] (gK v1 v2 []) (by kernel_rfl) ?_;rcases dC (v1.cC !=v2.cC)with h5|h5
 ·replace U:=(dc h5).symm.trans U;refine cQ (t:=(v1.cC !=v2.cC)) (by kernel_rfl) h5 ?_;refine ar ?_;refine rd bB (by kernel_rfl) [(4,⟨_,_, .lt (z:=1) (n:=6) (by decide) (by decide)⟩),(13,⟨_,_, .lt (z:=1) (n:=6) (by decide) (by decide)⟩)] [(4,(ax (decide (v1.cC<v2.cC))))] (gK v1 v2 []) (by kernel_rfl) ?_;refine cV (dW (cU (cU (dW (cU ?_)))));have hr:=akz U;subst hr;exact fa (by kernel_rfl)
 replace U:=(dG h5).symm.trans U;refine dw (t:=(v1.cC !=v2.cC)) (by kernel_rfl) h5 ?_;refine cx ?_;refine dX ?_;refine aI ?_;refine re [(5,⟨_,_, .eq (x:=(aq (aK ((1:Int)-(1:Int))))) (y:=(aq (0:Int))) (by kernel_rfl)⟩)] [(5,(aq (0:Int))),(9,(aq (0:Int))),(8,(aq (1:Int)))] (gK v1 v2 []) (by kernel_rfl) ?_;refine aI ?_;refine gd ?_;refine ar ?_;refine ar ?_;refine rg [] [(7,(ax (decide ((0:Int)>=0))))] (gK v1 v2 []) (by kernel_rfl) ?_;refine cQ (t:=(decide ((0:Int)>=0))) (by kernel_rfl) rfl ?_;refine cx ?_;refine aI ?_;refine ar ?_;refine dt ?_;refine ar ?_;refine rd bB (by kernel_rfl) [(4,⟨_,_, .lt (z:=0) (n:=6) (by decide) (by decide)⟩),(13,⟨_,_, .lt (z:=0) (n:=6) (by decide) (by decide)⟩)] [(16,(ax (v1.cu !=v2.cu)))] (gK v1 v2 []) (by kernel_rfl) ?_;rcases dC (v1.cu !=v2.cu)with h6|h6
 ·replace U:=(dc h6).symm.trans U;refine cQ (t:=(v1.cu !=v2.cu)) (by kernel_rfl) h6 ?_;refine ar ?_;refine rd bB (by kernel_rfl) [(4,⟨_,_, .lt (z:=0) (n:=6) (by decide) (by decide)⟩),(13,⟨_,_, .lt (z:=0) (n:=6) (by decide) (by decide)⟩)] [(4,(ax (decide (v1.cu<v2.cu))))] (gK v1 v2 []) (by kernel_rfl) ?_;refine cV (dW (cU (cU (dW (cU ?_)))));have hr:=akz U;subst hr;exact fa (by kernel_rfl)
 replace U:=(dG h6).symm.trans U;refine dw (t:=(v1.cu !=v2.cu)) (by kernel_rfl) h6 ?_;refine cx ?_;refine dX ?_;refine aI ?_;refine re [(5,⟨_,_, .eq (x:=(aq (aK ((0:Int)-(1:Int))))) (y:=(aq (-1:Int))) (by kernel_rfl)⟩)] [(5,(aq (-1:Int))),(9,(aq (-1:Int))),(8,(aq (0:Int)))] (gK v1 v2 []) (by kernel_rfl) ?_;refine aI ?_;refine gd ?_;refine ar ?_;refine ar ?_;refine rg [] [(7,(ax (decide ((-1:Int)>=0))))] (gK v1 v2 []) (by kernel_rfl) ?_;refine dw (t:=(decide ((-1:Int)>=0))) (by kernel_rfl) rfl ?_;refine kR (gO (gO (lS rfl ?_)));refine aI ?_;refine ar ?_;refine rg [] [(4,(ax false))] (gK v1 v2 []) (by kernel_rfl) ?_;refine cV ?_;have hr:=akz U;subst hr;exact fa (by kernel_rfl)
def zu(N:Nat)(v4:Int)(v2:cm)(v6:Int)(v3:Int)(v8:Int)(v5:Int)(v10:Int)(v7:Int)(v12:Int)(v9:Int)(v11:Int)(aA:Int)(aE:Int):ak6 cm:=
 some (⟨(IntKind.u64.wrap (v4-(IntKind.u64.wrap (v2.cu+(0:Int))))),(IntKind.u64.wrap (v6-(IntKind.u64.wrap (v2.cC+v3)))),(IntKind.u64.wrap (v8-(IntKind.u64.wrap (v2.cX+v5)))),(IntKind.u64.wrap (v10-(IntKind.u64.wrap (v2.cS+v7)))),(IntKind.u64.wrap (v12-(IntKind.u64.wrap (v2.cJ+v9)))),(IntKind.u64.wrap (aE-(IntKind.u64.wrap (v2.cF+v11))))⟩:cm)
def zt(N:Nat)(v1:cm)(v2:cm)(v4:Int)(v6:Int)(v3:Int)(v8:Int)(v5:Int)(v10:Int)(v7:Int)(v9:Int)(v11:Int)(v12:Int):ak6 cm:=
 bif (decide (v1.cF<(IntKind.u64.wrap (v2.cF+v11))))then
  zu N v4 v2 v6 v3 v8 v5 v10 v7 v12 v9 v11 (1:Int) (IntKind.u64.wrap (v1.cF+(4294967296:Int)))
 else
  zu N v4 v2 v6 v3 v8 v5 v10 v7 v12 v9 v11 (0:Int) v1.cF
def xU(N:Nat)(v1:cm)(v2:cm)(v4:Int)(v6:Int)(v3:Int)(v8:Int)(v5:Int)(v7:Int)(v9:Int)(v10:Int):ak6 cm:=
 bif (decide (v1.cJ<(IntKind.u64.wrap (v2.cJ+v9))))then
  zt N v1 v2 v4 v6 v3 v8 v5 v10 v7 v9 (1:Int) (IntKind.u64.wrap (v1.cJ+(4294967296:Int)))
 else
  zt N v1 v2 v4 v6 v3 v8 v5 v10 v7 v9 (0:Int) v1.cJ
def yT(N:Nat)(v1:cm)(v2:cm)(v4:Int)(v6:Int)(v3:Int)(v5:Int)(v7:Int)(v8:Int):ak6 cm:=
 bif (decide (v1.cS<(IntKind.u64.wrap (v2.cS+v7))))then
  xU N v1 v2 v4 v6 v3 v8 v5 v7 (1:Int) (IntKind.u64.wrap (v1.cS+(4294967296:Int)))
 else
  xU N v1 v2 v4 v6 v3 v8 v5 v7 (0:Int) v1.cS
def yW(N:Nat)(v1:cm)(v2:cm)(v4:Int)(v3:Int)(v5:Int)(v6:Int):ak6 cm:=
 bif (decide (v1.cX<(IntKind.u64.wrap (v2.cX+v5))))then
  yT N v1 v2 v4 v6 v3 v5 (1:Int) (IntKind.u64.wrap (v1.cX+(4294967296:Int)))
 else
  yT N v1 v2 v4 v6 v3 v5 (0:Int) v1.cX
def xA(N:Nat)(v1:cm)(v2:cm)(v3:Int)(v4:Int):ak6 cm:=
 bif (decide (v1.cC<(IntKind.u64.wrap (v2.cC+v3))))then
  yW N v1 v2 v4 v3 (1:Int) (IntKind.u64.wrap (v1.cC+(4294967296:Int)))
 else
  yW N v1 v2 v4 v3 (0:Int) v1.cC
def zD(N:Nat)(v1:cm)(v2:cm):ak6 cm:=
 bif (decide (v1.cu<(IntKind.u64.wrap (v2.cu+(0:Int)))))then
  xA N v1 v2 (1:Int) (IntKind.u64.wrap (v1.cu+(4294967296:Int)))
 else
  xA N v1 v2 (0:Int) v1.cu
def zF(v4:Int)(v2:cm)(v6:Int)(v3:Int)(v8:Int)(v5:Int)(v10:Int)(v7:Int)(v12:Int)(v9:Int)(v1:cm)(l:ak4 ao):ak4 ao:= .cells [(.d (.v (.int .u64 (IntKind.u64.wrap (v4-(IntKind.u64.wrap (v2.cu+(0:Int)))))))),(.d (.v (.int .u64 (IntKind.u64.wrap (v6-(IntKind.u64.wrap (v2.cC+v3))))))),(.d (.v (.int .u64 (IntKind.u64.wrap (v8-(IntKind.u64.wrap (v2.cX+v5))))))),(.d (.v (.int .u64 (IntKind.u64.wrap (v10-(IntKind.u64.wrap (v2.cS+v7))))))),(.d (.v (.int .u64 (IntKind.u64.wrap (v12-(IntKind.u64.wrap (v2.cJ+v9))))))),(.d (.v (.int .u64 v1.cF)))]:: .cells (eD v2).cells:: .cells [(.d (.v (.int .u64 (0:Int)))),(.d (.v (.int .u64 (0:Int)))),(.d (.v (.int .u64 (0:Int)))),(.d (.v (.int .u64 (0:Int)))),(.d (.v (.int .u64 (0:Int)))),(.d (.v (.int .u64 (0:Int))))]::l
def wR(v4:Int)(v2:cm)(v6:Int)(v3:Int)(v8:Int)(v5:Int)(v10:Int)(v7:Int)(v1:cm)(l:ak4 ao):ak4 ao:= .cells [(.d (.v (.int .u64 (IntKind.u64.wrap (v4-(IntKind.u64.wrap (v2.cu+(0:Int)))))))),(.d (.v (.int .u64 (IntKind.u64.wrap (v6-(IntKind.u64.wrap (v2.cC+v3))))))),(.d (.v (.int .u64 (IntKind.u64.wrap (v8-(IntKind.u64.wrap (v2.cX+v5))))))),(.d (.v (.int .u64 (IntKind.u64.wrap (v10-(IntKind.u64.wrap (v2.cS+v7))))))),(.d (.v (.int .u64 v1.cJ))),(.d (.v (.int .u64 v1.cF)))]:: .cells (eD v2).cells:: .cells [(.d (.v (.int .u64 (0:Int)))),(.d (.v (.int .u64 (0:Int)))),(.d (.v (.int .u64 (0:Int)))),(.d (.v (.int .u64 (0:Int)))),(.d (.v (.int .u64 (0:Int)))),(.d (.v (.int .u64 (0:Int))))]::l
def wZ(v4:Int)(v2:cm)(v6:Int)(v3:Int)(v8:Int)(v5:Int)(v1:cm)(l:ak4 ao):ak4 ao:= .cells [(.d (.v (.int .u64 (IntKind.u64.wrap (v4-(IntKind.u64.wrap (v2.cu+(0:Int)))))))),(.d (.v (.int .u64 (IntKind.u64.wrap (v6-(IntKind.u64.wrap (v2.cC+v3))))))),(.d (.v (.int .u64 (IntKind.u64.wrap (v8-(IntKind.u64.wrap (v2.cX+v5))))))),(.d (.v (.int .u64 v1.cS))),(.d (.v (.int .u64 v1.cJ))),(.d (.v (.int .u64 v1.cF)))]:: .cells (eD v2).cells:: .cells [(.d (.v (.int .u64 (0:Int)))),(.d (.v (.int .u64 (0:Int)))),(.d (.v (.int .u64 (0:Int)))),(.d (.v (.int .u64 (0:Int)))),(.d (.v (.int .u64 (0:Int)))),(.d (.v (.int .u64 (0:Int))))]::l
def zq(v4:Int)(v2:cm)(v6:Int)(v3:Int)(v1:cm)(l:ak4 ao):ak4 ao:= .cells [(.d (.v (.int .u64 (IntKind.u64.wrap (v4-(IntKind.u64.wrap (v2.cu+(0:Int)))))))),(.d (.v (.int .u64 (IntKind.u64.wrap (v6-(IntKind.u64.wrap (v2.cC+v3))))))),(.d (.v (.int .u64 v1.cX))),(.d (.v (.int .u64 v1.cS))),(.d (.v (.int .u64 v1.cJ))),(.d (.v (.int .u64 v1.cF)))]:: .cells (eD v2).cells:: .cells [(.d (.v (.int .u64 (0:Int)))),(.d (.v (.int .u64 (0:Int)))),(.d (.v (.int .u64 (0:Int)))),(.d (.v (.int .u64 (0:Int)))),(.d (.v (.int .u64 (0:Int)))),(.d (.v (.int .u64 (0:Int))))]::l
def zR(v4:Int)(v2:cm)(v1:cm)(l:ak4 ao):ak4 ao:= .cells [(.d (.v (.int .u64 (IntKind.u64.wrap (v4-(IntKind.u64.wrap (v2.cu+(0:Int)))))))),(.d (.v (.int .u64 v1.cC))),(.d (.v (.int .u64 v1.cX))),(.d (.v (.int .u64 v1.cS))),(.d (.v (.int .u64 v1.cJ))),(.d (.v (.int .u64 v1.cF)))]:: .cells (eD v2).cells:: .cells [(.d (.v (.int .u64 (0:Int)))),(.d (.v (.int .u64 (0:Int)))),(.d (.v (.int .u64 (0:Int)))),(.d (.v (.int .u64 (0:Int)))),(.d (.v (.int .u64 (0:Int)))),(.d (.v (.int .u64 (0:Int))))]::l
def vb(v1:cm)(v2:cm)(l:ak4 ao):ak4 ao:= .cells (eD v1).cells:: .cells (eD v2).cells:: .cells [(.d (.v (.int .u64 (0:Int)))),(.d (.v (.int .u64 (0:Int)))),(.d (.v (.int .u64 (0:Int)))),(.d (.v (.int .u64 (0:Int)))),(.d (.v (.int .u64 (0:Int)))),(.d (.v (.int .u64 (0:Int))))]::l
def VU(v4:Int)(v2:cm)(v6:Int)(v3:Int)(v8:Int)(v5:Int)(v10:Int)(v7:Int)(v12:Int)(v9:Int)(aE:Int)(v11:Int)(l:ak4 ao):ak4 ao:= .cells [(.d (.v (.int .u64 (IntKind.u64.wrap (v4-(IntKind.u64.wrap (v2.cu+(0:Int)))))))),(.d (.v (.int .u64 (IntKind.u64.wrap (v6-(IntKind.u64.wrap (v2.cC+v3))))))),(.d (.v (.int .u64 (IntKind.u64.wrap (v8-(IntKind.u64.wrap (v2.cX+v5))))))),(.d (.v (.int .u64 (IntKind.u64.wrap (v10-(IntKind.u64.wrap (v2.cS+v7))))))),(.d (.v (.int .u64 (IntKind.u64.wrap (v12-(IntKind.u64.wrap (v2.cJ+v9))))))),(.d (.v (.int .u64 (IntKind.u64.wrap (aE-(IntKind.u64.wrap (v2.cF+v11)))))))]:: .cells (eD v2).cells::l
def Uh(v4:Int)(v2:cm)(v6:Int)(v3:Int)(v8:Int)(v5:Int)(v10:Int)(v7:Int)(v12:Int)(v9:Int)(v1:cm)(l:ak4 ao):ak4 ao:= .cells [(.d (.v (.int .u64 (IntKind.u64.wrap (v4-(IntKind.u64.wrap (v2.cu+(0:Int)))))))),(.d (.v (.int .u64 (IntKind.u64.wrap (v6-(IntKind.u64.wrap (v2.cC+v3))))))),(.d (.v (.int .u64 (IntKind.u64.wrap (v8-(IntKind.u64.wrap (v2.cX+v5))))))),(.d (.v (.int .u64 (IntKind.u64.wrap (v10-(IntKind.u64.wrap (v2.cS+v7))))))),(.d (.v (.int .u64 (IntKind.u64.wrap (v12-(IntKind.u64.wrap (v2.cJ+v9))))))),(.d (.v (.int .u64 (IntKind.u64.wrap (v1.cF+(4294967296:Int))))))]:: .cells (eD v2).cells:: .cells [(.d (.v (.int .u64 (0:Int)))),(.d (.v (.int .u64 (0:Int)))),(.d (.v (.int .u64 (0:Int)))),(.d (.v (.int .u64 (0:Int)))),(.d (.v (.int .u64 (0:Int)))),(.d (.v (.int .u64 (0:Int))))]::l
def QI(v4:Int)(v2:cm)(v6:Int)(v3:Int)(v8:Int)(v5:Int)(v10:Int)(v7:Int)(v1:cm)(l:ak4 ao):ak4 ao:= .cells [(.d (.v (.int .u64 (IntKind.u64.wrap (v4-(IntKind.u64.wrap (v2.cu+(0:Int)))))))),(.d (.v (.int .u64 (IntKind.u64.wrap (v6-(IntKind.u64.wrap (v2.cC+v3))))))),(.d (.v (.int .u64 (IntKind.u64.wrap (v8-(IntKind.u64.wrap (v2.cX+v5))))))),(.d (.v (.int .u64 (IntKind.u64.wrap (v10-(IntKind.u64.wrap (v2.cS+v7))))))),(.d (.v (.int .u64 (IntKind.u64.wrap (v1.cJ+(4294967296:Int)))))),(.d (.v (.int .u64 v1.cF)))]:: .cells (eD v2).cells:: .cells [(.d (.v (.int .u64 (0:Int)))),(.d (.v (.int .u64 (0:Int)))),(.d (.v (.int .u64 (0:Int)))),(.d (.v (.int .u64 (0:Int)))),(.d (.v (.int .u64 (0:Int)))),(.d (.v (.int .u64 (0:Int))))]::l
def Q7(v4:Int)(v2:cm)(v6:Int)(v3:Int)(v8:Int)(v5:Int)(v1:cm)(l:ak4 ao):ak4 ao:= .cells [(.d (.v (.int .u64 (IntKind.u64.wrap (v4-(IntKind.u64.wrap (v2.cu+(0:Int)))))))),(.d (.v (.int .u64 (IntKind.u64.wrap (v6-(IntKind.u64.wrap (v2.cC+v3))))))),(.d (.v (.int .u64 (IntKind.u64.wrap (v8-(IntKind.u64.wrap (v2.cX+v5))))))),(.d (.v (.int .u64 (IntKind.u64.wrap (v1.cS+(4294967296:Int)))))),(.d (.v (.int .u64 v1.cJ))),(.d (.v (.int .u64 v1.cF)))]:: .cells (eD v2).cells:: .cells [(.d (.v (.int .u64 (0:Int)))),(.d (.v (.int .u64 (0:Int)))),(.d (.v (.int .u64 (0:Int)))),(.d (.v (.int .u64 (0:Int)))),(.d (.v (.int .u64 (0:Int)))),(.d (.v (.int .u64 (0:Int))))]::l
def Uo(v4:Int)(v2:cm)(v6:Int)(v3:Int)(v1:cm)(l:ak4 ao):ak4 ao:= .cells [(.d (.v (.int .u64 (IntKind.u64.wrap (v4-(IntKind.u64.wrap (v2.cu+(0:Int)))))))),(.d (.v (.int .u64 (IntKind.u64.wrap (v6-(IntKind.u64.wrap (v2.cC+v3))))))),(.d (.v (.int .u64 (IntKind.u64.wrap (v1.cX+(4294967296:Int)))))),(.d (.v (.int .u64 v1.cS))),(.d (.v (.int .u64 v1.cJ))),(.d (.v (.int .u64 v1.cF)))]:: .cells (eD v2).cells:: .cells [(.d (.v (.int .u64 (0:Int)))),(.d (.v (.int .u64 (0:Int)))),(.d (.v (.int .u64 (0:Int)))),(.d (.v (.int .u64 (0:Int)))),(.d (.v (.int .u64 (0:Int)))),(.d (.v (.int .u64 (0:Int))))]::l
def Xj(v4:Int)(v2:cm)(v1:cm)(l:ak4 ao):ak4 ao:= .cells [(.d (.v (.int .u64 (IntKind.u64.wrap (v4-(IntKind.u64.wrap (v2.cu+(0:Int)))))))),(.d (.v (.int .u64 (IntKind.u64.wrap (v1.cC+(4294967296:Int)))))),(.d (.v (.int .u64 v1.cX))),(.d (.v (.int .u64 v1.cS))),(.d (.v (.int .u64 v1.cJ))),(.d (.v (.int .u64 v1.cF)))]:: .cells (eD v2).cells:: .cells [(.d (.v (.int .u64 (0:Int)))),(.d (.v (.int .u64 (0:Int)))),(.d (.v (.int .u64 (0:Int)))),(.d (.v (.int .u64 (0:Int)))),(.d (.v (.int .u64 (0:Int)))),(.d (.v (.int .u64 (0:Int))))]::l
def R2(v1:cm)(v2:cm)(l:ak4 ao):ak4 ao:= .cells [(.d (.v (.int .u64 (IntKind.u64.wrap (v1.cu+(4294967296:Int)))))),(.d (.v (.int .u64 v1.cC))),(.d (.v (.int .u64 v1.cX))),(.d (.v (.int .u64 v1.cS))),(.d (.v (.int .u64 v1.cJ))),(.d (.v (.int .u64 v1.cF)))]:: .cells (eD v2).cells:: .cells [(.d (.v (.int .u64 (0:Int)))),(.d (.v (.int .u64 (0:Int)))),(.d (.v (.int .u64 (0:Int)))),(.d (.v (.int .u64 (0:Int)))),(.d (.v (.int .u64 (0:Int)))),(.d (.v (.int .u64 (0:Int))))]::l
def NS(v4:Int)(v2:cm)(v6:Int)(v3:Int)(v8:Int)(v5:Int)(v10:Int)(v7:Int)(v12:Int)(v9:Int)(aE:Int)(v11:Int)(l:ak4 ao):ak4 ao:=VU v4 v2 v6 v3 v8 v5 v10 v7 v12 v9 aE v11 (.cells [(.d (.v (.int .u64 (0:Int)))),(.d (.v (.int .u64 (0:Int)))),(.d (.v (.int .u64 (0:Int)))),(.d (.v (.int .u64 (0:Int)))),(.d (.v (.int .u64 (0:Int)))),(.d (.v (.int .u64 (0:Int))))]::l)
theorem QD{N v1 v2 r}(U:zD N v1 v2=some r):KF 146 [(eD v1),(eD v2)] (eD r):=by
 rw[zD]at U;refine lU Tryz.func146 rfl (by kernel_rfl) ?_;refine fA [0,1] 0 (akr _) (s':=⟨34,[(0,(eD v1)),(1,(eD v2))],[]⟩) (by kernel_rfl) ?_;refine ar ?_;refine rg [] [(2,(.ptr 0 0)),(3,(.ptr 1 0)),(4,(.ptr 2 0))] (vb v1 v2 []) (by kernel_rfl) ?_;refine ar ?_;refine rg [] [(5,(.d (.v (.int .u64 (0:Int)))))] (vb v1 v2 []) (by kernel_rfl) ?_;refine ar ?_;refine ar ?_;refine rg [] [(6,(aq (0:Int)))] (vb v1 v2 []) (by kernel_rfl) ?_;refine dt ?_;refine Cc 8 ?_;refine gd ?_;refine ar ?_;refine ar ?_;refine rg [] [(9,(ax (decide ((0:Int)<6))))] (vb v1 v2 []) (by kernel_rfl) ?_;refine cQ (t:=(decide ((0:Int)<6))) (by kernel_rfl) rfl ?_;refine cx ?_;refine aI ?_;refine ar ?_;refine dt ?_;refine ar ?_;refine rg [(4,⟨_,_, .lt (z:=0) (n:=6) (by decide) (by decide)⟩)] [(7,(.d (.v (.int .u64 (IntKind.u64.wrap (v2.cu+(0:Int)))))))] (vb v1 v2 []) (by kernel_rfl) ?_;refine ar ?_;refine rg [] [(5,(.d (.v (.int .u64 (0:Int)))))] (vb v1 v2 []) (by kernel_rfl) ?_;refine ar ?_;refine ar ?_;refine rg [(4,⟨_,_, .lt (z:=0) (n:=6) (by decide) (by decide)⟩)] [(21,(ax (decide (v1.cu<(IntKind.u64.wrap (v2.cu+(0:Int)))))))] (vb v1 v2 []) (by kernel_rfl) ?_;refine o9 [2,3,4,5,6,7] 3 (λ((v3,v4):Int×Int)=>⟨34,[(2,(.ptr 0 0)),(3,(.ptr 1 0)),(4,(.ptr 2 0)),(5,(.d (.v (.int .u64 v3)))),(6,(aq (0:Int))),(7,(.d (.v (.int .u64 (IntKind.u64.wrap (v2.cu+(0:Int)))))))],[.cells [(.d (.v (.int .u64 v4))),(.d (.v (.int .u64 v1.cC))),(.d (.v (.int .u64 v1.cX))),(.d (.v (.int .u64 v1.cS))),(.d (.v (.int .u64 v1.cJ))),(.d (.v (.int .u64 v1.cF)))], .cells (eD v2).cells, .cells [(.d (.v (.int .u64 (0:Int)))),(.d (.v (.int .u64 (0:Int)))),(.d (.v (.int .u64 (0:Int)))),(.d (.v (.int .u64 (0:Int)))),(.d (.v (.int .u64 (0:Int)))),(.d (.v (.int .u64 (0:Int))))]]⟩) (λ((v3,v4):Int×Int)=>xA N v1 v2 v3 v4=some r) (ako rfl) ?_ ?_
 ·rcases dC (decide (v1.cu<(IntKind.u64.wrap (v2.cu+(0:Int)))))with h6|h6
  ·replace U:=(dc h6).symm.trans U;refine cQ (t:=(decide (v1.cu<(IntKind.u64.wrap (v2.cu+(0:Int)))))) (by kernel_rfl) h6 ?_;refine ar ?_;refine rg [(4,⟨_,_, .lt (z:=0) (n:=6) (by decide) (by decide)⟩),(13,⟨_,_, .lt (z:=0) (n:=6) (by decide) (by decide)⟩)] [] (R2 v1 v2 []) (by kernel_rfl) ?_;refine re [] [(5,(.d (.v (.int .u64 (1:Int)))))] (R2 v1 v2 []) (by kernel_rfl) ?_;refine aI ?_;exact⟨((1:Int),(IntKind.u64.wrap (v1.cu+(4294967296:Int)))),by kernel_rfl,U⟩
  replace U:=(dG h6).symm.trans U;refine dw (t:=(decide (v1.cu<(IntKind.u64.wrap (v2.cu+(0:Int)))))) (by kernel_rfl) h6 ?_;refine cx ?_;refine aI ?_;exact⟨((0:Int),v1.cu),by kernel_rfl,U⟩
 rintro⟨v3,v4⟩ U
 try dsimp only at U
 rw[xA]at U;refine re [(4,⟨_,_, .lt (z:=0) (n:=6) (by decide) (by decide)⟩),(16,⟨_,_, .lt (z:=0) (n:=6) (by decide) (by decide)⟩)] [(32,(.ptr 0 0)),(31,(.d (.v (.int .u64 (IntKind.u64.wrap (v4-(IntKind.u64.wrap (v2.cu+(0:Int))))))))),(30,(.d (.v (.int .u64 (IntKind.u64.wrap (v2.cu+(0:Int))))))),(29,(.d (.v (.int .u64 v4)))),(28,(.ptr 0 0)),(27,(aq (0:Int)))] (zR v4 v2 v1 []) (by kernel_rfl) ?_;refine dX ?_;refine aI ?_;refine re [(5,⟨_,_, .eq (x:=(aq (aK ((0:Int)+(1:Int))))) (y:=(aq (1:Int))) (by kernel_rfl)⟩)] [(6,(aq (1:Int))),(11,(aq (1:Int))),(10,(aq (0:Int)))] (zR v4 v2 v1 []) (by kernel_rfl) ?_;refine aI ?_;refine gd ?_;refine ar ?_;refine ar ?_;refine rg [] [(9,(ax (decide ((1:Int)<6))))] (zR v4 v2 v1 []) (by kernel_rfl) ?_;refine cQ (t:=(decide ((1:Int)<6))) (by kernel_rfl) rfl ?_;refine cx ?_;refine aI ?_;refine ar ?_;refine dt ?_;refine ar ?_;refine rg [(4,⟨_,_, .lt (z:=1) (n:=6) (by decide) (by decide)⟩)] [(7,(.d (.v (.int .u64 (IntKind.u64.wrap (v2.cC+v3))))))] (zR v4 v2 v1 []) (by kernel_rfl) ?_;refine ar ?_;refine rg [] [(5,(.d (.v (.int .u64 (0:Int)))))] (zR v4 v2 v1 []) (by kernel_rfl) ?_;refine ar ?_;refine ar ?_;refine rg [(4,⟨_,_, .lt (z:=1) (n:=6) (by decide) (by decide)⟩)] [(21,(ax (decide (v1.cC<(IntKind.u64.wrap (v2.cC+v3))))))] (zR v4 v2 v1 []) (by kernel_rfl) ?_
 refine o9 [2,3,4,5,6,7] 3 (λ((v5,v6):Int×Int)=>⟨34,[(2,(.ptr 0 0)),(3,(.ptr 1 0)),(4,(.ptr 2 0)),(5,(.d (.v (.int .u64 v5)))),(6,(aq (1:Int))),(7,(.d (.v (.int .u64 (IntKind.u64.wrap (v2.cC+v3))))))],[.cells [(.d (.v (.int .u64 (IntKind.u64.wrap (v4-(IntKind.u64.wrap (v2.cu+(0:Int)))))))),(.d (.v (.int .u64 v6))),(.d (.v (.int .u64 v1.cX))),(.d (.v (.int .u64 v1.cS))),(.d (.v (.int .u64 v1.cJ))),(.d (.v (.int .u64 v1.cF)))], .cells (eD v2).cells, .cells [(.d (.v (.int .u64 (0:Int)))),(.d (.v (.int .u64 (0:Int)))),(.d (.v (.int .u64 (0:Int)))),(.d (.v (.int .u64 (0:Int)))),(.d (.v (.int .u64 (0:Int)))),(.d (.v (.int .u64 (0:Int))))]]⟩) (λ((v5,v6):Int×Int)=>yW N v1 v2 v4 v3 v5 v6=some r) (ako rfl) ?_ ?_
 ·rcases dC (decide (v1.cC<(IntKind.u64.wrap (v2.cC+v3))))with h5|h5
  ·replace U:=(dc h5).symm.trans U;refine cQ (t:=(decide (v1.cC<(IntKind.u64.wrap (v2.cC+v3))))) (by kernel_rfl) h5 ?_;refine ar ?_;refine rg [(4,⟨_,_, .lt (z:=1) (n:=6) (by decide) (by decide)⟩),(13,⟨_,_, .lt (z:=1) (n:=6) (by decide) (by decide)⟩)] [] (Xj v4 v2 v1 []) (by kernel_rfl) ?_;refine re [] [(5,(.d (.v (.int .u64 (1:Int)))))] (Xj v4 v2 v1 []) (by kernel_rfl) ?_;refine aI ?_;exact⟨((1:Int),(IntKind.u64.wrap (v1.cC+(4294967296:Int)))),by kernel_rfl,U⟩
  replace U:=(dG h5).symm.trans U;refine dw (t:=(decide (v1.cC<(IntKind.u64.wrap (v2.cC+v3))))) (by kernel_rfl) h5 ?_;refine cx ?_;refine aI ?_;exact⟨((0:Int),v1.cC),by kernel_rfl,U⟩
 rintro⟨v5,v6⟩ U
 try dsimp only at U
 rw[yW]at U;refine re [(4,⟨_,_, .lt (z:=1) (n:=6) (by decide) (by decide)⟩),(16,⟨_,_, .lt (z:=1) (n:=6) (by decide) (by decide)⟩)] [(32,(.ptr 0 1)),(31,(.d (.v (.int .u64 (IntKind.u64.wrap (v6-(IntKind.u64.wrap (v2.cC+v3)))))))),(30,(.d (.v (.int .u64 (IntKind.u64.wrap (v2.cC+v3)))))),(29,(.d (.v (.int .u64 v6)))),(28,(.ptr 0 1)),(27,(aq (1:Int)))] (zq v4 v2 v6 v3 v1 []) (by kernel_rfl) ?_;refine dX ?_;refine aI ?_;refine re [(5,⟨_,_, .eq (x:=(aq (aK ((1:Int)+(1:Int))))) (y:=(aq (2:Int))) (by kernel_rfl)⟩)] [(6,(aq (2:Int))),(11,(aq (2:Int))),(10,(aq (1:Int)))] (zq v4 v2 v6 v3 v1 []) (by kernel_rfl) ?_;refine aI ?_;refine gd ?_;refine ar ?_;refine ar ?_;refine rg [] [(9,(ax (decide ((2:Int)<6))))] (zq v4 v2 v6 v3 v1 []) (by kernel_rfl) ?_;refine cQ (t:=(decide ((2:Int)<6))) (by kernel_rfl) rfl ?_;refine cx ?_;refine aI ?_;refine ar ?_;refine dt ?_;refine ar ?_;refine rg [(4,⟨_,_, .lt (z:=2) (n:=6) (by decide) (by decide)⟩)] [(7,(.d (.v (.int .u64 (IntKind.u64.wrap (v2.cX+v5))))))] (zq v4 v2 v6 v3 v1 []) (by kernel_rfl) ?_;refine ar ?_;refine rg [] [(5,(.d (.v (.int .u64 (0:Int)))))] (zq v4 v2 v6 v3 v1 []) (by kernel_rfl) ?_;refine ar ?_;refine ar ?_;refine rg [(4,⟨_,_, .lt (z:=2) (n:=6) (by decide) (by decide)⟩)] [(21,(ax (decide (v1.cX<(IntKind.u64.wrap (v2.cX+v5))))))] (zq v4 v2 v6 v3 v1 []) (by kernel_rfl) ?_
 refine o9 [2,3,4,5,6,7] 3 (λ((v7,v8):Int×Int)=>⟨34,[(2,(.ptr 0 0)),(3,(.ptr 1 0)),(4,(.ptr 2 0)),(5,(.d (.v (.int .u64 v7)))),(6,(aq (2:Int))),(7,(.d (.v (.int .u64 (IntKind.u64.wrap (v2.cX+v5))))))],[.cells [(.d (.v (.int .u64 (IntKind.u64.wrap (v4-(IntKind.u64.wrap (v2.cu+(0:Int)))))))),(.d (.v (.int .u64 (IntKind.u64.wrap (v6-(IntKind.u64.wrap (v2.cC+v3))))))),(.d (.v (.int .u64 v8))),(.d (.v (.int .u64 v1.cS))),(.d (.v (.int .u64 v1.cJ))),(.d (.v (.int .u64 v1.cF)))], .cells (eD v2).cells, .cells [(.d (.v (.int .u64 (0:Int)))),(.d (.v (.int .u64 (0:Int)))),(.d (.v (.int .u64 (0:Int)))),(.d (.v (.int .u64 (0:Int)))),(.d (.v (.int .u64 (0:Int)))),(.d (.v (.int .u64 (0:Int))))]]⟩) (λ((v7,v8):Int×Int)=>yT N v1 v2 v4 v6 v3 v5 v7 v8=some r) (ako rfl) ?_ ?_
 ·rcases dC (decide (v1.cX<(IntKind.u64.wrap (v2.cX+v5))))with h4|h4
  ·replace U:=(dc h4).symm.trans U;refine cQ (t:=(decide (v1.cX<(IntKind.u64.wrap (v2.cX+v5))))) (by kernel_rfl) h4 ?_;refine ar ?_;refine rg [(4,⟨_,_, .lt (z:=2) (n:=6) (by decide) (by decide)⟩),(13,⟨_,_, .lt (z:=2) (n:=6) (by decide) (by decide)⟩)] [] (Uo v4 v2 v6 v3 v1 []) (by kernel_rfl) ?_;refine re [] [(5,(.d (.v (.int .u64 (1:Int)))))] (Uo v4 v2 v6 v3 v1 []) (by kernel_rfl) ?_;refine aI ?_;exact⟨((1:Int),(IntKind.u64.wrap (v1.cX+(4294967296:Int)))),by kernel_rfl,U⟩
  replace U:=(dG h4).symm.trans U;refine dw (t:=(decide (v1.cX<(IntKind.u64.wrap (v2.cX+v5))))) (by kernel_rfl) h4 ?_;refine cx ?_;refine aI ?_;exact⟨((0:Int),v1.cX),by kernel_rfl,U⟩
 rintro⟨v7,v8⟩ U
 try dsimp only at U
 rw[yT]at U;refine re [(4,⟨_,_, .lt (z:=2) (n:=6) (by decide) (by decide)⟩),(16,⟨_,_, .lt (z:=2) (n:=6) (by decide) (by decide)⟩)] [(32,(.ptr 0 2)),(31,(.d (.v (.int .u64 (IntKind.u64.wrap (v8-(IntKind.u64.wrap (v2.cX+v5)))))))),(30,(.d (.v (.int .u64 (IntKind.u64.wrap (v2.cX+v5)))))),(29,(.d (.v (.int .u64 v8)))),(28,(.ptr 0 2)),(27,(aq (2:Int)))] (wZ v4 v2 v6 v3 v8 v5 v1 []) (by kernel_rfl) ?_;refine dX ?_;refine aI ?_;refine re [(5,⟨_,_, .eq (x:=(aq (aK ((2:Int)+(1:Int))))) (y:=(aq (3:Int))) (by kernel_rfl)⟩)] [(6,(aq (3:Int))),(11,(aq (3:Int))),(10,(aq (2:Int)))] (wZ v4 v2 v6 v3 v8 v5 v1 []) (by kernel_rfl) ?_;refine aI ?_;refine gd ?_;refine ar ?_;refine ar ?_;refine rg [] [(9,(ax (decide ((3:Int)<6))))] (wZ v4 v2 v6 v3 v8 v5 v1 []) (by kernel_rfl) ?_;refine cQ (t:=(decide ((3:Int)<6))) (by kernel_rfl) rfl ?_;refine cx ?_;refine aI ?_;refine ar ?_;refine dt ?_;refine ar ?_;refine rg [(4,⟨_,_, .lt (z:=3) (n:=6) (by decide) (by decide)⟩)] [(7,(.d (.v (.int .u64 (IntKind.u64.wrap (v2.cS+v7))))))] (wZ v4 v2 v6 v3 v8 v5 v1 []) (by kernel_rfl) ?_;refine ar ?_;refine rg [] [(5,(.d (.v (.int .u64 (0:Int)))))] (wZ v4 v2 v6 v3 v8 v5 v1 []) (by kernel_rfl) ?_;refine ar ?_;refine ar ?_;refine rg [(4,⟨_,_, .lt (z:=3) (n:=6) (by decide) (by decide)⟩)] [(21,(ax (decide (v1.cS<(IntKind.u64.wrap (v2.cS+v7))))))] (wZ v4 v2 v6 v3 v8 v5 v1 []) (by kernel_rfl) ?_
 refine o9 [2,3,4,5,6,7] 3 (λ((v9,v10):Int×Int)=>⟨34,[(2,(.ptr 0 0)),(3,(.ptr 1 0)),(4,(.ptr 2 0)),(5,(.d (.v (.int .u64 v9)))),(6,(aq (3:Int))),(7,(.d (.v (.int .u64 (IntKind.u64.wrap (v2.cS+v7))))))],[.cells [(.d (.v (.int .u64 (IntKind.u64.wrap (v4-(IntKind.u64.wrap (v2.cu+(0:Int)))))))),(.d (.v (.int .u64 (IntKind.u64.wrap (v6-(IntKind.u64.wrap (v2.cC+v3))))))),(.d (.v (.int .u64 (IntKind.u64.wrap (v8-(IntKind.u64.wrap (v2.cX+v5))))))),(.d (.v (.int .u64 v10))),(.d (.v (.int .u64 v1.cJ))),(.d (.v (.int .u64 v1.cF)))], .cells (eD v2).cells, .cells [(.d (.v (.int .u64 (0:Int)))),(.d (.v (.int .u64 (0:Int)))),(.d (.v (.int .u64 (0:Int)))),(.d (.v (.int .u64 (0:Int)))),(.d (.v (.int .u64 (0:Int)))),(.d (.v (.int .u64 (0:Int))))]]⟩) (λ((v9,v10):Int×Int)=>xU N v1 v2 v4 v6 v3 v8 v5 v7 v9 v10=some r) (ako rfl) ?_ ?_
 ·rcases dC (decide (v1.cS<(IntKind.u64.wrap (v2.cS+v7))))with h3|h3
  ·replace U:=(dc h3).symm.trans U;refine cQ (t:=(decide (v1.cS<(IntKind.u64.wrap (v2.cS+v7))))) (by kernel_rfl) h3 ?_;refine ar ?_;refine rg [(4,⟨_,_, .lt (z:=3) (n:=6) (by decide) (by decide)⟩),(13,⟨_,_, .lt (z:=3) (n:=6) (by decide) (by decide)⟩)] [] (Q7 v4 v2 v6 v3 v8 v5 v1 []) (by kernel_rfl) ?_;refine re [] [(5,(.d (.v (.int .u64 (1:Int)))))] (Q7 v4 v2 v6 v3 v8 v5 v1 []) (by kernel_rfl) ?_;refine aI ?_;exact⟨((1:Int),(IntKind.u64.wrap (v1.cS+(4294967296:Int)))),by kernel_rfl,U⟩
  replace U:=(dG h3).symm.trans U;refine dw (t:=(decide (v1.cS<(IntKind.u64.wrap (v2.cS+v7))))) (by kernel_rfl) h3 ?_;refine cx ?_;refine aI ?_;exact⟨((0:Int),v1.cS),by kernel_rfl,U⟩
 rintro⟨v9,v10⟩ U
 try dsimp only at U
 rw[xU]at U;refine re [(4,⟨_,_, .lt (z:=3) (n:=6) (by decide) (by decide)⟩),(16,⟨_,_, .lt (z:=3) (n:=6) (by decide) (by decide)⟩)] [(32,(.ptr 0 3)),(31,(.d (.v (.int .u64 (IntKind.u64.wrap (v10-(IntKind.u64.wrap (v2.cS+v7)))))))),(30,(.d (.v (.int .u64 (IntKind.u64.wrap (v2.cS+v7)))))),(29,(.d (.v (.int .u64 v10)))),(28,(.ptr 0 3)),(27,(aq (3:Int)))] (wR v4 v2 v6 v3 v8 v5 v10 v7 v1 []) (by kernel_rfl) ?_;refine dX ?_;refine aI ?_;refine re [(5,⟨_,_, .eq (x:=(aq (aK ((3:Int)+(1:Int))))) (y:=(aq (4:Int))) (by kernel_rfl)⟩)] [(6,(aq (4:Int))),(11,(aq (4:Int))),(10,(aq (3:Int)))] (wR v4 v2 v6 v3 v8 v5 v10 v7 v1 []) (by kernel_rfl) ?_;refine aI ?_;refine gd ?_;refine ar ?_;refine ar ?_;refine rg [] [(9,(ax (decide ((4:Int)<6))))] (wR v4 v2 v6 v3 v8 v5 v10 v7 v1 []) (by kernel_rfl) ?_;refine cQ (t:=(decide ((4:Int)<6))) (by kernel_rfl) rfl ?_;refine cx ?_;refine aI ?_;refine ar ?_;refine dt ?_;refine ar ?_;refine rg [(4,⟨_,_, .lt (z:=4) (n:=6) (by decide) (by decide)⟩)] [(7,(.d (.v (.int .u64 (IntKind.u64.wrap (v2.cJ+v9))))))] (wR v4 v2 v6 v3 v8 v5 v10 v7 v1 []) (by kernel_rfl) ?_;refine ar ?_;refine rg [] [(5,(.d (.v (.int .u64 (0:Int)))))] (wR v4 v2 v6 v3 v8 v5 v10 v7 v1 []) (by kernel_rfl) ?_;refine ar ?_;refine ar ?_;refine rg [(4,⟨_,_, .lt (z:=4) (n:=6) (by decide) (by decide)⟩)] [(21,(ax (decide (v1.cJ<(IntKind.u64.wrap (v2.cJ+v9))))))] (wR v4 v2 v6 v3 v8 v5 v10 v7 v1 []) (by kernel_rfl) ?_
 refine o9 [2,3,4,5,6,7] 3 (λ((v11,v12):Int×Int)=>⟨34,[(2,(.ptr 0 0)),(3,(.ptr 1 0)),(4,(.ptr 2 0)),(5,(.d (.v (.int .u64 v11)))),(6,(aq (4:Int))),(7,(.d (.v (.int .u64 (IntKind.u64.wrap (v2.cJ+v9))))))],[.cells [(.d (.v (.int .u64 (IntKind.u64.wrap (v4-(IntKind.u64.wrap (v2.cu+(0:Int)))))))),(.d (.v (.int .u64 (IntKind.u64.wrap (v6-(IntKind.u64.wrap (v2.cC+v3))))))),(.d (.v (.int .u64 (IntKind.u64.wrap (v8-(IntKind.u64.wrap (v2.cX+v5))))))),(.d (.v (.int .u64 (IntKind.u64.wrap (v10-(IntKind.u64.wrap (v2.cS+v7))))))),(.d (.v (.int .u64 v12))),(.d (.v (.int .u64 v1.cF)))], .cells (eD v2).cells, .cells [(.d (.v (.int .u64 (0:Int)))),(.d (.v (.int .u64 (0:Int)))),(.d (.v (.int .u64 (0:Int)))),(.d (.v (.int .u64 (0:Int)))),(.d (.v (.int .u64 (0:Int)))),(.d (.v (.int .u64 (0:Int))))]]⟩) (λ((v11,v12):Int×Int)=>zt N v1 v2 v4 v6 v3 v8 v5 v10 v7 v9 v11 v12=some r) (ako rfl) ?_ ?_
 ·rcases dC (decide (v1.cJ<(IntKind.u64.wrap (v2.cJ+v9))))with h2|h2
  ·replace U:=(dc h2).symm.trans U;refine cQ (t:=(decide (v1.cJ<(IntKind.u64.wrap (v2.cJ+v9))))) (by kernel_rfl) h2 ?_;refine ar ?_;refine rg [(4,⟨_,_, .lt (z:=4) (n:=6) (by decide) (by decide)⟩),(13,⟨_,_, .lt (z:=4) (n:=6) (by decide) (by decide)⟩)] [] (QI v4 v2 v6 v3 v8 v5 v10 v7 v1 []) (by kernel_rfl) ?_;refine re [] [(5,(.d (.v (.int .u64 (1:Int)))))] (QI v4 v2 v6 v3 v8 v5 v10 v7 v1 []) (by kernel_rfl) ?_;refine aI ?_;exact⟨((1:Int),(IntKind.u64.wrap (v1.cJ+(4294967296:Int)))),by kernel_rfl,U⟩
  replace U:=(dG h2).symm.trans U;refine dw (t:=(decide (v1.cJ<(IntKind.u64.wrap (v2.cJ+v9))))) (by kernel_rfl) h2 ?_;refine cx ?_;refine aI ?_;exact⟨((0:Int),v1.cJ),by kernel_rfl,U⟩
 rintro⟨v11,v12⟩ U
 try dsimp only at U
 rw[zt]at U;refine re [(4,⟨_,_, .lt (z:=4) (n:=6) (by decide) (by decide)⟩),(16,⟨_,_, .lt (z:=4) (n:=6) (by decide) (by decide)⟩)] [(32,(.ptr 0 4)),(31,(.d (.v (.int .u64 (IntKind.u64.wrap (v12-(IntKind.u64.wrap (v2.cJ+v9)))))))),(30,(.d (.v (.int .u64 (IntKind.u64.wrap (v2.cJ+v9)))))),(29,(.d (.v (.int .u64 v12)))),(28,(.ptr 0 4)),(27,(aq (4:Int)))] (zF v4 v2 v6 v3 v8 v5 v10 v7 v12 v9 v1 []) (by kernel_rfl) ?_;refine dX ?_;refine aI ?_;refine re [(5,⟨_,_, .eq (x:=(aq (aK ((4:Int)+(1:Int))))) (y:=(aq (5:Int))) (by kernel_rfl)⟩)] [(6,(aq (5:Int))),(11,(aq (5:Int))),(10,(aq (4:Int)))] (zF v4 v2 v6 v3 v8 v5 v10 v7 v12 v9 v1 []) (by kernel_rfl) ?_;refine aI ?_;refine gd ?_;refine ar ?_;refine ar ?_;refine rg [] [(9,(ax (decide ((5:Int)<6))))] (zF v4 v2 v6 v3 v8 v5 v10 v7 v12 v9 v1 []) (by kernel_rfl) ?_;refine cQ (t:=(decide ((5:Int)<6))) (by kernel_rfl) rfl ?_;refine cx ?_;refine aI ?_;refine ar ?_;refine dt ?_;refine ar ?_;refine rg [(4,⟨_,_, .lt (z:=5) (n:=6) (by decide) (by decide)⟩)] [(7,(.d (.v (.int .u64 (IntKind.u64.wrap (v2.cF+v11))))))] (zF v4 v2 v6 v3 v8 v5 v10 v7 v12 v9 v1 []) (by kernel_rfl) ?_;refine ar ?_;refine rg [] [(5,(.d (.v (.int .u64 (0:Int)))))] (zF v4 v2 v6 v3 v8 v5 v10 v7 v12 v9 v1 []) (by kernel_rfl) ?_;refine ar ?_;refine ar ?_
 refine rg [(4,⟨_,_, .lt (z:=5) (n:=6) (by decide) (by decide)⟩)] [(21,(ax (decide (v1.cF<(IntKind.u64.wrap (v2.cF+v11))))))] (zF v4 v2 v6 v3 v8 v5 v10 v7 v12 v9 v1 []) (by kernel_rfl) ?_;refine o9 [2,3,4,5,6,7] 3 (λ((aA,aE):Int×Int)=>⟨34,[(2,(.ptr 0 0)),(3,(.ptr 1 0)),(4,(.ptr 2 0)),(5,(.d (.v (.int .u64 aA)))),(6,(aq (5:Int))),(7,(.d (.v (.int .u64 (IntKind.u64.wrap (v2.cF+v11))))))],[.cells [(.d (.v (.int .u64 (IntKind.u64.wrap (v4-(IntKind.u64.wrap (v2.cu+(0:Int)))))))),(.d (.v (.int .u64 (IntKind.u64.wrap (v6-(IntKind.u64.wrap (v2.cC+v3))))))),(.d (.v (.int .u64 (IntKind.u64.wrap (v8-(IntKind.u64.wrap (v2.cX+v5))))))),(.d (.v (.int .u64 (IntKind.u64.wrap (v10-(IntKind.u64.wrap (v2.cS+v7))))))),(.d (.v (.int .u64 (IntKind.u64.wrap (v12-(IntKind.u64.wrap (v2.cJ+v9))))))),(.d (.v (.int .u64 aE)))], .cells (eD v2).cells, .cells [(.d (.v (.int .u64 (0:Int)))),(.d (.v (.int .u64 (0:Int)))),(.d (.v (.int .u64 (0:Int)))),(.d (.v (.int .u64 (0:Int)))),(.d (.v (.int .u64 (0:Int)))),(.d (.v (.int .u64 (0:Int))))]]⟩) (λ((aA,aE):Int×Int)=>zu N v4 v2 v6 v3 v8 v5 v10 v7 v12 v9 v11 aA aE=some r) (ako rfl) ?_ ?_
 ·rcases dC (decide (v1.cF<(IntKind.u64.wrap (v2.cF+v11))))with J|J
  ·replace U:=(dc J).symm.trans U;refine cQ (t:=(decide (v1.cF<(IntKind.u64.wrap (v2.cF+v11))))) (by kernel_rfl) J ?_;refine ar ?_;refine rg [(4,⟨_,_, .lt (z:=5) (n:=6) (by decide) (by decide)⟩),(13,⟨_,_, .lt (z:=5) (n:=6) (by decide) (by decide)⟩)] [] (Uh v4 v2 v6 v3 v8 v5 v10 v7 v12 v9 v1 []) (by kernel_rfl) ?_;refine re [] [(5,(.d (.v (.int .u64 (1:Int)))))] (Uh v4 v2 v6 v3 v8 v5 v10 v7 v12 v9 v1 []) (by kernel_rfl) ?_;refine aI ?_;exact⟨((1:Int),(IntKind.u64.wrap (v1.cF+(4294967296:Int)))),by kernel_rfl,U⟩
  replace U:=(dG J).symm.trans U;refine dw (t:=(decide (v1.cF<(IntKind.u64.wrap (v2.cF+v11))))) (by kernel_rfl) J ?_;refine cx ?_;refine aI ?_;exact⟨((0:Int),v1.cF),by kernel_rfl,U⟩
 rintro⟨aA,aE⟩ U
 try dsimp only at U
 rw[zu]at U;refine re [(4,⟨_,_, .lt (z:=5) (n:=6) (by decide) (by decide)⟩),(16,⟨_,_, .lt (z:=5) (n:=6) (by decide) (by decide)⟩)] [(32,(.ptr 0 5)),(31,(.d (.v (.int .u64 (IntKind.u64.wrap (aE-(IntKind.u64.wrap (v2.cF+v11)))))))),(30,(.d (.v (.int .u64 (IntKind.u64.wrap (v2.cF+v11)))))),(29,(.d (.v (.int .u64 aE)))),(28,(.ptr 0 5)),(27,(aq (5:Int)))] (NS v4 v2 v6 v3 v8 v5 v10 v7 v12 v9 aE v11 []) (by kernel_rfl) ?_;refine dX ?_;refine aI ?_;refine re [(5,⟨_,_, .eq (x:=(aq (aK ((5:Int)+(1:Int))))) (y:=(aq (6:Int))) (by kernel_rfl)⟩)] [(6,(aq (6:Int))),(11,(aq (6:Int))),(10,(aq (5:Int)))] (NS v4 v2 v6 v3 v8 v5 v10 v7 v12 v9 aE v11 []) (by kernel_rfl) ?_;refine aI ?_;refine gd ?_;refine ar ?_;refine ar ?_;refine rg [] [(9,(ax (decide ((6:Int)<6))))] (NS v4 v2 v6 v3 v8 v5 v10 v7 v12 v9 aE v11 []) (by kernel_rfl) ?_;refine dw (t:=(decide ((6:Int)<6))) (by kernel_rfl) rfl ?_;refine kR (gO (gO (lS rfl ?_)));refine aI ?_;refine ar ?_;refine rg [] [] (VU v4 v2 v6 v3 v8 v5 v10 v7 v12 v9 aE v11 [.cells [(.d (.v (.int .u64 (IntKind.u64.wrap (v4-(IntKind.u64.wrap (v2.cu+(0:Int)))))))),(.d (.v (.int .u64 (IntKind.u64.wrap (v6-(IntKind.u64.wrap (v2.cC+v3))))))),(.d (.v (.int .u64 (IntKind.u64.wrap (v8-(IntKind.u64.wrap (v2.cX+v5))))))),(.d (.v (.int .u64 (IntKind.u64.wrap (v10-(IntKind.u64.wrap (v2.cS+v7))))))),(.d (.v (.int .u64 (IntKind.u64.wrap (v12-(IntKind.u64.wrap (v2.cJ+v9))))))),(.d (.v (.int .u64 (IntKind.u64.wrap (aE-(IntKind.u64.wrap (v2.cF+v11)))))))]]) (by kernel_rfl) ?_
 refine cV ?_;have hr:=akz U;subst hr;exact fa (by kernel_rfl)
end Go.Proofs.YtnnapanbbbcalaaGreatDoor
