/-
  Part 12 of the proof: PE4, PE5, PE6.
-/
import Derived.Test.YtnnapanbbbcalaaGreatDoorPp11
namespace Go.Proofs.YtnnapanbbbcalaaGreatDoor
open Go.RowKit
set_option maxRecDepth 100000
set_option maxHeartbeats 0
set_option linter.unusedVariables false
theorem k00{α β:Type}{P:α->β->Prop}(a:α)(b:β)(h:P a b:=by kernel_rfl):∃a b,P a b:=⟨a,b,h⟩
def X2(v:eZ)(r:amT AV):amT AV:=(ar v.fu.bu)::(ar v.fu.bG)::(ar v.fu.ck)::(ar v.fu.cx)::(ar v.fu.cG)::r
def xB(N:Nat)(v2:amT aV)(v1:ay)(v3:amT aO)(v4:amT (amU×aU))(ag8:ay->(amT aV)->(amT aO)->(amT (amU×aU))->amV (Bool×Int×(amT (amU×aU))))(XD:ay->(amT aV)->(amT aO)->(amT (amU×aU))->amV (eZ×Int×(amT (amU×aU))))(aaP:ay->(amT aV)->(amT aO)->(amT (amU×aU))->amV (eZ×Int×(amT (amU×aU))))(v5:Bool):amV (eZ×Int×(amT (amU×aU))):=
 bif v5 then
  (Gr N v2 v1 v3 v4).bind λv6=>
  some (v6.1,v6.2.1,v6.2.2)
 else
  bif (v1.aC==11)then
   Option.bind (v1.bD[0]?) λv7=>
   (ag8 v7 v2 v3 v4).bind λv8=>
   bif (v8.2.1 !=0)then
    some (Bi,v8.2.1,v8.2.2)
   else
    bif v8.1 then
     Option.bind (v1.bD[1]?) λv9=>
     (XD v9 v2 v3 v8.2.2).bind λv10=>
     some (v10.1,v10.2.1,v10.2.2)
    else
     Option.bind (v1.bD[2]?) λv11=>
     (XD v11 v2 v3 v8.2.2).bind λv12=>
     some (v12.1,v12.2.1,v12.2.2)
  else
   (aaP v1 v2 v3 v4).bind λaF=>
   some (aF.1,aF.2.1,aF.2.2)
def B9(N:Nat)(v6:eZ×Int×(amT (amU×aU)))(v8:eZ×Int×(amT (amU×aU)))(v10:Int):amV (eZ×eZ×Int×(amT (amU×aU))):=
 some (v6.1,v8.1,v10,v8.2.2)
mutual
def lP(N:Nat):Nat->ay->(amT aV)->(amT aO)->(amT (amU×aU))->amV (eZ×Int×(amT (amU×aU)))
 |0,_,_,_,_=>none
 |d+1,v1,v2,v3,v4=>
  bif (v1.aC==1)then
   xB N v2 v1 v3 v4 (m7 N d) (lP N d) (pK N d) (v1.aC==1)
  else
   bif (v1.aC==2)then
    xB N v2 v1 v3 v4 (m7 N d) (lP N d) (pK N d) (v1.aC==2)
   else
    xB N v2 v1 v3 v4 (m7 N d) (lP N d) (pK N d) (v1.aC==3)
def m7(N:Nat):Nat->ay->(amT aV)->(amT aO)->(amT (amU×aU))->amV (Bool×Int×(amT (amU×aU)))
 |0,_,_,_,_=>none
 |d+1,v1,v2,v3,v4=>
  Option.bind ((Dv N d) v1 v2 v3 v4) λv5=>
  some (v5.1,v5.2.1,v5.2.2)
def Dv(N:Nat):Nat->ay->(amT aV)->(amT aO)->(amT (amU×aU))->amV (Bool×Int×(amT (amU×aU)))
 |0,_,_,_,_=>none
 |d+1,v1,v2,v3,v4=>
  bif (decide (v1.aC<16))then
   Option.bind ((vR N d) v1 v2 v3 v4) λv5=>
   bif (v5.2.2.1 !=0)then
    some (false,v5.2.2.1,v5.2.2.2)
   else
    (DB N v5.1.fu v5.1.yVal v5.2.1.yVal).bind λv6=>
    (Kz N v1.aC v6).bind λv7=>
    some (v7,(0:Int),v5.2.2.2)
  else
   Option.bind (v1.bD[0]?) λv8=>
   Option.bind ((m7 N d) v8 v2 v3 v4) λv9=>
   Option.bind (bif (v9.2.1 !=0)then some true else some (v1.aC==18)) λv10=>
   bif v10 then
    Option.bind (bif (v9.2.1==0)then some (!v9.1)else some false) λv11=>
    some (v11,v9.2.1,v9.2.2)
   else
    Option.bind (v1.bD[1]?) λv12=>
    Option.bind ((m7 N d) v12 v2 v3 v9.2.2) λaF=>
    bif (aF.2.1 !=0)then
     some (false,aF.2.1,aF.2.2)
    else
     bif (v1.aC==16)then
      (bif v9.1 then some aF.1 else some false).bind λaI=>
      some (aI,(0:Int),aF.2.2)
     else
      (bif v9.1 then some true else some aF.1).bind λbg=>
      some (bg,(0:Int),aF.2.2)
def vR(N:Nat):Nat->ay->(amT aV)->(amT aO)->(amT (amU×aU))->amV (eZ×eZ×Int×(amT (amU×aU)))
 |0,_,_,_,_=>none
 |d+1,v1,v2,v3,v4=>
  Option.bind (v1.bD[0]?) λv5=>
  Option.bind ((lP N d) v5 v2 v3 v4) λv6=>
  bif (v6.2.1 !=0)then
   some (v6.1,v6.1,v6.2.1,v6.2.2)
  else
   Option.bind (v1.bD[1]?) λv7=>
   Option.bind ((lP N d) v7 v2 v3 v6.2.2) λv8=>
   Option.bind (bif (v8.2.1==0)then some (!((v6.1.fu.bu==v8.1.fu.bu)&&((v6.1.fu.bG==v8.1.fu.bG)&&((v6.1.fu.ck==v8.1.fu.ck)&&((v6.1.fu.cx==v8.1.fu.cx)&&((v6.1.fu.cG==v8.1.fu.cG)&&true))))))else some false) λv9=>
   bif v9 then
    B9 N v6 v8 (10:Int)
   else
    B9 N v6 v8 v8.2.1
def pK(N:Nat):Nat->ay->(amT aV)->(amT aO)->(amT (amU×aU))->amV (eZ×Int×(amT (amU×aU)))
 |0,_,_,_,_=>none
 |d+1,v1,v2,v3,v4=>
  Option.bind (bif (v1.aC==8)then some true else some (v1.aC==12)) λv5=>
  bif v5 then
   Option.bind (v1.bD[0]?) λv6=>
   Option.bind ((lP N d) v6 v2 v3 v4) λv7=>
   bif (v7.2.1 !=0)then
    some (v7.1,v7.2.1,v7.2.2)
   else
    bif (v1.aC==12)then
     (Gi N v7.1.fu v1.aK v7.1.yVal).bind λv8=>
     some ((⟨v8.1,v1.aK⟩:eZ),v8.2,v7.2.2)
    else
     Option.bind (An N (8:Int) v7.1.fu v7.1.yVal v7.1.yVal) λv9=>
     some ((⟨v9.1,v7.1.fu⟩:eZ),v9.2,v7.2.2)
  else
   Option.bind ((vR N d) v1 v2 v3 v4) λv10=>
   bif (v10.2.2.1 !=0)then
    some (Bi,v10.2.2.1,v10.2.2.2)
   else
    (An N v1.aC v10.1.fu v10.1.yVal v10.2.1.yVal).bind λv11=>
    some ((⟨v11.1,v10.1.fu⟩:eZ),v11.2,v10.2.2.2)
end
def EV(N:Nat)(v1:ay)(v2:amT aV)(v3:amT aO)(v4:amT (amU×aU)):amV (eZ×Int×(amT (amU×aU))):=lP N N v1 v2 v3 v4
def MS(N:Nat)(v1:ay)(v2:amT aV)(v3:amT aO)(v4:amT (amU×aU)):amV (Bool×Int×(amT (amU×aU))):=m7 N N v1 v2 v3 v4
theorem UL(N:Nat):∀d:Nat,(∀{v1:ay}{v2:amT aV}{v3:amT aO}{v4:amT (amU×aU)}{r:eZ×Int×(amT (amU×aU))},lP N d v1 v2 v3 v4=some r->KH 93 [(aD v1),(.ptr 0 0),(.ptr 1 0),(.ptr 2 0)] ([.cells [(.fn 96 [(.ptr 3 0),(.ptr 4 0)])], .cells [(.d (.sl (aS v2)))], .cells [(.ptr 5 0)], .cells [(.mp 6)], .cells [(.d (.sl (aX v3)))], .cells [(.fn 93 [(.ptr 0 0),(.ptr 1 0),(.ptr 2 0)]),(.fn 91 [(.ptr 2 0)])], .map (bP bQ v4)]) (.aY [(dM r.1),(ar r.2.1)]) ([.cells [(.fn 96 [(.ptr 3 0),(.ptr 4 0)])], .cells [(.d (.sl (aS v2)))], .cells [(.ptr 5 0)], .cells [(.mp 6)], .cells [(.d (.sl (aX v3)))], .cells [(.fn 93 [(.ptr 0 0),(.ptr 1 0),(.ptr 2 0)]),(.fn 91 [(.ptr 2 0)])], .map (bP bQ r.2.2)]))/\(∀{v1:ay}{v2:amT aV}{v3:amT aO}{v4:amT (amU×aU)}{r:Bool×Int×(amT (amU×aU))},m7 N d v1 v2 v3 v4=some r->KH 91 [(aD v1),(.ptr 0 0)] ([.cells [(.ptr 1 0)], .cells [(.fn 93 [(.ptr 2 0),(.ptr 3 0),(.ptr 0 0)]),(.fn 91 [(.ptr 0 0)])], .cells [(.fn 96 [(.ptr 4 0),(.ptr 5 0)])], .cells [(.d (.sl (aS v2)))], .cells [(.mp 6)], .cells [(.d (.sl (aX v3)))], .map (bP bQ v4)]) (.aY [(az r.1),(ar r.2.1)]) ([.cells [(.ptr 1 0)], .cells [(.fn 93 [(.ptr 2 0),(.ptr 3 0),(.ptr 0 0)]),(.fn 91 [(.ptr 0 0)])], .cells [(.fn 96 [(.ptr 4 0),(.ptr 5 0)])], .cells [(.d (.sl (aS v2)))], .cells [(.mp 6)], .cells [(.d (.sl (aX v3)))], .map (bP bQ r.2.2)]))/\(∀{v1:ay}{v2:amT aV}{v3:amT aO}{v4:amT (amU×aU)}{r:Bool×Int×(amT (amU×aU))},Dv N d v1 v2 v3 v4=some r->KH 92 [(.ptr 0 0),(aD v1)] ([.cells [(.fn 93 [(.ptr 1 0),(.ptr 2 0),(.ptr 3 0)]),(.fn 91 [(.ptr 3 0)])], .cells [(.fn 96 [(.ptr 4 0),(.ptr 5 0)])], .cells [(.d (.sl (aS v2)))], .cells [(.ptr 0 0)], .cells [(.mp 6)], .cells [(.d (.sl (aX v3)))], .map (bP bQ v4)]) (.aY [(az r.1),(ar r.2.1)]) ([.cells [(.fn 93 [(.ptr 1 0),(.ptr 2 0),(.ptr 3 0)]),(.fn 91 [(.ptr 3 0)])], .cells [(.fn 96 [(.ptr 4 0),(.ptr 5 0)])], .cells [(.d (.sl (aS v2)))], .cells [(.ptr 0 0)], .cells [(.mp 6)], .cells [(.d (.sl (aX v3)))], .map (bP bQ r.2.2)]))/\(∀{v1:ay}{v2:amT aV}{v3:amT aO}{v4:amT (amU×aU)}{r:eZ×eZ×Int×(amT (amU×aU))},vR N d v1 v2 v3 v4=some r->KH 156 [(.ptr 0 0),(aD v1)] ([.cells [(.fn 93 [(.ptr 1 0),(.ptr 2 0),(.ptr 3 0)]),(.fn 91 [(.ptr 3 0)])], .cells [(.fn 96 [(.ptr 4 0),(.ptr 5 0)])], .cells [(.d (.sl (aS v2)))], .cells [(.ptr 0 0)], .cells [(.mp 6)], .cells [(.d (.sl (aX v3)))], .map (bP bQ v4)]) (.aY [(dM r.1),(dM r.2.1),(ar r.2.2.1)]) ([.cells [(.fn 93 [(.ptr 1 0),(.ptr 2 0),(.ptr 3 0)]),(.fn 91 [(.ptr 3 0)])], .cells [(.fn 96 [(.ptr 4 0),(.ptr 5 0)])], .cells [(.d (.sl (aS v2)))], .cells [(.ptr 0 0)], .cells [(.mp 6)], .cells [(.d (.sl (aX v3)))], .map (bP bQ r.2.2.2)]))/\(∀{v1:ay}{v2:amT aV}{v3:amT aO}{v4:amT (amU×aU)}{r:eZ×Int×(amT (amU×aU))},pK N d v1 v2 v3 v4=some r->KH 95 [(.ptr 0 0),(aD v1)] ([.cells [(.fn 93 [(.ptr 1 0),(.ptr 2 0),(.ptr 3 0)]),(.fn 91 [(.ptr 3 0)])], .cells [(.fn 96 [(.ptr 4 0),(.ptr 5 0)])], .cells [(.d (.sl (aS v2)))], .cells [(.ptr 0 0)], .cells [(.mp 6)], .cells [(.d (.sl (aX v3)))], .map (bP bQ v4)]) (.aY [(dM r.1),(ar r.2.1)]) ([.cells [(.fn 93 [(.ptr 1 0),(.ptr 2 0),(.ptr 3 0)]),(.fn 91 [(.ptr 3 0)])], .cells [(.fn 96 [(.ptr 4 0),(.ptr 5 0)])], .cells [(.d (.sl (aS v2)))], .cells [(.ptr 0 0)], .cells [(.mp 6)], .cells [(.d (.sl (aX v3)))], .map (bP bQ r.2.2)])):=by
 intro d
 induction d with
 |zero=>exact⟨(by intro v1 v2 v3 v4 r J;rw[lP]at J;cases J),(by intro v1 v2 v3 v4 r J;rw[m7]at J;cases J),(by intro v1 v2 v3 v4 r J;rw[Dv]at J;cases J),(by intro v1 v2 v3 v4 r J;rw[vR]at J;cases J),(by intro v1 v2 v3 v4 r J;rw[pK]at J;cases J)⟩
 |succ d ih=>
  have s9:= @ih.1;have MD:= @ih.2.1;have ae9:= @ih.2.2.1;have Ww:= @ih.2.2.2.1;have akJ:= @ih.2.2.2.2;refine⟨?_,?_,?_,?_,?_⟩
  ·intro v1 v2 v3 v4 r J;rw[lP]at J;refine Cn 7 Tryz.func93 ?_;refine Cv bw r 1 [[],[],[]] [1,2,3,4,5,10,11] 9 (λ(v5:Bool)=>⟨67,[(1,(.ptr 0 0)),(2,(.ptr 1 0)),(3,(.ptr 2 0)),(4,(.ptr 7 0)),(5,(.ptr 8 0)),(10,(ar v1.aC)),(11,(az v5))],[.cells [(.fn 96 [(.ptr 3 0),(.ptr 4 0)])], .cells [(.d (.sl (aS v2)))], .cells [(.ptr 5 0)], .cells [(.mp 6)], .cells [(.d (.sl (aX v3)))], .cells [(.fn 93 [(.ptr 0 0),(.ptr 1 0),(.ptr 2 0)]),(.fn 91 [(.ptr 2 0)])], .map (bP bQ v4), .cells (aD v1).cells, .cells dB]⟩) (xB N v2 v1 v3 v4 (m7 N d) (lP N d) (pK N d)) ?_ ?_
   ·intro f1 aJ;apply bc J<;>intro bC J
    ·exact lg bw aJ (v1.aC==1) [[(0,bT bC)]] J
    refine gK bw [[(0,bF bC)],[]] ?_;apply bc J<;>intro bJ J
    ·exact lg bw aJ (v1.aC==2) [[(0,bT bJ)]] J
    exact lg bw aJ (v1.aC==3) [[(0,bF bJ)],[]] J
   intro v5 J;rw[xB]at J;apply bc J<;>intro h1 J
   ·obtain⟨v6,h2,J⟩:=bm J;cases J;exact mX bw [[(0,bT h1)],[(10,oR [(.fn 96 [(.ptr 3 0),(.ptr 4 0)]),(.d (.sl (aS v2))),(aD v1)] [.cells [(.fn 96 [(.ptr 3 0),(.ptr 4 0)])], .cells [(.d (.sl (aS v2)))], .cells [(.ptr 5 0)], .cells [(.mp 6)], .cells [(.d (.sl (aX v3)))], .cells [(.fn 93 [(.ptr 0 0),(.ptr 1 0),(.ptr 2 0)]),(.fn 91 [(.ptr 2 0)])], .map (bP bQ v4), .cells (aD v1).cells, .cells dB] [3,4,6] (adI _ h2))]]
   refine gK bw [[(0,bF h1)],[]] ?_;apply bc J<;>intro h3 J
   ·refine gK bw [[(0,bT h3)]] ?_;obtain⟨v7,h4,v8,h5,J⟩:=k01 J;refine Av bw [(19,oE (k:=0) (gY h4)),(25,oR [(aD v7),(.ptr 2 0)] [.cells [(.fn 96 [(.ptr 3 0),(.ptr 4 0)])], .cells [(.d (.sl (aS v2)))], .cells [(.ptr 5 0)], .cells [(.mp 6)], .cells [(.d (.sl (aX v3)))], .cells [(.fn 93 [(.ptr 0 0),(.ptr 1 0),(.ptr 2 0)]),(.fn 91 [(.ptr 2 0)])], .map (bP bQ v4), .cells (aD v1).cells, .cells dB] [2,5,0,1,3,4,6] (MD h5))] [(7,(az v8.1)),(8,(ar v8.2.1))] [.cells [(.fn 96 [(.ptr 3 0),(.ptr 4 0)])], .cells [(.d (.sl (aS v2)))], .cells [(.ptr 5 0)], .cells [(.mp 6)], .cells [(.d (.sl (aX v3)))], .cells [(.fn 93 [(.ptr 0 0),(.ptr 1 0),(.ptr 2 0)]),(.fn 91 [(.ptr 2 0)])], .map (bP bQ v8.2.2), .cells (aD v1).cells, .cells dB] ?_;refine gK bw [[]] ?_;apply bc J<;>intro h6 J
    ·cases J;exact mX bw [[(0,bT h6)],[]]
    refine gK bw [[(0,bF h6)],[]] ?_;apply bc J<;>intro h7 J
    ·refine gK bw [[(0,bT h7)]] ?_;obtain⟨v9,h8,v10,h9,J⟩:=k01 J;refine Av bw [(19,oE (k:=1) (gY h8)),(25,oR [(aD v9),(.ptr 0 0),(.ptr 1 0),(.ptr 2 0)] [.cells [(.fn 96 [(.ptr 3 0),(.ptr 4 0)])], .cells [(.d (.sl (aS v2)))], .cells [(.ptr 5 0)], .cells [(.mp 6)], .cells [(.d (.sl (aX v3)))], .cells [(.fn 93 [(.ptr 0 0),(.ptr 1 0),(.ptr 2 0)]),(.fn 91 [(.ptr 2 0)])], .map (bP bQ v8.2.2), .cells (aD v1).cells, .cells dB] [0,1,2,3,4,5,6] (s9 h9))] [(6,(ar v10.2.1))] [.cells [(.fn 96 [(.ptr 3 0),(.ptr 4 0)])], .cells [(.d (.sl (aS v2)))], .cells [(.ptr 5 0)], .cells [(.mp 6)], .cells [(.d (.sl (aX v3)))], .cells [(.fn 93 [(.ptr 0 0),(.ptr 1 0),(.ptr 2 0)]),(.fn 91 [(.ptr 2 0)])], .map (bP bQ v10.2.2), .cells (aD v1).cells, .cells (dM v10.1).cells] ?_;cases J;exact mX bw []
    refine gK bw [[(0,bF h7)]] ?_;obtain⟨v11,aW,v12,aZ,J⟩:=k01 J;refine Av bw [(19,oE (k:=2) (gY aW)),(25,oR [(aD v11),(.ptr 0 0),(.ptr 1 0),(.ptr 2 0)] [.cells [(.fn 96 [(.ptr 3 0),(.ptr 4 0)])], .cells [(.d (.sl (aS v2)))], .cells [(.ptr 5 0)], .cells [(.mp 6)], .cells [(.d (.sl (aX v3)))], .cells [(.fn 93 [(.ptr 0 0),(.ptr 1 0),(.ptr 2 0)]),(.fn 91 [(.ptr 2 0)])], .map (bP bQ v8.2.2), .cells (aD v1).cells, .cells dB] [0,1,2,3,4,5,6] (s9 aZ))] [(6,(ar v12.2.1))] [.cells [(.fn 96 [(.ptr 3 0),(.ptr 4 0)])], .cells [(.d (.sl (aS v2)))], .cells [(.ptr 5 0)], .cells [(.mp 6)], .cells [(.d (.sl (aX v3)))], .cells [(.fn 93 [(.ptr 0 0),(.ptr 1 0),(.ptr 2 0)]),(.fn 91 [(.ptr 2 0)])], .map (bP bQ v12.2.2), .cells (aD v1).cells, .cells (dM v12.1).cells] ?_;cases J;exact mX bw []
   obtain⟨aF,bj,J⟩:=bm J;cases J;exact mX bw [[(0,bF h3)],[(7,oR [(.ptr 5 0),(aD v1)] [.cells [(.fn 96 [(.ptr 3 0),(.ptr 4 0)])], .cells [(.d (.sl (aS v2)))], .cells [(.ptr 5 0)], .cells [(.mp 6)], .cells [(.d (.sl (aX v3)))], .cells [(.fn 93 [(.ptr 0 0),(.ptr 1 0),(.ptr 2 0)]),(.fn 91 [(.ptr 2 0)])], .map (bP bQ v4), .cells (aD v1).cells, .cells dB] [5,0,1,2,3,4,6] (akJ bj))]]
  ·intro v1 v2 v3 v4 r J;rw[m7]at J;refine Cn 7 Tryz.func91 ?_;obtain⟨v5,h1,J⟩:=bm J;cases J;exact mX bw [[],[(7,oR [(.ptr 1 0),(aD v1)] [.cells [(.ptr 1 0)], .cells [(.fn 93 [(.ptr 2 0),(.ptr 3 0),(.ptr 0 0)]),(.fn 91 [(.ptr 0 0)])], .cells [(.fn 96 [(.ptr 4 0),(.ptr 5 0)])], .cells [(.d (.sl (aS v2)))], .cells [(.mp 6)], .cells [(.d (.sl (aX v3)))], .map (bP bQ v4), .cells (aD v1).cells] [1,2,3,0,4,5,6] (ae9 h1))]]
  ·intro v1 v2 v3 v4 r J;rw[Dv]at J;refine Cn 7 Tryz.func92 ?_;refine gK bw [[],[]] ?_;apply bc J<;>intro h1 J
   ·obtain⟨v5,h2,J⟩:=bm J;refine gK bw [[(0,bT h1)],[(7,oR [(.ptr 0 0),(aD v1)] [.cells [(.fn 93 [(.ptr 1 0),(.ptr 2 0),(.ptr 3 0)]),(.fn 91 [(.ptr 3 0)])], .cells [(.fn 96 [(.ptr 4 0),(.ptr 5 0)])], .cells [(.d (.sl (aS v2)))], .cells [(.ptr 0 0)], .cells [(.mp 6)], .cells [(.d (.sl (aX v3)))], .map (bP bQ v4), .cells (aD v1).cells] [0,1,2,3,4,5,6] (Ww h2))],[]] ?_;apply bc J<;>intro h3 J
    ·cases J;exact mX bw [[(0,bT h3)],[]]
    obtain⟨v6,h4,v7,h5,J⟩:=k01 J;cases J;exact mX bw [[(0,bF h3)],[(25,cK UK h4),(28,cK akg h5)]]
   refine gK bw [[(0,bF h1)]] ?_;obtain⟨v8,h6,v9,h7,J⟩:=k01 J;refine Av bw [(19,oE (k:=0) (gY h6)),(25,oR [(aD v8),(.ptr 3 0)] [.cells [(.fn 93 [(.ptr 1 0),(.ptr 2 0),(.ptr 3 0)]),(.fn 91 [(.ptr 3 0)])], .cells [(.fn 96 [(.ptr 4 0),(.ptr 5 0)])], .cells [(.d (.sl (aS v2)))], .cells [(.ptr 0 0)], .cells [(.mp 6)], .cells [(.d (.sl (aX v3)))], .map (bP bQ v4), .cells (aD v1).cells] [3,0,1,2,4,5,6] (MD h7))] [(9,(az v9.1)),(10,(ar v9.2.1))] [.cells [(.fn 93 [(.ptr 1 0),(.ptr 2 0),(.ptr 3 0)]),(.fn 91 [(.ptr 3 0)])], .cells [(.fn 96 [(.ptr 4 0),(.ptr 5 0)])], .cells [(.d (.sl (aS v2)))], .cells [(.ptr 0 0)], .cells [(.mp 6)], .cells [(.d (.sl (aX v3)))], .map (bP bQ v9.2.2), .cells (aD v1).cells] ?_;obtain⟨v10,h9,J⟩:=bm J;refine wL bw [(53,(az v10))] [.cells [(.fn 93 [(.ptr 1 0),(.ptr 2 0),(.ptr 3 0)]),(.fn 91 [(.ptr 3 0)])], .cells [(.fn 96 [(.ptr 4 0),(.ptr 5 0)])], .cells [(.d (.sl (aS v2)))], .cells [(.ptr 0 0)], .cells [(.mp 6)], .cells [(.d (.sl (aX v3)))], .map (bP bQ v9.2.2), .cells (aD v1).cells] ?_ ?_
   ·apply bc h9<;>intro h8 h9
    ·cases h9;exact k00 [(2,bT h8)] []
    cases h9;exact k00 [(2,bF h8)] []
   apply bc J<;>intro aW J
   ·refine gK bw [[(0,bT aW)]] ?_;obtain⟨v11,bj,J⟩:=bm J;refine wL bw [(4,(az v11)),(5,(ar v9.2.1))] [.cells [(.fn 93 [(.ptr 1 0),(.ptr 2 0),(.ptr 3 0)]),(.fn 91 [(.ptr 3 0)])], .cells [(.fn 96 [(.ptr 4 0),(.ptr 5 0)])], .cells [(.d (.sl (aS v2)))], .cells [(.ptr 0 0)], .cells [(.mp 6)], .cells [(.d (.sl (aX v3)))], .map (bP bQ v9.2.2), .cells (aD v1).cells] ?_ ?_
    ·apply bc bj<;>intro aZ bj
     ·cases bj;exact k00 [(2,bT aZ)] []
     cases bj;exact k00 [(2,bF aZ)] []
    cases J;exact mX bw []
   refine gK bw [[(0,bF aW)]] ?_;obtain⟨v12,bC,aF,bJ,J⟩:=k01 J;refine Av bw [(19,oE (k:=1) (gY bC)),(25,oR [(aD v12),(.ptr 3 0)] [.cells [(.fn 93 [(.ptr 1 0),(.ptr 2 0),(.ptr 3 0)]),(.fn 91 [(.ptr 3 0)])], .cells [(.fn 96 [(.ptr 4 0),(.ptr 5 0)])], .cells [(.d (.sl (aS v2)))], .cells [(.ptr 0 0)], .cells [(.mp 6)], .cells [(.d (.sl (aX v3)))], .map (bP bQ v9.2.2), .cells (aD v1).cells] [3,0,1,2,4,5,6] (MD bJ))] [(11,(az aF.1)),(10,(ar aF.2.1))] [.cells [(.fn 93 [(.ptr 1 0),(.ptr 2 0),(.ptr 3 0)]),(.fn 91 [(.ptr 3 0)])], .cells [(.fn 96 [(.ptr 4 0),(.ptr 5 0)])], .cells [(.d (.sl (aS v2)))], .cells [(.ptr 0 0)], .cells [(.mp 6)], .cells [(.d (.sl (aX v3)))], .map (bP bQ aF.2.2), .cells (aD v1).cells] ?_;refine gK bw [[]] ?_;apply bc J<;>intro bH J
   ·cases J;exact mX bw [[(0,bT bH)],[]]
   refine gK bw [[(0,bF bH)],[]] ?_;apply bc J<;>intro bY J
   ·refine gK bw [[(0,bT bY)]] ?_;obtain⟨aI,dZ,J⟩:=bm J;refine wL bw [(4,(az aI)),(5,(ar (0:Int)))] [.cells [(.fn 93 [(.ptr 1 0),(.ptr 2 0),(.ptr 3 0)]),(.fn 91 [(.ptr 3 0)])], .cells [(.fn 96 [(.ptr 4 0),(.ptr 5 0)])], .cells [(.d (.sl (aS v2)))], .cells [(.ptr 0 0)], .cells [(.mp 6)], .cells [(.d (.sl (aX v3)))], .map (bP bQ aF.2.2), .cells (aD v1).cells] ?_ ?_
    ·apply bc dZ<;>intro c9 dZ
     ·cases dZ;exact k00 [(1,bT c9)] []
     cases dZ;exact k00 [(1,bF c9)] []
    cases J;exact mX bw []
   refine gK bw [[(0,bF bY)]] ?_;obtain⟨bg,dC,J⟩:=bm J;refine wL bw [(4,(az bg)),(5,(ar (0:Int)))] [.cells [(.fn 93 [(.ptr 1 0),(.ptr 2 0),(.ptr 3 0)]),(.fn 91 [(.ptr 3 0)])], .cells [(.fn 96 [(.ptr 4 0),(.ptr 5 0)])], .cells [(.d (.sl (aS v2)))], .cells [(.ptr 0 0)], .cells [(.mp 6)], .cells [(.d (.sl (aX v3)))], .map (bP bQ aF.2.2), .cells (aD v1).cells] ?_ ?_
   ·apply bc dC<;>intro eI dC
    ·cases dC;exact k00 [(1,bT eI)] []
    cases dC;exact k00 [(1,bF eI)] []
   cases J;exact mX bw []
  ·intro v1 v2 v3 v4 r J;rw[vR]at J;refine qn 7 Tryz.func156 rfl (by kernel_rfl) (amd rfl) ?_;refine mq (s':=⟨51,[(0,(.ptr 0 0)),(1,(aD v1))],[.cells [(.fn 93 [(.ptr 1 0),(.ptr 2 0),(.ptr 3 0)]),(.fn 91 [(.ptr 3 0)])], .cells [(.fn 96 [(.ptr 4 0),(.ptr 5 0)])], .cells [(.d (.sl (aS v2)))], .cells [(.ptr 0 0)], .cells [(.mp 6)], .cells [(.d (.sl (aX v3)))], .map (bP bQ v4)]⟩) (by kernel_rfl) ?_;refine au ?_;refine rg [] [(3,(.ptr 7 0)),(4,(.ptr 8 0)),(5,(.ptr 9 0))] [.cells [(.fn 93 [(.ptr 1 0),(.ptr 2 0),(.ptr 3 0)]),(.fn 91 [(.ptr 3 0)])], .cells [(.fn 96 [(.ptr 4 0),(.ptr 5 0)])], .cells [(.d (.sl (aS v2)))], .cells [(.ptr 0 0)], .cells [(.mp 6)], .cells [(.d (.sl (aX v3)))], .map (bP bQ v4), .cells (aD v1).cells, .cells dB, .cells dB] (by kernel_rfl) ?_;refine au ?_;obtain⟨v5,h1,v6,h2,J⟩:=k01 J;refine ro 2 bw (.node 0 [] (.node 1 [] (.node 2 [] (.node 3 [] (.node 4 [] (.node 5 [] (.node 6 [(19,oE (k:=0) (gY h1))] (.node 7 [] (.node 8 [(25,oR [(aD v5),(.ptr 1 0),(.ptr 2 0),(.ptr 3 0)] [.cells [(.fn 93 [(.ptr 1 0),(.ptr 2 0),(.ptr 3 0)]),(.fn 91 [(.ptr 3 0)])], .cells [(.fn 96 [(.ptr 4 0),(.ptr 5 0)])], .cells [(.d (.sl (aS v2)))], .cells [(.ptr 0 0)], .cells [(.mp 6)], .cells [(.d (.sl (aX v3)))], .map (bP bQ v4), .cells (aD v1).cells, .cells dB, .cells dB] [1,2,3,4,5,0,6] (s9 h2))] (.node 9 [] (.node 10 [] (.node 11 [] (.node 12 [] (.node 13 [] (.node 14 [] .nil .nil) .nil) .nil) .nil) .nil) .nil) (.node 12 [] (.node 8 [(25,oR [(aD v5),(.ptr 1 0),(.ptr 2 0),(.ptr 3 0)] [.cells [(.fn 93 [(.ptr 1 0),(.ptr 2 0),(.ptr 3 0)]),(.fn 91 [(.ptr 3 0)])], .cells [(.fn 96 [(.ptr 4 0),(.ptr 5 0)])], .cells [(.d (.sl (aS v2)))], .cells [(.ptr 0 0)], .cells [(.mp 6)], .cells [(.d (.sl (aX v3)))], .map (bP bQ v4), .cells (aD v1).cells, .cells dB, .cells dB, .cells dB] [1,2,3,4,5,0,6] (s9 h2))] (.node 9 [] (.node 10 [] (.node 11 [] (.node 13 [] (.node 14 [] .nil .nil) .nil) .nil) .nil) .nil) .nil) .nil)) .nil) .nil) .nil) .nil) .nil) .nil) .nil) .nil) [(7,(.ptr 10 0)),(8,(ar v6.2.1))] [.cells [(.fn 93 [(.ptr 1 0),(.ptr 2 0),(.ptr 3 0)]),(.fn 91 [(.ptr 3 0)])], .cells [(.fn 96 [(.ptr 4 0),(.ptr 5 0)])], .cells [(.d (.sl (aS v2)))], .cells [(.ptr 0 0)], .cells [(.mp 6)], .cells [(.d (.sl (aX v3)))], .map (bP bQ v6.2.2), .cells (aD v1).cells, .cells dB, .cells dB, .cells (dM v6.1).cells] (by kernel_rfl) ?_
   refine au ?_;refine au ?_;refine rg [] [(23,(az (v6.2.1 !=0)))] [.cells [(.fn 93 [(.ptr 1 0),(.ptr 2 0),(.ptr 3 0)]),(.fn 91 [(.ptr 3 0)])], .cells [(.fn 96 [(.ptr 4 0),(.ptr 5 0)])], .cells [(.d (.sl (aS v2)))], .cells [(.ptr 0 0)], .cells [(.mp 6)], .cells [(.d (.sl (aX v3)))], .map (bP bQ v6.2.2), .cells (aD v1).cells, .cells dB, .cells dB, .cells (dM v6.1).cells] (by kernel_rfl) ?_;rcases dw (v6.2.1 !=0)with h3|h3
   ·replace J:=(c7 h3).symm.trans J;refine cS (t:=(v6.2.1 !=0)) (by kernel_rfl) h3 ?_;refine au ?_;refine rt 2 bw [] [(6,(ar v6.2.1))] [.cells [(.fn 93 [(.ptr 1 0),(.ptr 2 0),(.ptr 3 0)]),(.fn 91 [(.ptr 3 0)])], .cells [(.fn 96 [(.ptr 4 0),(.ptr 5 0)])], .cells [(.d (.sl (aS v2)))], .cells [(.ptr 0 0)], .cells [(.mp 6)], .cells [(.d (.sl (aX v3)))], .map (bP bQ v6.2.2), .cells (aD v1).cells, .cells (dM v6.1).cells, .cells (dM v6.1).cells, .cells (dM v6.1).cells] (by kernel_rfl) ?_;refine cU (cT ?_);have hr:=amo J;subst hr;exact jj (by kernel_rfl)
   replace J:=(du h3).symm.trans J;refine dm (t:=(v6.2.1 !=0)) (by kernel_rfl) h3 ?_;refine ct ?_;refine aM ?_;refine au ?_;obtain⟨v7,h4,v8,h5,J⟩:=k01 J;refine ro 2 bw (.node 0 [] (.node 1 [] (.node 2 [] (.node 3 [] (.node 4 [] (.node 5 [] (.node 6 [(19,oE (k:=1) (gY h4))] (.node 7 [] (.node 8 [(25,oR [(aD v7),(.ptr 1 0),(.ptr 2 0),(.ptr 3 0)] [.cells [(.fn 93 [(.ptr 1 0),(.ptr 2 0),(.ptr 3 0)]),(.fn 91 [(.ptr 3 0)])], .cells [(.fn 96 [(.ptr 4 0),(.ptr 5 0)])], .cells [(.d (.sl (aS v2)))], .cells [(.ptr 0 0)], .cells [(.mp 6)], .cells [(.d (.sl (aX v3)))], .map (bP bQ v6.2.2), .cells (aD v1).cells, .cells dB, .cells dB, .cells (dM v6.1).cells] [1,2,3,4,5,0,6] (s9 h5))] (.node 9 [] (.node 10 [] (.node 11 [] (.node 12 [] (.node 13 [] (.node 14 [] .nil .nil) .nil) .nil) .nil) .nil) .nil) (.node 12 [] (.node 8 [(25,oR [(aD v7),(.ptr 1 0),(.ptr 2 0),(.ptr 3 0)] [.cells [(.fn 93 [(.ptr 1 0),(.ptr 2 0),(.ptr 3 0)]),(.fn 91 [(.ptr 3 0)])], .cells [(.fn 96 [(.ptr 4 0),(.ptr 5 0)])], .cells [(.d (.sl (aS v2)))], .cells [(.ptr 0 0)], .cells [(.mp 6)], .cells [(.d (.sl (aX v3)))], .map (bP bQ v6.2.2), .cells (aD v1).cells, .cells dB, .cells dB, .cells (dM v6.1).cells, .cells dB] [1,2,3,4,5,0,6] (s9 h5))] (.node 9 [] (.node 10 [] (.node 11 [] (.node 13 [] (.node 14 [] .nil .nil) .nil) .nil) .nil) .nil) .nil) .nil)) .nil) .nil) .nil) .nil) .nil) .nil) .nil) .nil) [(9,(.ptr 11 0)),(8,(ar v8.2.1))] [.cells [(.fn 93 [(.ptr 1 0),(.ptr 2 0),(.ptr 3 0)]),(.fn 91 [(.ptr 3 0)])], .cells [(.fn 96 [(.ptr 4 0),(.ptr 5 0)])], .cells [(.d (.sl (aS v2)))], .cells [(.ptr 0 0)], .cells [(.mp 6)], .cells [(.d (.sl (aX v3)))], .map (bP bQ v8.2.2), .cells (aD v1).cells, .cells dB, .cells dB, .cells (dM v6.1).cells, .cells (dM v8.1).cells] (by kernel_rfl) ?_
   refine au ?_;refine au ?_;obtain⟨v9,h7,J⟩:=bm J;refine A8 [(47,(az v9))] [.cells [(.fn 93 [(.ptr 1 0),(.ptr 2 0),(.ptr 3 0)]),(.fn 91 [(.ptr 3 0)])], .cells [(.fn 96 [(.ptr 4 0),(.ptr 5 0)])], .cells [(.d (.sl (aS v2)))], .cells [(.ptr 0 0)], .cells [(.mp 6)], .cells [(.d (.sl (aX v3)))], .map (bP bQ v8.2.2), .cells (aD v1).cells, .cells dB, .cells dB, .cells (dM v6.1).cells, .cells (dM v8.1).cells] ?_ ?_
   ·rcases dw (v8.2.1==0)with h6|h6
    ·replace h7:=(c7 h6).symm.trans h7;have he:=amo h7;subst he;exact⟨[(9,bT h6),(12,bT h6),(15,bT h6),(18,bT h6),(21,bT h6),(25,bT h6)],by kernel_rfl⟩
    replace h7:=(du h6).symm.trans h7;have he:=amo h7;subst he;exact⟨[(9,bF h6),(12,bF h6),(15,bF h6),(18,bF h6),(21,bF h6),(25,bF h6)],by kernel_rfl⟩
   refine pe [4,5,7,8,9] 12 (λ(v10:Int)=>⟨51,[(4,(.ptr 8 0)),(5,(.ptr 9 0)),(7,(.ptr 10 0)),(8,(ar v10)),(9,(.ptr 11 0))],[.cells [(.fn 93 [(.ptr 1 0),(.ptr 2 0),(.ptr 3 0)]),(.fn 91 [(.ptr 3 0)])], .cells [(.fn 96 [(.ptr 4 0),(.ptr 5 0)])], .cells [(.d (.sl (aS v2)))], .cells [(.ptr 0 0)], .cells [(.mp 6)], .cells [(.d (.sl (aX v3)))], .map (bP bQ v8.2.2), .cells (aD v1).cells, .cells dB, .cells dB, .cells (dM v6.1).cells, .cells (dM v8.1).cells]⟩) (λ(v10:Int)=>B9 N v6 v8 v10=some r) (amd rfl) ?_ ?_
   ·rcases dw v9 with h8|h8
    ·replace J:=(c7 h8).symm.trans J;refine cS (t:=v9) (by kernel_rfl) h8 ?_;refine re [] [(8,(ar (10:Int)))] [.cells [(.fn 93 [(.ptr 1 0),(.ptr 2 0),(.ptr 3 0)]),(.fn 91 [(.ptr 3 0)])], .cells [(.fn 96 [(.ptr 4 0),(.ptr 5 0)])], .cells [(.d (.sl (aS v2)))], .cells [(.ptr 0 0)], .cells [(.mp 6)], .cells [(.d (.sl (aX v3)))], .map (bP bQ v8.2.2), .cells (aD v1).cells, .cells dB, .cells dB, .cells (dM v6.1).cells, .cells (dM v8.1).cells] (by kernel_rfl) ?_;refine aM ?_;exact⟨(10:Int),by kernel_rfl,J⟩
    replace J:=(du h8).symm.trans J;refine dm (t:=v9) (by kernel_rfl) h8 ?_;refine ct ?_;refine aM ?_;exact⟨v8.2.1,by kernel_rfl,J⟩
   rintro v10 J
   try dsimp only at J
   rw[B9]at J;refine au ?_;refine rt 2 bw [] [(6,(ar v10))] [.cells [(.fn 93 [(.ptr 1 0),(.ptr 2 0),(.ptr 3 0)]),(.fn 91 [(.ptr 3 0)])], .cells [(.fn 96 [(.ptr 4 0),(.ptr 5 0)])], .cells [(.d (.sl (aS v2)))], .cells [(.ptr 0 0)], .cells [(.mp 6)], .cells [(.d (.sl (aX v3)))], .map (bP bQ v8.2.2), .cells (aD v1).cells, .cells (dM v6.1).cells, .cells (dM v8.1).cells, .cells (dM v6.1).cells, .cells (dM v8.1).cells] (by kernel_rfl) ?_;refine cU ?_;have hr:=amo J;subst hr;exact jj (by kernel_rfl)
  intro v1 v2 v3 v4 r J;rw[pK]at J;refine qn 7 Tryz.func95 rfl (by kernel_rfl) (amd rfl) ?_;refine mq (s':=⟨100,[(0,(.ptr 0 0)),(1,(aD v1))],[.cells [(.fn 93 [(.ptr 1 0),(.ptr 2 0),(.ptr 3 0)]),(.fn 91 [(.ptr 3 0)])], .cells [(.fn 96 [(.ptr 4 0),(.ptr 5 0)])], .cells [(.d (.sl (aS v2)))], .cells [(.ptr 0 0)], .cells [(.mp 6)], .cells [(.d (.sl (aX v3)))], .map (bP bQ v4)]⟩) (by kernel_rfl) ?_;refine au ?_;refine rg [] [(3,(.ptr 7 0)),(4,(.ptr 8 0))] [.cells [(.fn 93 [(.ptr 1 0),(.ptr 2 0),(.ptr 3 0)]),(.fn 91 [(.ptr 3 0)])], .cells [(.fn 96 [(.ptr 4 0),(.ptr 5 0)])], .cells [(.d (.sl (aS v2)))], .cells [(.ptr 0 0)], .cells [(.mp 6)], .cells [(.d (.sl (aX v3)))], .map (bP bQ v4), .cells (aD v1).cells, .cells dB] (by kernel_rfl) ?_;refine au ?_;refine au ?_;obtain⟨v5,h2,J⟩:=bm J;refine A8 [(22,(az v5))] [.cells [(.fn 93 [(.ptr 1 0),(.ptr 2 0),(.ptr 3 0)]),(.fn 91 [(.ptr 3 0)])], .cells [(.fn 96 [(.ptr 4 0),(.ptr 5 0)])], .cells [(.d (.sl (aS v2)))], .cells [(.ptr 0 0)], .cells [(.mp 6)], .cells [(.d (.sl (aX v3)))], .map (bP bQ v4), .cells (aD v1).cells, .cells dB] ?_ ?_
  ·rcases dw (v1.aC==8)with h1|h1
   ·replace h2:=(c7 h1).symm.trans h2;have he:=amo h2;subst he;exact⟨[(12,bT h1),(15,bT h1),(18,bT h1),(22,bT h1)],by kernel_rfl⟩
   replace h2:=(du h1).symm.trans h2;have he:=amo h2;subst he;exact⟨[(12,bF h1),(15,bF h1),(18,bF h1),(22,bF h1)],by kernel_rfl⟩
  rcases dw v5 with h3|h3
  ·replace J:=(c7 h3).symm.trans J;refine cS (t:=v5) (by kernel_rfl) h3 ?_;refine au ?_;obtain⟨v6,h4,v7,h5,J⟩:=k01 J;refine ro 2 bw (.node 0 [] (.node 1 [] (.node 2 [] (.node 3 [] (.node 4 [] (.node 5 [] (.node 6 [(19,oE (k:=0) (gY h4))] (.node 7 [] (.node 8 [(25,oR [(aD v6),(.ptr 1 0),(.ptr 2 0),(.ptr 3 0)] [.cells [(.fn 93 [(.ptr 1 0),(.ptr 2 0),(.ptr 3 0)]),(.fn 91 [(.ptr 3 0)])], .cells [(.fn 96 [(.ptr 4 0),(.ptr 5 0)])], .cells [(.d (.sl (aS v2)))], .cells [(.ptr 0 0)], .cells [(.mp 6)], .cells [(.d (.sl (aX v3)))], .map (bP bQ v4), .cells (aD v1).cells, .cells dB] [1,2,3,4,5,0,6] (s9 h5))] (.node 9 [] (.node 10 [] (.node 11 [] (.node 12 [] (.node 13 [] (.node 14 [] .nil .nil) .nil) .nil) .nil) .nil) .nil) (.node 12 [] (.node 8 [(25,oR [(aD v6),(.ptr 1 0),(.ptr 2 0),(.ptr 3 0)] [.cells [(.fn 93 [(.ptr 1 0),(.ptr 2 0),(.ptr 3 0)]),(.fn 91 [(.ptr 3 0)])], .cells [(.fn 96 [(.ptr 4 0),(.ptr 5 0)])], .cells [(.d (.sl (aS v2)))], .cells [(.ptr 0 0)], .cells [(.mp 6)], .cells [(.d (.sl (aX v3)))], .map (bP bQ v4), .cells (aD v1).cells, .cells dB, .cells dB] [1,2,3,4,5,0,6] (s9 h5))] (.node 9 [] (.node 10 [] (.node 11 [] (.node 13 [] (.node 14 [] .nil .nil) .nil) .nil) .nil) .nil) .nil) .nil)) .nil) .nil) .nil) .nil) .nil) .nil) .nil) .nil) [(6,(.ptr 9 0)),(7,(ar v7.2.1))] [.cells [(.fn 93 [(.ptr 1 0),(.ptr 2 0),(.ptr 3 0)]),(.fn 91 [(.ptr 3 0)])], .cells [(.fn 96 [(.ptr 4 0),(.ptr 5 0)])], .cells [(.d (.sl (aS v2)))], .cells [(.ptr 0 0)], .cells [(.mp 6)], .cells [(.d (.sl (aX v3)))], .map (bP bQ v7.2.2), .cells (aD v1).cells, .cells dB, .cells (dM v7.1).cells] (by kernel_rfl) ?_
   refine au ?_;refine au ?_;refine rg [] [(36,(az (v7.2.1 !=0)))] [.cells [(.fn 93 [(.ptr 1 0),(.ptr 2 0),(.ptr 3 0)]),(.fn 91 [(.ptr 3 0)])], .cells [(.fn 96 [(.ptr 4 0),(.ptr 5 0)])], .cells [(.d (.sl (aS v2)))], .cells [(.ptr 0 0)], .cells [(.mp 6)], .cells [(.d (.sl (aX v3)))], .map (bP bQ v7.2.2), .cells (aD v1).cells, .cells dB, .cells (dM v7.1).cells] (by kernel_rfl) ?_;rcases dw (v7.2.1 !=0)with h6|h6
   ·replace J:=(c7 h6).symm.trans J;refine cS (t:=(v7.2.1 !=0)) (by kernel_rfl) h6 ?_;refine au ?_;refine rg [] [(5,(ar v7.2.1))] [.cells [(.fn 93 [(.ptr 1 0),(.ptr 2 0),(.ptr 3 0)]),(.fn 91 [(.ptr 3 0)])], .cells [(.fn 96 [(.ptr 4 0),(.ptr 5 0)])], .cells [(.d (.sl (aS v2)))], .cells [(.ptr 0 0)], .cells [(.mp 6)], .cells [(.d (.sl (aX v3)))], .map (bP bQ v7.2.2), .cells (aD v1).cells, .cells (dM v7.1).cells, .cells (dM v7.1).cells] (by kernel_rfl) ?_;refine cU (cT (cT ?_));have hr:=amo J;subst hr;exact jj (by kernel_rfl)
   replace J:=(du h6).symm.trans J;refine dm (t:=(v7.2.1 !=0)) (by kernel_rfl) h6 ?_;refine ct ?_;refine aM ?_;refine au ?_;refine au ?_;refine rg [] [(41,(az (v1.aC==12)))] [.cells [(.fn 93 [(.ptr 1 0),(.ptr 2 0),(.ptr 3 0)]),(.fn 91 [(.ptr 3 0)])], .cells [(.fn 96 [(.ptr 4 0),(.ptr 5 0)])], .cells [(.d (.sl (aS v2)))], .cells [(.ptr 0 0)], .cells [(.mp 6)], .cells [(.d (.sl (aX v3)))], .map (bP bQ v7.2.2), .cells (aD v1).cells, .cells dB, .cells (dM v7.1).cells] (by kernel_rfl) ?_;rcases dw (v1.aC==12)with h7|h7
   ·replace J:=(c7 h7).symm.trans J;refine cS (t:=(v1.aC==12)) (by kernel_rfl) h7 ?_;refine au ?_;obtain⟨v8,h8,J⟩:=bm J;refine rg [(19,cK ac6 h8)] [(8,(.ptr 10 0)),(9,(ar v8.2))] [.cells [(.fn 93 [(.ptr 1 0),(.ptr 2 0),(.ptr 3 0)]),(.fn 91 [(.ptr 3 0)])], .cells [(.fn 96 [(.ptr 4 0),(.ptr 5 0)])], .cells [(.d (.sl (aS v2)))], .cells [(.ptr 0 0)], .cells [(.mp 6)], .cells [(.d (.sl (aX v3)))], .map (bP bQ v7.2.2), .cells (aD v1).cells, .cells dB, .cells (dM v7.1).cells, .cells (aT v8.1).cells] (by kernel_rfl) ?_;refine au ?_;refine rg [] [(5,(ar v8.2))] [.cells [(.fn 93 [(.ptr 1 0),(.ptr 2 0),(.ptr 3 0)]),(.fn 91 [(.ptr 3 0)])], .cells [(.fn 96 [(.ptr 4 0),(.ptr 5 0)])], .cells [(.d (.sl (aS v2)))], .cells [(.ptr 0 0)], .cells [(.mp 6)], .cells [(.d (.sl (aX v3)))], .map (bP bQ v7.2.2), .cells (aD v1).cells, .cells [(bk v8.1.xN),(bk v8.1.xD),(ar v1.aK.bu),(ar v1.aK.bG),(ar v1.aK.ck),(ar v1.aK.cx),(ar v1.aK.cG)], .cells (dM v7.1).cells, .cells (aT v8.1).cells] (by kernel_rfl) ?_;refine cU (cT (cT ?_));have hr:=amo J;subst hr;exact jj (by kernel_rfl)
   replace J:=(du h7).symm.trans J;refine dm (t:=(v1.aC==12)) (by kernel_rfl) h7 ?_;refine ct ?_;refine aM ?_;refine au ?_;obtain⟨v9,h9,J⟩:=bm J;refine rg [(19,cK KX h9)] [(10,(.ptr 10 0)),(7,(ar v9.2))] [.cells [(.fn 93 [(.ptr 1 0),(.ptr 2 0),(.ptr 3 0)]),(.fn 91 [(.ptr 3 0)])], .cells [(.fn 96 [(.ptr 4 0),(.ptr 5 0)])], .cells [(.d (.sl (aS v2)))], .cells [(.ptr 0 0)], .cells [(.mp 6)], .cells [(.d (.sl (aX v3)))], .map (bP bQ v7.2.2), .cells (aD v1).cells, .cells dB, .cells (dM v7.1).cells, .cells (aT v9.1).cells] (by kernel_rfl) ?_;refine au ?_;refine rg [] [(5,(ar v9.2))] [.cells [(.fn 93 [(.ptr 1 0),(.ptr 2 0),(.ptr 3 0)]),(.fn 91 [(.ptr 3 0)])], .cells [(.fn 96 [(.ptr 4 0),(.ptr 5 0)])], .cells [(.d (.sl (aS v2)))], .cells [(.ptr 0 0)], .cells [(.mp 6)], .cells [(.d (.sl (aX v3)))], .map (bP bQ v7.2.2), .cells (aD v1).cells, .cells ((bk v9.1.xN)::(bk v9.1.xD)::X2 v7.1 []), .cells (dM v7.1).cells, .cells (aT v9.1).cells] (by kernel_rfl) ?_;refine cU (cT ?_);have hr:=amo J;subst hr;exact jj (by kernel_rfl)
  replace J:=(du h3).symm.trans J;refine dm (t:=v5) (by kernel_rfl) h3 ?_;refine ct ?_;refine aM ?_;refine au ?_;obtain⟨v10,aW,J⟩:=bm J;refine rg [(7,oR [(.ptr 0 0),(aD v1)] [.cells [(.fn 93 [(.ptr 1 0),(.ptr 2 0),(.ptr 3 0)]),(.fn 91 [(.ptr 3 0)])], .cells [(.fn 96 [(.ptr 4 0),(.ptr 5 0)])], .cells [(.d (.sl (aS v2)))], .cells [(.ptr 0 0)], .cells [(.mp 6)], .cells [(.d (.sl (aX v3)))], .map (bP bQ v4), .cells (aD v1).cells, .cells dB] [0,1,2,3,4,5,6] (Ww aW))] [(11,(.ptr 9 0)),(12,(.ptr 10 0)),(13,(ar v10.2.2.1))] [.cells [(.fn 93 [(.ptr 1 0),(.ptr 2 0),(.ptr 3 0)]),(.fn 91 [(.ptr 3 0)])], .cells [(.fn 96 [(.ptr 4 0),(.ptr 5 0)])], .cells [(.d (.sl (aS v2)))], .cells [(.ptr 0 0)], .cells [(.mp 6)], .cells [(.d (.sl (aX v3)))], .map (bP bQ v10.2.2.2), .cells (aD v1).cells, .cells dB, .cells (dM v10.1).cells, .cells (dM v10.2.1).cells] (by kernel_rfl) ?_;refine au ?_;refine au ?_;refine rg [] [(80,(az (v10.2.2.1 !=0)))] [.cells [(.fn 93 [(.ptr 1 0),(.ptr 2 0),(.ptr 3 0)]),(.fn 91 [(.ptr 3 0)])], .cells [(.fn 96 [(.ptr 4 0),(.ptr 5 0)])], .cells [(.d (.sl (aS v2)))], .cells [(.ptr 0 0)], .cells [(.mp 6)], .cells [(.d (.sl (aX v3)))], .map (bP bQ v10.2.2.2), .cells (aD v1).cells, .cells dB, .cells (dM v10.1).cells, .cells (dM v10.2.1).cells] (by kernel_rfl) ?_;rcases dw (v10.2.2.1 !=0)with aZ|aZ
  ·replace J:=(c7 aZ).symm.trans J;refine cS (t:=(v10.2.2.1 !=0)) (by kernel_rfl) aZ ?_;refine au ?_;refine rg [] [(5,(ar v10.2.2.1))] [.cells [(.fn 93 [(.ptr 1 0),(.ptr 2 0),(.ptr 3 0)]),(.fn 91 [(.ptr 3 0)])], .cells [(.fn 96 [(.ptr 4 0),(.ptr 5 0)])], .cells [(.d (.sl (aS v2)))], .cells [(.ptr 0 0)], .cells [(.mp 6)], .cells [(.d (.sl (aX v3)))], .map (bP bQ v10.2.2.2), .cells (aD v1).cells, .cells dB, .cells (dM v10.1).cells, .cells (dM v10.2.1).cells] (by kernel_rfl) ?_;refine cU (cT ?_);have hr:=amo J;subst hr;exact jj (by kernel_rfl)
  replace J:=(du aZ).symm.trans J;refine dm (t:=(v10.2.2.1 !=0)) (by kernel_rfl) aZ ?_;refine ct ?_;refine aM ?_;refine au ?_;obtain⟨v11,bj,J⟩:=bm J;refine rg [(25,cK KX bj)] [(14,(.ptr 11 0)),(13,(ar v11.2))] [.cells [(.fn 93 [(.ptr 1 0),(.ptr 2 0),(.ptr 3 0)]),(.fn 91 [(.ptr 3 0)])], .cells [(.fn 96 [(.ptr 4 0),(.ptr 5 0)])], .cells [(.d (.sl (aS v2)))], .cells [(.ptr 0 0)], .cells [(.mp 6)], .cells [(.d (.sl (aX v3)))], .map (bP bQ v10.2.2.2), .cells (aD v1).cells, .cells dB, .cells (dM v10.1).cells, .cells (dM v10.2.1).cells, .cells (aT v11.1).cells] (by kernel_rfl) ?_;refine au ?_;refine rg [] [(5,(ar v11.2))] [.cells [(.fn 93 [(.ptr 1 0),(.ptr 2 0),(.ptr 3 0)]),(.fn 91 [(.ptr 3 0)])], .cells [(.fn 96 [(.ptr 4 0),(.ptr 5 0)])], .cells [(.d (.sl (aS v2)))], .cells [(.ptr 0 0)], .cells [(.mp 6)], .cells [(.d (.sl (aX v3)))], .map (bP bQ v10.2.2.2), .cells (aD v1).cells, .cells ((bk v11.1.xN)::(bk v11.1.xD)::X2 v10.1 []), .cells (dM v10.1).cells, .cells (dM v10.2.1).cells, .cells (aT v11.1).cells] (by kernel_rfl) ?_;refine cU ?_;have hr:=amo J;subst hr;exact jj (by kernel_rfl)
theorem gV(N:Nat)(v1:ay)(v2:amT aV)(v3:amT aO)(v4:amT (amU×aU))(r:eZ×Int×(amT (amU×aU)))(J:EV N v1 v2 v3 v4=some r):KH 93 [(aD v1),(.ptr 0 0),(.ptr 1 0),(.ptr 2 0)] ([.cells [(.fn 96 [(.ptr 3 0),(.ptr 4 0)])], .cells [(.d (.sl (aS v2)))], .cells [(.ptr 5 0)], .cells [(.mp 6)], .cells [(.d (.sl (aX v3)))], .cells [(.fn 93 [(.ptr 0 0),(.ptr 1 0),(.ptr 2 0)]),(.fn 91 [(.ptr 2 0)])], .map (bP bQ v4)]) (.aY [(dM r.1),(ar r.2.1)]) ([.cells [(.fn 96 [(.ptr 3 0),(.ptr 4 0)])], .cells [(.d (.sl (aS v2)))], .cells [(.ptr 5 0)], .cells [(.mp 6)], .cells [(.d (.sl (aX v3)))], .cells [(.fn 93 [(.ptr 0 0),(.ptr 1 0),(.ptr 2 0)]),(.fn 91 [(.ptr 2 0)])], .map (bP bQ r.2.2)]):=(UL N N).1 J
theorem OG(N:Nat)(v1:ay)(v2:amT aV)(v3:amT aO)(v4:amT (amU×aU))(r:Bool×Int×(amT (amU×aU)))(J:MS N v1 v2 v3 v4=some r):KH 91 [(aD v1),(.ptr 0 0)] ([.cells [(.ptr 1 0)], .cells [(.fn 93 [(.ptr 2 0),(.ptr 3 0),(.ptr 0 0)]),(.fn 91 [(.ptr 0 0)])], .cells [(.fn 96 [(.ptr 4 0),(.ptr 5 0)])], .cells [(.d (.sl (aS v2)))], .cells [(.mp 6)], .cells [(.d (.sl (aX v3)))], .map (bP bQ v4)]) (.aY [(az r.1),(ar r.2.1)]) ([.cells [(.ptr 1 0)], .cells [(.fn 93 [(.ptr 2 0),(.ptr 3 0),(.ptr 0 0)]),(.fn 91 [(.ptr 0 0)])], .cells [(.fn 96 [(.ptr 4 0),(.ptr 5 0)])], .cells [(.d (.sl (aS v2)))], .cells [(.mp 6)], .cells [(.d (.sl (aX v3)))], .map (bP bQ r.2.2)]):=(UL N N).2.1 J
def MU(N:Nat)(v1:Int)(v2:Bool):amV (Int×Bool):=
 bif v2 then
  some ((4:Int),true)
 else
  bif (v1==2)then
   some ((6:Int),true)
  else
   bif (v1==3)then
    some ((9:Int),true)
   else
    bif (v1==4)then
     some ((10:Int),true)
    else
     some ((0:Int),false)
def Uq(N:Nat)(v1:Int):amV (Int×Bool):=
 bif (v1==1)then
  MU N v1 (v1==1)
 else
  MU N v1 (v1==5)
theorem ajp{N v1}:KO 116 [(ar v1)] (λr=> .aY [(ar r.1),(az r.2)]) (Uq N v1):=
 fw Tryz.func116 (kC 1 [[],[],[]] [4,5] 0 (λ(v2:Bool)=>⟨14,[(4,(ar v1)),(5,(az v2))],[]⟩) (MU N v1) (λf1 aJ=>ax (λh5=>gm aJ (v1==1) [[t0 h5]]) λh5=>gm aJ (v1==5) [[f0 h5],[]]) (λv2=>fP λ_=>fP λ_=>fP λ_=>bn λh4=>gR [[f0 h4],[]]))
def Ul(N:Nat)(v1:aP):amV aB:=
 (mr N v1).bind λv2=>
 bif (v2 !=0)then
  some bK
 else
  some (⟨(0:Int64),(1:Int64)⟩:aB)
theorem adz{N v1}:KO 204 [(bE v1)] aT (Ul N v1):=
 fw Tryz.func204 (aw λv2 h1=>gA [[],[(4,cK nQ h1)]] (bn λh2=>gR [[f0 h2],[]]))
def Sx(N:Nat)(v1:aP):amV (aB×Int):=
 (mr N v1).bind λv2=>
 bif (v2 !=0)then
  some (bK,(10:Int))
 else
  bif (v1.bu !=2)then
   some ((⟨(1:Int64),(1:Int64)⟩:aB),(0:Int))
  else
   bif (decide ((0:Int)<=v1.ck))then
   Option.bind (rz N v1 (⟨(Int64.ofInt ((1:Int)*2^(min (v1.ck).toNat (IntKind.bits .i64)))),(1:Int64)⟩:aB)) λv3=>
   bif v3 then
    some ((⟨(Int64.ofInt ((1:Int)*2^(min (v1.ck).toNat (IntKind.bits .i64)))),(1:Int64)⟩:aB),(0:Int))
   else
    some (bK,(3:Int))
   else none
theorem ajG{N v1}:KO 205 [(bE v1)] (λr=> .aY [(aT r.1),(ar r.2)]) (Sx N v1):=
 fw Tryz.func205 (aw λv2 h1=>gA [[],[(4,cK nQ h1)]] (fP λ_=>bn λh3=>dG λh4=>aw λv3 h5=>gA [[f0 h3],[(7,⟨_,_, .nn (b:=v1.ck) (of_decide_eq_true h4)⟩),(8,⟨_,_, .eq (gP ((1:Int)*2^(min (v1.ck).toNat (IntKind.bits .i64))))⟩)],[(7,cK Ny h5)]] (oT λh6=>gR [[t0 (dj h6)],[]])))
def Ln(N:Nat)(v2:aP)(v1:Int)(v4:Bool):amV (aB×Bool):=
 bif v4 then
  (Ul N v2).bind λv5=>
  some (v5,true)
 else
  bif (v1==2)then
   (Sx N v2).bind λv6=>
   some (v6.1,(v6.2==0))
  else
   some (bK,false)
def Wu(N:Nat)(v1:Int)(v2:aP):amV (aB×Bool):=
 (mr N v2).bind λv3=>
 bif (v3 !=0)then
  some (bK,false)
 else
  bif (v1==1)then
   Ln N v2 v1 (v1==1)
  else
   Ln N v2 v1 (v1==5)
theorem aac{N v1 v2}:KO 119 [(ar v1),(bE v2)] (λr=> .aY [(aT r.1),(az r.2)]) (Wu N v1 v2):=
 fw Tryz.func119 (aw λv3 h1=>gA [[],[(4,cK nQ h1)]] (bn λh2=>kC 1 [[f0 h2],[],[]] [3,4,12,13] 2 (λ(v4:Bool)=>⟨29,[(3,(.ptr 0 0)),(4,(.ptr 1 0)),(12,(ar v1)),(13,(az v4))],[.cells (bE v2).cells, .cells fG]⟩) (Ln N v2 v1) (λf1 aJ=>ax (λh7=>gm aJ (v1==1) [[t0 h7]]) λh7=>gm aJ (v1==5) [[f0 h7],[]]) (λv4=>ax (λh3=>aw λv5 h4=>gR [[t0 h3],[(4,cK adz h4)]]) λh3=>gA [[f0 h3],[]] (jL λh5=>aw λv6 h6=>gR [[t0 h5],[(4,cK ajG h6)],[]]))))
def QW(N:Nat)(v4:Int×Bool)(v2:aP):amT aB->Nat->Int64->Int64->amV (aB×Int)
 |[],_,bx,cy=>
  some ((⟨bx,cy⟩:aB),(0:Int))
 |aI::bg,v12,bx,cy=>
  Option.bind (An N v4.1 v2 (⟨bx,cy⟩:aB) aI) λbI=>
  bif (bI.2 !=0)then
   some (bK,bI.2)
  else
   (λiv Bo=>QW N v4 v2 bg (v12+1) iv Bo) bI.1.xN bI.1.xD
def R1(N:Nat)(v3:amT aB)(v1:Int)(v2:aP)(v4:Int×Bool):amT aB->Nat->amV (aB×Int)
 |[],_=>
  bif ((v3.length:Int)==0)then
   (Wu N v1 v2).bind λv10=>
   bif v10.2 then
    some (v10.1,(0:Int))
   else
    some (bK,(1:Int))
  else
   Option.bind (v3[0]?) λv11=>
   bif (decide (1<=v3.length))then
   QW N v4 v2 (v3.drop 1) 0 v11.xN v11.xD
   else none
 |v8::v9,v6=>
  (nD N v2 v8).bind λcF=>
  bif cF then
   (R1 N v3 v1 v2 v4 v9 (v6+1))
  else
   some (bK,(1:Int))
def KN(N:Nat)(v1:Int)(v2:aP)(v3:amT aB):amV (aB×Int):=
 (Uq N v1).bind λv4=>
 bif v4.2 then
  (mr N v2).bind λv5=>
  bif (v5 !=0)then
   some (bK,(10:Int))
  else
   R1 N v3 v1 v2 v4 v3 0
 else
  some (bK,(1:Int))
theorem Sm{N v1 v2 v3}:KO 69 [(ar v1),(bE v2),(.d (.sl (dO v3)))] (λr=> .aY [(aT r.1),(ar r.2)]) (KN N v1 v2 v3):=
 fw Tryz.func69 (aw λv4 h1=>gA [[],[(4,cK ajp h1)],[]] (fW λh2=>aw λv5 h3=>gA [[f0 (cH h2)],[(4,cK nQ h3)]] (bn λh4=>gA [[f0 h4],[(4,oL v3 kp)]] (gT wj 2 v3 λh6=>e7 1 [] [0,2,4,6,8,33,34,35] 2 (λv6=>⟨83,[(0,(ar v1)),(2,(.d (.sl (dO v3)))),(4,(.ptr 0 0)),(6,(.ptr 1 0)),(8,(ar v4.1)),(33,(.d (.sl (dO v3)))),(34,(ar (v3.length:Int))),(35,(ar (v6:Int)))],[.cells (bE v2).cells, .cells fG]⟩) (λv6 h7 f1=>gA [[],[f0 (cf h7)],[(4,oL v3 kp)]] (ax (λh8=>aw λv10 h9=>gA [[t0 h8],[(7,cK aac h9)],[]] (oT λaW=>gR [[t0 (dj aW)],[]])) λh8=>aw λv11 aZ=>dG λbj=>gA [[f0 h8],[(4,oE (k:=0) (nm aZ))],[(4,⟨_,_, .TZ (xs:=dO v3) (lo:=1) (by decide) (by rw[kp];exact(of_decide_eq_true bj)) Lu ajA⟩),(7,oL ((v3.drop 1)) kp)]] (gT wj 62 (v3.drop 1) λbJ=>OO 2 [] [4,6,8,14,62,63,64] 3 (λv12(bx:Int64)(cy:Int64)=>⟨83,[(4,(.ptr 0 0)),(6,(.ptr 1 0)),(8,(ar v4.1)),(14,(.ptr 2 0)),(62,(.d (.sl (dO (v3.drop 1))))),(63,(ar ((v3.drop 1).length:Int))),(64,(ar (v12:Int)))],[.cells (bE v2).cells, .cells fG, .cells [(bk bx),(bk cy)]]⟩) (λv12 bx cy bH f2=>gR [[],[f0 (cf bH)],[]]) (λv12 aI bg bx cy bH f2 eK=>aw λbI bY=>gA [[],[t0 (bZ bH)],[(1,⟨_,_, .el (xs:=dO (v3.drop 1)) (i:=(v12:Int)) (Int.natCast_nonneg _) (nm (bM bH))⟩)],[(13,cK KX bY)],[]] (bn λc9=>gb eK (bI.1.xN,bI.1.xD) [[f0 c9],[],[(2,oq (cC bH rfl bJ))]] bH))))) (λv6 v8 v9 h7 f1 aJ=>aw λcF dZ=>gA [[],[t0 (bZ h7)],[(1,oE (nm (bM h7)))],[(7,cK tY dZ)]] (fW λeI=>gb aJ () [[f0 (cH eI)],[(2,oq (cC h7 rfl h6))]] h7))))))
def Bg(N:Nat)(v1:et)(v3:amT aV)(v4:amT aO):amT (amT Int)->Int64->Int64->Bool->(amT (amU×aU))->amV (aB×Int×(amT (amU×aU)))
 |[],v11,v12,_,aI=>
  some ((⟨v11,v12⟩:aB),(0:Int),aI)
 |bg::bx,v11,v12,aF,aI=>
  (NK N v1.m6 bg v3).bind λcy=>
  (uy N cy v4 aI).bind λbI=>
  (EV N v1.dF bI v4 aI).bind λcF=>
  bif (cF.2.1 !=0)then
   some (bK,cF.2.1,cF.2.2)
  else
   bif aF then
    (λcu fv xC Ko=>Bg N v1 v3 v4 bx cu fv xC Ko) cF.1.yVal.xN cF.1.yVal.xD false cF.2.2
   else
    Option.bind (KN N v1.jq v1.aK ([(⟨v11,v12⟩:aB),cF.1.yVal])) λv20=>
    bif (v20.2 !=0)then
     some (bK,v20.2,cF.2.2)
    else
     (λcu fv xC Ko=>Bg N v1 v3 v4 bx cu fv xC Ko) v20.1.xN v20.1.xD aF cF.2.2
def P4(N:Nat)(v1:et)(v2:amT Int)(v3:amT aV)(v4:amT aO)(v5:amT (amU×aU)):amV (aB×Int×(amT (amU×aU))):=
 Option.bind (bif (v1.jq==0)then some true else some (v1.jq==5)) λv6=>
 bif v6 then
  (uy N v3 v4 v5).bind λv7=>
  (EV N v1.dF v7 v4 v5).bind λv8=>
  some (v8.1.yVal,v8.2.1,v8.2.2)
 else
  (Ip N v2).bind λv9=>
  (K9 N v9).bind λv10=>
  Bg N v1 v3 v4 v10 (0:Int64) (0:Int64) true v5
def nR(v4:amT aO)(v5:amT (amU×aU))(v1:et)(v3:amT aV)(l:amT aq):amT aq:= .cells [(.mp 2)]:: .cells [(.d (.sl (aX v4)))]:: .map (bP bQ v5):: .cells [(.fn 96 [(.ptr 0 0),(.ptr 1 0)])]:: .cells (gj v1).cells:: .cells [(.d (.sl (aS v3)))]:: .cells fG:: .cells [(ar (0:Int))]::l
def Cy(v4:amT aO)(aI:amT (amU×aU))(v1:et)(v3:amT aV)(v11:Int64)(v12:Int64)(aF:Bool)(cA:Code)(cB:Code)(v9:(amT Int))(l:amT aq):amT aq:=nR v4 aI v1 v3 (.cells [(bk v11),(bk v12)]:: .cells [(az aF)]:: .lp .busy 42 cA cB (dt 83 [(4,(.ptr 3 0)),(5,(.ptr 4 0)),(7,(.ptr 5 0)),(8,(.ptr 6 0)),(9,(.ptr 7 0)),(12,(.ptr 8 0)),(13,(.ptr 9 0)),(41,(.fn 113 [(.bp [[(.sl (bA v9))]] 0 0)]))])::l)
def qA(v4:amT aO)(v8:eZ×Int×(amT (amU×aU)))(v1:et)(v3:amT aV)(l:amT aq):amT aq:= .cells [(.mp 2)]:: .cells [(.d (.sl (aX v4)))]:: .map (bP bQ v8.2.2):: .cells [(.fn 96 [(.ptr 0 0),(.ptr 1 0)])]:: .cells (gj v1).cells:: .cells [(.d (.sl (aS v3)))]:: .cells fG::l
def Pq(v4:amT aO)(cF:eZ×Int×(amT (amU×aU)))(v1:et)(v3:amT aV)(v11:Int64)(v12:Int64)(aF:Bool)(cA:Code)(cB:Code)(v9:(amT Int))(bI:(amT aV))(l:amT aq):amT aq:=qA v4 cF v1 v3 (.cells [(ar (0:Int))]:: .cells [(bk v11),(bk v12)]:: .cells [(az aF)]:: .lp .busy 42 cA cB (dt 83 [(4,(.ptr 3 0)),(5,(.ptr 4 0)),(7,(.ptr 5 0)),(8,(.ptr 6 0)),(9,(.ptr 7 0)),(12,(.ptr 8 0)),(13,(.ptr 9 0)),(41,(.fn 113 [(.bp [[(.sl (bA v9))]] 0 0)]))]):: .cells [(.fn 96 [(.ptr 0 0),(.ptr 1 0)])]:: .cells [(.d (.sl (aS bI)))]:: .cells [(.fn 93 [(.ptr 11 0),(.ptr 12 0),(.ptr 14 0)]),(.fn 91 [(.ptr 14 0)])]:: .cells [(.ptr 13 0)]:: .cells (dM cF.1).cells::l)
def Ia(v4:amT aO)(v5:amT (amU×aU))(v1:et)(v3:amT aV)(l:amT aq):amT aq:=nR v4 v5 v1 v3 (.cells dB::l)
def F5(v4:amT aO)(aI:amT (amU×aU))(v1:et)(v3:amT aV)(v11:Int64)(v12:Int64)(aF:Bool)(cA:Code)(cB:Code)(v9:(amT Int))(l:amT aq):amT aq:=Cy v4 aI v1 v3 v11 v12 aF cA cB v9 (.cells dB::l)
def Gy(v4:amT aO)(v5:amT (amU×aU))(v1:et)(v3:amT aV)(v7:(amT aV))(l:amT aq):amT aq:=nR v4 v5 v1 v3 (.cells [(.fn 96 [(.ptr 0 0),(.ptr 1 0)])]:: .cells [(.d (.sl (aS v7)))]:: .cells [(.fn 93 [(.ptr 8 0),(.ptr 9 0),(.ptr 11 0)]),(.fn 91 [(.ptr 11 0)])]:: .cells [(.ptr 10 0)]::l)
def I2(v4:amT aO)(aI:amT (amU×aU))(v1:et)(v3:amT aV)(v11:Int64)(v12:Int64)(aF:Bool)(cA:Code)(cB:Code)(v9:(amT Int))(bI:(amT aV))(l:amT aq):amT aq:=Cy v4 aI v1 v3 v11 v12 aF cA cB v9 (.cells [(.fn 96 [(.ptr 0 0),(.ptr 1 0)])]:: .cells [(.d (.sl (aS bI)))]:: .cells [(.fn 93 [(.ptr 11 0),(.ptr 12 0),(.ptr 14 0)]),(.fn 91 [(.ptr 14 0)])]:: .cells [(.ptr 13 0)]::l)
def YQ(v4:amT aO)(cF:eZ×Int×(amT (amU×aU)))(v1:et)(v3:amT aV)(v20:aB×Int)(aF:Bool)(cA:Code)(cB:Code)(v9:(amT Int))(bI:(amT aV))(l:amT aq):amT aq:=qA v4 cF v1 v3 (.cells [(ar (0:Int))]:: .cells (aT v20.1).cells:: .cells [(az aF)]:: .lp .busy 42 cA cB (dt 83 [(4,(.ptr 3 0)),(5,(.ptr 4 0)),(7,(.ptr 5 0)),(8,(.ptr 6 0)),(9,(.ptr 7 0)),(12,(.ptr 8 0)),(13,(.ptr 9 0)),(41,(.fn 113 [(.bp [[(.sl (bA v9))]] 0 0)]))]):: .cells [(.fn 96 [(.ptr 0 0),(.ptr 1 0)])]:: .cells [(.d (.sl (aS bI)))]:: .cells [(.fn 93 [(.ptr 11 0),(.ptr 12 0),(.ptr 14 0)]),(.fn 91 [(.ptr 14 0)])]:: .cells [(.ptr 13 0)]:: .cells (dM cF.1).cells::l)
def KT(v4:amT aO)(v5:amT (amU×aU))(v1:et)(v3:amT aV)(v7:(amT aV))(l:amT aq):amT aq:=Ia v4 v5 v1 v3 (.cells [(.fn 96 [(.ptr 0 0),(.ptr 1 0)])]:: .cells [(.d (.sl (aS v7)))]:: .cells [(.fn 93 [(.ptr 9 0),(.ptr 10 0),(.ptr 12 0)]),(.fn 91 [(.ptr 12 0)])]:: .cells [(.ptr 11 0)]::l)
def Kw(v4:amT aO)(aI:amT (amU×aU))(v1:et)(v3:amT aV)(v11:Int64)(v12:Int64)(aF:Bool)(cA:Code)(cB:Code)(v9:(amT Int))(bI:(amT aV))(l:amT aq):amT aq:=F5 v4 aI v1 v3 v11 v12 aF cA cB v9 (.cells [(.fn 96 [(.ptr 0 0),(.ptr 1 0)])]:: .cells [(.d (.sl (aS bI)))]:: .cells [(.fn 93 [(.ptr 12 0),(.ptr 13 0),(.ptr 15 0)]),(.fn 91 [(.ptr 15 0)])]:: .cells [(.ptr 14 0)]::l)
def JB(v4:amT aO)(v5:amT (amU×aU))(v1:et)(v3:amT aV)(l:amT aq):amT aq:=nR v4 v5 v1 v3 (.cells fG:: .cells [(az true)]::l)
def Ng(v4:amT aO)(l:amT aq):amT aq:= .cells [(.mp 2)]:: .cells [(.d (.sl (aX v4)))]::l
def Rq(v4:amT aO)(aI:amT (amU×aU))(v1:et)(v3:amT aV)(v11:Int64)(v12:Int64)(aF:Bool)(cA:Code)(cB:Code)(v9:(amT Int))(l:amT aq):amT aq:=nR v4 aI v1 v3 (.cells [(bk v11),(bk v12)]:: .cells [(az aF)]:: .lp .ready 42 cA cB (dt 83 [(4,(.ptr 3 0)),(5,(.ptr 4 0)),(7,(.ptr 5 0)),(8,(.ptr 6 0)),(9,(.ptr 7 0)),(12,(.ptr 8 0)),(13,(.ptr 9 0)),(41,(.fn 113 [(.bp [[(.sl (bA v9))]] 0 0)]))])::l)
theorem VO(N:Nat)(v1:et)(v2:amT Int)(v3:amT aV)(v4:amT aO)(v5:amT (amU×aU))(r:aB×Int×(amT (amU×aU)))(J:P4 N v1 v2 v3 v4 v5=some r):KH 67 [(.fn 96 [(.ptr 0 0),(.ptr 1 0)]),(gj v1),(.d (.sl (bA v2))),(.d (.sl (aS v3)))] ([.cells [(.mp 2)], .cells [(.d (.sl (aX v4)))], .map (bP bQ v5)]) (.aY [(aT r.1),(ar r.2.1)]) ([.cells [(.mp 2)], .cells [(.d (.sl (aX v4)))], .map (bP bQ r.2.2)]):=by
 rw[P4]at J;refine qn 3 Tryz.func67 rfl (by kernel_rfl) (amd rfl) ?_;refine mq (s':=⟨83,[(0,(.fn 96 [(.ptr 0 0),(.ptr 1 0)])),(1,(gj v1)),(2,(.d (.sl (bA v2)))),(3,(.d (.sl (aS v3))))],(Ng v4 [.map (bP bQ v5)])⟩) (by kernel_rfl) ?_;refine au ?_;refine rg [] [(4,(.ptr 3 0)),(5,(.ptr 4 0)),(7,(.ptr 5 0)),(8,(.ptr 6 0)),(9,(.ptr 7 0))] (nR v4 v5 v1 v3 []) (by kernel_rfl) ?_;refine au ?_;refine au ?_;obtain⟨v6,h2,J⟩:=bm J;refine A8 [(24,(az v6))] (nR v4 v5 v1 v3 []) ?_ ?_
 ·rcases dw (v1.jq==0)with h1|h1
  ·replace h2:=(c7 h1).symm.trans h2;have he:=amo h2;subst he;exact⟨[(12,bT h1),(15,bT h1),(18,bT h1),(22,bT h1)],by kernel_rfl⟩
  replace h2:=(du h1).symm.trans h2;have he:=amo h2;subst he;exact⟨[(12,bF h1),(15,bF h1),(18,bF h1),(22,bF h1)],by kernel_rfl⟩
 rcases dw v6 with h3|h3
 ·replace J:=(c7 h3).symm.trans J;refine cS (t:=v6) (by kernel_rfl) h3 ?_;refine au ?_;obtain⟨v7,h4,v8,h5,J⟩:=k01 J;refine ro 7 bw (.node 0 [] (.node 1 [] (.node 6 [] (.node 2 [(7,oX (aQ (aQ (dL c6))) (aQ (aQ (dL (aQ (aQ (aQ (aQ c6))))))) [(.fn 96 [(.ptr 0 0),(.ptr 1 0)]),(.d (.sl (aS v3)))] (nR v4 v5 v1 v3 []) [0,1,2] (iJ h4))] (.node 3 [] (.node 4 [] (.node 5 [] (.node 7 [] (.node 8 [(25,oR [(aD v1.dF),(.ptr 8 0),(.ptr 9 0),(.ptr 11 0)] (Gy v4 v5 v1 v3 v7 []) [8,9,11,0,1,10,2] (gV N v1.dF v7 v4 v5 v8 h5))] (.node 9 [] (.node 10 [] (.node 11 [] (.node 12 [] (.node 13 [] (.node 14 [] .nil .nil) .nil) .nil) .nil) .nil) .nil) (.node 12 [] (.node 8 [(25,oR [(aD v1.dF),(.ptr 8 0),(.ptr 9 0),(.ptr 11 0)] (Gy v4 v5 v1 v3 v7 [.cells dB]) [8,9,11,0,1,10,2] (gV N v1.dF v7 v4 v5 v8 h5))] (.node 9 [] (.node 10 [] (.node 11 [] (.node 13 [] (.node 14 [] .nil .nil) .nil) .nil) .nil) .nil) .nil) .nil)) .nil) .nil) .nil) .nil) (.node 7 [] (.node 2 [(7,oX (aQ (aQ (dL c6))) (aQ (aQ (dL (aQ (aQ (aQ (aQ c6))))))) [(.fn 96 [(.ptr 0 0),(.ptr 1 0)]),(.d (.sl (aS v3)))] (nR v4 v5 v1 v3 []) [0,1,2] (iJ h4))] (.node 3 [] (.node 4 [] (.node 5 [] (.node 8 [(25,oR [(aD v1.dF),(.ptr 8 0),(.ptr 9 0),(.ptr 11 0)] (Gy v4 v5 v1 v3 v7 []) [8,9,11,0,1,10,2] (gV N v1.dF v7 v4 v5 v8 h5))] (.node 9 [] (.node 10 [] (.node 11 [] (.node 12 [] (.node 13 [] (.node 14 [] .nil .nil) .nil) .nil) .nil) .nil) .nil) (.node 12 [] (.node 8 [(25,oR [(aD v1.dF),(.ptr 8 0),(.ptr 9 0),(.ptr 11 0)] (Gy v4 v5 v1 v3 v7 [.cells dB]) [8,9,11,0,1,10,2] (gV N v1.dF v7 v4 v5 v8 h5))] (.node 9 [] (.node 10 [] (.node 11 [] (.node 13 [] (.node 14 [] .nil .nil) .nil) .nil) .nil) .nil) .nil) .nil)) .nil) .nil) .nil) (.node 12 [] (.node 2 [(7,oX (aQ (aQ (dL c6))) (aQ (aQ (dL (aQ (aQ (aQ (aQ c6))))))) [(.fn 96 [(.ptr 0 0),(.ptr 1 0)]),(.d (.sl (aS v3)))] (Ia v4 v5 v1 v3 []) [0,1,2] (iJ h4))] (.node 3 [] (.node 4 [] (.node 5 [] (.node 8 [(25,oR [(aD v1.dF),(.ptr 9 0),(.ptr 10 0),(.ptr 12 0)] (KT v4 v5 v1 v3 v7 []) [9,10,12,0,1,11,2] (gV N v1.dF v7 v4 v5 v8 h5))] (.node 9 [] (.node 10 [] (.node 11 [] (.node 13 [] (.node 14 [] .nil .nil) .nil) .nil) .nil) .nil) .nil) .nil) .nil) .nil) .nil) .nil)) (.node 12 [] (.node 2 [(7,oX (aQ (aQ (dL c6))) (aQ (aQ (dL (aQ (aQ (aQ (aQ c6))))))) [(.fn 96 [(.ptr 0 0),(.ptr 1 0)]),(.d (.sl (aS v3)))] (Ia v4 v5 v1 v3 []) [0,1,2] (iJ h4))] (.node 3 [] (.node 4 [] (.node 5 [] (.node 7 [] (.node 8 [(25,oR [(aD v1.dF),(.ptr 9 0),(.ptr 10 0),(.ptr 12 0)] (KT v4 v5 v1 v3 v7 []) [9,10,12,0,1,11,2] (gV N v1.dF v7 v4 v5 v8 h5))] (.node 9 [] (.node 10 [] (.node 11 [] (.node 13 [] (.node 14 [] .nil .nil) .nil) .nil) .nil) .nil) .nil) .nil) .nil) .nil) .nil) (.node 7 [] (.node 2 [(7,oX (aQ (aQ (dL c6))) (aQ (aQ (dL (aQ (aQ (aQ (aQ c6))))))) [(.fn 96 [(.ptr 0 0),(.ptr 1 0)]),(.d (.sl (aS v3)))] (Ia v4 v5 v1 v3 []) [0,1,2] (iJ h4))] (.node 3 [] (.node 4 [] (.node 5 [] (.node 8 [(25,oR [(aD v1.dF),(.ptr 9 0),(.ptr 10 0),(.ptr 12 0)] (KT v4 v5 v1 v3 v7 []) [9,10,12,0,1,11,2] (gV N v1.dF v7 v4 v5 v8 h5))] (.node 9 [] (.node 10 [] (.node 11 [] (.node 13 [] (.node 14 [] .nil .nil) .nil) .nil) .nil) .nil) .nil) .nil) .nil) .nil) .nil) .nil)) .nil))) .nil) .nil) .nil) [(10,(.ptr 12 0)),(11,(ar v8.2.1))] (qA v4 v8 v1 v3 [.cells [(ar (0:Int))], .cells [(.fn 96 [(.ptr 0 0),(.ptr 1 0)])], .cells [(.d (.sl (aS v7)))], .cells [(.fn 93 [(.ptr 8 0),(.ptr 9 0),(.ptr 11 0)]),(.fn 91 [(.ptr 11 0)])], .cells [(.ptr 10 0)], .cells (dM v8.1).cells]) (by kernel_rfl) ?_
  refine au ?_;refine rg [] [] (Ng v4 [.map (bP bQ v8.2.2), .cells [(.fn 96 [(.ptr 0 0),(.ptr 1 0)])], .cells (gj v1).cells, .cells [(.d (.sl (aS v3)))], .cells (aT v8.1.yVal).cells, .cells [(ar v8.2.1)], .cells [(.fn 96 [(.ptr 0 0),(.ptr 1 0)])], .cells [(.d (.sl (aS v7)))], .cells [(.fn 93 [(.ptr 8 0),(.ptr 9 0),(.ptr 11 0)]),(.fn 91 [(.ptr 11 0)])], .cells [(.ptr 10 0)], .cells (dM v8.1).cells]) (by kernel_rfl) ?_;refine cU (cT ?_);have hr:=amo J;subst hr;exact jj (by kernel_rfl)
 replace J:=(du h3).symm.trans J;refine dm (t:=v6) (by kernel_rfl) h3 ?_;refine ct ?_;refine aM ?_;refine au ?_;refine rg [] [(12,(.ptr 8 0))] (nR v4 v5 v1 v3 [.cells fG]) (by kernel_rfl) ?_;refine au ?_;refine rg [] [(13,(.ptr 9 0))] (JB v4 v5 v1 v3 []) (by kernel_rfl) ?_;refine au ?_;refine au ?_;obtain⟨v9,h6,J⟩:=bm J;refine rg [(4,oQ [(.d (.sl (bA v2)))] (JB v4 v5 v1 v3 []) [] (Uv h6))] [(41,(.fn 113 [(.bp [[(.sl (bA v9))]] 0 0)]))] (JB v4 v5 v1 v3 []) (by kernel_rfl) ?_;refine dn ?_;obtain⟨v10,h7,J⟩:=bm J;refine ft [4,5,7,8,9,12,13,41] 10 (amd rfl) (s':=⟨83,[(4,(.ptr 3 0)),(5,(.ptr 4 0)),(7,(.ptr 5 0)),(8,(.ptr 6 0)),(9,(.ptr 7 0)),(12,(.ptr 8 0)),(13,(.ptr 9 0)),(41,(.fn 113 [(.bp [[(.sl (bA v9))]] 0 0)]))],(JB v4 v5 v1 v3 [])⟩) (by kernel_rfl) ?_;refine xm (m:=10) (enc:=o7) (xs:=v10) (by kernel_rfl) (Xq h7) (λ((v11,v12,aF,aI):Int64×Int64×Bool×(amT (amU×aU)))=>(nR v4 aI v1 v3 [.cells [(bk v11),(bk v12)], .cells [(az aF)]])) (λ((v11,v12,aF,aI):Int64×Int64×Bool×(amT (amU×aU))) l=>Bg N v1 v3 v4 l v11 v12 aF aI=some r) ((0:Int64),(0:Int64),true,v5) (by kernel_rfl) J (by rintro⟨v11,v12,aF,aI⟩;rfl) (by rintro⟨v11,v12,aF,aI⟩;kernel_rfl) (by kernel_rfl) rfl ?_ ?_
 ·rintro⟨v11,v12,aF,aI⟩ bg bx J h8 cA cB
  try dsimp only at J
  rw[Bg]at J;refine ft [4,5,7,8,9,12,13,42] 11 (amg _) (s':=⟨83,[(4,(.ptr 3 0)),(5,(.ptr 4 0)),(7,(.ptr 5 0)),(8,(.ptr 6 0)),(9,(.ptr 7 0)),(12,(.ptr 8 0)),(13,(.ptr 9 0)),(42,(.d (.sl (bA bg))))],(Rq v4 aI v1 v3 v11 v12 aF cA cB v9 [])⟩) (by kernel_rfl) ?_;refine re [] [(14,(.d (.sl (bA bg))))] (Rq v4 aI v1 v3 v11 v12 aF cA cB v9 []) (by kernel_rfl) ?_;refine aM ?_;refine⟨(nR v4 aI v1 v3 [.cells [(bk v11),(bk v12)], .cells [(az aF)]]),[],rfl,(by kernel_rfl),?_⟩;refine ft [4,5,7,8,9,12,13,14] 11 (amd rfl) (s':=⟨83,[(4,(.ptr 3 0)),(5,(.ptr 4 0)),(7,(.ptr 5 0)),(8,(.ptr 6 0)),(9,(.ptr 7 0)),(12,(.ptr 8 0)),(13,(.ptr 9 0)),(14,(.d (.sl (bA bg))))],(Cy v4 aI v1 v3 v11 v12 aF cA cB v9 [])⟩) (by kernel_rfl) ?_;refine dn ?_;refine au ?_;obtain⟨cy,h9,bI,aW,J⟩:=k01 J;obtain⟨cF,aZ,J⟩:=bm J;refine ro 7 bw (.node 0 [] (.node 1 [] (.node 2 [] (.node 3 [] (.node 4 [] (.node 5 [(16,cK VV h9)] (.node 10 [] (.node 6 [(19,oX (aQ (aQ (dL c6))) (aQ (aQ (dL (aQ (aQ (aQ (aQ c6))))))) [(.fn 96 [(.ptr 0 0),(.ptr 1 0)]),(.d (.sl (aS cy)))] (Cy v4 aI v1 v3 v11 v12 aF cA cB v9 []) [0,1,2] (iJ aW))] (.node 7 [] (.node 8 [] (.node 9 [] (.node 11 [] (.node 12 [(37,oR [(aD v1.dF),(.ptr 11 0),(.ptr 12 0),(.ptr 14 0)] (I2 v4 aI v1 v3 v11 v12 aF cA cB v9 bI []) [11,12,14,0,1,13,2] (gV N v1.dF bI v4 aI cF aZ))] (.node 13 [] (.node 14 [] (.node 15 [] (.node 16 [] (.node 17 [] (.node 18 [] .nil .nil) .nil) .nil) .nil) .nil) .nil) (.node 16 [] (.node 12 [(37,oR [(aD v1.dF),(.ptr 11 0),(.ptr 12 0),(.ptr 14 0)] (I2 v4 aI v1 v3 v11 v12 aF cA cB v9 bI [.cells dB]) [11,12,14,0,1,13,2] (gV N v1.dF bI v4 aI cF aZ))] (.node 13 [] (.node 14 [] (.node 15 [] (.node 17 [] (.node 18 [] .nil .nil) .nil) .nil) .nil) .nil) .nil) .nil)) .nil) .nil) .nil) .nil) (.node 11 [] (.node 6 [(19,oX (aQ (aQ (dL c6))) (aQ (aQ (dL (aQ (aQ (aQ (aQ c6))))))) [(.fn 96 [(.ptr 0 0),(.ptr 1 0)]),(.d (.sl (aS cy)))] (Cy v4 aI v1 v3 v11 v12 aF cA cB v9 []) [0,1,2] (iJ aW))] (.node 7 [] (.node 8 [] (.node 9 [] (.node 12 [(37,oR [(aD v1.dF),(.ptr 11 0),(.ptr 12 0),(.ptr 14 0)] (I2 v4 aI v1 v3 v11 v12 aF cA cB v9 bI []) [11,12,14,0,1,13,2] (gV N v1.dF bI v4 aI cF aZ))] (.node 13 [] (.node 14 [] (.node 15 [] (.node 16 [] (.node 17 [] (.node 18 [] .nil .nil) .nil) .nil) .nil) .nil) .nil) (.node 16 [] (.node 12 [(37,oR [(aD v1.dF),(.ptr 11 0),(.ptr 12 0),(.ptr 14 0)] (I2 v4 aI v1 v3 v11 v12 aF cA cB v9 bI [.cells dB]) [11,12,14,0,1,13,2] (gV N v1.dF bI v4 aI cF aZ))] (.node 13 [] (.node 14 [] (.node 15 [] (.node 17 [] (.node 18 [] .nil .nil) .nil) .nil) .nil) .nil) .nil) .nil)) .nil) .nil) .nil) (.node 16 [] (.node 6 [(19,oX (aQ (aQ (dL c6))) (aQ (aQ (dL (aQ (aQ (aQ (aQ c6))))))) [(.fn 96 [(.ptr 0 0),(.ptr 1 0)]),(.d (.sl (aS cy)))] (F5 v4 aI v1 v3 v11 v12 aF cA cB v9 []) [0,1,2] (iJ aW))] (.node 7 [] (.node 8 [] (.node 9 [] (.node 12 [(37,oR [(aD v1.dF),(.ptr 12 0),(.ptr 13 0),(.ptr 15 0)] (Kw v4 aI v1 v3 v11 v12 aF cA cB v9 bI []) [12,13,15,0,1,14,2] (gV N v1.dF bI v4 aI cF aZ))] (.node 13 [] (.node 14 [] (.node 15 [] (.node 17 [] (.node 18 [] .nil .nil) .nil) .nil) .nil) .nil) .nil) .nil) .nil) .nil) .nil) .nil)) (.node 16 [] (.node 6 [(19,oX (aQ (aQ (dL c6))) (aQ (aQ (dL (aQ (aQ (aQ (aQ c6))))))) [(.fn 96 [(.ptr 0 0),(.ptr 1 0)]),(.d (.sl (aS cy)))] (F5 v4 aI v1 v3 v11 v12 aF cA cB v9 []) [0,1,2] (iJ aW))] (.node 7 [] (.node 8 [] (.node 9 [] (.node 11 [] (.node 12 [(37,oR [(aD v1.dF),(.ptr 12 0),(.ptr 13 0),(.ptr 15 0)] (Kw v4 aI v1 v3 v11 v12 aF cA cB v9 bI []) [12,13,15,0,1,14,2] (gV N v1.dF bI v4 aI cF aZ))] (.node 13 [] (.node 14 [] (.node 15 [] (.node 17 [] (.node 18 [] .nil .nil) .nil) .nil) .nil) .nil) .nil) .nil) .nil) .nil) .nil) (.node 11 [] (.node 6 [(19,oX (aQ (aQ (dL c6))) (aQ (aQ (dL (aQ (aQ (aQ (aQ c6))))))) [(.fn 96 [(.ptr 0 0),(.ptr 1 0)]),(.d (.sl (aS cy)))] (F5 v4 aI v1 v3 v11 v12 aF cA cB v9 []) [0,1,2] (iJ aW))] (.node 7 [] (.node 8 [] (.node 9 [] (.node 12 [(37,oR [(aD v1.dF),(.ptr 12 0),(.ptr 13 0),(.ptr 15 0)] (Kw v4 aI v1 v3 v11 v12 aF cA cB v9 bI []) [12,13,15,0,1,14,2] (gV N v1.dF bI v4 aI cF aZ))] (.node 13 [] (.node 14 [] (.node 15 [] (.node 17 [] (.node 18 [] .nil .nil) .nil) .nil) .nil) .nil) .nil) .nil) .nil) .nil) .nil) .nil)) .nil))) .nil) .nil) .nil) .nil) .nil) .nil) .nil) [(15,(.ptr 15 0)),(16,(ar cF.2.1))] (Pq v4 cF v1 v3 v11 v12 aF cA cB v9 bI []) (by kernel_rfl) ?_
  refine au ?_;refine au ?_;refine rg [] [(60,(az (cF.2.1 !=0)))] (Pq v4 cF v1 v3 v11 v12 aF cA cB v9 bI []) (by kernel_rfl) ?_;rcases dw (cF.2.1 !=0)with bj|bj
  ·replace J:=(c7 bj).symm.trans J;refine cS (t:=(cF.2.1 !=0)) (by kernel_rfl) bj ?_;refine au ?_;refine rg [] [] (qA v4 cF v1 v3 [.cells [(ar cF.2.1)], .cells [(bk v11),(bk v12)], .cells [(az aF)], .lp .busy 42 cA cB (dt 83 [(4,(.ptr 3 0)),(5,(.ptr 4 0)),(7,(.ptr 5 0)),(8,(.ptr 6 0)),(9,(.ptr 7 0)),(12,(.ptr 8 0)),(13,(.ptr 9 0)),(41,(.fn 113 [(.bp [[(.sl (bA v9))]] 0 0)]))]), .cells [(.fn 96 [(.ptr 0 0),(.ptr 1 0)])], .cells [(.d (.sl (aS bI)))], .cells [(.fn 93 [(.ptr 11 0),(.ptr 12 0),(.ptr 14 0)]),(.fn 91 [(.ptr 14 0)])], .cells [(.ptr 13 0)], .cells (dM cF.1).cells]) (by kernel_rfl) ?_;refine cU (cT (dS ?_));refine CN (qA v4 cF v1 v3 [.cells [(ar cF.2.1)], .cells [(bk v11),(bk v12)], .cells [(az aF)]]) rfl (by kernel_rfl) (by kernel_rfl) ?_;refine(dS (cT ?_));have hr:=amo J;subst hr;exact jj (by kernel_rfl)
  replace J:=(du bj).symm.trans J;refine dm (t:=(cF.2.1 !=0)) (by kernel_rfl) bj ?_;refine ct ?_;refine aM ?_;refine au ?_;refine au ?_;refine rg [] [(63,(az aF))] (Pq v4 cF v1 v3 v11 v12 aF cA cB v9 bI []) (by kernel_rfl) ?_;rcases dw aF with bC|bC
  ·replace J:=(c7 bC).symm.trans J;refine cS (t:=aF) (by kernel_rfl) bC ?_;refine au ?_;refine rg [] [] (qA v4 cF v1 v3 [.cells [(ar (0:Int))], .cells (aT cF.1.yVal).cells, .cells [(az false)], .lp .busy 42 cA cB (dt 83 [(4,(.ptr 3 0)),(5,(.ptr 4 0)),(7,(.ptr 5 0)),(8,(.ptr 6 0)),(9,(.ptr 7 0)),(12,(.ptr 8 0)),(13,(.ptr 9 0)),(41,(.fn 113 [(.bp [[(.sl (bA v9))]] 0 0)]))]), .cells [(.fn 96 [(.ptr 0 0),(.ptr 1 0)])], .cells [(.d (.sl (aS bI)))], .cells [(.fn 93 [(.ptr 11 0),(.ptr 12 0),(.ptr 14 0)]),(.fn 91 [(.ptr 14 0)])], .cells [(.ptr 13 0)], .cells (dM cF.1).cells]) (by kernel_rfl) ?_;refine kW (at_e (l4 rfl ?_));refine yB (qA v4 cF v1 v3 [.cells [(ar (0:Int))], .cells (aT cF.1.yVal).cells, .cells [(az false)]]) rfl (by kernel_rfl) (by kernel_rfl) ?_;exact⟨(cF.1.yVal.xN,cF.1.yVal.xD,false,cF.2.2),(by kernel_rfl),J⟩
  replace J:=(du bC).symm.trans J;refine dm (t:=aF) (by kernel_rfl) bC ?_;refine ct ?_;refine aM ?_;refine au ?_;obtain⟨v20,bJ,J⟩:=bm J;refine rg [(25,cK Sm bJ)] [(16,(ar v20.2))] (YQ v4 cF v1 v3 v20 aF cA cB v9 bI []) (by kernel_rfl) ?_;refine au ?_;refine rg [] [(79,(az (v20.2 !=0)))] (YQ v4 cF v1 v3 v20 aF cA cB v9 bI []) (by kernel_rfl) ?_;rcases dw (v20.2 !=0)with bH|bH
  ·replace J:=(c7 bH).symm.trans J;refine cS (t:=(v20.2 !=0)) (by kernel_rfl) bH ?_;refine au ?_;refine rg [] [] (qA v4 cF v1 v3 [.cells [(ar v20.2)], .cells (aT v20.1).cells, .cells [(az aF)], .lp .busy 42 cA cB (dt 83 [(4,(.ptr 3 0)),(5,(.ptr 4 0)),(7,(.ptr 5 0)),(8,(.ptr 6 0)),(9,(.ptr 7 0)),(12,(.ptr 8 0)),(13,(.ptr 9 0)),(41,(.fn 113 [(.bp [[(.sl (bA v9))]] 0 0)]))]), .cells [(.fn 96 [(.ptr 0 0),(.ptr 1 0)])], .cells [(.d (.sl (aS bI)))], .cells [(.fn 93 [(.ptr 11 0),(.ptr 12 0),(.ptr 14 0)]),(.fn 91 [(.ptr 14 0)])], .cells [(.ptr 13 0)], .cells (dM cF.1).cells]) (by kernel_rfl) ?_;refine cU (dS ?_);refine CN (qA v4 cF v1 v3 [.cells [(ar v20.2)], .cells (aT v20.1).cells, .cells [(az aF)]]) rfl (by kernel_rfl) (by kernel_rfl) ?_;refine(dS (cT ?_));have hr:=amo J;subst hr;exact jj (by kernel_rfl)
  replace J:=(du bH).symm.trans J;refine dm (t:=(v20.2 !=0)) (by kernel_rfl) bH ?_;refine ct ?_;refine dU ?_;refine yB (qA v4 cF v1 v3 [.cells [(ar (0:Int))], .cells (aT v20.1).cells, .cells [(az aF)]]) rfl (by kernel_rfl) (by kernel_rfl) ?_;exact⟨(v20.1.xN,v20.1.xD,aF,cF.2.2),(by kernel_rfl),J⟩
 rintro⟨v11,v12,aF,aI⟩ J
 try dsimp only at J
 rw[Bg]at J;refine dU ?_;refine aM ?_;refine au ?_;refine rg [] [] (Ng v4 [.map (bP bQ aI), .cells [(.fn 96 [(.ptr 0 0),(.ptr 1 0)])], .cells (gj v1).cells, .cells [(.d (.sl (aS v3)))], .cells [(bk v11),(bk v12)], .cells [(ar (0:Int))], .cells [(bk v11),(bk v12)], .cells [(az aF)], .gone]) (by kernel_rfl) ?_;refine cU ?_;have hr:=amo J;subst hr;exact jj (by kernel_rfl)
def kE:cn:=⟨(0:Int64),[]⟩
def IV(N:Nat)(bx:amT aB)(kN:(amT aB)->(amT (amU×aU))->amV (aU×Int))(v21:aB×Int×(amT (amU×aU)))(v24:Int)(fM:Int64)(fe:Int64):amV (aU×Int):=
 bif (v24 !=0)then
  some (mV,v24)
 else
  bif (Nat.ble ((bx.length+1)*16) 140737488355328)then
  kN (bx++[(⟨fM,fe⟩:aB)]) v21.2.2
  else none
def vO(N:Nat)(v6:et)(v7:(amT Int)×aP×Int)(v2:amT aV)(v9:(amT Int)×Int)(aF:(amT aO)×(amT (amU×aU))):amT (amT Int)->(amT aB)->(amT (amU×aU))->amV (aU×Int)
 |[],bx,_=>
  some ((⟨v6.aK,v7.1,bx⟩:aU),(0:Int))
 |bI::cF,bx,cy=>
  (NK N v6.bS bI v2).bind λv20=>
  (P4 N v6 v9.1 v20 aF.1 cy).bind λv21=>
  Option.bind (bif (v21.2.1==0)then(bif (v6.jq==5)then bif (decide ((0:Int)<=(aE ((bI.length:Int)-(1:Int)))))then
  Option.bind (bI[((aE ((bI.length:Int)-(1:Int)))).toNat]?) λfS=>
  some (decide (fS>0))
  else none else some false)else some false) λdW=>
  bif dW then
   bif (decide ((0:Int)<=(aE ((bx.length:Int)-(1:Int)))))then
   Option.bind (bx[((aE ((bx.length:Int)-(1:Int)))).toNat]?) λiE=>
   Option.bind (KN N (1:Int) v6.aK ([iE,v21.1])) λv28=>
   IV N bx (λcu fv=>vO N v6 v7 v2 v9 aF cF cu fv) v21 v28.2 v28.1.xN v28.1.xD
   else none
  else
   IV N bx (λcu fv=>vO N v6 v7 v2 v9 aF cF cu fv) v21 v21.2.1 v21.1.xN v21.1.xD
def KZ(N:Nat)(v1:dh)(v2:amT aV)(v3:amT aO)(v4:Int):amV (aU×Int):=
 Option.bind (bif (decide (v4<0))then some true else some (decide (v4>=(v1.gz.length:Int)))) λv5=>
 bif v5 then
  some (mV,(9:Int))
 else
  bif (decide ((0:Int)<=v4))then
  Option.bind (v1.gz[(v4).toNat]?) λv6=>
  (Fo N v1 v2 v6.bo).bind λv7=>
  bif (v7.2.2 !=0)then
   some (mV,v7.2.2)
  else
   (UI N v6.m6).bind λv8=>
   (N2 N v8 v2).bind λv9=>
   bif (v9.2 !=0)then
    some (mV,v9.2)
   else
    (TR N v7.1).bind λv10=>
    bif (Nat.ble ((v10.length+v9.1.length)*8) 140737488355328)then
    Option.bind (PW N (v10.length+v9.1.length) (65536:Int) (v10++v9.1)) λv11=>
    bif (decide (v11>65536))then
     some (mV,(2:Int))
    else
     (SJ N v1 v2 v3 v6.dF).bind λv12=>
     bif (v12 !=0)then
      some (mV,v12)
     else
      (vB N v3).bind λaF=>
      (Ip N v7.1).bind λaI=>
      (K9 N aI).bind λbg=>
      vO N v6 v7 v2 v9 aF bg [] aF.2
    else none
  else none
def uj(v1:dh)(v2:amT aV)(l:amT aq):amT aq:= .cells (fg v1).cells:: .cells [(.d (.sl (aS v2)))]:: .cells PO::l
def IZ(v1:dh)(v2:amT aV)(v6:et)(v7:(amT Int)×aP×Int)(v9:(amT Int)×Int)(aF:(amT aO)×(amT (amU×aU)))(l:amT aq):amT aq:= .cells (fg v1).cells:: .cells [(.d (.sl (aS v2)))]:: .cells [(ar (0:Int)),(ar (0:Int)),(ar (0:Int)),(ar (0:Int)),(ar (0:Int)),(.d (.sl (bA []))),(.d (.sl (dO [])))]:: .cells [(ar (0:Int))]:: .cells (gj v6).cells:: .cells (bE v7.2.1).cells:: .cells [(.d (.sl (bA v9.1)))]:: .gone:: .cells [(.d (.sl (aX aF.1)))]::l
def Co(v1:dh)(v2:amT aV)(v6:et)(v7:(amT Int)×aP×Int)(v9:(amT Int)×Int)(aF:(amT aO)×(amT (amU×aU)))(v21:aB×Int×(amT (amU×aU)))(bx:amT aB)(cA:Code)(cB:Code)(aI:(amT Int))(l:amT aq):amT aq:=IZ v1 v2 v6 v7 v9 aF (.map (bP bQ v21.2.2):: .cells [(.mp 9)]:: .cells [(.fn 96 [(.ptr 10 0),(.ptr 8 0)])]:: .cells [(ar v6.aK.bu),(ar v6.aK.bG),(ar v6.aK.ck),(ar v6.aK.cx),(ar v6.aK.cG),(.d (.sl (bA v7.1))),(.own 13 (dO bx))]:: .front 45 2 bx.length:: .lp .busy 86 cA cB (dt 142 [(5,(.ptr 1 0)),(8,(.ptr 2 0)),(9,(.ptr 3 0)),(10,(.ptr 4 0)),(14,(.ptr 6 0)),(16,(.ptr 11 0)),(17,(.ptr 12 0)),(85,(.fn 113 [(.bp [[(.sl (bA aI))]] 0 0)]))])::l)
def td(v1:dh)(v2:amT aV)(v6:et)(v7:(amT Int)×aP×Int)(v9:(amT Int)×Int)(l:amT aq):amT aq:=uj v1 v2 (.cells [(ar (0:Int))]:: .cells (gj v6).cells:: .cells (bE v7.2.1).cells:: .cells [(.d (.sl (bA v9.1)))]::l)
def Bp(v1:dh)(v2:amT aV)(v6:et)(v7:(amT Int)×aP×Int)(v9:(amT Int)×Int)(aF:(amT aO)×(amT (amU×aU)))(cy:amT (amU×aU))(bx:amT aB)(l:amT aq):amT aq:=IZ v1 v2 v6 v7 v9 aF (.map (bP bQ cy):: .cells [(.mp 9)]:: .cells [(.fn 96 [(.ptr 10 0),(.ptr 8 0)])]:: .cells [(ar v6.aK.bu),(ar v6.aK.bG),(ar v6.aK.ck),(ar v6.aK.cx),(ar v6.aK.cG),(.d (.sl (bA v7.1))),(.own 13 (dO bx))]:: .front 45 2 bx.length::l)
def OC(v1:dh)(v2:amT aV)(v6:et)(v7:(amT Int)×aP×Int)(v9:(amT Int)×Int)(v10:amT Int)(aF:(amT aO)×(amT (amU×aU)))(l:amT aq):amT aq:=td v1 v2 v6 v7 v9 (.vec 3 1 (cg ((v10++v9.1).map eE)):: .cells [(.d (.sl (aX aF.1)))]:: .map (bP bQ aF.2):: .cells [(.mp 9)]:: .cells [(.fn 96 [(.ptr 10 0),(.ptr 8 0)])]:: .cells [(ar v6.aK.bu),(ar v6.aK.bG),(ar v6.aK.ck),(ar v6.aK.cx),(ar v6.aK.cG),(.d (.sl (bA v7.1))),(.d (.v (.slice none 0 0)))]::l)
def K4(v1:dh)(v2:amT aV)(v6:et)(v7:(amT Int)×aP×Int)(v9:(amT Int)×Int)(aF:(amT aO)×(amT (amU×aU)))(cy:amT (amU×aU))(bx:amT aB)(cA:Code)(cB:Code)(aI:(amT Int))(l:amT aq):amT aq:=Bp v1 v2 v6 v7 v9 aF cy bx (.lp .busy 86 cA cB (dt 142 [(5,(.ptr 1 0)),(8,(.ptr 2 0)),(9,(.ptr 3 0)),(10,(.ptr 4 0)),(14,(.ptr 6 0)),(16,(.ptr 11 0)),(17,(.ptr 12 0)),(85,(.fn 113 [(.bp [[(.sl (bA aI))]] 0 0)]))])::l)
def wD(v1:dh)(v2:amT aV)(v6:et)(v7:(amT Int)×aP×Int)(v9:(amT Int)×Int)(v10:amT Int)(l:amT aq):amT aq:=td v1 v2 v6 v7 v9 (.vec 3 1 (cg ((v10++v9.1).map eE))::l)
def Ek(v1:dh)(v2:amT aV)(l:amT aq):amT aq:=uj v1 v2 (.cells [(ar (0:Int))]::l)
def QT(v1:dh)(v2:amT aV)(v6:et)(v7:(amT Int)×aP×Int)(v9:(amT Int)×Int)(aF:(amT aO)×(amT (amU×aU)))(v21:aB×Int×(amT (amU×aU)))(bx:amT aB)(fM:Int64)(fe:Int64)(l:amT aq):amT aq:=IZ v1 v2 v6 v7 v9 aF (.map (bP bQ v21.2.2):: .cells [(.mp 9)]:: .cells [(.fn 96 [(.ptr 10 0),(.ptr 8 0)])]:: .cells [(ar v6.aK.bu),(ar v6.aK.bG),(ar v6.aK.ck),(ar v6.aK.cx),(ar v6.aK.cG),(.d (.sl (bA v7.1))),(.own 13 (dO (bx++[(⟨fM,fe⟩:aB)])))]:: .front 45 2 (bx++[(⟨fM,fe⟩:aB)]).length::l)
theorem agj{N v1 v2 v3 v4 r}(J:KZ N v1 v2 v3 v4=some r):KF 33 [(fg v1),(.d (.sl (aS v2))),(.d (.sl (aX v3))),(ar v4)] (.aY [(gJ r.1),(ar r.2)]):=by
 rw[KZ]at J;refine lO Tryz.func33 rfl (by kernel_rfl) ?_;refine ft [0,1,2,3] 0 (amg _) (s':=⟨142,[(0,(fg v1)),(1,(.d (.sl (aS v2)))),(2,(.d (.sl (aX v3)))),(3,(ar v4))],[]⟩) (by kernel_rfl) ?_;refine au ?_;refine rg [] [(4,(.ptr 0 0)),(5,(.ptr 1 0)),(8,(.ptr 2 0)),(9,(.ptr 3 0))] (Ek v1 v2 []) (by kernel_rfl) ?_;refine au ?_;refine au ?_;obtain⟨v5,h2,J⟩:=bm J;refine A8 [(29,(az v5))] (Ek v1 v2 []) ?_ ?_
 ·rcases dw (decide (v4<0))with h1|h1
  ·replace h2:=(c7 h1).symm.trans h2;have he:=amo h2;subst he;exact⟨[(9,bT h1),(12,bT h1),(15,bT h1),(18,bT h1),(21,bT h1),(25,bT h1)],by kernel_rfl⟩
  replace h2:=(du h1).symm.trans h2;have he:=amo h2;subst he;exact⟨[(9,bF h1),(12,bF h1),(15,bF h1),(18,bF h1),(19,oL v1.gz xx),(21,bF h1),(25,bF h1)],by kernel_rfl⟩
 rcases dw v5 with h3|h3
 ·replace J:=(c7 h3).symm.trans J;refine cS (t:=v5) (by kernel_rfl) h3 ?_;refine au ?_;refine rg [] [] (uj v1 v2 [.cells [(ar (9:Int))]]) (by kernel_rfl) ?_;refine cU (cT ?_);have hr:=amo J;subst hr;exact eJ (by kernel_rfl)
 replace J:=(du h3).symm.trans J;refine dm (t:=v5) (by kernel_rfl) h3 ?_;refine ct ?_;refine aM ?_;refine au ?_;have h5:=mI J;replace J:=(c7 h5).symm.trans J;obtain⟨v6,h4,J⟩:=bm J;refine rg [(10,⟨_,_, .el (xs:=jd v1.gz) (i:=v4) (of_decide_eq_true h5) (Ae h4)⟩)] [(10,(.ptr 4 0))] (Ek v1 v2 [.cells (gj v6).cells]) (by kernel_rfl) ?_;refine au ?_;obtain⟨v7,h6,J⟩:=bm J;refine rg [(13,cK Lt h6)] [(11,(.d (.sl (bA v7.1)))),(13,(ar v7.2.2))] (Ek v1 v2 [.cells (gj v6).cells, .cells (bE v7.2.1).cells]) (by kernel_rfl) ?_;refine au ?_;refine au ?_;refine rg [] [(46,(az (v7.2.2 !=0)))] (Ek v1 v2 [.cells (gj v6).cells, .cells (bE v7.2.1).cells]) (by kernel_rfl) ?_;rcases dw (v7.2.2 !=0)with h7|h7
 ·replace J:=(c7 h7).symm.trans J;refine cS (t:=(v7.2.2 !=0)) (by kernel_rfl) h7 ?_;refine au ?_;refine rg [] [] (uj v1 v2 [.cells [(ar v7.2.2)], .cells (gj v6).cells, .cells (bE v7.2.1).cells]) (by kernel_rfl) ?_;refine cU (cT ?_);have hr:=amo J;subst hr;exact eJ (by kernel_rfl)
 replace J:=(du h7).symm.trans J;refine dm (t:=(v7.2.2 !=0)) (by kernel_rfl) h7 ?_;refine ct ?_;refine aM ?_;refine au ?_;obtain⟨v8,h8,v9,h9,J⟩:=k01 J;refine rd bw (by kernel_rfl) [(7,cK acS h8),(13,cK VL h9)] [(14,(.ptr 6 0)),(13,(ar v9.2))] (td v1 v2 v6 v7 v9 []) (by kernel_rfl) ?_;refine au ?_;refine au ?_;refine rg [] [(58,(az (v9.2 !=0)))] (td v1 v2 v6 v7 v9 []) (by kernel_rfl) ?_;rcases dw (v9.2 !=0)with aW|aW
 ·replace J:=(c7 aW).symm.trans J;refine cS (t:=(v9.2 !=0)) (by kernel_rfl) aW ?_;refine au ?_;refine rg [] [] (uj v1 v2 [.cells [(ar v9.2)], .cells (gj v6).cells, .cells (bE v7.2.1).cells, .cells [(.d (.sl (bA v9.1)))]]) (by kernel_rfl) ?_;refine cU (cT ?_);have hr:=amo J;subst hr;exact eJ (by kernel_rfl)
 replace J:=(du aW).symm.trans J;refine dm (t:=(v9.2 !=0)) (by kernel_rfl) aW ?_;refine ct ?_;refine aM ?_;refine au ?_;refine au ?_;obtain⟨v10,aZ,J⟩:=bm J;have bj:=mI J;replace J:=(c7 bj).symm.trans J;obtain⟨v11,bC,J⟩:=bm J;refine ro 2 bw (.node 0 [] (.node 1 [(4,oX c6 (xO (xs:=(v10.map eE)) c6) [(.d (.sl (bA v7.1)))] (td v1 v2 v6 v7 v9 []) [] (Wr aZ))] (.node 2 [] (.node 3 [(10,⟨_,_, .pr (.ap (cg ((v10++v9.1).map eE)) (cg (v9.1.map eE)) (v10.length+v9.1.length) (v10.length+v9.1.length)) (IS (f:=eE) (h:=(td v1 v2 v6 v7 v9 [.vec 3 1 (cg (v10.map eE))])) (y:=(.d (.sl (bA v9.1)))) (k:=1) rfl (by rw[<-nB];rfl) (λc hc=>Ee c (by rw[nB];exact hc)) rfl rfl (mJ bj (by decide)).1 (mJ bj (by decide)).2)⟩)] (.node 4 [(13,oX (xO (xs:=((v10++v9.1).map eE)) c6) (xO (xs:=((v10++v9.1).map eE)) c6) [(.vec 7 0 (v10.length+v9.1.length) (v10.length+v9.1.length) 1),(ar (65536:Int))] (wD v1 v2 v6 v7 v9 v10 []) [7] (UG bC))] (.node 5 [] .nil .nil) .nil) .nil) .nil) (.node 2 [] (.node 1 [(4,oX c6 (xO (xs:=(v10.map eE)) c6) [(.d (.sl (bA v7.1)))] (td v1 v2 v6 v7 v9 []) [] (Wr aZ))] (.node 3 [(10,⟨_,_, .pr (.ap (cg ((v10++v9.1).map eE)) (cg (v9.1.map eE)) (v10.length+v9.1.length) (v10.length+v9.1.length)) (IS (f:=eE) (h:=(td v1 v2 v6 v7 v9 [.vec 3 1 (cg (v10.map eE))])) (y:=(.d (.sl (bA v9.1)))) (k:=1) rfl (by rw[<-nB];rfl) (λc hc=>Ee c (by rw[nB];exact hc)) rfl rfl (mJ bj (by decide)).1 (mJ bj (by decide)).2)⟩)] (.node 4 [(13,oX (xO (xs:=((v10++v9.1).map eE)) c6) (xO (xs:=((v10++v9.1).map eE)) c6) [(.vec 7 0 (v10.length+v9.1.length) (v10.length+v9.1.length) 1),(ar (65536:Int))] (wD v1 v2 v6 v7 v9 v10 []) [7] (UG bC))] (.node 5 [] .nil .nil) .nil) .nil) .nil) .nil)) .nil) [(66,(az (decide (v11>65536))))] (wD v1 v2 v6 v7 v9 v10 []) (by kernel_rfl) ?_
 rcases dw (decide (v11>65536))with bJ|bJ
 ·replace J:=(c7 bJ).symm.trans J;refine cS (t:=(decide (v11>65536))) (by kernel_rfl) bJ ?_;refine au ?_;refine rg [] [] (uj v1 v2 [.cells [(ar (2:Int))], .cells (gj v6).cells, .cells (bE v7.2.1).cells, .cells [(.d (.sl (bA v9.1)))], .vec 3 1 (cg ((v10++v9.1).map eE))]) (by kernel_rfl) ?_;refine cU (cT ?_);have hr:=amo J;subst hr;exact eJ (by kernel_rfl)
 replace J:=(du bJ).symm.trans J;refine dm (t:=(decide (v11>65536))) (by kernel_rfl) bJ ?_;refine ct ?_;refine aM ?_;refine au ?_;refine au ?_;obtain⟨v12,bH,J⟩:=bm J;refine rg [(16,cK ag1 bH)] [(15,(ar v12))] (wD v1 v2 v6 v7 v9 v10 []) (by kernel_rfl) ?_;refine au ?_;refine rg [] [(75,(az (v12 !=0)))] (wD v1 v2 v6 v7 v9 v10 []) (by kernel_rfl) ?_;rcases dw (v12 !=0)with bY|bY
 ·replace J:=(c7 bY).symm.trans J;refine cS (t:=(v12 !=0)) (by kernel_rfl) bY ?_;refine au ?_;refine rg [] [] (uj v1 v2 [.cells [(ar v12)], .cells (gj v6).cells, .cells (bE v7.2.1).cells, .cells [(.d (.sl (bA v9.1)))], .vec 3 1 (cg ((v10++v9.1).map eE))]) (by kernel_rfl) ?_;refine cU (cT ?_);have hr:=amo J;subst hr;exact eJ (by kernel_rfl)
 replace J:=(du bY).symm.trans J;refine dm (t:=(v12 !=0)) (by kernel_rfl) bY ?_;refine ct ?_;refine aM ?_;refine au ?_;obtain⟨aF,c9,J⟩:=bm J;refine rg [(4,oX c6 (aQ (dL (aQ c6))) [(.d (.sl (aX v3)))] (wD v1 v2 v6 v7 v9 v10 []) [] (tN N v3 aF c9))] [(16,(.ptr 11 0))] (wD v1 v2 v6 v7 v9 v10 [.cells [(.d (.sl (aX aF.1)))], .map (bP bQ aF.2), .cells [(.mp 9)], .cells [(.fn 96 [(.ptr 10 0),(.ptr 8 0)])]]) (by kernel_rfl) ?_;refine au ?_;refine rg [] [(17,(.ptr 12 0))] (OC v1 v2 v6 v7 v9 v10 aF []) (by kernel_rfl) ?_;refine au ?_;refine au ?_;obtain⟨aI,dZ,J⟩:=bm J;refine rg [(4,oQ [(.d (.sl (bA v7.1)))] (OC v1 v2 v6 v7 v9 v10 aF []) [] (Uv dZ))] [(85,(.fn 113 [(.bp [[(.sl (bA aI))]] 0 0)]))] (OC v1 v2 v6 v7 v9 v10 aF []) (by kernel_rfl) ?_;refine dn ?_;obtain⟨bg,eI,J⟩:=bm J;refine acf 7 ?_;refine alu 12 6 45 2 [] rfl (.inr ⟨rfl,rfl⟩) ?_;refine ft [5,8,9,10,14,16,17,85] 14 (amd rfl) (s':=⟨142,[(5,(.ptr 1 0)),(8,(.ptr 2 0)),(9,(.ptr 3 0)),(10,(.ptr 4 0)),(14,(.ptr 6 0)),(16,(.ptr 11 0)),(17,(.ptr 12 0)),(85,(.fn 113 [(.bp [[(.sl (bA aI))]] 0 0)]))],(IZ v1 v2 v6 v7 v9 aF [.map (bP bQ aF.2), .cells [(.mp 9)], .cells [(.fn 96 [(.ptr 10 0),(.ptr 8 0)])], .cells [(ar v6.aK.bu),(ar v6.aK.bG),(ar v6.aK.ck),(ar v6.aK.cx),(ar v6.aK.cG),(.d (.sl (bA v7.1))),(.own 13 (dO []))], .front 45 2 0])⟩) (by kernel_rfl) ?_
 refine xm (m:=14) (enc:=o7) (xs:=bg) (by kernel_rfl) (Xq eI) (λ((bx,cy):(amT aB)×(amT (amU×aU)))=>(Bp v1 v2 v6 v7 v9 aF cy bx [])) (λ((bx,cy):(amT aB)×(amT (amU×aU))) l=>vO N v6 v7 v2 v9 aF l bx cy=some r) ([],aF.2) (by kernel_rfl) J (by rintro⟨bx,cy⟩;rfl) (by rintro⟨bx,cy⟩;kernel_rfl) (by kernel_rfl) rfl ?_ ?_
 ·rintro⟨bx,cy⟩ bI cF J dC cA cB
  try dsimp only at J
  rw[vO]at J;refine ft [5,8,9,10,14,16,17,86] 15 (amg _) (s':=⟨142,[(5,(.ptr 1 0)),(8,(.ptr 2 0)),(9,(.ptr 3 0)),(10,(.ptr 4 0)),(14,(.ptr 6 0)),(16,(.ptr 11 0)),(17,(.ptr 12 0)),(86,(.d (.sl (bA bI))))],(Bp v1 v2 v6 v7 v9 aF cy bx [.lp .ready 86 cA cB (dt 142 [(5,(.ptr 1 0)),(8,(.ptr 2 0)),(9,(.ptr 3 0)),(10,(.ptr 4 0)),(14,(.ptr 6 0)),(16,(.ptr 11 0)),(17,(.ptr 12 0)),(85,(.fn 113 [(.bp [[(.sl (bA aI))]] 0 0)]))])])⟩) (by kernel_rfl) ?_;refine re [] [(18,(.d (.sl (bA bI))))] (Bp v1 v2 v6 v7 v9 aF cy bx [.lp .ready 86 cA cB (dt 142 [(5,(.ptr 1 0)),(8,(.ptr 2 0)),(9,(.ptr 3 0)),(10,(.ptr 4 0)),(14,(.ptr 6 0)),(16,(.ptr 11 0)),(17,(.ptr 12 0)),(85,(.fn 113 [(.bp [[(.sl (bA aI))]] 0 0)]))])]) (by kernel_rfl) ?_;refine aM ?_;refine⟨(Bp v1 v2 v6 v7 v9 aF cy bx []),[],rfl,(by kernel_rfl),?_⟩;refine ft [5,8,9,10,14,16,17,18] 15 (amd rfl) (s':=⟨142,[(5,(.ptr 1 0)),(8,(.ptr 2 0)),(9,(.ptr 3 0)),(10,(.ptr 4 0)),(14,(.ptr 6 0)),(16,(.ptr 11 0)),(17,(.ptr 12 0)),(18,(.d (.sl (bA bI))))],(K4 v1 v2 v6 v7 v9 aF cy bx cA cB aI [])⟩) (by kernel_rfl) ?_;refine dn ?_;refine au ?_;obtain⟨v20,fY,v21,h22,J⟩:=k01 J;refine ro 2 bw (.node 0 [] (.node 1 [] (.node 2 [] (.node 3 [] (.node 4 [] (.node 5 [] (.node 6 [] (.node 7 [(22,cK VV fY)] (.node 8 [(25,oR [(.fn 96 [(.ptr 10 0),(.ptr 8 0)]),(gj v6),(.d (.sl (bA v9.1))),(.d (.sl (aS v20)))] (K4 v1 v2 v6 v7 v9 aF cy bx cA cB aI []) [10,8,9] (VO N v6 v9.1 v20 aF.1 cy v21 h22))] (.node 9 [] (.node 10 [] (.node 11 [] (.node 12 [] (.node 13 [] (.node 14 [] .nil .nil) .nil) .nil) .nil) .nil) .nil) (.node 12 [] (.node 8 [(25,oR [(.fn 96 [(.ptr 10 0),(.ptr 8 0)]),(gj v6),(.d (.sl (bA v9.1))),(.d (.sl (aS v20)))] (K4 v1 v2 v6 v7 v9 aF cy bx cA cB aI [.cells fG]) [10,8,9] (VO N v6 v9.1 v20 aF.1 cy v21 h22))] (.node 9 [] (.node 10 [] (.node 11 [] (.node 13 [] (.node 14 [] .nil .nil) .nil) .nil) .nil) .nil) .nil) .nil)) .nil) .nil) .nil) .nil) .nil) .nil) .nil) .nil) [(19,(.ptr 15 0)),(20,(ar v21.2.1))] (Co v1 v2 v6 v7 v9 aF v21 bx cA cB aI [.cells (aT v21.1).cells]) (by kernel_rfl) ?_
  refine au ?_;refine au ?_;obtain⟨dW,gF,J⟩:=bm J;refine A8 [(114,(az dW))] (Co v1 v2 v6 v7 v9 aF v21 bx cA cB aI [.cells (aT v21.1).cells]) ?_ ?_
  ·rcases dw (v21.2.1==0)with fc|fc
   ·replace gF:=(c7 fc).symm.trans gF;rcases dw (v6.jq==5)with fB|fB
    ·replace gF:=(c7 fB).symm.trans gF;have mN:=mI gF;replace gF:=(c7 mN).symm.trans gF;obtain⟨fS,lX,gF⟩:=bm gF;have he:=amo gF;subst he;exact⟨[(9,bT fc),(12,bT fc),(15,bT fc),(19,bT fc),(24,bT fB),(27,bT fB),(30,bT fB),(31,oL bI fy),(33,bT fB),(36,bT fB),(37,⟨_,_, .el (xs:=bA bI) (i:=(aE ((bI.length:Int)-(1:Int)))) (of_decide_eq_true mN) (gZ lX)⟩),(39,bT fB),(42,bT fB),(46,bT fB)],by kernel_rfl⟩
    replace gF:=(du fB).symm.trans gF;have he:=amo gF;subst he;exact⟨[(9,bT fc),(12,bT fc),(15,bT fc),(19,bT fc),(24,bF fB),(27,bF fB),(30,bF fB),(33,bF fB),(36,bF fB),(39,bF fB),(42,bF fB),(46,bF fB)],by kernel_rfl⟩
   replace gF:=(du fc).symm.trans gF;have he:=amo gF;subst he;exact⟨[(9,bF fc),(12,bF fc),(15,bF fc),(19,bF fc),(24,bF rfl),(27,bF rfl),(30,bF rfl),(33,bF rfl),(36,bF rfl),(39,bF rfl),(42,bF rfl),(46,bF rfl)],by kernel_rfl⟩
  refine pe [8,9,17,19,20] 16 (λ((v24,fM,fe):Int×Int64×Int64)=>⟨142,[(8,(.ptr 2 0)),(9,(.ptr 3 0)),(17,(.ptr 12 0)),(19,(.ptr 15 0)),(20,(ar v24))],(Co v1 v2 v6 v7 v9 aF v21 bx cA cB aI [.cells [(bk fM),(bk fe)]])⟩) (λ((v24,fM,fe):Int×Int64×Int64)=>IV N bx (λcu fv=>vO N v6 v7 v2 v9 aF cF cu fv) v21 v24 fM fe=some r) (amd rfl) ?_ ?_
  ·rcases dw dW with mm|mm
   ·replace J:=(c7 mm).symm.trans J;refine cS (t:=dW) (by kernel_rfl) mm ?_;have Hz:=mI J;replace J:=(c7 Hz).symm.trans J;obtain⟨iE,oV,v28,OQ,J⟩:=k01 J;refine Zg bw (by kernel_rfl) [(19,oL bx kp),(25,⟨_,_, .el (xs:=dO bx) (i:=(aE ((bx.length:Int)-(1:Int)))) (of_decide_eq_true Hz) (nm oV)⟩),(37,cK Sm OQ)] [(20,(ar v28.2)),(130,(ar v28.2)),(129,(aT v28.1)),(115,(.aY [(aT v28.1),(ar v28.2)])),(128,(.aY [(aT v28.1),(ar v28.2)])),(127,(.full (dO [iE,v21.1]))),(126,(aT v21.1)),(125,(aT iE)),(124,(.bp [Ak iE] 0 0)),(123,(ar (aE ((bx.length:Int)-(1:Int))))),(122,(ar (bx.length:Int))),(121,(.own 13 (dO bx))),(120,(.ptr 12 6)),(119,(.own 13 (dO bx))),(118,(.ptr 12 6)),(117,(bE v6.aK)),(116,(.ptr 4 1))] (Co v1 v2 v6 v7 v9 aF v21 bx cA cB aI [.cells (aT v28.1).cells]) (by kernel_rfl) ?_;refine aM ?_;exact⟨(v28.2,v28.1.xN,v28.1.xD),by kernel_rfl,J⟩
   replace J:=(du mm).symm.trans J;refine dm (t:=dW) (by kernel_rfl) mm ?_;refine ct ?_;refine aM ?_;exact⟨(v21.2.1,v21.1.xN,v21.1.xD),by kernel_rfl,J⟩
  rintro⟨v24,fM,fe⟩ J
  try dsimp only at J
  rw[IV]at J;refine au ?_;refine au ?_;refine rg [] [(132,(az (v24 !=0)))] (Co v1 v2 v6 v7 v9 aF v21 bx cA cB aI [.cells [(bk fM),(bk fe)]]) (by kernel_rfl) ?_;rcases dw (v24 !=0)with ly|ly
  ·replace J:=(c7 ly).symm.trans J;refine cS (t:=(v24 !=0)) (by kernel_rfl) ly ?_;refine au ?_;refine rg [] [] (uj v1 v2 [.cells [(ar v24)], .cells (gj v6).cells, .cells (bE v7.2.1).cells, .cells [(.d (.sl (bA v9.1)))], .gone, .cells [(.d (.sl (aX aF.1)))], .map (bP bQ v21.2.2), .cells [(.mp 9)], .cells [(.fn 96 [(.ptr 10 0),(.ptr 8 0)])], .cells [(ar v6.aK.bu),(ar v6.aK.bG),(ar v6.aK.ck),(ar v6.aK.cx),(ar v6.aK.cG),(.d (.sl (bA v7.1))),(.own 13 (dO bx))], .front 45 2 bx.length, .lp .busy 86 cA cB (dt 142 [(5,(.ptr 1 0)),(8,(.ptr 2 0)),(9,(.ptr 3 0)),(10,(.ptr 4 0)),(14,(.ptr 6 0)),(16,(.ptr 11 0)),(17,(.ptr 12 0)),(85,(.fn 113 [(.bp [[(.sl (bA aI))]] 0 0)]))]), .cells [(bk fM),(bk fe)]]) (by kernel_rfl) ?_;refine cU (cT (dS ?_));refine CN [.cells (fg v1).cells, .cells [(.d (.sl (aS v2)))], .cells [(ar (0:Int)),(ar (0:Int)),(ar (0:Int)),(ar (0:Int)),(ar (0:Int)),(.d (.sl (bA []))),(.d (.sl (dO [])))], .cells [(ar v24)], .cells (gj v6).cells, .cells (bE v7.2.1).cells, .cells [(.d (.sl (bA v9.1)))], .gone, .cells [(.d (.sl (aX aF.1)))], .map (bP bQ v21.2.2), .cells [(.mp 9)], .cells [(.fn 96 [(.ptr 10 0),(.ptr 8 0)])], .cells [(ar v6.aK.bu),(ar v6.aK.bG),(ar v6.aK.ck),(ar v6.aK.cx),(ar v6.aK.cG),(.d (.sl (bA v7.1))),(.own 13 (dO bx))], .front 45 2 bx.length] rfl (by kernel_rfl) (by kernel_rfl) ?_
   refine(dS (cT ?_));have hr:=amo J;subst hr;exact eJ (by kernel_rfl)
  replace J:=(du ly).symm.trans J;refine dm (t:=(v24 !=0)) (by kernel_rfl) ly ?_;refine ct ?_;refine aM ?_;have lD:=mI J;replace J:=(c7 lD).symm.trans J;refine re [(13,oA wj bx ([(⟨fM,fe⟩:aB)]) lD)] [(140,(.ptr 12 6)),(139,(.own 13 (dO (bx++[(⟨fM,fe⟩:aB)])))),(138,(.full (dO [(⟨fM,fe⟩:aB)]))),(137,(.agg [(bk fM),(bk fe)])),(136,(.own 13 (dO bx))),(135,(.ptr 12 6))] (QT v1 v2 v6 v7 v9 aF v21 bx fM fe [.lp .busy 86 cA cB (dt 142 [(5,(.ptr 1 0)),(8,(.ptr 2 0)),(9,(.ptr 3 0)),(10,(.ptr 4 0)),(14,(.ptr 6 0)),(16,(.ptr 11 0)),(17,(.ptr 12 0)),(85,(.fn 113 [(.bp [[(.sl (bA aI))]] 0 0)]))]), .cells [(bk fM),(bk fe)]]) (by kernel_rfl) ?_;refine dU ?_;refine yB (QT v1 v2 v6 v7 v9 aF v21 bx fM fe []) rfl (by kernel_rfl) (by kernel_rfl) ?_;exact⟨((bx++[(⟨fM,fe⟩:aB)]),v21.2.2),(by kernel_rfl),J⟩
 rintro⟨bx,cy⟩ J
 try dsimp only at J
 rw[vO]at J;refine dU ?_;refine aM ?_;refine au ?_;refine rg [] [] [.cells (fg v1).cells, .cells [(.d (.sl (aS v2)))], .cells [(ar v6.aK.bu),(ar v6.aK.bG),(ar v6.aK.ck),(ar v6.aK.cx),(ar v6.aK.cG),(.d (.sl (bA v7.1))),(.own 13 (dO bx))], .cells [(ar (0:Int))], .cells (gj v6).cells, .cells (bE v7.2.1).cells, .cells [(.d (.sl (bA v9.1)))], .gone, .cells [(.d (.sl (aX aF.1)))], .map (bP bQ cy), .cells [(.mp 9)], .cells [(.fn 96 [(.ptr 10 0),(.ptr 8 0)])], .cells [(ar v6.aK.bu),(ar v6.aK.bG),(ar v6.aK.ck),(ar v6.aK.cx),(ar v6.aK.cG),(.d (.sl (bA v7.1))),(.own 13 (dO bx))], .front 45 2 bx.length, .gone] (by kernel_rfl) ?_;refine cU ?_;have hr:=amo J;subst hr;exact eJ (by kernel_rfl)
def Xo(N:Nat)(v1:dh)(v2:amT aV):amT et->Nat->(amT aO)->amV ((amT aO)×Int)
 |[],_,v10=>
  some (v10,(0:Int))
 |v8::v9,v6,v10=>
  Option.bind (KZ N v1 v2 v10 (v6:Int)) λv11=>
  bif (v11.2 !=0)then
   some ([],v11.2)
  else
   bif (Nat.ble ((v10.length+1)*104) 140737488355328)then
   (λcu=>Xo N v1 v2 v9 (v6+1) cu) (v10++[(⟨v8.bo,v11.1⟩:aO)])
   else none
def WL(N:Nat)(v1:dh)(v2:amT aV)(v3:amT aO):amV ((amT aO)×Int):=
 (V4 N v1 v2).bind λv4=>
 bif (v4 !=0)then
  some ([],v4)
 else
  (OP N v1 v2 v3).bind λv5=>
  bif (v5.2 !=0)then
   some ([],v5.2)
  else
   Xo N v1 v2 v1.gz 0 v5.1
theorem ahL{N v1 v2 v3}:KO 45 [(fg v1),(.d (.sl (aS v2))),(.d (.sl (aX v3)))] (λr=> .aY [(.d (.sl (aX r.1))),(ar r.2)]) (WL N v1 v2 v3):=
 fw Tryz.func45 (aw λv4 h1=>gA [[],[(7,cK aen h1)],[]] (bn λh2=>aw λv5 h3=>gA [[f0 h2],[(10,oX c6 (agq c6) [(fg v1),(.d (.sl (aS v2))),(.d (.sl (aX v3)))] [.cells (fg v1).cells] [] (adn h3))],[]] (bn λh4=>gA [[f0 h4],[(7,oL v1.gz xx)]] (gT No 32 v1.gz λh6=>gd 1 [] [1,3,9,32,33,34] 2 (λv6(v10:amT aO)=>⟨59,[(1,(.d (.sl (aS v2)))),(3,(.ptr 0 0)),(9,(.own 1 (aX v10))),(32,(.d (.sl (jd v1.gz)))),(33,(ar (v1.gz.length:Int))),(34,(ar (v6:Int)))],[.cells (fg v1).cells, .front 56 8 v10.length]⟩) (λv6 v10 h7 f1=>gR [[],[f0 (cf h7)],[]]) (λv6 v8 v9 v10 h7 f1 aJ=>aw λv11 h8=>gA [[],[t0 (bZ h7)],[(4,oE (Ae (bM h7)))],[(13,cL (agj h8))],[]] (bn λh9=>dG λaW=>gb aJ (v10++[(⟨v8.bo,v11.1⟩:aO)]) [[f0 h9],[(19,oA yo v10 ([(⟨v8.bo,v11.1⟩:aO)]) aW)],[(2,oq (cC h7 rfl h6))]] h7))))))
def YB(N:Nat)(v4:(amT aO)×Int):amT amU->Nat->(amT aO)->amV ((amT aO)×Int)
 |[],_,v9=>
  some (v9,(0:Int))
 |v7::v8,v5,v9=>
  (vu N v4.1 v7).bind λv10=>
  (KY N v10.1).bind λv11=>
  bif (Nat.ble ((v9.length+1)*104) 140737488355328)then
  (λcu=>YB N v4 v8 (v5+1) cu) (v9++[(⟨v7,v11⟩:aO)])
  else none
def TC(N:Nat)(v1:dh)(v2:amT aV)(v3:amT aO):amV ((amT aO)×Int):=
 (WL N v1 v2 v3).bind λv4=>
 bif (v4.2 !=0)then
  some ([],v4.2)
 else
  YB N v4 v1.kh 0 []
theorem ach{N v1 v2 v3}:KO 22 [(fg v1),(.d (.sl (aS v2))),(.d (.sl (aX v3)))] (λr=> .aY [(.d (.sl (aX r.1))),(ar r.2)]) (TC N v1 v2 v3):=
 fw Tryz.func22 (aw λv4 h1=>gA [[],[(10,cK ahL h1)],[]] (bn λh2=>gA [[f0 h2],[],[(7,oL v1.kh jY)]] (li (λ_=>(uM 10 56 8 [] (.inr (by kernel_rfl)) ·)) (gT qv 26 v1.kh λh4=>gd 1 [] [8,10,26,27,28] 2 (λv5(v9:amT aO)=>⟨47,[(8,(.d (.sl (aX v4.1)))),(10,(.own 1 (aX v9))),(26,(.d (.sl (ee v1.kh)))),(27,(ar (v1.kh.length:Int))),(28,(ar (v5:Int)))],[.cells (fg v1).cells, .front 56 8 v9.length]⟩) (λv5 v9 h5 f1=>gR [[],[f0 (cf h5)],[]]) (λv5 v7 v8 v9 h5 f1 aJ=>aw λv10 h6=>aw λv11 h7=>dG λh8=>gb aJ (v9++[(⟨v7,v11⟩:aO)]) [[],[t0 (bZ h5)],[(1,oE (qt (bM h5)))],[(7,cK HV h6)],[(10,cK Vw h7),(19,oA yo v9 ([(⟨v7,v11⟩:aO)]) h8)],[(2,oq (cC h5 rfl h4))]] h5)))))
def wo(N:Nat)(v1:amT aO)(v2:amT aV)(v3:ay):amV (aB×aP×Int):=
 (xw N v3).bind λv4=>
 bif (v4 !=0)then
  some (bK,eD,v4)
 else
  (w7 N v3).bind λv5=>
  bif v5 then
   some (bK,eD,(10:Int))
  else
   (vB N v1).bind λv6=>
   (uy N v2 v6.1 v6.2).bind λv7=>
   (EV N v3 v7 v6.1 v6.2).bind λv8=>
   bif (v8.2.1 !=0)then
    some (bK,eD,v8.2.1)
   else
    some (v8.1.yVal,v8.1.fu,(0:Int))
def na(v3:ay)(l:amT aq):amT aq:= .cells (aD v3).cells:: .cells fG:: .cells xM::l
def El(v3:ay)(v6:(amT aO)×(amT (amU×aU)))(l:amT aq):amT aq:=na v3 (.cells [(.d (.sl (aX v6.1)))]:: .map (bP bQ v6.2):: .cells [(.mp 4)]:: .cells dB::l)
def Cf(v3:ay)(v6:(amT aO)×(amT (amU×aU)))(l:amT aq):amT aq:=na v3 (.cells dB:: .cells [(.d (.sl (aX v6.1)))]:: .map (bP bQ v6.2):: .cells [(.mp 5)]::l)
def GR(v3:ay)(v6:(amT aO)×(amT (amU×aU)))(v7:(amT aV))(l:amT aq):amT aq:=na v3 (.cells [(.d (.sl (aX v6.1)))]:: .map (bP bQ v6.2):: .cells [(.mp 4)]:: .cells [(.fn 96 [(.ptr 5 0),(.ptr 3 0)])]:: .cells [(.d (.sl (aS v7)))]:: .cells [(.fn 93 [(.ptr 6 0),(.ptr 7 0),(.ptr 9 0)]),(.fn 91 [(.ptr 9 0)])]:: .cells [(.ptr 8 0)]::l)
def Ka(v3:ay)(v6:(amT aO)×(amT (amU×aU)))(v7:(amT aV))(l:amT aq):amT aq:=El v3 v6 (.cells [(.fn 96 [(.ptr 5 0),(.ptr 3 0)])]:: .cells [(.d (.sl (aS v7)))]:: .cells [(.fn 93 [(.ptr 7 0),(.ptr 8 0),(.ptr 10 0)]),(.fn 91 [(.ptr 10 0)])]:: .cells [(.ptr 9 0)]::l)
def I9(v3:ay)(v6:(amT aO)×(amT (amU×aU)))(v7:(amT aV))(l:amT aq):amT aq:=Cf v3 v6 (.cells [(.fn 96 [(.ptr 6 0),(.ptr 4 0)])]:: .cells [(.d (.sl (aS v7)))]:: .cells [(.fn 93 [(.ptr 7 0),(.ptr 8 0),(.ptr 10 0)]),(.fn 91 [(.ptr 10 0)])]:: .cells [(.ptr 9 0)]::l)
def K6(v3:ay)(v6:(amT aO)×(amT (amU×aU)))(v8:eZ×Int×(amT (amU×aU)))(v7:(amT aV))(l:amT aq):amT aq:=na v3 (.cells [(.d (.sl (aX v6.1)))]:: .map (bP bQ v8.2.2):: .cells [(.mp 4)]:: .cells [(.fn 96 [(.ptr 5 0),(.ptr 3 0)])]:: .cells [(.d (.sl (aS v7)))]:: .cells [(.fn 93 [(.ptr 6 0),(.ptr 7 0),(.ptr 9 0)]),(.fn 91 [(.ptr 9 0)])]:: .cells [(.ptr 8 0)]:: .cells (dM v8.1).cells::l)
def Ns(v3:ay)(l:amT aq):amT aq:=na v3 (.cells dB::l)
def Qc(v3:ay)(v6:(amT aO)×(amT (amU×aU)))(v7:(amT aV))(l:amT aq):amT aq:=GR v3 v6 v7 (.cells dB::l)
def OH(v3:ay)(v6:(amT aO)×(amT (amU×aU)))(l:amT aq):amT aq:=na v3 (.cells [(.d (.sl (aX v6.1)))]:: .map (bP bQ v6.2):: .cells [(.mp 4)]::l)
theorem Mj{N v1 v2 v3 r}(J:wo N v1 v2 v3=some r):KF 26 [(.d (.sl (aX v1))),(.d (.sl (aS v2))),(aD v3)] (.aY [(aT r.1),(bE r.2.1),(ar r.2.2)]):=by
 rw[wo]at J;refine lO Tryz.func26 rfl (by kernel_rfl) ?_;refine ft [0,1,2] 0 (amg _) (s':=⟨44,[(0,(.d (.sl (aX v1)))),(1,(.d (.sl (aS v2)))),(2,(aD v3))],[]⟩) (by kernel_rfl) ?_;refine au ?_;refine rg [] [(5,(.ptr 0 0)),(6,(.ptr 1 0)),(7,(.ptr 2 0))] (na v3 []) (by kernel_rfl) ?_;refine au ?_;refine au ?_;obtain⟨v4,h1,J⟩:=bm J;refine rg [(4,cL (KR h1))] [(9,(ar v4))] (na v3 []) (by kernel_rfl) ?_;refine au ?_;refine rg [] [(15,(az (v4 !=0)))] (na v3 []) (by kernel_rfl) ?_;rcases dw (v4 !=0)with h2|h2
 ·replace J:=(c7 h2).symm.trans J;refine cS (t:=(v4 !=0)) (by kernel_rfl) h2 ?_;refine au ?_;refine rg [] [(8,(ar v4))] (na v3 []) (by kernel_rfl) ?_;refine cU (cT ?_);have hr:=amo J;subst hr;exact eJ (by kernel_rfl)
 replace J:=(du h2).symm.trans J;refine dm (t:=(v4 !=0)) (by kernel_rfl) h2 ?_;refine ct ?_;refine aM ?_;refine au ?_;refine au ?_;obtain⟨v5,h3,J⟩:=bm J;refine rg [(4,cK HC h3)] [(20,(az v5))] (na v3 []) (by kernel_rfl) ?_;rcases dw v5 with h4|h4
 ·replace J:=(c7 h4).symm.trans J;refine cS (t:=v5) (by kernel_rfl) h4 ?_;refine au ?_;refine rg [] [(8,(ar (10:Int)))] (na v3 []) (by kernel_rfl) ?_;refine cU (cT ?_);have hr:=amo J;subst hr;exact eJ (by kernel_rfl)
 replace J:=(du h4).symm.trans J;refine dm (t:=v5) (by kernel_rfl) h4 ?_;refine ct ?_;refine aM ?_;refine au ?_;obtain⟨v6,h5,v7,h6,J⟩:=k01 J;obtain⟨v8,h7,J⟩:=bm J;refine ro 14 bw (.node 0 [] (.node 2 [] (.node 1 [(4,oX c6 (aQ (dL (aQ c6))) [(.d (.sl (aX v1)))] (na v3 []) [] (tN N v1 v6 h5))] (.node 3 [(10,oX (aQ (aQ (dL c6))) (aQ (aQ (dL (aQ (aQ (aQ (aQ c6))))))) [(.fn 96 [(.ptr 5 0),(.ptr 3 0)]),(.d (.sl (aS v2)))] (OH v3 v6 []) [5,3,4] (iJ h6))] (.node 4 [] (.node 5 [] (.node 6 [] (.node 7 [] (.node 8 [(25,oR [(aD v3),(.ptr 6 0),(.ptr 7 0),(.ptr 9 0)] (GR v3 v6 v7 []) [6,7,9,5,3,8,4] (gV N v3 v7 v6.1 v6.2 v8 h7))] (.node 9 [] (.node 10 [] (.node 11 [] (.node 12 [] (.node 13 [] (.node 14 [] .nil .nil) .nil) .nil) .nil) .nil) .nil) (.node 12 [] (.node 8 [(25,oR [(aD v3),(.ptr 6 0),(.ptr 7 0),(.ptr 9 0)] (Qc v3 v6 v7 []) [6,7,9,5,3,8,4] (gV N v3 v7 v6.1 v6.2 v8 h7))] (.node 9 [] (.node 10 [] (.node 11 [] (.node 13 [] (.node 14 [] .nil .nil) .nil) .nil) .nil) .nil) .nil) .nil)) .nil) .nil) .nil) .nil) (.node 7 [] (.node 3 [(10,oX (aQ (aQ (dL c6))) (aQ (aQ (dL (aQ (aQ (aQ (aQ c6))))))) [(.fn 96 [(.ptr 5 0),(.ptr 3 0)]),(.d (.sl (aS v2)))] (OH v3 v6 []) [5,3,4] (iJ h6))] (.node 4 [] (.node 5 [] (.node 6 [] (.node 8 [(25,oR [(aD v3),(.ptr 6 0),(.ptr 7 0),(.ptr 9 0)] (GR v3 v6 v7 []) [6,7,9,5,3,8,4] (gV N v3 v7 v6.1 v6.2 v8 h7))] (.node 9 [] (.node 10 [] (.node 11 [] (.node 12 [] (.node 13 [] (.node 14 [] .nil .nil) .nil) .nil) .nil) .nil) .nil) (.node 12 [] (.node 8 [(25,oR [(aD v3),(.ptr 6 0),(.ptr 7 0),(.ptr 9 0)] (Qc v3 v6 v7 []) [6,7,9,5,3,8,4] (gV N v3 v7 v6.1 v6.2 v8 h7))] (.node 9 [] (.node 10 [] (.node 11 [] (.node 13 [] (.node 14 [] .nil .nil) .nil) .nil) .nil) .nil) .nil) .nil)) .nil) .nil) .nil) (.node 12 [] (.node 3 [(10,oX (aQ (aQ (dL c6))) (aQ (aQ (dL (aQ (aQ (aQ (aQ c6))))))) [(.fn 96 [(.ptr 5 0),(.ptr 3 0)]),(.d (.sl (aS v2)))] (El v3 v6 []) [5,3,4] (iJ h6))] (.node 4 [] (.node 5 [] (.node 6 [] (.node 8 [(25,oR [(aD v3),(.ptr 7 0),(.ptr 8 0),(.ptr 10 0)] (Ka v3 v6 v7 []) [7,8,10,5,3,9,4] (gV N v3 v7 v6.1 v6.2 v8 h7))] (.node 9 [] (.node 10 [] (.node 11 [] (.node 13 [] (.node 14 [] .nil .nil) .nil) .nil) .nil) .nil) .nil) .nil) .nil) .nil) .nil) .nil)) (.node 12 [] (.node 3 [(10,oX (aQ (aQ (dL c6))) (aQ (aQ (dL (aQ (aQ (aQ (aQ c6))))))) [(.fn 96 [(.ptr 5 0),(.ptr 3 0)]),(.d (.sl (aS v2)))] (El v3 v6 []) [5,3,4] (iJ h6))] (.node 4 [] (.node 5 [] (.node 6 [] (.node 7 [] (.node 8 [(25,oR [(aD v3),(.ptr 7 0),(.ptr 8 0),(.ptr 10 0)] (Ka v3 v6 v7 []) [7,8,10,5,3,9,4] (gV N v3 v7 v6.1 v6.2 v8 h7))] (.node 9 [] (.node 10 [] (.node 11 [] (.node 13 [] (.node 14 [] .nil .nil) .nil) .nil) .nil) .nil) .nil) .nil) .nil) .nil) .nil) (.node 7 [] (.node 3 [(10,oX (aQ (aQ (dL c6))) (aQ (aQ (dL (aQ (aQ (aQ (aQ c6))))))) [(.fn 96 [(.ptr 5 0),(.ptr 3 0)]),(.d (.sl (aS v2)))] (El v3 v6 []) [5,3,4] (iJ h6))] (.node 4 [] (.node 5 [] (.node 6 [] (.node 8 [(25,oR [(aD v3),(.ptr 7 0),(.ptr 8 0),(.ptr 10 0)] (Ka v3 v6 v7 []) [7,8,10,5,3,9,4] (gV N v3 v7 v6.1 v6.2 v8 h7))] (.node 9 [] (.node 10 [] (.node 11 [] (.node 13 [] (.node 14 [] .nil .nil) .nil) .nil) .nil) .nil) .nil) .nil) .nil) .nil) .nil) .nil)) .nil))) (.node 7 [] (.node 1 [(4,oX c6 (aQ (dL (aQ c6))) [(.d (.sl (aX v1)))] (na v3 []) [] (tN N v1 v6 h5))] (.node 3 [(10,oX (aQ (aQ (dL c6))) (aQ (aQ (dL (aQ (aQ (aQ (aQ c6))))))) [(.fn 96 [(.ptr 5 0),(.ptr 3 0)]),(.d (.sl (aS v2)))] (OH v3 v6 []) [5,3,4] (iJ h6))] (.node 4 [] (.node 5 [] (.node 6 [] (.node 8 [(25,oR [(aD v3),(.ptr 6 0),(.ptr 7 0),(.ptr 9 0)] (GR v3 v6 v7 []) [6,7,9,5,3,8,4] (gV N v3 v7 v6.1 v6.2 v8 h7))] (.node 9 [] (.node 10 [] (.node 11 [] (.node 12 [] (.node 13 [] (.node 14 [] .nil .nil) .nil) .nil) .nil) .nil) .nil) (.node 12 [] (.node 8 [(25,oR [(aD v3),(.ptr 6 0),(.ptr 7 0),(.ptr 9 0)] (Qc v3 v6 v7 []) [6,7,9,5,3,8,4] (gV N v3 v7 v6.1 v6.2 v8 h7))] (.node 9 [] (.node 10 [] (.node 11 [] (.node 13 [] (.node 14 [] .nil .nil) .nil) .nil) .nil) .nil) .nil) .nil)) .nil) .nil) .nil) (.node 12 [] (.node 3 [(10,oX (aQ (aQ (dL c6))) (aQ (aQ (dL (aQ (aQ (aQ (aQ c6))))))) [(.fn 96 [(.ptr 5 0),(.ptr 3 0)]),(.d (.sl (aS v2)))] (El v3 v6 []) [5,3,4] (iJ h6))] (.node 4 [] (.node 5 [] (.node 6 [] (.node 8 [(25,oR [(aD v3),(.ptr 7 0),(.ptr 8 0),(.ptr 10 0)] (Ka v3 v6 v7 []) [7,8,10,5,3,9,4] (gV N v3 v7 v6.1 v6.2 v8 h7))] (.node 9 [] (.node 10 [] (.node 11 [] (.node 13 [] (.node 14 [] .nil .nil) .nil) .nil) .nil) .nil) .nil) .nil) .nil) .nil) .nil) .nil)) (.node 12 [] (.node 1 [(4,oX c6 (aQ (dL (aQ c6))) [(.d (.sl (aX v1)))] (Ns v3 []) [] (tN N v1 v6 h5))] (.node 3 [(10,oX (aQ (aQ (dL c6))) (aQ (aQ (dL (aQ (aQ (aQ (aQ c6))))))) [(.fn 96 [(.ptr 6 0),(.ptr 4 0)]),(.d (.sl (aS v2)))] (Cf v3 v6 []) [6,4,5] (iJ h6))] (.node 4 [] (.node 5 [] (.node 6 [] (.node 8 [(25,oR [(aD v3),(.ptr 7 0),(.ptr 8 0),(.ptr 10 0)] (I9 v3 v6 v7 []) [7,8,10,6,4,9,5] (gV N v3 v7 v6.1 v6.2 v8 h7))] (.node 9 [] (.node 10 [] (.node 11 [] (.node 13 [] (.node 14 [] .nil .nil) .nil) .nil) .nil) .nil) .nil) .nil) .nil) .nil) .nil) .nil) .nil)) (.node 12 [] (.node 1 [(4,oX c6 (aQ (dL (aQ c6))) [(.d (.sl (aX v1)))] (Ns v3 []) [] (tN N v1 v6 h5))] (.node 3 [(10,oX (aQ (aQ (dL c6))) (aQ (aQ (dL (aQ (aQ (aQ (aQ c6))))))) [(.fn 96 [(.ptr 6 0),(.ptr 4 0)]),(.d (.sl (aS v2)))] (Cf v3 v6 []) [6,4,5] (iJ h6))] (.node 4 [] (.node 5 [] (.node 6 [] (.node 7 [] (.node 8 [(25,oR [(aD v3),(.ptr 7 0),(.ptr 8 0),(.ptr 10 0)] (I9 v3 v6 v7 []) [7,8,10,6,4,9,5] (gV N v3 v7 v6.1 v6.2 v8 h7))] (.node 9 [] (.node 10 [] (.node 11 [] (.node 13 [] (.node 14 [] .nil .nil) .nil) .nil) .nil) .nil) .nil) .nil) .nil) .nil) .nil) (.node 7 [] (.node 3 [(10,oX (aQ (aQ (dL c6))) (aQ (aQ (dL (aQ (aQ (aQ (aQ c6))))))) [(.fn 96 [(.ptr 6 0),(.ptr 4 0)]),(.d (.sl (aS v2)))] (Cf v3 v6 []) [6,4,5] (iJ h6))] (.node 4 [] (.node 5 [] (.node 6 [] (.node 8 [(25,oR [(aD v3),(.ptr 7 0),(.ptr 8 0),(.ptr 10 0)] (I9 v3 v6 v7 []) [7,8,10,6,4,9,5] (gV N v3 v7 v6.1 v6.2 v8 h7))] (.node 9 [] (.node 10 [] (.node 11 [] (.node 13 [] (.node 14 [] .nil .nil) .nil) .nil) .nil) .nil) .nil) .nil) .nil) .nil) .nil) .nil)) (.node 7 [] (.node 1 [(4,oX c6 (aQ (dL (aQ c6))) [(.d (.sl (aX v1)))] (Ns v3 []) [] (tN N v1 v6 h5))] (.node 3 [(10,oX (aQ (aQ (dL c6))) (aQ (aQ (dL (aQ (aQ (aQ (aQ c6))))))) [(.fn 96 [(.ptr 6 0),(.ptr 4 0)]),(.d (.sl (aS v2)))] (Cf v3 v6 []) [6,4,5] (iJ h6))] (.node 4 [] (.node 5 [] (.node 6 [] (.node 8 [(25,oR [(aD v3),(.ptr 7 0),(.ptr 8 0),(.ptr 10 0)] (I9 v3 v6 v7 []) [7,8,10,6,4,9,5] (gV N v3 v7 v6.1 v6.2 v8 h7))] (.node 9 [] (.node 10 [] (.node 11 [] (.node 13 [] (.node 14 [] .nil .nil) .nil) .nil) .nil) .nil) .nil) .nil) .nil) .nil) .nil) .nil) .nil)) .nil))) .nil) .nil) [(10,(.ptr 10 0)),(11,(ar v8.2.1))] (K6 v3 v6 v8 v7 []) (by kernel_rfl) ?_
 refine au ?_;refine au ?_;refine rg [] [(36,(az (v8.2.1 !=0)))] (K6 v3 v6 v8 v7 []) (by kernel_rfl) ?_;rcases dw (v8.2.1 !=0)with h8|h8
 ·replace J:=(c7 h8).symm.trans J;refine cS (t:=(v8.2.1 !=0)) (by kernel_rfl) h8 ?_;refine au ?_;refine rg [] [(8,(ar v8.2.1))] (K6 v3 v6 v8 v7 []) (by kernel_rfl) ?_;refine cU (cT ?_);have hr:=amo J;subst hr;exact eJ (by kernel_rfl)
 replace J:=(du h8).symm.trans J;refine dm (t:=(v8.2.1 !=0)) (by kernel_rfl) h8 ?_;refine ct ?_;refine aM ?_;refine au ?_;refine rt 2 bw [] [(8,(ar (0:Int)))] [.cells (aD v3).cells, .cells (aT v8.1.yVal).cells, .cells (bE v8.1.fu).cells, .cells [(.d (.sl (aX v6.1)))], .map (bP bQ v8.2.2), .cells [(.mp 4)], .cells [(.fn 96 [(.ptr 5 0),(.ptr 3 0)])], .cells [(.d (.sl (aS v7)))], .cells [(.fn 93 [(.ptr 6 0),(.ptr 7 0),(.ptr 9 0)]),(.fn 91 [(.ptr 9 0)])], .cells [(.ptr 8 0)], .cells (dM v8.1).cells] (by kernel_rfl) ?_;refine cU ?_;have hr:=amo J;subst hr;exact eJ (by kernel_rfl)
def WI(N:Nat)(v2:amT aB):amT aB->Nat->amV Bool
 |[],_=>
  some true
 |v5::v6,v3=>
  Option.bind (v2[((v3:Int)).toNat]?) λv7=>
  bif ((v5.xN.toInt==v7.xN.toInt)&&((v5.xD.toInt==v7.xD.toInt)&&true))then
   (WI N v2 v6 (v3+1))
  else
   some false
def Wi(N:Nat)(v1:amT aB)(v2:amT aB):amV Bool:=
 bif ((v1.length:Int) !=(v2.length:Int))then
  some false
 else
  WI N v2 v1 0
theorem ajN{N v1 v2}:KO 31 [(.d (.sl (dO v1))),(.d (.sl (dO v2)))] az (Wi N v1 v2):=
 fw Tryz.func31 (gA [[],[(4,oL v1 kp),(10,oL v2 kp)]] (fP λ_=>gT wj 0 v1 λh3=>e7 1 [] [0,1,5] 0 (λv3=>⟨26,[(0,(.d (.sl (dO v1)))),(1,(.d (.sl (dO v2)))),(5,(ar (v3:Int)))],[]⟩) (λv3 h4 f1=>gR [[(7,oL v1 kp)],[f0 (cf h4)],[]]) (λv3 v5 v6 h4 f1 aJ=>aw λv7 h5=>gA [[(7,oL v1 kp)],[t0 (bZ h4)],[(7,oE (nm (bM h4))),(19,oE (nm h5))]] (fW λh7=>gb aJ () [[f0 (cH h7)],[(5,oq (cC h4 rfl h3))]] h4))))
def Cl(N:Nat):amV Bool:=
 Option.bind (TC N (⟨[(bs [110])],[],[(⟨(bs [97]),(⟨(1:Int),(0:Int),(0:Int),(0:Int),(0:Int)⟩:aP),[(⟨(0:Int64),[(⟨(bs [110]),(1:Int64)⟩:dP)]⟩:cn)]⟩:ju)],[(⟨(bs [115]),(⟨(1:Int),(0:Int),(0:Int),(0:Int),(0:Int)⟩:aP),[],[(⟨(bs [105]),(⟨(0:Int64),[(⟨(bs [110]),(1:Int64)⟩:dP)]⟩:cn)⟩:fj)],(1:Int),(⟨(3:Int),(bs [97]),bK,eD,kE,[(⟨(⟨(0:Int64),[(⟨(bs [105]),(1:Int64)⟩:dP)]⟩:cn),(bs []),[]⟩:cY)],[]⟩:ay)⟩:et)],[(bs [115])]⟩:dh) ([(⟨(bs [110]),(3:Int64)⟩:aV)]) ([(⟨(bs [97]),(⟨(⟨(1:Int),(0:Int),(0:Int),(0:Int),(0:Int)⟩:aP),[(3:Int)],[(⟨(1:Int64),(2:Int64)⟩:aB),(⟨(1:Int64),(3:Int64)⟩:aB),(⟨(1:Int64),(6:Int64)⟩:aB)]⟩:aU)⟩:aO)])) λv1=>
 Option.bind (wo N ([(⟨(bs [97]),(⟨(⟨(1:Int),(0:Int),(0:Int),(0:Int),(0:Int)⟩:aP),[(3:Int)],[(⟨(1:Int64),(2:Int64)⟩:aB),(⟨(1:Int64),(3:Int64)⟩:aB),(⟨(1:Int64),(6:Int64)⟩:aB)]⟩:aU)⟩:aO),(⟨(bs [98]),(⟨(⟨(3:Int),(0:Int),(0:Int),(0:Int),(0:Int)⟩:aP),[(1:Int)],[(⟨(7:Int64),(1:Int64)⟩:aB)]⟩:aU)⟩:aO)]) [] (⟨(3:Int),(bs [97]),bK,eD,kE,[(⟨kE,(bs [98]),[kE]⟩:cY)],[]⟩:ay)) λv2=>
 Option.bind (wo N [] ([(⟨(bs [105]),(0:Int64)⟩:aV)]) (⟨(11:Int),(bs []),bK,eD,kE,[],[(⟨(13:Int),(bs []),bK,eD,kE,[],[(⟨(2:Int),(bs []),bK,eD,(⟨(0:Int64),[(⟨(bs [105]),(1:Int64)⟩:dP)]⟩:cn),[],[]⟩:ay),(⟨(2:Int),(bs []),bK,eD,(⟨(1:Int64),[]⟩:cn),[],[]⟩:ay)]⟩:ay),(⟨(1:Int),(bs []),(⟨(1:Int64),(1:Int64)⟩:aB),(⟨(1:Int),(0:Int),(0:Int),(0:Int),(0:Int)⟩:aP),kE,[],[]⟩:ay),(⟨(7:Int),(bs []),bK,eD,kE,[],[(⟨(1:Int),(bs []),(⟨(1:Int64),(1:Int64)⟩:aB),(⟨(1:Int),(0:Int),(0:Int),(0:Int),(0:Int)⟩:aP),kE,[],[]⟩:ay),(⟨(1:Int),(bs []),(⟨(0:Int64),(1:Int64)⟩:aB),(⟨(1:Int),(0:Int),(0:Int),(0:Int),(0:Int)⟩:aP),kE,[],[]⟩:ay)]⟩:ay)]⟩:ay)) λv3=>
 Option.bind (bif (v1.2==0)then(bif ((v1.1.length:Int)==1)then Option.bind (v1.1[0]?) λv4=>
 Option.bind (Wi N v4.gM.dI ([(⟨(1:Int64),(1:Int64)⟩:aB)])) λv5=>
 (bif v5 then(bif (v2.2.2==0)then(bif ((v2.1.xN.toInt==(1:Int64).toInt)&&((v2.1.xD.toInt==(6:Int64).toInt)&&true))then(bif ((v2.2.1.bu==1)&&((v2.2.1.bG==0)&&((v2.2.1.ck==0)&&((v2.2.1.cx==0)&&((v2.2.1.cG==0)&&true)))))then(bif (v3.2.2==0)then some ((v3.1.xN.toInt==(1:Int64).toInt)&&((v3.1.xD.toInt==(1:Int64).toInt)&&true))else some false)else some false)else some false)else some false)else some false)else some false)else some false) λv6=>
 some v6
theorem Vm{N}:KO 9 [] az (Cl N):=
 fw Tryz.func9 (aw λv1 h1=>aw λv2 h2=>aw λv3 h3=>gA [[],[],[],[],[],[],[],[],[(16,cK ach h1)],[(25,cL (Mj h2))],[],[],[(14,⟨_,_, .eq (congrArg AV.full (pC [(⟨(2:Int),(bs []),bK,eD,(⟨(0:Int64),[(⟨(bs [105]),(1:Int64)⟩:dP)]⟩:cn),[],[]⟩:ay),(⟨(2:Int),(bs []),bK,eD,(⟨(1:Int64),[]⟩:cn),[],[]⟩:ay)]).symm)⟩)],[(20,⟨_,_, .eq (congrArg AV.full (pC [(⟨(1:Int),(bs []),(⟨(1:Int64),(1:Int64)⟩:aB),(⟨(1:Int),(0:Int),(0:Int),(0:Int),(0:Int)⟩:aP),kE,[],[]⟩:ay),(⟨(1:Int),(bs []),(⟨(0:Int64),(1:Int64)⟩:aB),(⟨(1:Int),(0:Int),(0:Int),(0:Int),(0:Int)⟩:aP),kE,[],[]⟩:ay)]).symm)⟩),(26,⟨_,_, .eq (congrArg AV.full (pC [(⟨(13:Int),(bs []),bK,eD,kE,[],[(⟨(2:Int),(bs []),bK,eD,(⟨(0:Int64),[(⟨(bs [105]),(1:Int64)⟩:dP)]⟩:cn),[],[]⟩:ay),(⟨(2:Int),(bs []),bK,eD,(⟨(1:Int64),[]⟩:cn),[],[]⟩:ay)]⟩:ay),(⟨(1:Int),(bs []),(⟨(1:Int64),(1:Int64)⟩:aB),(⟨(1:Int),(0:Int),(0:Int),(0:Int),(0:Int)⟩:aP),kE,[],[]⟩:ay),(⟨(7:Int),(bs []),bK,eD,kE,[],[(⟨(1:Int),(bs []),(⟨(1:Int64),(1:Int64)⟩:aB),(⟨(1:Int),(0:Int),(0:Int),(0:Int),(0:Int)⟩:aP),kE,[],[]⟩:ay),(⟨(1:Int),(bs []),(⟨(0:Int64),(1:Int64)⟩:aB),(⟨(1:Int),(0:Int),(0:Int),(0:Int),(0:Int)⟩:aP),kE,[],[]⟩:ay)]⟩:ay)]).symm)⟩),(31,cL (Mj h3))]] (gG (λv6=>[(0,(az v6))]) (λ_=>[.cells [(ar (1:Int)),(ar (0:Int)),(ar (0:Int)),(ar (0:Int)),(ar (0:Int))], .cells [(ar (3:Int)),(ar (0:Int)),(ar (0:Int)),(ar (0:Int)),(ar (0:Int))], .cells [(bk (0:Int64)),(.full (gq [(⟨(bs [110]),(1:Int64)⟩:dP)]))], .cells [(bk (0:Int64)),(.full (gq [(⟨(bs [105]),(1:Int64)⟩:dP)]))], .cells [(di (bs [115])),(ar (1:Int)),(ar (0:Int)),(ar (0:Int)),(ar (0:Int)),(ar (0:Int)),(.d (.v (.slice none 0 0))),(.full (iO [(⟨(bs [105]),(⟨(0:Int64),[(⟨(bs [110]),(1:Int64)⟩:dP)]⟩:cn)⟩:fj)])),(ar (1:Int)),(ar (3:Int)),(di (bs [97])),(bk (0:Int64)),(bk (0:Int64)),(ar (0:Int)),(ar (0:Int)),(ar (0:Int)),(ar (0:Int)),(ar (0:Int)),(bk (0:Int64)),(.d (.v (.slice none 0 0))),(.full (eB [(⟨(⟨(0:Int64),[(⟨(bs [105]),(1:Int64)⟩:dP)]⟩:cn),(bs []),[]⟩:cY)])),(.d (.v (.slice none 0 0)))], .cells [(.full (ee [(bs [110])])),(.d (.v (.slice none 0 0))),(.full (kT [(⟨(bs [97]),(⟨(1:Int),(0:Int),(0:Int),(0:Int),(0:Int)⟩:aP),[(⟨(0:Int64),[(⟨(bs [110]),(1:Int64)⟩:dP)]⟩:cn)]⟩:ju)])),(.full (jd [(⟨(bs [115]),(⟨(1:Int),(0:Int),(0:Int),(0:Int),(0:Int)⟩:aP),[],[(⟨(bs [105]),(⟨(0:Int64),[(⟨(bs [110]),(1:Int64)⟩:dP)]⟩:cn)⟩:fj)],(1:Int),(⟨(3:Int),(bs [97]),bK,eD,kE,[(⟨(⟨(0:Int64),[(⟨(bs [105]),(1:Int64)⟩:dP)]⟩:cn),(bs []),[]⟩:cY)],[]⟩:ay)⟩:et)])),(.full (ee [(bs [115])]))], .cells [(di (bs [97])),(ar (1:Int)),(ar (0:Int)),(ar (0:Int)),(ar (0:Int)),(ar (0:Int)),(.full (bA [(3:Int)])),(.full (dO [(⟨(1:Int64),(2:Int64)⟩:aB),(⟨(1:Int64),(3:Int64)⟩:aB),(⟨(1:Int64),(6:Int64)⟩:aB)]))], .cells [(di (bs [98])),(ar (3:Int)),(ar (0:Int)),(ar (0:Int)),(ar (0:Int)),(ar (0:Int)),(.full (bA [(1:Int)])),(.full (dO [(⟨(7:Int64),(1:Int64)⟩:aB)]))], .cells (aT v2.1).cells, .cells (bE v2.2.1).cells, .cells [(ar (1:Int)),(di (bs [])),(bk (1:Int64)),(bk (1:Int64)),(ar (1:Int)),(ar (0:Int)),(ar (0:Int)),(ar (0:Int)),(ar (0:Int)),(bk (0:Int64)),(.d (.v (.slice none 0 0))),(.d (.v (.slice none 0 0))),(.d (.v (.slice none 0 0)))], .cells [(ar (1:Int)),(di (bs [])),(bk (0:Int64)),(bk (1:Int64)),(ar (1:Int)),(ar (0:Int)),(ar (0:Int)),(ar (0:Int)),(ar (0:Int)),(bk (0:Int64)),(.d (.v (.slice none 0 0))),(.d (.v (.slice none 0 0))),(.d (.v (.slice none 0 0)))], .cells [(ar (13:Int)),(di (bs [])),(bk (0:Int64)),(bk (0:Int64)),(ar (0:Int)),(ar (0:Int)),(ar (0:Int)),(ar (0:Int)),(ar (0:Int)),(bk (0:Int64)),(.d (.v (.slice none 0 0))),(.d (.v (.slice none 0 0))),(.full (iG [(⟨(2:Int),(bs []),bK,eD,(⟨(0:Int64),[(⟨(bs [105]),(1:Int64)⟩:dP)]⟩:cn),[],[]⟩:ay),(⟨(2:Int),(bs []),bK,eD,(⟨(1:Int64),[]⟩:cn),[],[]⟩:ay)]))], .cells (aT v3.1).cells, .cells (bE v3.2.1).cells]) (ax (λh4=>cd (2,bT h4) (dc (13,oL v1.1 ub) (ax (λh5=>aw λv4 h6=>aw λv5 h7=>cd (7,bT h5) (dc (28,oE (k:=0) (uD h6)) (dc (46,cK ajN h7) (ax (λh8=>cd (17,bT h8) (ax (λh9=>cd (21,bT h9) (ax (λaW=>cd (26,bT aW) (ax (λaZ=>cd (31,bT aZ) (ax (λbj=>gE [(35,bT bj)] []) λbj=>gE [(35,bF bj)] [])) λaZ=>gE [(31,bF aZ),(35,bF rfl)] [])) λaW=>gE [(26,bF aW),(31,bF rfl),(35,bF rfl)] [])) λh9=>gE [(21,bF h9),(26,bF rfl),(31,bF rfl),(35,bF rfl)] [])) λh8=>gE [(17,bF h8),(21,bF rfl),(26,bF rfl),(31,bF rfl),(35,bF rfl)] [])))) λh5=>gE [(7,bF h5),(17,bF rfl),(21,bF rfl),(26,bF rfl),(31,bF rfl),(35,bF rfl)] []))) λh4=>gE [(2,bF h4),(7,bF rfl),(17,bF rfl),(21,bF rfl),(26,bF rfl),(31,bF rfl),(35,bF rfl)] []) λv6=>gR []))
def zZ(N:Nat)(v2:Int)(Vb:ay->Int->amV Int):amT ay->Nat->Int->amV Int
 |[],_,v7=>
  some v7
 |v5::v6,v3,v7=>
  bif (decide (v2>1))then
   Option.bind (Vb v5 (aE (v2-(1:Int)))) λv8=>
   (λcu=>zZ N v2 Vb v6 (v3+1) cu) (if(aE ((1:Int)+v8))>v7 then(aE ((1:Int)+v8))else v7)
  else
   some v7
def qH(N:Nat):Nat->ay->Int->amV Int
 |0,_,_=>none
 |d+1,v1,v2=>
  zZ N v2 (qH N d) v1.bD 0 (1:Int)
def OU(N:Nat)(v1:ay)(v2:Int):amV Int:=qH N N v1 v2
theorem afv(N:Nat):∀d:Nat,(∀{v1:ay}{v2:Int},KO 163 [(aD v1),(ar v2)] ar (qH N d v1 v2)):=by
 intro d
 induction d with
 |zero=>intro v1 v2 r J;rw[qH]at J;cases J
 |succ d ih=>
  have aa8:= @ih;intro v1 v2;rw[qH];exact fw Tryz.func163 (gA [[],[],[]] (gB qx 0 12 v1.bD λh2=>gd 1 [] [1,2,5,6] 1 (λv3(v7:Int)=>⟨30,[(1,(ar v2)),(2,(.ptr 0 0)),(5,(ar v7)),(6,(ar (v3:Int)))],[.cells (aD v1).cells]⟩) (λv3 v7 h3 f1=>gR [[(10,oL v1.bD jr),(18,bF (cf h3)),(21,bF (cf h3)),(25,bF (cf h3))],[(0,bF rfl)],[]]) (λv3 v5 v6 v7 h3 f1 aJ=>gA [[(10,oL v1.bD jr),(18,bT (bZ h3)),(21,bT (bZ h3)),(25,bT (bZ h3))]] (jL λh4=>aw λv8 h5=>gb aJ (if(aE ((1:Int)+v8))>v7 then(aE ((1:Int)+v8))else v7) [[(0,bT h4)],[(13,oE (gY (bM h3))),(25,cK aa8 h5)],[(5,oq (cC h3 rfl h2))]] h3))))
theorem akT{N v1 v2}:KO 163 [(aD v1),(ar v2)] ar (OU N v1 v2):=(afv N N)
def NX(N:Nat)(v1:ay):amV Int:=
 Option.bind (OU N v1 (41:Int)) λv2=>
 some v2
theorem agK{N v1}:KO 98 [(aD v1)] ar (NX N v1):=
 fw Tryz.func98 (aw λv2 h1=>gR [[],[(4,cK akT h1)]])
def Fa(N:Nat)(v2:Int)(TE:ay->Int->amV Int):amT ay->Nat->Int->amV Int
 |[],_,v7=>
  some v7
 |v5::v6,v3,v7=>
  bif (decide (v7<=v2))then
   Option.bind (TE v5 (aE (v2-v7))) λv8=>
   (λcu=>Fa N v2 TE v6 (v3+1) cu) (aE (v7+v8))
  else
   some v7
def sB(N:Nat):Nat->ay->Int->amV Int
 |0,_,_=>none
 |d+1,v1,v2=>
  Fa N v2 (sB N d) v1.bD 0 (1:Int)
def LC(N:Nat)(v1:ay)(v2:Int):amV Int:=sB N N v1 v2
theorem abH(N:Nat):∀d:Nat,(∀{v1:ay}{v2:Int},KO 164 [(aD v1),(ar v2)] ar (sB N d v1 v2)):=by
 intro d
 induction d with
 |zero=>intro v1 v2 r J;rw[sB]at J;cases J
 |succ d ih=>
  have aa5:= @ih;intro v1 v2;rw[sB];exact fw Tryz.func164 (gA [[],[],[]] (gB qx 0 12 v1.bD λh2=>gd 1 [] [1,2,5,6] 1 (λv3(v7:Int)=>⟨31,[(1,(ar v2)),(2,(.ptr 0 0)),(5,(ar v7)),(6,(ar (v3:Int)))],[.cells (aD v1).cells]⟩) (λv3 v7 h3 f1=>gR [[(10,oL v1.bD jr),(18,bF (cf h3)),(21,bF (cf h3)),(24,bF (cf h3)),(28,bF (cf h3))],[(0,bF rfl)],[]]) (λv3 v5 v6 v7 h3 f1 aJ=>gA [[(10,oL v1.bD jr),(18,bT (bZ h3)),(21,bT (bZ h3)),(24,bT (bZ h3)),(28,bT (bZ h3))]] (jL λh4=>aw λv8 h5=>gb aJ (aE (v7+v8)) [[(0,bT h4)],[(13,oE (gY (bM h3))),(28,cK aa5 h5)],[(5,oq (cC h3 rfl h2))]] h3))))
theorem acy{N v1 v2}:KO 164 [(aD v1),(ar v2)] ar (LC N v1 v2):=(abH N N)
def Mp(N:Nat)(v1:ay):amV Int:=
 Option.bind (LC N v1 (2000:Int)) λv2=>
 some (if(2001:Int)<v2 then(2001:Int)else v2)
theorem aj0{N v1}:KO 99 [(aD v1)] ar (Mp N v1):=
 fw Tryz.func99 (aw λv2 h1=>gR [[],[(4,cK acy h1)]])
def Gg(N:Nat):amT cY->Nat->amV Bool
 |[],_=>
  some true
 |v7::v8,v5=>
  Option.bind (bif (bL v7.dA==bL (bs []))then(bif (decide ((v7.cO.length:Int)>0))then some true else some false)else(bif (v7.cm.xK.toInt !=0)then some true else some (decide ((v7.cm.xL.length:Int)>0)))) λv9=>
  bif v9 then
   some false
  else
   (Gg N v8 (v5+1))
def Jo(N:Nat)(v1:ay):amV Bool:=
 Option.bind (bif (decide (v1.aC<1))then some true else some (decide (v1.aC>18))) λv2=>
 bif v2 then
  some false
 else
  Option.bind (bif (v1.aC !=1)then(bif ((v1.dR.xN.toInt==(0:Int64).toInt)&&((v1.dR.xD.toInt==(0:Int64).toInt)&&true))then(bif (v1.aC !=12)then some (!((v1.aK.bu==0)&&((v1.aK.bG==0)&&((v1.aK.ck==0)&&((v1.aK.cx==0)&&((v1.aK.cG==0)&&true))))))else some false)else some true)else some false) λv3=>
  bif v3 then
   some false
  else
   Option.bind (bif (v1.aC !=2)then(bif (v1.cm.xK.toInt !=0)then some true else(bif (decide ((v1.cm.xL.length:Int)>0))then some true else(bif (v1.aC !=3)then(bif (bL v1.bo==bL (bs []))then some (decide ((v1.xIdx.length:Int)>0))else some true)else some false)))else(bif (v1.aC !=3)then(bif (bL v1.bo==bL (bs []))then some (decide ((v1.xIdx.length:Int)>0))else some true)else some false)) λv4=>
   bif v4 then
    some false
   else
    Gg N v1.xIdx 0
def ER(v1:ay)(l:amT aq):amT aq:= .cells (aD v1).cells::l
theorem agk{N v1}:KO 165 [(aD v1)] az (Jo N v1):=
 fw Tryz.func165 (gA [[]] (gG (λv2=>[(12,(az v2))]) (λ_=>(ER v1 [])) (ax (λh1=>gE [(3,bT h1)] []) λh1=>gE [(3,bF h1)] []) λv2=>bn λh3=>gA [[f0 h3]] (gG (λv3=>[(37,(az v3))]) (λ_=>(ER v1 [])) (ax (λh4=>cd (3,bT h4) (ax (λh5=>cd (9,bF (cH h5)) (cd (13,bT h4) (dc (52,bT h4) (ax (λh6=>gE [(18,bT h6)] [(70,bT h6)]) λh6=>gE [(18,bF h6)] [(70,bF h6)])))) λh5=>gE [(9,bT (dj h5)),(13,uN),(18,uN)] [])) λh4=>gE [(3,bF h4),(9,bF rfl),(13,bF h4),(18,bF rfl)] [(52,bF h4),(70,bF rfl)]) λv3=>bn λh8=>gA [[f0 h8]] (gG (λv4=>[(69,(az v4))]) (λ_=>(ER v1 [])) (ax (λh9=>cd (3,bT h9) (ax (λaW=>gE [(8,bT aW),(16,bT rfl),(20,uN),(24,uN)] [(43,bT aW)]) λaW=>cd (8,bF aW) (dc (37,oL v1.cm.xL lq) (dc (43,bF aW) (ax (λaZ=>gE [(16,bT aZ),(20,uN),(24,uN)] []) λaZ=>cd (16,bF aZ) (ax (λbj=>cd (20,bT bj) (dc (91,bT bj) (ax (λbC=>gE [(24,bF (cH bC))] [(82,oL v1.xIdx fF),(88,bF (cH bC))]) λbC=>gE [(24,bT (dj bC))] [(88,bT (dj bC))]))) λbj=>gE [(20,bF bj),(24,uN)] [(91,bF bj)])))))) λh9=>cd (3,bF h9) (cd (8,uN) (cd (16,bF rfl) (ax (λbJ=>cd (20,bT bJ) (dc (91,bT bJ) (ax (λbH=>gE [(24,bF (cH bH))] [(82,oL v1.xIdx fF),(88,bF (cH bH))]) λbH=>gE [(24,bT (dj bH))] [(88,bT (dj bH))]))) λbJ=>gE [(20,bF bJ),(24,uN)] [(91,bF bJ)])))) λv4=>fP λ_=>gB pI 0 11 v1.xIdx λeI=>e7 1 [] [1,3] 1 (λv5=>⟨109,[(1,(.ptr 0 0)),(3,(ar (v5:Int)))],(ER v1 [])⟩) (λv5 dC f1=>gR [[(10,oL v1.xIdx fF)],[f0 (cf dC)],[]]) (λv5 v7 v8 dC f1 aJ=>gA [[(10,oL v1.xIdx fF)],[t0 (bZ dC)],[(10,oE (iB (bM dC)))]] (gG (λv9=>[(108,(az v9))]) (λ_=>(ER v1 [.cells (gy v7).cells])) (ax (λfY=>cd (3,bT fY) (dc (19,oL v7.cO hJ) (ax (λh22=>gE [(9,bT h22),(13,uN),(18,uN)] []) λh22=>gE [(9,bF h22),(13,bF (cH fY)),(18,uN)] [(76,bF (cH fY))]))) λfY=>cd (3,bF fY) (cd (9,bF rfl) (cd (13,bT (dj fY)) (dc (76,bT (dj fY)) (ax (λfc=>gE [(18,bT fc)] [(73,bT fc)]) λfc=>gE [(18,bF fc)] [(67,oL v7.cm.xL lq),(73,bF fc)]))))) λv9=>bn λlX=>gb aJ () [[f0 lX],[(5,oq (cC dC rfl eI))]] dC))))))
def Qu(N:Nat):amV ((amT amU)):=
 some [(bs [115,105,122,101]),(bs [119,104,101,114,101]),(bs [105,110]),(bs [100,101,102]),(bs [111,117,116]),(bs [115,117,109]),(bs [112,114,111,100]),(bs [109,105,110]),(bs [109,97,120]),(bs [115,99,97,110]),(bs [111,118,101,114]),(bs [105,102]),(bs [99,97,115,116]),(bs [102,114,97,99]),(bs [105,110,116]),(bs [102,105,120]),(bs [99,101,105,108]),(bs [102,108,111,111,114]),(bs [122,101,114,111]),(bs [101,118,101,110]),(bs [115,97,116]),(bs [119,114,97,112])]
theorem ace{N}:KO 281 [] (λr=> .d (.sl (ee r))) (Qu N):=
 fw Tryz.func281 (gR [[],[]])
def GB(N:Nat)(v2:amU):amT amU->Nat->amV Bool
 |[],_=>
  some false
 |v5::v6,v3=>
  bif (bL v5==bL v2)then
   some true
  else
   (GB N v2 v6 (v3+1))
def Py(N:Nat)(v1:amT amU)(v2:amU):amV Bool:=
 GB N v2 v1 0
theorem aec{N v1 v2}:KO 126 [(.d (.sl (ee v1))),(di v2)] az (Py N v1 v2):=
 fw Tryz.func126 (gA [[],[]] (gT qv 0 v1 λh2=>e7 1 [] [0,1,5] 0 (λv3=>⟨18,[(0,(.d (.sl (ee v1)))),(1,(di v2)),(5,(ar (v3:Int)))],[]⟩) (λv3 h3 f1=>gR [[(7,oL v1 jY)],[f0 (cf h3)],[]]) (λv3 v5 v6 h3 f1 aJ=>gA [[(7,oL v1 jY)],[t0 (bZ h3)],[(7,oE (qt (bM h3)))]] (bn λh4=>gb aJ () [[f0 h4],[(5,oq (cC h3 rfl h2))]] h3))))
def AD(N:Nat)(v1:amU):Nat->Int->amV Bool
 |0,_=>none
 |v5+1,v6=>
  bif (decide (v6<(v1.size:Int)))then
   bif (decide ((0:Int)<=v6))then
   Option.bind (v1[(v6).toNat]?) λv7=>
   Option.bind (bif (decide ((v7.toNat:Int)>=97))then(bif (decide ((v7.toNat:Int)<=122))then some (!true)else(bif (decide (v6>0))then(bif (decide ((v7.toNat:Int)>=48))then(bif (decide ((v7.toNat:Int)<=57))then some (!true)else some (!((v7.toNat:Int)==95)))else some (!((v7.toNat:Int)==95)))else some (!false)))else(bif (decide (v6>0))then(bif (decide ((v7.toNat:Int)>=48))then(bif (decide ((v7.toNat:Int)<=57))then some (!true)else some (!((v7.toNat:Int)==95)))else some (!((v7.toNat:Int)==95)))else some (!false))) λv8=>
   bif v8 then
    some false
   else
    (λcu=>AD N v1 v5 cu) (aE (v6+(1:Int)))
   else none
  else
   some true
def zK(N:Nat)(v1:amU):amV Bool:=
 Option.bind (bif (decide ((v1.size:Int)<1))then some true else(bif (decide ((v1.size:Int)>16))then some true else (Qu N).bind λv2=>
 (Py N v2 v1).bind λv3=>
 some v3)) λv4=>
 bif v4 then
  some false
 else
  AD N v1 N (0:Int)
theorem Ml{N v1}:KO 242 [(di v1)] az (zK N v1):=
 fw Tryz.func242 (gA [[]] (gG (λv4=>[(17,(az v4))]) (λ_=>[]) (ax (λh1=>gE [(3,bT h1),(8,bT rfl)] []) λh1=>cd (3,bF h1) (ax (λh2=>gE [(8,bT h2)] []) λh2=>aw λv2 h3=>aw λv3 h4=>gE [(8,bF h2)] [(28,cK ace h3),(34,cK aec h4)])) λv4=>bn λh6=>Qs 1 [[f0 h6],[]] [0,3] 0 (λ(v6:Int)=>⟨50,[(0,(di v1)),(3,(ar v6))],[]⟩) (AD N v1) (λv5 v6 f1 aJ=>gA [[]] (jL λh7=>dG λh9=>aw λv7 h8=>gA [[t0 h7],[(7,⟨_,_, .ch (i:=v6) (of_decide_eq_true h9) h8⟩)]] (gG (λv8=>[(49,(az v8))]) (λ_=>[]) (ax (λaW=>cd (2,bT aW) (ax (λaZ=>gE [(6,bT aZ),(9,uN),(12,uN),(16,uN)] []) λaZ=>cd (6,bF aZ) (ax (λbj=>cd (9,bT bj) (dc (61,bT bj) (ax (λbC=>cd (12,bT bC) (dc (46,bT bC) (ax (λbJ=>gE [(16,bT bJ)] [(58,bT bJ)]) λbJ=>gE [(16,bF bJ)] [(58,bF bJ)]))) λbC=>gE [(12,bF bC),(16,bF rfl)] [(46,bF bC),(58,bF rfl)]))) λbj=>gE [(9,bF bj),(12,uN),(16,uN)] [(61,bF bj)]))) λaW=>cd (2,bF aW) (cd (6,bF rfl) (ax (λbH=>cd (9,bT bH) (dc (61,bT bH) (ax (λbY=>cd (12,bT bY) (dc (46,bT bY) (ax (λc9=>gE [(16,bT c9)] [(58,bT c9)]) λc9=>gE [(16,bF c9)] [(58,bF c9)]))) λbY=>gE [(12,bF bY),(16,bF rfl)] [(46,bF bY),(58,bF rfl)]))) λbH=>gE [(9,bF bH),(12,uN),(16,uN)] [(61,bF bH)]))) λv8=>bn λeI=>AJ aJ (aE (v6+(1:Int))) [[f0 eI],[]])))))
def HN(N:Nat):amT cY->Nat->amV Bool
 |[],_=>
  some true
 |v6::v7,v4=>
  Option.bind (bif (bL v6.dA==bL (bs []))then some false else (zK N v6.dA).bind λv8=>
  some (!v8)) λv9=>
  bif v9 then
   some false
  else
   (HN N v7 (v4+1))
def Ic(N:Nat)(v1:ay):amV Bool:=
 Option.bind (bif (v1.aC==3)then (zK N v1.bo).bind λv2=>
 some (!v2)else some false) λv3=>
 bif v3 then
  some false
 else
  HN N v1.xIdx 0
theorem ads{N v1}:KO 166 [(aD v1)] az (Ic N v1):=
 fw Tryz.func166 (gA [[]] (gG (λv3=>[(12,(az v3))]) (λ_=>[.cells (aD v1).cells]) (ax (λh1=>aw λv2 h2=>gE [(3,bT h1)] [(19,cK Ml h2)]) λh1=>gE [(3,bF h1)] []) λv3=>fP λ_=>gB pI 0 11 v1.xIdx λh6=>e7 1 [] [1,3] 1 (λv4=>⟨37,[(1,(.ptr 0 0)),(3,(ar (v4:Int)))],[.cells (aD v1).cells]⟩) (λv4 h7 f1=>gR [[(10,oL v1.xIdx fF)],[f0 (cf h7)],[]]) (λv4 v6 v7 h7 f1 aJ=>gA [[(10,oL v1.xIdx fF)],[t0 (bZ h7)]] (gG (λv9=>[(36,(az v9))]) (λ_=>[.cells (aD v1).cells]) (dc (10,oE (iB (bM h7))) (ax (λh8=>gE [(7,bF (cH h8))] []) λh8=>aw λv8 h9=>gE [(7,bT (dj h8))] [(34,oE (iB (bM h7))),(43,cK Ml h9)])) λv9=>bn λaZ=>gb aJ () [[f0 aZ],[(5,oq (cC h7 rfl h6))]] h7))))
def BP(N:Nat)(v1:Int)(v3:Bool):amV Int:=
 bif v3 then
  some (1:Int)
 else
  bif (v1==11)then
   some (3:Int)
  else
   some (2:Int)
def BW(N:Nat)(v1:Int)(v2:Bool):amV Int:=
 bif v2 then
  some (0:Int)
 else
  bif (v1==8)then
   BP N v1 (v1==8)
  else
   bif (v1==12)then
    BP N v1 (v1==12)
   else
    BP N v1 (v1==18)
def GA(N:Nat)(v1:Int):amV Int:=
 bif (v1==1)then
  BW N v1 (v1==1)
 else
  bif (v1==2)then
   BW N v1 (v1==2)
  else
   BW N v1 (v1==3)
theorem Z9{N v1}:KO 243 [(ar v1)] ar (GA N v1):=
 fw Tryz.func243 (kC 1 [[],[],[]] [3,4] 0 (λ(v2:Bool)=>⟨14,[(3,(ar v1)),(4,(az v2))],[]⟩) (BW N v1) (λf1 aJ=>ax (λh6=>gm aJ (v1==1) [[t0 h6]]) λh6=>gA [[f0 h6],[]] (ax (λh7=>gm aJ (v1==2) [[t0 h7]]) λh7=>gm aJ (v1==3) [[f0 h7],[]])) (λv2=>bn λh1=>kC 2 [[f0 h1],[]] [3,8] 0 (λ(v3:Bool)=>⟨14,[(3,(ar v1)),(8,(az v3))],[]⟩) (BP N v1) (λf2 eK=>ax (λh4=>gm eK (v1==8) [[t0 h4]]) λh4=>gA [[f0 h4],[]] (ax (λh5=>gm eK (v1==12) [[t0 h5]]) λh5=>gm eK (v1==18) [[f0 h5],[]])) (λv3=>fP λ_=>bn λh3=>gR [[f0 h3],[]])))
def FP(N:Nat):amT cY->Nat->amV Bool
 |[],_=>
  some true
 |v6::v7,v4=>
  bif (decide ((v6.cO.length:Int)>6))then
   some false
  else
   (FP N v7 (v4+1))
def Hr(N:Nat)(v1:ay):amV Bool:=
 (GA N v1.aC).bind λv2=>
 Option.bind (bif ((v1.bD.length:Int) !=v2)then some true else some (decide ((v1.xIdx.length:Int)>6))) λv3=>
 bif v3 then
  some false
 else
  FP N v1.xIdx 0
theorem acg{N v1}:KO 167 [(aD v1)] az (Hr N v1):=
 fw Tryz.func167 (gA [[]] (aw λv2 h1=>gG (λv3=>[(16,(az v3))]) (λ_=>[.cells (aD v1).cells]) (dc (7,oL v1.bD jr) (dc (16,cK Z9 h1) (ax (λh2=>gE [(7,bT h2)] []) λh2=>gE [(7,bF h2)] [(31,oL v1.xIdx fF)]))) λv3=>fP λ_=>gB pI 0 11 v1.xIdx λh6=>e7 1 [] [1,3] 1 (λv4=>⟨32,[(1,(.ptr 0 0)),(3,(ar (v4:Int)))],[.cells (aD v1).cells]⟩) (λv4 h7 f1=>gR [[(10,oL v1.xIdx fF)],[f0 (cf h7)],[]]) (λv4 v6 v7 h7 f1 aJ=>gA [[(10,oL v1.xIdx fF)],[t0 (bZ h7)],[(10,oE (iB (bM h7))),(19,oL v6.cO hJ)]] (bn λh8=>gb aJ () [[f0 h8],[(5,oq (cC h7 rfl h6))]] h7))))
def qW(N:Nat)(v1:aP):amV Bool:=
 Option.bind (bif (v1.bu==1)then some true else some (v1.bu==3)) λv2=>
 bif v2 then
  Option.bind (bif (v1.bG==0)then(bif (v1.ck==0)then(bif (v1.cx==0)then some (v1.cG==0)else some false)else some false)else some false) λv3=>
  some v3
 else
  Option.bind (bif (v1.bu==2)then(bif (decide (v1.bG>=2))then(bif (decide (v1.bG<=31))then(bif (decide (v1.ck>=0))then(bif (decide (v1.ck<=30))then(bif (decide (v1.cx>=1))then(bif (decide (v1.cx<=4))then(bif (v1.cG==1)then some true else some (v1.cG==2))else some false)else some false)else some false)else some false)else some false)else some false)else some false) λv4=>
  some v4
theorem wJ{N v1}:KO 128 [(bE v1)] az (qW N v1):=
 fw Tryz.func128 (gA [[]] (gG (λv2=>[(10,(az v2))]) (λ_=>[.cells (bE v1).cells]) (ax (λh1=>gE [(3,bT h1)] []) λh1=>gE [(3,bF h1)] []) λv2=>ax (λh3=>gA [[t0 h3]] (gG (λv3=>[(2,(az v3))]) (λ_=>[.cells (bE v1).cells]) (ax (λh4=>cd (3,bT h4) (ax (λh5=>cd (8,bT h5) (ax (λh6=>gE [(13,bT h6)] []) λh6=>gE [(13,bF h6)] [])) λh5=>gE [(8,bF h5),(13,bF rfl)] [])) λh4=>gE [(3,bF h4),(8,bF rfl),(13,bF rfl)] []) λv3=>gR [])) λh3=>gA [[f0 h3]] (gG (λv4=>[(2,(az v4))]) (λ_=>[.cells (bE v1).cells]) (ax (λh8=>cd (3,bT h8) (ax (λh9=>cd (8,bT h9) (ax (λaW=>cd (13,bT aW) (ax (λaZ=>cd (18,bT aZ) (ax (λbj=>cd (23,bT bj) (ax (λbC=>cd (28,bT bC) (ax (λbJ=>cd (33,bT bJ) (ax (λbH=>gE [(37,bT bH)] [(124,bT bH)]) λbH=>gE [(37,bF bH)] [(124,bF bH)])) λbJ=>gE [(33,bF bJ),(37,uN)] [])) λbC=>gE [(28,bF bC),(33,bF rfl),(37,uN)] [])) λbj=>gE [(23,bF bj),(28,bF rfl),(33,bF rfl),(37,uN)] [])) λaZ=>gE [(18,bF aZ),(23,bF rfl),(28,bF rfl),(33,bF rfl),(37,uN)] [])) λaW=>gE [(13,bF aW),(18,bF rfl),(23,bF rfl),(28,bF rfl),(33,bF rfl),(37,uN)] [])) λh9=>gE [(8,bF h9),(13,bF rfl),(18,bF rfl),(23,bF rfl),(28,bF rfl),(33,bF rfl),(37,uN)] [])) λh8=>gE [(3,bF h8),(8,bF rfl),(13,bF rfl),(18,bF rfl),(23,bF rfl),(28,bF rfl),(33,bF rfl),(37,uN)] []) λv4=>gR [])))
def zg(N:Nat)(v1:ay):amV Bool:=
 Option.bind (bif (decide (v1.aC>=13))then some (decide (v1.aC<=18))else some false) λv2=>
 some v2
theorem Na{N v1}:KO 56 [(aD v1)] az (zg N v1):=
 fw Tryz.func56 (gA [[]] (gG (λv2=>[(2,(az v2))]) (λ_=>[.cells (aD v1).cells]) (ax (λh1=>gE [(3,bT h1)] []) λh1=>gE [(3,bF h1)] []) λv2=>gR []))
def I8(N:Nat)(v1:Int)(v2:Int):amV Bool:=
 Option.bind (bif (v1==11)then(bif (v2==0)then some true else(bif (v1==16)then some true else(bif (v1==17)then some true else some (v1==18))))else(bif (v1==16)then some true else(bif (v1==17)then some true else some (v1==18)))) λv3=>
 some v3
theorem ai2{N v1 v2}:KO 244 [(ar v1),(ar v2)] az (I8 N v1 v2):=
 fw Tryz.func244 (gA [[]] (gG (λv3=>[(4,(az v3))]) (λ_=>[]) (ax (λh1=>cd (2,bT h1) (ax (λh2=>gE [(6,bT h2),(10,bT rfl),(14,bT rfl)] []) λh2=>cd (6,bF h2) (ax (λh3=>gE [(10,bT h3),(14,bT rfl)] []) λh3=>cd (10,bF h3) (ax (λh4=>gE [(14,bT h4)] []) λh4=>gE [(14,bF h4)] [])))) λh1=>cd (2,bF h1) (cd (6,bF rfl) (ax (λh5=>gE [(10,bT h5),(14,bT rfl)] []) λh5=>cd (10,bF h5) (ax (λh6=>gE [(14,bT h6)] []) λh6=>gE [(14,bF h6)] [])))) λv3=>gR []))
def H4(N:Nat)(v1:ay):amT ay->Nat->amV Bool
 |[],_=>
  some true
 |v7::v8,v5=>
  (zg N v7).bind λv9=>
  Option.bind (I8 N v1.aC (v5:Int)) λv10=>
  bif (v9==v10)then
   (H4 N v1 v8 (v5+1))
  else
   some false
def JA(N:Nat)(v1:ay):amV Bool:=
 Option.bind (bif (v1.aC==1)then (qW N v1.aK).bind λv2=>
 some (!v2)else(bif (v1.aC==12)then (qW N v1.aK).bind λv3=>
 some (!v3)else some false)) λv4=>
 bif v4 then
  some false
 else
  H4 N v1 v1.bD 0
theorem ajf{N v1}:KO 168 [(aD v1)] az (JA N v1):=
 fw Tryz.func168 (gA [[]] (gG (λv4=>[(17,(az v4))]) (λ_=>[.cells (aD v1).cells]) (ax (λh1=>aw λv2 h2=>gE [(3,bT h1),(8,bT rfl)] [(34,cK wJ h2)]) λh1=>cd (3,bF h1) (ax (λh3=>aw λv3 h4=>gE [(8,bT h3)] [(34,cK wJ h4)]) λh3=>gE [(8,bF h3)] [])) λv4=>fP λ_=>gB qx 0 12 v1.bD λh8=>e7 1 [] [1,3] 1 (λv5=>⟨36,[(1,(.ptr 0 0)),(3,(ar (v5:Int)))],[.cells (aD v1).cells]⟩) (λv5 h9 f1=>gR [[(10,oL v1.bD jr)],[f0 (cf h9)],[]]) (λv5 v7 v8 h9 f1 aJ=>aw λv9 aW=>aw λv10 aZ=>gA [[(10,oL v1.bD jr)],[t0 (bZ h9)],[(10,oE (gY (bM h9))),(16,cK Na aW),(28,cK ai2 aZ)]] (fW λbj=>gb aJ () [[f0 (cH bj)],[(5,oq (cC h9 rfl h8))]] h9))))
def C8(N:Nat):Nat->Int64->Int64->amV Int64
 |0,_,_=>none
 |v3+1,v4,v5=>
  bif (v5.toInt !=0)then
   (λcu fv=>C8 N v3 cu fv) v5 (Int64.ofInt ((v4.toInt).tmod v5.toInt))
  else
   some v4
def Pp(N:Nat)(v1:Int64)(v2:Int64):amV Int64:=
 C8 N N v1 v2
theorem acC{N v1 v2}:KO 217 [(bk v1),(bk v2)] bk (Pp N v1 v2):=
 fw Tryz.func217 (PU 1 [[]] [0,1] 0 (λ(v4:Int64)(v5:Int64)=>⟨12,[(0,(bk v4)),(1,(bk v5))],[]⟩) (C8 N) (λv3 v4 v5 f1 aJ=>gA [[]] (jL λh1=>AJ aJ (v5,(Int64.ofInt ((v4.toInt).tmod v5.toInt))) [[t0 h1],[(10,⟨_,_, .nz (b:=v5.toInt) (bne_iff_ne.1 h1)⟩),(11,⟨_,_, .eq (IL v4 v5.toInt)⟩)]])))
def qa(N:Nat)(v1:aP)(v2:aB):amV Bool:=
 bif (v1.bu==2)then
  bif (decide ((0:Int)<=(aE (v1.bG-(1:Int)))))then
  Option.bind (bif (v2.xD.toInt==1)then(bif (decide (v2.xN.toInt>=(-(Int64.ofInt ((1:Int)*2^(min ((aE (v1.bG-(1:Int)))).toNat (IntKind.bits .i64))))).toInt))then some (decide (v2.xN.toInt<(Int64.ofInt ((1:Int)*2^(min ((aE (v1.bG-(1:Int)))).toNat (IntKind.bits .i64)))).toInt))else some false)else some false) λv3=>
  some v3
  else none
 else
  Option.bind (bif (decide (v2.xN.toInt>2147483647))then some true else(bif (decide (v2.xN.toInt<(-2147483647:Int)))then some true else(bif (decide (v2.xD.toInt<1))then some true else some (decide (v2.xD.toInt>2147483647))))) λv4=>
  bif v4 then
   some false
  else
   bif (v1.bu==3)then
    some (v2.xD.toInt==1)
   else
    Option.bind (Pp N (qo v2.xN (-v2.xN)) v2.xD) λv5=>
    some (v5.toInt==1)
theorem vG{N v1 v2}:KO 129 [(bE v1),(aT v2)] az (qa N v1 v2):=
 fw Tryz.func129 (gA [[],[]] (ax (λh1=>dG λh2=>gA [[t0 h1],[(10,⟨_,_, .nn (b:=(aE (v1.bG-(1:Int)))) (of_decide_eq_true h2)⟩),(11,⟨_,_, .eq (gP ((1:Int)*2^(min ((aE (v1.bG-(1:Int)))).toNat (IntKind.bits .i64))))⟩)]] (gG (λv3=>[(4,(az v3))]) (λ_=>[.cells (bE v1).cells, .cells (aT v2).cells]) (ax (λh3=>cd (3,bT h3) (dc (23,⟨_,_, .eq (kG (Int64.ofInt ((1:Int)*2^(min ((aE (v1.bG-(1:Int)))).toNat (IntKind.bits .i64)))))⟩) (ax (λh4=>gE [(10,bT h4)] []) λh4=>gE [(10,bF h4)] []))) λh3=>gE [(3,bF h3),(10,bF rfl)] []) λv3=>gR [])) λh1=>gA [[f0 h1]] (gG (λv4=>[(46,(az v4))]) (λ_=>[.cells (bE v1).cells, .cells (aT v2).cells]) (ax (λh6=>gE [(3,bT h6),(8,bT rfl),(13,bT rfl)] []) λh6=>cd (3,bF h6) (ax (λh7=>gE [(8,bT h7),(13,bT rfl)] []) λh7=>cd (8,bF h7) (ax (λh8=>gE [(13,bT h8)] []) λh8=>gE [(13,bF h8)] []))) λv4=>fP λ_=>bn λaZ=>aw λv5 bj=>gR [[f0 aZ],[(14,⟨_,_, .eq (kG v2.xN)⟩),(17,⟨_,_, .eq (YZ v2.xN (-v2.xN))⟩),(25,cK acC bj)]])))
def F7(N:Nat)(v1:cn):amT dP->Nat->amV Bool
 |[],_=>
  some true
 |v4::v5,v2=>
  (zK N v4.bo).bind λv6=>
  Option.bind (bif v6 then(bif (v4.eQ.toInt==0)then some true else(bif (decide ((v2:Int)>0))then bif (decide ((0:Int)<=(aE ((v2:Int)-(1:Int)))))then
  Option.bind (v1.xL[((aE ((v2:Int)-(1:Int)))).toNat]?) λv7=>
  some (!(Op.bytesLess (bL v7.bo) (bL v4.bo)))
  else none else some false))else some true) λv8=>
  bif v8 then
   some false
  else
   (F7 N v1 v5 (v2+1))
def wz(N:Nat)(v1:cn):amV Bool:=
 F7 N v1 v1.xL 0
theorem E4{N v1}:KO 209 [(dT v1)] az (wz N v1):=
 fw Tryz.func209 (gA [[],[]] (gB Al 0 1 v1.xL λh2=>e7 1 [] [1,3] 1 (λv2=>⟨48,[(1,(.ptr 0 0)),(3,(ar (v2:Int)))],[.cells (dT v1).cells]⟩) (λv2 h3 f1=>gR [[(10,oL v1.xL lq)],[f0 (cf h3)],[]]) (λv2 v4 v5 h3 f1 aJ=>gA [[(10,oL v1.xL lq)],[t0 (bZ h3)]] (aw λv6 h4=>gG (λv8=>[(47,(az v8))]) (λ_=>[.cells (dT v1).cells]) (dc (10,oE (nK (bM h3))) (dc (19,cK Ml h4) (ax (λh5=>cd (8,bF (cH h5)) (dc (37,oE (nK (bM h3))) (ax (λh6=>gE [(17,bT h6),(20,uN)] []) λh6=>cd (17,bF h6) (ax (λh7=>dG λh9=>aw λv7 h8=>gE [(20,bT h7)] [(76,⟨_,_, .el (xs:=gq v1.xL) (i:=(aE ((v2:Int)-(1:Int)))) (of_decide_eq_true h9) (nK h8)⟩),(94,oE (nK (bM h3))),(106,bT h7)]) λh7=>gE [(20,bF h7)] [(106,bF h7)])))) λh5=>gE [(8,bT (dj h5)),(17,bT rfl),(20,uN)] []))) λv8=>bn λaZ=>gb aJ () [[f0 aZ],[(5,oq (cC h3 rfl h2))]] h3))))
def JF(N:Nat)(kN:amV Bool):amT cn->Nat->amV Bool
 |[],_=>
  kN
 |aF::aI,v11=>
  (wz N aF).bind λbg=>
  bif bg then
   (JF N kN aI (v11+1))
  else
   some false
def GL(N:Nat):amT cY->Nat->amV Bool
 |[],_=>
  some true
 |v8::v9,v6=>
  (wz N v8.cm).bind λv10=>
  bif v10 then
   JF N (GL N v9 (v6+1)) v8.cO 0
  else
   some false
def JQ(N:Nat)(v1:ay):amV Bool:=
 Option.bind (bif (v1.aC==1)then (qa N v1.aK v1.dR).bind λv2=>
 (bif v2 then (wz N v1.cm).bind λv3=>
 some (!v3)else some true)else (wz N v1.cm).bind λv4=>
 some (!v4)) λv5=>
 bif v5 then
  some false
 else
  GL N v1.xIdx 0
theorem ajY{N v1}:KO 169 [(aD v1)] az (JQ N v1):=
 fw Tryz.func169 (gA [[]] (gG (λv5=>[(21,(az v5))]) (λ_=>[.cells (aD v1).cells]) (ax (λh1=>aw λv2 h2=>cd (3,bT h1) (dc (25,cK vG h2) (ax (λh3=>aw λv3 h4=>gE [(11,bF (cH h3))] [(43,cK E4 h4)]) λh3=>gE [(11,bT (dj h3))] []))) λh1=>aw λv4 h5=>gE [(3,bF h1),(11,bF rfl)] [(43,cK E4 h5)]) λv5=>fP λ_=>gB pI 0 11 v1.xIdx λh9=>e7 1 [] [1,3] 1 (λv6=>⟨59,[(1,(.ptr 0 0)),(3,(ar (v6:Int)))],[.cells (aD v1).cells]⟩) (λv6 aW f1=>gR [[(10,oL v1.xIdx fF)],[f0 (cf aW)],[]]) (λv6 v8 v9 aW f1 aJ=>aw λv10 aZ=>gA [[(10,oL v1.xIdx fF)],[t0 (bZ aW)],[(10,oE (iB (bM aW))),(19,cK E4 aZ)]] (fW λbj=>gA [[f0 (cH bj)],[]] (Uc (λ_=>(P9 0 11 (eB v1.xIdx) (by kernel_rfl) ·)) λbC=>have bJ:=wu hJ (R7 (j:=3) (d:= .sl (gg v8.cO)) bC (iB (bM aW)) rfl);e7 2 [] [1,3,4] 1 (λv11=>⟨59,[(1,(.ptr 0 0)),(3,(ar (v6:Int))),(4,(ar (v11:Int)))],[.cells (aD v1).cells]⟩) (λv11 bH f2=>gb aJ () [[(13,oE (iB (bM aW))),(22,oL v8.cO hJ)],[f0 (cf bH)],[(5,oq (cC aW rfl h9))]] aW) (λv11 aF aI bH f2 eK=>aw λbg bY=>gA [[(13,oE (iB (bM aW))),(22,oL v8.cO hJ)],[t0 (bZ bH)],[(10,oE (iB (bM aW))),(22,oE (sr (bM bH))),(28,cK E4 bY)]] (fW λc9=>gb eK () [[f0 (cH c9)],[(5,oq (cC bH rfl bJ))]] bH)))))))
def HO(N:Nat)(Q4:ay->amV Int):amT ay->Nat->amV Int
 |[],_=>
  some (0:Int)
 |v9::v10,v7=>
  (Q4 v9).bind λv11=>
  bif (v11 !=0)then
   some v11
  else
   (HO N Q4 v10 (v7+1))
def tA(N:Nat):Nat->ay->amV Int
 |0,_=>none
 |d+1,v1=>
  (Jo N v1).bind λv2=>
  bif v2 then
   (Ic N v1).bind λv3=>
   bif v3 then
    (Hr N v1).bind λv4=>
    bif v4 then
     (JA N v1).bind λv5=>
     bif v5 then
      (JQ N v1).bind λv6=>
      bif v6 then
       HO N (tA N d) v1.bD 0
      else
       some (1:Int)
     else
      some (10:Int)
    else
     some (11:Int)
   else
    some (7:Int)
  else
   some (5:Int)
def LB(N:Nat)(v1:ay):amV Int:=tA N N v1
theorem aiz(N:Nat):∀d:Nat,(∀{v1:ay},KO 100 [(aD v1)] ar (tA N d v1)):=by
 intro d
 induction d with
 |zero=>intro v1 r J;rw[tA]at J;cases J
 |succ d ih=>
  have ag2:= @ih;intro v1;rw[tA];exact fw Tryz.func100 (aw λv2 h1=>gA [[],[(4,cK agk h1)]] (fW λh2=>aw λv3 h3=>gA [[(0,bF (cH h2))],[(4,cK ads h3)]] (fW λh4=>aw λv4 h5=>gA [[(0,bF (cH h4))],[(4,cK acg h5)]] (fW λh6=>aw λv5 h7=>gA [[(0,bF (cH h6))],[(4,cK ajf h7)]] (fW λh8=>aw λv6 h9=>gA [[(0,bF (cH h8))],[(4,cK ajY h9)]] (fW λaW=>gA [[(0,bF (cH aW))],[]] (gB qx 0 12 v1.bD λbj=>e7 1 [] [1,3] 1 (λv7=>⟨41,[(1,(.ptr 0 0)),(3,(ar (v7:Int)))],[.cells (aD v1).cells]⟩) (λv7 bC f1=>gR [[(10,oL v1.bD jr)],[(0,bF (cf bC))],[]]) (λv7 v9 v10 bC f1 aJ=>aw λv11 bJ=>gA [[(10,oL v1.bD jr)],[(0,bT (bZ bC))],[(10,oE (gY (bM bC))),(16,cK ag2 bJ)],[]] (bn λbH=>gb aJ () [[(0,bF bH)],[(5,oq (cC bC rfl bj))]] bC)))))))))
theorem abh{N v1}:KO 100 [(aD v1)] ar (LB N v1):=(aiz N N)
def BL(N:Nat)(v1:ay):amV Int:=
 (NX N v1).bind λv2=>
 bif (decide (v2>40))then
  some (13:Int)
 else
  (Mp N v1).bind λv3=>
  bif (decide (v3>2000))then
   some (2:Int)
  else
   (LB N v1).bind λv4=>
   some v4
theorem Ta{N v1}:KO 55 [(aD v1)] ar (BL N v1):=
 fw Tryz.func55 (aw λv2 h1=>gA [[],[(4,cK agK h1)]] (bn λh2=>aw λv3 h3=>gA [[f0 h2],[(4,cK aj0 h3)]] (bn λh4=>aw λv4 h5=>gR [[f0 h4],[(4,cK abh h5)]])))
def Gl(N:Nat)(v1:cn):amV Int:=
 (wz N v1).bind λv2=>
 bif v2 then
  some (0:Int)
 else
  some (1:Int)
theorem ajj{N v1}:KO 141 [(dT v1)] ar (Gl N v1):=
 fw Tryz.func141 (aw λv2 h1=>gA [[],[(4,cK E4 h1)]] (oT λh2=>gR [[t0 (dj h2)],[]]))
def rE(N:Nat)(v1:Int64):amV Int:=
 bif (decide (v1.toInt<0))then
  some (IntKind.u64.wrap ((IntKind.u64.wrap (-(v1+(1:Int64))).toInt)+(1:Int)))
 else
  some (IntKind.u64.wrap v1.toInt)
theorem zQ{N v1}:KO 143 [(bk v1)] (λr=> .d (.v (.int .u64 r))) (rE N v1):=
 fw Tryz.func143 (gA [[],[]] (jL λh1=>gR [[t0 h1],[(5,⟨_,_, .eq (nr v1 (1:Int64))⟩),(8,⟨_,_, .eq (kG (v1+(1:Int64)))⟩)]]))
def CO(N:Nat)(v1:cl)(v2:Int):amV cl:=
 Option.bind (some (IntKind.u64.wrap ((IntKind.u64.wrap (v1.cr+((v2).tmod (4294967296:Int))))+(0:Int)))) λv3=>
 Option.bind (some (IntKind.u64.wrap ((v3).tdiv (4294967296:Int)))) λv4=>
 Option.bind (some (IntKind.u64.wrap ((v2).tdiv (4294967296:Int)))) λv5=>
 Option.bind (some (IntKind.u64.wrap ((IntKind.u64.wrap (v1.cE+((v5).tmod (4294967296:Int))))+v4))) λv6=>
 Option.bind (some (IntKind.u64.wrap ((v6).tdiv (4294967296:Int)))) λv7=>
 Option.bind (some (IntKind.u64.wrap ((v5).tdiv (4294967296:Int)))) λv8=>
 Option.bind (some (IntKind.u64.wrap ((IntKind.u64.wrap (v1.cX+((v8).tmod (4294967296:Int))))+v7))) λv9=>
 Option.bind (some (IntKind.u64.wrap ((v9).tdiv (4294967296:Int)))) λv10=>
 Option.bind (some (IntKind.u64.wrap ((v8).tdiv (4294967296:Int)))) λv11=>
 Option.bind (some (IntKind.u64.wrap ((IntKind.u64.wrap (v1.cV+((v11).tmod (4294967296:Int))))+v10))) λv12=>
 Option.bind (some (IntKind.u64.wrap ((v12).tdiv (4294967296:Int)))) λaF=>
 Option.bind (some (IntKind.u64.wrap ((v11).tdiv (4294967296:Int)))) λaI=>
 Option.bind (some (IntKind.u64.wrap ((IntKind.u64.wrap (v1.cP+((aI).tmod (4294967296:Int))))+aF))) λbg=>
 Option.bind (some (IntKind.u64.wrap ((bg).tdiv (4294967296:Int)))) λbx=>
 Option.bind (some (IntKind.u64.wrap ((aI).tdiv (4294967296:Int)))) λcy=>
 Option.bind (some (IntKind.u64.wrap ((IntKind.u64.wrap (v1.cJ+((cy).tmod (4294967296:Int))))+bx))) λbI=>
 Option.bind (some (IntKind.u64.wrap ((bI).tdiv (4294967296:Int)))) λcF=>
 Option.bind (some (IntKind.u64.wrap ((cy).tdiv (4294967296:Int)))) λv20=>
 some (⟨((v3).tmod (4294967296:Int)),((v6).tmod (4294967296:Int)),((v9).tmod (4294967296:Int)),((v12).tmod (4294967296:Int)),((bg).tmod (4294967296:Int)),((bI).tmod (4294967296:Int))⟩:cl)
def AI(v3:Int)(v6:Int)(v9:Int)(v12:Int)(bg:Int)(v1:cl)(l:amT aq):amT aq:= .cells [(.d (.v (.int .u64 ((v3).tmod (4294967296:Int))))),(.d (.v (.int .u64 ((v6).tmod (4294967296:Int))))),(.d (.v (.int .u64 ((v9).tmod (4294967296:Int))))),(.d (.v (.int .u64 ((v12).tmod (4294967296:Int))))),(.d (.v (.int .u64 ((bg).tmod (4294967296:Int))))),(.d (.v (.int .u64 v1.cJ)))]:: .cells [(.d (.v (.int .u64 (0:Int)))),(.d (.v (.int .u64 (0:Int)))),(.d (.v (.int .u64 (0:Int)))),(.d (.v (.int .u64 (0:Int)))),(.d (.v (.int .u64 (0:Int)))),(.d (.v (.int .u64 (0:Int))))]::l
def Au(v3:Int)(v6:Int)(v9:Int)(v12:Int)(v1:cl)(l:amT aq):amT aq:= .cells [(.d (.v (.int .u64 ((v3).tmod (4294967296:Int))))),(.d (.v (.int .u64 ((v6).tmod (4294967296:Int))))),(.d (.v (.int .u64 ((v9).tmod (4294967296:Int))))),(.d (.v (.int .u64 ((v12).tmod (4294967296:Int))))),(.d (.v (.int .u64 v1.cP))),(.d (.v (.int .u64 v1.cJ)))]:: .cells [(.d (.v (.int .u64 (0:Int)))),(.d (.v (.int .u64 (0:Int)))),(.d (.v (.int .u64 (0:Int)))),(.d (.v (.int .u64 (0:Int)))),(.d (.v (.int .u64 (0:Int)))),(.d (.v (.int .u64 (0:Int))))]::l
def yH(v3:Int)(v6:Int)(v9:Int)(v1:cl)(l:amT aq):amT aq:= .cells [(.d (.v (.int .u64 ((v3).tmod (4294967296:Int))))),(.d (.v (.int .u64 ((v6).tmod (4294967296:Int))))),(.d (.v (.int .u64 ((v9).tmod (4294967296:Int))))),(.d (.v (.int .u64 v1.cV))),(.d (.v (.int .u64 v1.cP))),(.d (.v (.int .u64 v1.cJ)))]:: .cells [(.d (.v (.int .u64 (0:Int)))),(.d (.v (.int .u64 (0:Int)))),(.d (.v (.int .u64 (0:Int)))),(.d (.v (.int .u64 (0:Int)))),(.d (.v (.int .u64 (0:Int)))),(.d (.v (.int .u64 (0:Int))))]::l
def zT(v3:Int)(v6:Int)(v1:cl)(l:amT aq):amT aq:= .cells [(.d (.v (.int .u64 ((v3).tmod (4294967296:Int))))),(.d (.v (.int .u64 ((v6).tmod (4294967296:Int))))),(.d (.v (.int .u64 v1.cX))),(.d (.v (.int .u64 v1.cV))),(.d (.v (.int .u64 v1.cP))),(.d (.v (.int .u64 v1.cJ)))]:: .cells [(.d (.v (.int .u64 (0:Int)))),(.d (.v (.int .u64 (0:Int)))),(.d (.v (.int .u64 (0:Int)))),(.d (.v (.int .u64 (0:Int)))),(.d (.v (.int .u64 (0:Int)))),(.d (.v (.int .u64 (0:Int))))]::l
def hq74(v3:Int)(v1:cl)(l:amT aq):amT aq:= .cells [(.d (.v (.int .u64 ((v3).tmod (4294967296:Int))))),(.d (.v (.int .u64 v1.cE))),(.d (.v (.int .u64 v1.cX))),(.d (.v (.int .u64 v1.cV))),(.d (.v (.int .u64 v1.cP))),(.d (.v (.int .u64 v1.cJ)))]:: .cells [(.d (.v (.int .u64 (0:Int)))),(.d (.v (.int .u64 (0:Int)))),(.d (.v (.int .u64 (0:Int)))),(.d (.v (.int .u64 (0:Int)))),(.d (.v (.int .u64 (0:Int)))),(.d (.v (.int .u64 (0:Int))))]::l
def EX(v3:Int)(v6:Int)(v9:Int)(v12:Int)(bg:Int)(bI:Int)(l:amT aq):amT aq:= .cells [(.d (.v (.int .u64 ((v3).tmod (4294967296:Int))))),(.d (.v (.int .u64 ((v6).tmod (4294967296:Int))))),(.d (.v (.int .u64 ((v9).tmod (4294967296:Int))))),(.d (.v (.int .u64 ((v12).tmod (4294967296:Int))))),(.d (.v (.int .u64 ((bg).tmod (4294967296:Int))))),(.d (.v (.int .u64 ((bI).tmod (4294967296:Int)))))]:: .cells [(.d (.v (.int .u64 (0:Int)))),(.d (.v (.int .u64 (0:Int)))),(.d (.v (.int .u64 (0:Int)))),(.d (.v (.int .u64 (0:Int)))),(.d (.v (.int .u64 (0:Int)))),(.d (.v (.int .u64 (0:Int))))]::l
def Cq(v1:cl)(l:amT aq):amT aq:= .cells (eC v1).cells:: .cells [(.d (.v (.int .u64 (0:Int)))),(.d (.v (.int .u64 (0:Int)))),(.d (.v (.int .u64 (0:Int)))),(.d (.v (.int .u64 (0:Int)))),(.d (.v (.int .u64 (0:Int)))),(.d (.v (.int .u64 (0:Int))))]::l
theorem agh{N v1 v2 r}(J:CO N v1 v2=some r):KF 224 [(eC v1),(ar (0:Int)),(.d (.v (.int .u64 v2)))] (eC r):=by
 rw[CO]at J;refine lO Tryz.func224 rfl (by kernel_rfl) ?_;refine ft [0,1,2] 0 (amg _) (s':=⟨32,[(0,(eC v1)),(1,(ar (0:Int))),(2,(.d (.v (.int .u64 v2))))],[]⟩) (by kernel_rfl) ?_;refine au ?_;refine rg [] [(3,(.ptr 0 0)),(6,(.ptr 1 0))] (Cq v1 []) (by kernel_rfl) ?_;refine au ?_;refine rg [] [(7,(.d (.v (.int .u64 (0:Int)))))] (Cq v1 []) (by kernel_rfl) ?_;refine au ?_;refine au ?_;refine rg [] [(8,(ar (0:Int)))] (Cq v1 []) (by kernel_rfl) ?_;refine dn ?_;refine BD 8 ?_;refine gn ?_;refine au ?_;refine au ?_;refine rg [] [(12,(az (decide ((0:Int)<6))))] (Cq v1 []) (by kernel_rfl) ?_;refine cS (t:=(decide ((0:Int)<6))) (by kernel_rfl) rfl ?_;refine ct ?_;refine aM ?_;refine au ?_;refine dn ?_;refine au ?_;obtain⟨v3,h1,J⟩:=bm J;refine rg [(4,⟨_,_, .lt (z:=0) (n:=6) (by decide) (by decide)⟩),(13,⟨_,_, .nz (b:=4294967296) (by decide)⟩),(26,⟨_,_, .eq (congrArg (λz=>AV.d (.v (.int .u64 z))) (amo h1))⟩)] [(9,(.d (.v (.int .u64 v3))))] (Cq v1 []) (by kernel_rfl) ?_;refine au ?_;refine rg [(7,⟨_,_, .nz (b:=4294967296) (by decide)⟩),(10,⟨_,_, .lt (z:=0) (n:=6) (by decide) (by decide)⟩)] [] (hq74 v3 v1 []) (by kernel_rfl) ?_;refine au ?_;obtain⟨v4,h2,J⟩:=bm J
 refine rg [(4,⟨_,_, .nz (b:=4294967296) (by decide)⟩),(8,⟨_,_, .eq (congrArg (λz=>AV.d (.v (.int .u64 z))) (amo h2))⟩)] [(7,(.d (.v (.int .u64 v4))))] (hq74 v3 v1 []) (by kernel_rfl) ?_;obtain⟨v5,h3,J⟩:=bm J;refine re [(4,⟨_,_, .nz (b:=4294967296) (by decide)⟩),(8,⟨_,_, .eq (congrArg (λz=>AV.d (.v (.int .u64 z))) (amo h3))⟩)] [(2,(.d (.v (.int .u64 v5)))),(30,(.d (.v (.int .u64 (IntKind.u64.wrap ((v2).tdiv (4294967296:Int))))))),(29,(.d (.v (.int .u64 v2))))] (hq74 v3 v1 []) (by kernel_rfl) ?_;refine dU ?_;refine aM ?_;refine re [(5,⟨_,_, .eq (x:=(ar (aE ((0:Int)+(1:Int))))) (y:=(ar (1:Int))) (by kernel_rfl)⟩)] [(8,(ar (1:Int))),(14,(ar (1:Int))),(13,(ar (0:Int)))] (hq74 v3 v1 []) (by kernel_rfl) ?_;refine aM ?_;refine gn ?_;refine au ?_;refine au ?_;refine rg [] [(12,(az (decide ((1:Int)<6))))] (hq74 v3 v1 []) (by kernel_rfl) ?_;refine cS (t:=(decide ((1:Int)<6))) (by kernel_rfl) rfl ?_;refine ct ?_;refine aM ?_;refine au ?_;refine dn ?_;refine au ?_;obtain⟨v6,h4,J⟩:=bm J;refine rg [(4,⟨_,_, .lt (z:=1) (n:=6) (by decide) (by decide)⟩),(13,⟨_,_, .nz (b:=4294967296) (by decide)⟩),(26,⟨_,_, .eq (congrArg (λz=>AV.d (.v (.int .u64 z))) (amo h4))⟩)] [(9,(.d (.v (.int .u64 v6))))] (hq74 v3 v1 []) (by kernel_rfl) ?_
 refine au ?_;refine rg [(7,⟨_,_, .nz (b:=4294967296) (by decide)⟩),(10,⟨_,_, .lt (z:=1) (n:=6) (by decide) (by decide)⟩)] [] (zT v3 v6 v1 []) (by kernel_rfl) ?_;refine au ?_;obtain⟨v7,h5,J⟩:=bm J;refine rg [(4,⟨_,_, .nz (b:=4294967296) (by decide)⟩),(8,⟨_,_, .eq (congrArg (λz=>AV.d (.v (.int .u64 z))) (amo h5))⟩)] [(7,(.d (.v (.int .u64 v7))))] (zT v3 v6 v1 []) (by kernel_rfl) ?_;obtain⟨v8,h6,J⟩:=bm J;refine re [(4,⟨_,_, .nz (b:=4294967296) (by decide)⟩),(8,⟨_,_, .eq (congrArg (λz=>AV.d (.v (.int .u64 z))) (amo h6))⟩)] [(2,(.d (.v (.int .u64 v8)))),(30,(.d (.v (.int .u64 (IntKind.u64.wrap ((v5).tdiv (4294967296:Int))))))),(29,(.d (.v (.int .u64 v5))))] (zT v3 v6 v1 []) (by kernel_rfl) ?_;refine dU ?_;refine aM ?_;refine re [(5,⟨_,_, .eq (x:=(ar (aE ((1:Int)+(1:Int))))) (y:=(ar (2:Int))) (by kernel_rfl)⟩)] [(8,(ar (2:Int))),(14,(ar (2:Int))),(13,(ar (1:Int)))] (zT v3 v6 v1 []) (by kernel_rfl) ?_;refine aM ?_;refine gn ?_;refine au ?_;refine au ?_;refine rg [] [(12,(az (decide ((2:Int)<6))))] (zT v3 v6 v1 []) (by kernel_rfl) ?_;refine cS (t:=(decide ((2:Int)<6))) (by kernel_rfl) rfl ?_;refine ct ?_;refine aM ?_;refine au ?_;refine dn ?_;refine au ?_;obtain⟨v9,h7,J⟩:=bm J
 refine rg [(4,⟨_,_, .lt (z:=2) (n:=6) (by decide) (by decide)⟩),(13,⟨_,_, .nz (b:=4294967296) (by decide)⟩),(26,⟨_,_, .eq (congrArg (λz=>AV.d (.v (.int .u64 z))) (amo h7))⟩)] [(9,(.d (.v (.int .u64 v9))))] (zT v3 v6 v1 []) (by kernel_rfl) ?_;refine au ?_;refine rg [(7,⟨_,_, .nz (b:=4294967296) (by decide)⟩),(10,⟨_,_, .lt (z:=2) (n:=6) (by decide) (by decide)⟩)] [] (yH v3 v6 v9 v1 []) (by kernel_rfl) ?_;refine au ?_;obtain⟨v10,h8,J⟩:=bm J;refine rg [(4,⟨_,_, .nz (b:=4294967296) (by decide)⟩),(8,⟨_,_, .eq (congrArg (λz=>AV.d (.v (.int .u64 z))) (amo h8))⟩)] [(7,(.d (.v (.int .u64 v10))))] (yH v3 v6 v9 v1 []) (by kernel_rfl) ?_;obtain⟨v11,h9,J⟩:=bm J;refine re [(4,⟨_,_, .nz (b:=4294967296) (by decide)⟩),(8,⟨_,_, .eq (congrArg (λz=>AV.d (.v (.int .u64 z))) (amo h9))⟩)] [(2,(.d (.v (.int .u64 v11)))),(30,(.d (.v (.int .u64 (IntKind.u64.wrap ((v8).tdiv (4294967296:Int))))))),(29,(.d (.v (.int .u64 v8))))] (yH v3 v6 v9 v1 []) (by kernel_rfl) ?_;refine dU ?_;refine aM ?_;refine re [(5,⟨_,_, .eq (x:=(ar (aE ((2:Int)+(1:Int))))) (y:=(ar (3:Int))) (by kernel_rfl)⟩)] [(8,(ar (3:Int))),(14,(ar (3:Int))),(13,(ar (2:Int)))] (yH v3 v6 v9 v1 []) (by kernel_rfl) ?_;refine aM ?_;refine gn ?_;refine au ?_;refine au ?_
 refine rg [] [(12,(az (decide ((3:Int)<6))))] (yH v3 v6 v9 v1 []) (by kernel_rfl) ?_;refine cS (t:=(decide ((3:Int)<6))) (by kernel_rfl) rfl ?_;refine ct ?_;refine aM ?_;refine au ?_;refine dn ?_;refine au ?_;obtain⟨v12,aW,J⟩:=bm J;refine rg [(4,⟨_,_, .lt (z:=3) (n:=6) (by decide) (by decide)⟩),(13,⟨_,_, .nz (b:=4294967296) (by decide)⟩),(26,⟨_,_, .eq (congrArg (λz=>AV.d (.v (.int .u64 z))) (amo aW))⟩)] [(9,(.d (.v (.int .u64 v12))))] (yH v3 v6 v9 v1 []) (by kernel_rfl) ?_;refine au ?_;refine rg [(7,⟨_,_, .nz (b:=4294967296) (by decide)⟩),(10,⟨_,_, .lt (z:=3) (n:=6) (by decide) (by decide)⟩)] [] (Au v3 v6 v9 v12 v1 []) (by kernel_rfl) ?_;refine au ?_;obtain⟨aF,aZ,J⟩:=bm J;refine rg [(4,⟨_,_, .nz (b:=4294967296) (by decide)⟩),(8,⟨_,_, .eq (congrArg (λz=>AV.d (.v (.int .u64 z))) (amo aZ))⟩)] [(7,(.d (.v (.int .u64 aF))))] (Au v3 v6 v9 v12 v1 []) (by kernel_rfl) ?_;obtain⟨aI,bj,J⟩:=bm J;refine re [(4,⟨_,_, .nz (b:=4294967296) (by decide)⟩),(8,⟨_,_, .eq (congrArg (λz=>AV.d (.v (.int .u64 z))) (amo bj))⟩)] [(2,(.d (.v (.int .u64 aI)))),(30,(.d (.v (.int .u64 (IntKind.u64.wrap ((v11).tdiv (4294967296:Int))))))),(29,(.d (.v (.int .u64 v11))))] (Au v3 v6 v9 v12 v1 []) (by kernel_rfl) ?_
 refine dU ?_;refine aM ?_;refine re [(5,⟨_,_, .eq (x:=(ar (aE ((3:Int)+(1:Int))))) (y:=(ar (4:Int))) (by kernel_rfl)⟩)] [(8,(ar (4:Int))),(14,(ar (4:Int))),(13,(ar (3:Int)))] (Au v3 v6 v9 v12 v1 []) (by kernel_rfl) ?_;refine aM ?_;refine gn ?_;refine au ?_;refine au ?_;refine rg [] [(12,(az (decide ((4:Int)<6))))] (Au v3 v6 v9 v12 v1 []) (by kernel_rfl) ?_;refine cS (t:=(decide ((4:Int)<6))) (by kernel_rfl) rfl ?_;refine ct ?_;refine aM ?_;refine au ?_;refine dn ?_;refine au ?_;obtain⟨bg,bC,J⟩:=bm J;refine rg [(4,⟨_,_, .lt (z:=4) (n:=6) (by decide) (by decide)⟩),(13,⟨_,_, .nz (b:=4294967296) (by decide)⟩),(26,⟨_,_, .eq (congrArg (λz=>AV.d (.v (.int .u64 z))) (amo bC))⟩)] [(9,(.d (.v (.int .u64 bg))))] (Au v3 v6 v9 v12 v1 []) (by kernel_rfl) ?_;refine au ?_;refine rg [(7,⟨_,_, .nz (b:=4294967296) (by decide)⟩),(10,⟨_,_, .lt (z:=4) (n:=6) (by decide) (by decide)⟩)] [] (AI v3 v6 v9 v12 bg v1 []) (by kernel_rfl) ?_;refine au ?_;obtain⟨bx,bJ,J⟩:=bm J;refine rg [(4,⟨_,_, .nz (b:=4294967296) (by decide)⟩),(8,⟨_,_, .eq (congrArg (λz=>AV.d (.v (.int .u64 z))) (amo bJ))⟩)] [(7,(.d (.v (.int .u64 bx))))] (AI v3 v6 v9 v12 bg v1 []) (by kernel_rfl) ?_;obtain⟨cy,bH,J⟩:=bm J
 refine re [(4,⟨_,_, .nz (b:=4294967296) (by decide)⟩),(8,⟨_,_, .eq (congrArg (λz=>AV.d (.v (.int .u64 z))) (amo bH))⟩)] [(2,(.d (.v (.int .u64 cy)))),(30,(.d (.v (.int .u64 (IntKind.u64.wrap ((aI).tdiv (4294967296:Int))))))),(29,(.d (.v (.int .u64 aI))))] (AI v3 v6 v9 v12 bg v1 []) (by kernel_rfl) ?_;refine dU ?_;refine aM ?_;refine re [(5,⟨_,_, .eq (x:=(ar (aE ((4:Int)+(1:Int))))) (y:=(ar (5:Int))) (by kernel_rfl)⟩)] [(8,(ar (5:Int))),(14,(ar (5:Int))),(13,(ar (4:Int)))] (AI v3 v6 v9 v12 bg v1 []) (by kernel_rfl) ?_;refine aM ?_;refine gn ?_;refine au ?_;refine au ?_;refine rg [] [(12,(az (decide ((5:Int)<6))))] (AI v3 v6 v9 v12 bg v1 []) (by kernel_rfl) ?_;refine cS (t:=(decide ((5:Int)<6))) (by kernel_rfl) rfl ?_;refine ct ?_;refine aM ?_;refine au ?_;refine dn ?_;refine au ?_;obtain⟨bI,bY,J⟩:=bm J;refine rg [(4,⟨_,_, .lt (z:=5) (n:=6) (by decide) (by decide)⟩),(13,⟨_,_, .nz (b:=4294967296) (by decide)⟩),(26,⟨_,_, .eq (congrArg (λz=>AV.d (.v (.int .u64 z))) (amo bY))⟩)] [(9,(.d (.v (.int .u64 bI))))] (AI v3 v6 v9 v12 bg v1 []) (by kernel_rfl) ?_;refine au ?_;refine rg [(7,⟨_,_, .nz (b:=4294967296) (by decide)⟩),(10,⟨_,_, .lt (z:=5) (n:=6) (by decide) (by decide)⟩)] [] (EX v3 v6 v9 v12 bg bI []) (by kernel_rfl) ?_
 refine au ?_;obtain⟨cF,c9,J⟩:=bm J;refine rg [(4,⟨_,_, .nz (b:=4294967296) (by decide)⟩),(8,⟨_,_, .eq (congrArg (λz=>AV.d (.v (.int .u64 z))) (amo c9))⟩)] [(7,(.d (.v (.int .u64 cF))))] (EX v3 v6 v9 v12 bg bI []) (by kernel_rfl) ?_;obtain⟨v20,dZ,J⟩:=bm J;refine re [(4,⟨_,_, .nz (b:=4294967296) (by decide)⟩),(8,⟨_,_, .eq (congrArg (λz=>AV.d (.v (.int .u64 z))) (amo dZ))⟩)] [(2,(.d (.v (.int .u64 v20)))),(30,(.d (.v (.int .u64 (IntKind.u64.wrap ((cy).tdiv (4294967296:Int))))))),(29,(.d (.v (.int .u64 cy))))] (EX v3 v6 v9 v12 bg bI []) (by kernel_rfl) ?_;refine dU ?_;refine aM ?_;refine re [(5,⟨_,_, .eq (x:=(ar (aE ((5:Int)+(1:Int))))) (y:=(ar (6:Int))) (by kernel_rfl)⟩)] [(8,(ar (6:Int))),(14,(ar (6:Int))),(13,(ar (5:Int)))] (EX v3 v6 v9 v12 bg bI []) (by kernel_rfl) ?_;refine aM ?_;refine gn ?_;refine au ?_;refine au ?_;refine rg [] [(12,(az (decide ((6:Int)<6))))] (EX v3 v6 v9 v12 bg bI []) (by kernel_rfl) ?_;refine dm (t:=(decide ((6:Int)<6))) (by kernel_rfl) rfl ?_;refine kW (at_e (at_e (l4 rfl ?_)));refine aM ?_;refine au ?_;refine rg [] [] [.cells [(.d (.v (.int .u64 ((v3).tmod (4294967296:Int))))),(.d (.v (.int .u64 ((v6).tmod (4294967296:Int))))),(.d (.v (.int .u64 ((v9).tmod (4294967296:Int))))),(.d (.v (.int .u64 ((v12).tmod (4294967296:Int))))),(.d (.v (.int .u64 ((bg).tmod (4294967296:Int))))),(.d (.v (.int .u64 ((bI).tmod (4294967296:Int)))))], .cells [(.d (.v (.int .u64 ((v3).tmod (4294967296:Int))))),(.d (.v (.int .u64 ((v6).tmod (4294967296:Int))))),(.d (.v (.int .u64 ((v9).tmod (4294967296:Int))))),(.d (.v (.int .u64 ((v12).tmod (4294967296:Int))))),(.d (.v (.int .u64 ((bg).tmod (4294967296:Int))))),(.d (.v (.int .u64 ((bI).tmod (4294967296:Int)))))]] (by kernel_rfl) ?_
 refine cU ?_;have hr:=amo J;subst hr;exact eJ (by kernel_rfl)
def zo(N:Nat)(v1:cl)(v2:Int):amV cl:=
 Option.bind (some (IntKind.u64.wrap ((IntKind.u64.wrap (v1.cE+((v2).tmod (4294967296:Int))))+(0:Int)))) λv3=>
 Option.bind (some (IntKind.u64.wrap ((v3).tdiv (4294967296:Int)))) λv4=>
 Option.bind (some (IntKind.u64.wrap ((v2).tdiv (4294967296:Int)))) λv5=>
 Option.bind (some (IntKind.u64.wrap ((IntKind.u64.wrap (v1.cX+((v5).tmod (4294967296:Int))))+v4))) λv6=>
 Option.bind (some (IntKind.u64.wrap ((v6).tdiv (4294967296:Int)))) λv7=>
 Option.bind (some (IntKind.u64.wrap ((v5).tdiv (4294967296:Int)))) λv8=>
 Option.bind (some (IntKind.u64.wrap ((IntKind.u64.wrap (v1.cV+((v8).tmod (4294967296:Int))))+v7))) λv9=>
 Option.bind (some (IntKind.u64.wrap ((v9).tdiv (4294967296:Int)))) λv10=>
 Option.bind (some (IntKind.u64.wrap ((v8).tdiv (4294967296:Int)))) λv11=>
 Option.bind (some (IntKind.u64.wrap ((IntKind.u64.wrap (v1.cP+((v11).tmod (4294967296:Int))))+v10))) λv12=>
 Option.bind (some (IntKind.u64.wrap ((v12).tdiv (4294967296:Int)))) λaF=>
 Option.bind (some (IntKind.u64.wrap ((v11).tdiv (4294967296:Int)))) λaI=>
 Option.bind (some (IntKind.u64.wrap ((IntKind.u64.wrap (v1.cJ+((aI).tmod (4294967296:Int))))+aF))) λbg=>
 Option.bind (some (IntKind.u64.wrap ((bg).tdiv (4294967296:Int)))) λbx=>
 Option.bind (some (IntKind.u64.wrap ((aI).tdiv (4294967296:Int)))) λcy=>
 some (⟨v1.cr,((v3).tmod (4294967296:Int)),((v6).tmod (4294967296:Int)),((v9).tmod (4294967296:Int)),((v12).tmod (4294967296:Int)),((bg).tmod (4294967296:Int))⟩:cl)
def A0(v1:cl)(v3:Int)(v6:Int)(v9:Int)(v12:Int)(l:amT aq):amT aq:= .cells [(.d (.v (.int .u64 v1.cr))),(.d (.v (.int .u64 ((v3).tmod (4294967296:Int))))),(.d (.v (.int .u64 ((v6).tmod (4294967296:Int))))),(.d (.v (.int .u64 ((v9).tmod (4294967296:Int))))),(.d (.v (.int .u64 ((v12).tmod (4294967296:Int))))),(.d (.v (.int .u64 v1.cJ)))]:: .cells [(.d (.v (.int .u64 (0:Int)))),(.d (.v (.int .u64 (0:Int)))),(.d (.v (.int .u64 (0:Int)))),(.d (.v (.int .u64 (0:Int)))),(.d (.v (.int .u64 (0:Int)))),(.d (.v (.int .u64 (0:Int))))]::l
def yk(v1:cl)(v3:Int)(v6:Int)(v9:Int)(l:amT aq):amT aq:= .cells [(.d (.v (.int .u64 v1.cr))),(.d (.v (.int .u64 ((v3).tmod (4294967296:Int))))),(.d (.v (.int .u64 ((v6).tmod (4294967296:Int))))),(.d (.v (.int .u64 ((v9).tmod (4294967296:Int))))),(.d (.v (.int .u64 v1.cP))),(.d (.v (.int .u64 v1.cJ)))]:: .cells [(.d (.v (.int .u64 (0:Int)))),(.d (.v (.int .u64 (0:Int)))),(.d (.v (.int .u64 (0:Int)))),(.d (.v (.int .u64 (0:Int)))),(.d (.v (.int .u64 (0:Int)))),(.d (.v (.int .u64 (0:Int))))]::l
def Ad(v1:cl)(v3:Int)(v6:Int)(l:amT aq):amT aq:= .cells [(.d (.v (.int .u64 v1.cr))),(.d (.v (.int .u64 ((v3).tmod (4294967296:Int))))),(.d (.v (.int .u64 ((v6).tmod (4294967296:Int))))),(.d (.v (.int .u64 v1.cV))),(.d (.v (.int .u64 v1.cP))),(.d (.v (.int .u64 v1.cJ)))]:: .cells [(.d (.v (.int .u64 (0:Int)))),(.d (.v (.int .u64 (0:Int)))),(.d (.v (.int .u64 (0:Int)))),(.d (.v (.int .u64 (0:Int)))),(.d (.v (.int .u64 (0:Int)))),(.d (.v (.int .u64 (0:Int))))]::l
def Ap(v1:cl)(v3:Int)(l:amT aq):amT aq:= .cells [(.d (.v (.int .u64 v1.cr))),(.d (.v (.int .u64 ((v3).tmod (4294967296:Int))))),(.d (.v (.int .u64 v1.cX))),(.d (.v (.int .u64 v1.cV))),(.d (.v (.int .u64 v1.cP))),(.d (.v (.int .u64 v1.cJ)))]:: .cells [(.d (.v (.int .u64 (0:Int)))),(.d (.v (.int .u64 (0:Int)))),(.d (.v (.int .u64 (0:Int)))),(.d (.v (.int .u64 (0:Int)))),(.d (.v (.int .u64 (0:Int)))),(.d (.v (.int .u64 (0:Int))))]::l
def CT(v1:cl)(v3:Int)(v6:Int)(v9:Int)(v12:Int)(bg:Int)(l:amT aq):amT aq:= .cells [(.d (.v (.int .u64 v1.cr))),(.d (.v (.int .u64 ((v3).tmod (4294967296:Int))))),(.d (.v (.int .u64 ((v6).tmod (4294967296:Int))))),(.d (.v (.int .u64 ((v9).tmod (4294967296:Int))))),(.d (.v (.int .u64 ((v12).tmod (4294967296:Int))))),(.d (.v (.int .u64 ((bg).tmod (4294967296:Int)))))]:: .cells [(.d (.v (.int .u64 (0:Int)))),(.d (.v (.int .u64 (0:Int)))),(.d (.v (.int .u64 (0:Int)))),(.d (.v (.int .u64 (0:Int)))),(.d (.v (.int .u64 (0:Int)))),(.d (.v (.int .u64 (0:Int))))]::l
def EY(v1:cl)(l:amT aq):amT aq:= .cells (eC v1).cells:: .cells [(.d (.v (.int .u64 (0:Int)))),(.d (.v (.int .u64 (0:Int)))),(.d (.v (.int .u64 (0:Int)))),(.d (.v (.int .u64 (0:Int)))),(.d (.v (.int .u64 (0:Int)))),(.d (.v (.int .u64 (0:Int))))]::l
theorem Xt{N v1 v2 r}(J:zo N v1 v2=some r):KF 224 [(eC v1),(ar (1:Int)),(.d (.v (.int .u64 v2)))] (eC r):=by
 rw[zo]at J;refine lO Tryz.func224 rfl (by kernel_rfl) ?_;refine ft [0,1,2] 0 (amg _) (s':=⟨32,[(0,(eC v1)),(1,(ar (1:Int))),(2,(.d (.v (.int .u64 v2))))],[]⟩) (by kernel_rfl) ?_;refine au ?_;refine rg [] [(3,(.ptr 0 0)),(6,(.ptr 1 0))] (EY v1 []) (by kernel_rfl) ?_;refine au ?_;refine rg [] [(7,(.d (.v (.int .u64 (0:Int)))))] (EY v1 []) (by kernel_rfl) ?_;refine au ?_;refine au ?_;refine rg [] [(8,(ar (1:Int)))] (EY v1 []) (by kernel_rfl) ?_;refine dn ?_;refine BD 8 ?_;refine gn ?_;refine au ?_;refine au ?_;refine rg [] [(12,(az (decide ((1:Int)<6))))] (EY v1 []) (by kernel_rfl) ?_;refine cS (t:=(decide ((1:Int)<6))) (by kernel_rfl) rfl ?_;refine ct ?_;refine aM ?_;refine au ?_;refine dn ?_;refine au ?_;obtain⟨v3,h1,J⟩:=bm J;refine rg [(4,⟨_,_, .lt (z:=1) (n:=6) (by decide) (by decide)⟩),(13,⟨_,_, .nz (b:=4294967296) (by decide)⟩),(26,⟨_,_, .eq (congrArg (λz=>AV.d (.v (.int .u64 z))) (amo h1))⟩)] [(9,(.d (.v (.int .u64 v3))))] (EY v1 []) (by kernel_rfl) ?_;refine au ?_;refine rg [(7,⟨_,_, .nz (b:=4294967296) (by decide)⟩),(10,⟨_,_, .lt (z:=1) (n:=6) (by decide) (by decide)⟩)] [] (Ap v1 v3 []) (by kernel_rfl) ?_;refine au ?_;obtain⟨v4,h2,J⟩:=bm J
 refine rg [(4,⟨_,_, .nz (b:=4294967296) (by decide)⟩),(8,⟨_,_, .eq (congrArg (λz=>AV.d (.v (.int .u64 z))) (amo h2))⟩)] [(7,(.d (.v (.int .u64 v4))))] (Ap v1 v3 []) (by kernel_rfl) ?_;obtain⟨v5,h3,J⟩:=bm J;refine re [(4,⟨_,_, .nz (b:=4294967296) (by decide)⟩),(8,⟨_,_, .eq (congrArg (λz=>AV.d (.v (.int .u64 z))) (amo h3))⟩)] [(2,(.d (.v (.int .u64 v5)))),(30,(.d (.v (.int .u64 (IntKind.u64.wrap ((v2).tdiv (4294967296:Int))))))),(29,(.d (.v (.int .u64 v2))))] (Ap v1 v3 []) (by kernel_rfl) ?_;refine dU ?_;refine aM ?_;refine re [(5,⟨_,_, .eq (x:=(ar (aE ((1:Int)+(1:Int))))) (y:=(ar (2:Int))) (by kernel_rfl)⟩)] [(8,(ar (2:Int))),(14,(ar (2:Int))),(13,(ar (1:Int)))] (Ap v1 v3 []) (by kernel_rfl) ?_;refine aM ?_;refine gn ?_;refine au ?_;refine au ?_;refine rg [] [(12,(az (decide ((2:Int)<6))))] (Ap v1 v3 []) (by kernel_rfl) ?_;refine cS (t:=(decide ((2:Int)<6))) (by kernel_rfl) rfl ?_;refine ct ?_;refine aM ?_;refine au ?_;refine dn ?_;refine au ?_;obtain⟨v6,h4,J⟩:=bm J;refine rg [(4,⟨_,_, .lt (z:=2) (n:=6) (by decide) (by decide)⟩),(13,⟨_,_, .nz (b:=4294967296) (by decide)⟩),(26,⟨_,_, .eq (congrArg (λz=>AV.d (.v (.int .u64 z))) (amo h4))⟩)] [(9,(.d (.v (.int .u64 v6))))] (Ap v1 v3 []) (by kernel_rfl) ?_
 refine au ?_;refine rg [(7,⟨_,_, .nz (b:=4294967296) (by decide)⟩),(10,⟨_,_, .lt (z:=2) (n:=6) (by decide) (by decide)⟩)] [] (Ad v1 v3 v6 []) (by kernel_rfl) ?_;refine au ?_;obtain⟨v7,h5,J⟩:=bm J;refine rg [(4,⟨_,_, .nz (b:=4294967296) (by decide)⟩),(8,⟨_,_, .eq (congrArg (λz=>AV.d (.v (.int .u64 z))) (amo h5))⟩)] [(7,(.d (.v (.int .u64 v7))))] (Ad v1 v3 v6 []) (by kernel_rfl) ?_;obtain⟨v8,h6,J⟩:=bm J;refine re [(4,⟨_,_, .nz (b:=4294967296) (by decide)⟩),(8,⟨_,_, .eq (congrArg (λz=>AV.d (.v (.int .u64 z))) (amo h6))⟩)] [(2,(.d (.v (.int .u64 v8)))),(30,(.d (.v (.int .u64 (IntKind.u64.wrap ((v5).tdiv (4294967296:Int))))))),(29,(.d (.v (.int .u64 v5))))] (Ad v1 v3 v6 []) (by kernel_rfl) ?_;refine dU ?_;refine aM ?_;refine re [(5,⟨_,_, .eq (x:=(ar (aE ((2:Int)+(1:Int))))) (y:=(ar (3:Int))) (by kernel_rfl)⟩)] [(8,(ar (3:Int))),(14,(ar (3:Int))),(13,(ar (2:Int)))] (Ad v1 v3 v6 []) (by kernel_rfl) ?_;refine aM ?_;refine gn ?_;refine au ?_;refine au ?_;refine rg [] [(12,(az (decide ((3:Int)<6))))] (Ad v1 v3 v6 []) (by kernel_rfl) ?_;refine cS (t:=(decide ((3:Int)<6))) (by kernel_rfl) rfl ?_;refine ct ?_;refine aM ?_;refine au ?_;refine dn ?_;refine au ?_;obtain⟨v9,h7,J⟩:=bm J
 refine rg [(4,⟨_,_, .lt (z:=3) (n:=6) (by decide) (by decide)⟩),(13,⟨_,_, .nz (b:=4294967296) (by decide)⟩),(26,⟨_,_, .eq (congrArg (λz=>AV.d (.v (.int .u64 z))) (amo h7))⟩)] [(9,(.d (.v (.int .u64 v9))))] (Ad v1 v3 v6 []) (by kernel_rfl) ?_;refine au ?_;refine rg [(7,⟨_,_, .nz (b:=4294967296) (by decide)⟩),(10,⟨_,_, .lt (z:=3) (n:=6) (by decide) (by decide)⟩)] [] (yk v1 v3 v6 v9 []) (by kernel_rfl) ?_;refine au ?_;obtain⟨v10,h8,J⟩:=bm J;refine rg [(4,⟨_,_, .nz (b:=4294967296) (by decide)⟩),(8,⟨_,_, .eq (congrArg (λz=>AV.d (.v (.int .u64 z))) (amo h8))⟩)] [(7,(.d (.v (.int .u64 v10))))] (yk v1 v3 v6 v9 []) (by kernel_rfl) ?_;obtain⟨v11,h9,J⟩:=bm J;refine re [(4,⟨_,_, .nz (b:=4294967296) (by decide)⟩),(8,⟨_,_, .eq (congrArg (λz=>AV.d (.v (.int .u64 z))) (amo h9))⟩)] [(2,(.d (.v (.int .u64 v11)))),(30,(.d (.v (.int .u64 (IntKind.u64.wrap ((v8).tdiv (4294967296:Int))))))),(29,(.d (.v (.int .u64 v8))))] (yk v1 v3 v6 v9 []) (by kernel_rfl) ?_;refine dU ?_;refine aM ?_;refine re [(5,⟨_,_, .eq (x:=(ar (aE ((3:Int)+(1:Int))))) (y:=(ar (4:Int))) (by kernel_rfl)⟩)] [(8,(ar (4:Int))),(14,(ar (4:Int))),(13,(ar (3:Int)))] (yk v1 v3 v6 v9 []) (by kernel_rfl) ?_;refine aM ?_;refine gn ?_;refine au ?_;refine au ?_
 refine rg [] [(12,(az (decide ((4:Int)<6))))] (yk v1 v3 v6 v9 []) (by kernel_rfl) ?_;refine cS (t:=(decide ((4:Int)<6))) (by kernel_rfl) rfl ?_;refine ct ?_;refine aM ?_;refine au ?_;refine dn ?_;refine au ?_;obtain⟨v12,aW,J⟩:=bm J;refine rg [(4,⟨_,_, .lt (z:=4) (n:=6) (by decide) (by decide)⟩),(13,⟨_,_, .nz (b:=4294967296) (by decide)⟩),(26,⟨_,_, .eq (congrArg (λz=>AV.d (.v (.int .u64 z))) (amo aW))⟩)] [(9,(.d (.v (.int .u64 v12))))] (yk v1 v3 v6 v9 []) (by kernel_rfl) ?_;refine au ?_;refine rg [(7,⟨_,_, .nz (b:=4294967296) (by decide)⟩),(10,⟨_,_, .lt (z:=4) (n:=6) (by decide) (by decide)⟩)] [] (A0 v1 v3 v6 v9 v12 []) (by kernel_rfl) ?_;refine au ?_;obtain⟨aF,aZ,J⟩:=bm J;refine rg [(4,⟨_,_, .nz (b:=4294967296) (by decide)⟩),(8,⟨_,_, .eq (congrArg (λz=>AV.d (.v (.int .u64 z))) (amo aZ))⟩)] [(7,(.d (.v (.int .u64 aF))))] (A0 v1 v3 v6 v9 v12 []) (by kernel_rfl) ?_;obtain⟨aI,bj,J⟩:=bm J;refine re [(4,⟨_,_, .nz (b:=4294967296) (by decide)⟩),(8,⟨_,_, .eq (congrArg (λz=>AV.d (.v (.int .u64 z))) (amo bj))⟩)] [(2,(.d (.v (.int .u64 aI)))),(30,(.d (.v (.int .u64 (IntKind.u64.wrap ((v11).tdiv (4294967296:Int))))))),(29,(.d (.v (.int .u64 v11))))] (A0 v1 v3 v6 v9 v12 []) (by kernel_rfl) ?_
 refine dU ?_;refine aM ?_;refine re [(5,⟨_,_, .eq (x:=(ar (aE ((4:Int)+(1:Int))))) (y:=(ar (5:Int))) (by kernel_rfl)⟩)] [(8,(ar (5:Int))),(14,(ar (5:Int))),(13,(ar (4:Int)))] (A0 v1 v3 v6 v9 v12 []) (by kernel_rfl) ?_;refine aM ?_;refine gn ?_;refine au ?_;refine au ?_;refine rg [] [(12,(az (decide ((5:Int)<6))))] (A0 v1 v3 v6 v9 v12 []) (by kernel_rfl) ?_;refine cS (t:=(decide ((5:Int)<6))) (by kernel_rfl) rfl ?_;refine ct ?_;refine aM ?_;refine au ?_;refine dn ?_;refine au ?_;obtain⟨bg,bC,J⟩:=bm J;refine rg [(4,⟨_,_, .lt (z:=5) (n:=6) (by decide) (by decide)⟩),(13,⟨_,_, .nz (b:=4294967296) (by decide)⟩),(26,⟨_,_, .eq (congrArg (λz=>AV.d (.v (.int .u64 z))) (amo bC))⟩)] [(9,(.d (.v (.int .u64 bg))))] (A0 v1 v3 v6 v9 v12 []) (by kernel_rfl) ?_;refine au ?_;refine rg [(7,⟨_,_, .nz (b:=4294967296) (by decide)⟩),(10,⟨_,_, .lt (z:=5) (n:=6) (by decide) (by decide)⟩)] [] (CT v1 v3 v6 v9 v12 bg []) (by kernel_rfl) ?_;refine au ?_;obtain⟨bx,bJ,J⟩:=bm J;refine rg [(4,⟨_,_, .nz (b:=4294967296) (by decide)⟩),(8,⟨_,_, .eq (congrArg (λz=>AV.d (.v (.int .u64 z))) (amo bJ))⟩)] [(7,(.d (.v (.int .u64 bx))))] (CT v1 v3 v6 v9 v12 bg []) (by kernel_rfl) ?_;obtain⟨cy,bH,J⟩:=bm J
 refine re [(4,⟨_,_, .nz (b:=4294967296) (by decide)⟩),(8,⟨_,_, .eq (congrArg (λz=>AV.d (.v (.int .u64 z))) (amo bH))⟩)] [(2,(.d (.v (.int .u64 cy)))),(30,(.d (.v (.int .u64 (IntKind.u64.wrap ((aI).tdiv (4294967296:Int))))))),(29,(.d (.v (.int .u64 aI))))] (CT v1 v3 v6 v9 v12 bg []) (by kernel_rfl) ?_;refine dU ?_;refine aM ?_;refine re [(5,⟨_,_, .eq (x:=(ar (aE ((5:Int)+(1:Int))))) (y:=(ar (6:Int))) (by kernel_rfl)⟩)] [(8,(ar (6:Int))),(14,(ar (6:Int))),(13,(ar (5:Int)))] (CT v1 v3 v6 v9 v12 bg []) (by kernel_rfl) ?_;refine aM ?_;refine gn ?_;refine au ?_;refine au ?_;refine rg [] [(12,(az (decide ((6:Int)<6))))] (CT v1 v3 v6 v9 v12 bg []) (by kernel_rfl) ?_;refine dm (t:=(decide ((6:Int)<6))) (by kernel_rfl) rfl ?_;refine kW (at_e (at_e (l4 rfl ?_)));refine aM ?_;refine au ?_;refine rg [] [] [.cells [(.d (.v (.int .u64 v1.cr))),(.d (.v (.int .u64 ((v3).tmod (4294967296:Int))))),(.d (.v (.int .u64 ((v6).tmod (4294967296:Int))))),(.d (.v (.int .u64 ((v9).tmod (4294967296:Int))))),(.d (.v (.int .u64 ((v12).tmod (4294967296:Int))))),(.d (.v (.int .u64 ((bg).tmod (4294967296:Int)))))], .cells [(.d (.v (.int .u64 v1.cr))),(.d (.v (.int .u64 ((v3).tmod (4294967296:Int))))),(.d (.v (.int .u64 ((v6).tmod (4294967296:Int))))),(.d (.v (.int .u64 ((v9).tmod (4294967296:Int))))),(.d (.v (.int .u64 ((v12).tmod (4294967296:Int))))),(.d (.v (.int .u64 ((bg).tmod (4294967296:Int)))))]] (by kernel_rfl) ?_
 refine cU ?_;have hr:=amo J;subst hr;exact eJ (by kernel_rfl)
def Bv(N:Nat)(v1:cl)(v2:Int):amV cl:=
 Option.bind (some (IntKind.u64.wrap ((IntKind.u64.wrap (v1.cX+((v2).tmod (4294967296:Int))))+(0:Int)))) λv3=>
 Option.bind (some (IntKind.u64.wrap ((v3).tdiv (4294967296:Int)))) λv4=>
 Option.bind (some (IntKind.u64.wrap ((v2).tdiv (4294967296:Int)))) λv5=>
 Option.bind (some (IntKind.u64.wrap ((IntKind.u64.wrap (v1.cV+((v5).tmod (4294967296:Int))))+v4))) λv6=>
 Option.bind (some (IntKind.u64.wrap ((v6).tdiv (4294967296:Int)))) λv7=>
 Option.bind (some (IntKind.u64.wrap ((v5).tdiv (4294967296:Int)))) λv8=>
 Option.bind (some (IntKind.u64.wrap ((IntKind.u64.wrap (v1.cP+((v8).tmod (4294967296:Int))))+v7))) λv9=>
 Option.bind (some (IntKind.u64.wrap ((v9).tdiv (4294967296:Int)))) λv10=>
 Option.bind (some (IntKind.u64.wrap ((v8).tdiv (4294967296:Int)))) λv11=>
 Option.bind (some (IntKind.u64.wrap ((IntKind.u64.wrap (v1.cJ+((v11).tmod (4294967296:Int))))+v10))) λv12=>
 Option.bind (some (IntKind.u64.wrap ((v12).tdiv (4294967296:Int)))) λaF=>
 Option.bind (some (IntKind.u64.wrap ((v11).tdiv (4294967296:Int)))) λaI=>
 some (⟨v1.cr,v1.cE,((v3).tmod (4294967296:Int)),((v6).tmod (4294967296:Int)),((v9).tmod (4294967296:Int)),((v12).tmod (4294967296:Int))⟩:cl)
def ym(v1:cl)(v3:Int)(v6:Int)(v9:Int)(l:amT aq):amT aq:= .cells [(.d (.v (.int .u64 v1.cr))),(.d (.v (.int .u64 v1.cE))),(.d (.v (.int .u64 ((v3).tmod (4294967296:Int))))),(.d (.v (.int .u64 ((v6).tmod (4294967296:Int))))),(.d (.v (.int .u64 ((v9).tmod (4294967296:Int))))),(.d (.v (.int .u64 v1.cJ)))]:: .cells [(.d (.v (.int .u64 (0:Int)))),(.d (.v (.int .u64 (0:Int)))),(.d (.v (.int .u64 (0:Int)))),(.d (.v (.int .u64 (0:Int)))),(.d (.v (.int .u64 (0:Int)))),(.d (.v (.int .u64 (0:Int))))]::l
def zV(v1:cl)(v3:Int)(v6:Int)(l:amT aq):amT aq:= .cells [(.d (.v (.int .u64 v1.cr))),(.d (.v (.int .u64 v1.cE))),(.d (.v (.int .u64 ((v3).tmod (4294967296:Int))))),(.d (.v (.int .u64 ((v6).tmod (4294967296:Int))))),(.d (.v (.int .u64 v1.cP))),(.d (.v (.int .u64 v1.cJ)))]:: .cells [(.d (.v (.int .u64 (0:Int)))),(.d (.v (.int .u64 (0:Int)))),(.d (.v (.int .u64 (0:Int)))),(.d (.v (.int .u64 (0:Int)))),(.d (.v (.int .u64 (0:Int)))),(.d (.v (.int .u64 (0:Int))))]::l
def zk(v1:cl)(v3:Int)(l:amT aq):amT aq:= .cells [(.d (.v (.int .u64 v1.cr))),(.d (.v (.int .u64 v1.cE))),(.d (.v (.int .u64 ((v3).tmod (4294967296:Int))))),(.d (.v (.int .u64 v1.cV))),(.d (.v (.int .u64 v1.cP))),(.d (.v (.int .u64 v1.cJ)))]:: .cells [(.d (.v (.int .u64 (0:Int)))),(.d (.v (.int .u64 (0:Int)))),(.d (.v (.int .u64 (0:Int)))),(.d (.v (.int .u64 (0:Int)))),(.d (.v (.int .u64 (0:Int)))),(.d (.v (.int .u64 (0:Int))))]::l
def BH(v1:cl)(v3:Int)(v6:Int)(v9:Int)(v12:Int)(l:amT aq):amT aq:= .cells [(.d (.v (.int .u64 v1.cr))),(.d (.v (.int .u64 v1.cE))),(.d (.v (.int .u64 ((v3).tmod (4294967296:Int))))),(.d (.v (.int .u64 ((v6).tmod (4294967296:Int))))),(.d (.v (.int .u64 ((v9).tmod (4294967296:Int))))),(.d (.v (.int .u64 ((v12).tmod (4294967296:Int)))))]:: .cells [(.d (.v (.int .u64 (0:Int)))),(.d (.v (.int .u64 (0:Int)))),(.d (.v (.int .u64 (0:Int)))),(.d (.v (.int .u64 (0:Int)))),(.d (.v (.int .u64 (0:Int)))),(.d (.v (.int .u64 (0:Int))))]::l
def ED(v1:cl)(l:amT aq):amT aq:= .cells (eC v1).cells:: .cells [(.d (.v (.int .u64 (0:Int)))),(.d (.v (.int .u64 (0:Int)))),(.d (.v (.int .u64 (0:Int)))),(.d (.v (.int .u64 (0:Int)))),(.d (.v (.int .u64 (0:Int)))),(.d (.v (.int .u64 (0:Int))))]::l
theorem abD{N v1 v2 r}(J:Bv N v1 v2=some r):KF 224 [(eC v1),(ar (2:Int)),(.d (.v (.int .u64 v2)))] (eC r):=by
 rw[Bv]at J;refine lO Tryz.func224 rfl (by kernel_rfl) ?_;refine ft [0,1,2] 0 (amg _) (s':=⟨32,[(0,(eC v1)),(1,(ar (2:Int))),(2,(.d (.v (.int .u64 v2))))],[]⟩) (by kernel_rfl) ?_;refine au ?_;refine rg [] [(3,(.ptr 0 0)),(6,(.ptr 1 0))] (ED v1 []) (by kernel_rfl) ?_;refine au ?_;refine rg [] [(7,(.d (.v (.int .u64 (0:Int)))))] (ED v1 []) (by kernel_rfl) ?_;refine au ?_;refine au ?_;refine rg [] [(8,(ar (2:Int)))] (ED v1 []) (by kernel_rfl) ?_;refine dn ?_;refine BD 8 ?_;refine gn ?_;refine au ?_;refine au ?_;refine rg [] [(12,(az (decide ((2:Int)<6))))] (ED v1 []) (by kernel_rfl) ?_;refine cS (t:=(decide ((2:Int)<6))) (by kernel_rfl) rfl ?_;refine ct ?_;refine aM ?_;refine au ?_;refine dn ?_;refine au ?_;obtain⟨v3,h1,J⟩:=bm J;refine rg [(4,⟨_,_, .lt (z:=2) (n:=6) (by decide) (by decide)⟩),(13,⟨_,_, .nz (b:=4294967296) (by decide)⟩),(26,⟨_,_, .eq (congrArg (λz=>AV.d (.v (.int .u64 z))) (amo h1))⟩)] [(9,(.d (.v (.int .u64 v3))))] (ED v1 []) (by kernel_rfl) ?_;refine au ?_;refine rg [(7,⟨_,_, .nz (b:=4294967296) (by decide)⟩),(10,⟨_,_, .lt (z:=2) (n:=6) (by decide) (by decide)⟩)] [] (zk v1 v3 []) (by kernel_rfl) ?_;refine au ?_;obtain⟨v4,h2,J⟩:=bm J
 refine rg [(4,⟨_,_, .nz (b:=4294967296) (by decide)⟩),(8,⟨_,_, .eq (congrArg (λz=>AV.d (.v (.int .u64 z))) (amo h2))⟩)] [(7,(.d (.v (.int .u64 v4))))] (zk v1 v3 []) (by kernel_rfl) ?_;obtain⟨v5,h3,J⟩:=bm J;refine re [(4,⟨_,_, .nz (b:=4294967296) (by decide)⟩),(8,⟨_,_, .eq (congrArg (λz=>AV.d (.v (.int .u64 z))) (amo h3))⟩)] [(2,(.d (.v (.int .u64 v5)))),(30,(.d (.v (.int .u64 (IntKind.u64.wrap ((v2).tdiv (4294967296:Int))))))),(29,(.d (.v (.int .u64 v2))))] (zk v1 v3 []) (by kernel_rfl) ?_;refine dU ?_;refine aM ?_;refine re [(5,⟨_,_, .eq (x:=(ar (aE ((2:Int)+(1:Int))))) (y:=(ar (3:Int))) (by kernel_rfl)⟩)] [(8,(ar (3:Int))),(14,(ar (3:Int))),(13,(ar (2:Int)))] (zk v1 v3 []) (by kernel_rfl) ?_;refine aM ?_;refine gn ?_;refine au ?_;refine au ?_;refine rg [] [(12,(az (decide ((3:Int)<6))))] (zk v1 v3 []) (by kernel_rfl) ?_;refine cS (t:=(decide ((3:Int)<6))) (by kernel_rfl) rfl ?_;refine ct ?_;refine aM ?_;refine au ?_;refine dn ?_;refine au ?_;obtain⟨v6,h4,J⟩:=bm J;refine rg [(4,⟨_,_, .lt (z:=3) (n:=6) (by decide) (by decide)⟩),(13,⟨_,_, .nz (b:=4294967296) (by decide)⟩),(26,⟨_,_, .eq (congrArg (λz=>AV.d (.v (.int .u64 z))) (amo h4))⟩)] [(9,(.d (.v (.int .u64 v6))))] (zk v1 v3 []) (by kernel_rfl) ?_
 refine au ?_;refine rg [(7,⟨_,_, .nz (b:=4294967296) (by decide)⟩),(10,⟨_,_, .lt (z:=3) (n:=6) (by decide) (by decide)⟩)] [] (zV v1 v3 v6 []) (by kernel_rfl) ?_;refine au ?_;obtain⟨v7,h5,J⟩:=bm J;refine rg [(4,⟨_,_, .nz (b:=4294967296) (by decide)⟩),(8,⟨_,_, .eq (congrArg (λz=>AV.d (.v (.int .u64 z))) (amo h5))⟩)] [(7,(.d (.v (.int .u64 v7))))] (zV v1 v3 v6 []) (by kernel_rfl) ?_;obtain⟨v8,h6,J⟩:=bm J;refine re [(4,⟨_,_, .nz (b:=4294967296) (by decide)⟩),(8,⟨_,_, .eq (congrArg (λz=>AV.d (.v (.int .u64 z))) (amo h6))⟩)] [(2,(.d (.v (.int .u64 v8)))),(30,(.d (.v (.int .u64 (IntKind.u64.wrap ((v5).tdiv (4294967296:Int))))))),(29,(.d (.v (.int .u64 v5))))] (zV v1 v3 v6 []) (by kernel_rfl) ?_;refine dU ?_;refine aM ?_;refine re [(5,⟨_,_, .eq (x:=(ar (aE ((3:Int)+(1:Int))))) (y:=(ar (4:Int))) (by kernel_rfl)⟩)] [(8,(ar (4:Int))),(14,(ar (4:Int))),(13,(ar (3:Int)))] (zV v1 v3 v6 []) (by kernel_rfl) ?_;refine aM ?_;refine gn ?_;refine au ?_;refine au ?_;refine rg [] [(12,(az (decide ((4:Int)<6))))] (zV v1 v3 v6 []) (by kernel_rfl) ?_;refine cS (t:=(decide ((4:Int)<6))) (by kernel_rfl) rfl ?_;refine ct ?_;refine aM ?_;refine au ?_;refine dn ?_;refine au ?_;obtain⟨v9,h7,J⟩:=bm J
 refine rg [(4,⟨_,_, .lt (z:=4) (n:=6) (by decide) (by decide)⟩),(13,⟨_,_, .nz (b:=4294967296) (by decide)⟩),(26,⟨_,_, .eq (congrArg (λz=>AV.d (.v (.int .u64 z))) (amo h7))⟩)] [(9,(.d (.v (.int .u64 v9))))] (zV v1 v3 v6 []) (by kernel_rfl) ?_;refine au ?_;refine rg [(7,⟨_,_, .nz (b:=4294967296) (by decide)⟩),(10,⟨_,_, .lt (z:=4) (n:=6) (by decide) (by decide)⟩)] [] (ym v1 v3 v6 v9 []) (by kernel_rfl) ?_;refine au ?_;obtain⟨v10,h8,J⟩:=bm J;refine rg [(4,⟨_,_, .nz (b:=4294967296) (by decide)⟩),(8,⟨_,_, .eq (congrArg (λz=>AV.d (.v (.int .u64 z))) (amo h8))⟩)] [(7,(.d (.v (.int .u64 v10))))] (ym v1 v3 v6 v9 []) (by kernel_rfl) ?_;obtain⟨v11,h9,J⟩:=bm J;refine re [(4,⟨_,_, .nz (b:=4294967296) (by decide)⟩),(8,⟨_,_, .eq (congrArg (λz=>AV.d (.v (.int .u64 z))) (amo h9))⟩)] [(2,(.d (.v (.int .u64 v11)))),(30,(.d (.v (.int .u64 (IntKind.u64.wrap ((v8).tdiv (4294967296:Int))))))),(29,(.d (.v (.int .u64 v8))))] (ym v1 v3 v6 v9 []) (by kernel_rfl) ?_;refine dU ?_;refine aM ?_;refine re [(5,⟨_,_, .eq (x:=(ar (aE ((4:Int)+(1:Int))))) (y:=(ar (5:Int))) (by kernel_rfl)⟩)] [(8,(ar (5:Int))),(14,(ar (5:Int))),(13,(ar (4:Int)))] (ym v1 v3 v6 v9 []) (by kernel_rfl) ?_;refine aM ?_;refine gn ?_;refine au ?_;refine au ?_
 refine rg [] [(12,(az (decide ((5:Int)<6))))] (ym v1 v3 v6 v9 []) (by kernel_rfl) ?_;refine cS (t:=(decide ((5:Int)<6))) (by kernel_rfl) rfl ?_;refine ct ?_;refine aM ?_;refine au ?_;refine dn ?_;refine au ?_;obtain⟨v12,aW,J⟩:=bm J;refine rg [(4,⟨_,_, .lt (z:=5) (n:=6) (by decide) (by decide)⟩),(13,⟨_,_, .nz (b:=4294967296) (by decide)⟩),(26,⟨_,_, .eq (congrArg (λz=>AV.d (.v (.int .u64 z))) (amo aW))⟩)] [(9,(.d (.v (.int .u64 v12))))] (ym v1 v3 v6 v9 []) (by kernel_rfl) ?_;refine au ?_;refine rg [(7,⟨_,_, .nz (b:=4294967296) (by decide)⟩),(10,⟨_,_, .lt (z:=5) (n:=6) (by decide) (by decide)⟩)] [] (BH v1 v3 v6 v9 v12 []) (by kernel_rfl) ?_;refine au ?_;obtain⟨aF,aZ,J⟩:=bm J;refine rg [(4,⟨_,_, .nz (b:=4294967296) (by decide)⟩),(8,⟨_,_, .eq (congrArg (λz=>AV.d (.v (.int .u64 z))) (amo aZ))⟩)] [(7,(.d (.v (.int .u64 aF))))] (BH v1 v3 v6 v9 v12 []) (by kernel_rfl) ?_;obtain⟨aI,bj,J⟩:=bm J;refine re [(4,⟨_,_, .nz (b:=4294967296) (by decide)⟩),(8,⟨_,_, .eq (congrArg (λz=>AV.d (.v (.int .u64 z))) (amo bj))⟩)] [(2,(.d (.v (.int .u64 aI)))),(30,(.d (.v (.int .u64 (IntKind.u64.wrap ((v11).tdiv (4294967296:Int))))))),(29,(.d (.v (.int .u64 v11))))] (BH v1 v3 v6 v9 v12 []) (by kernel_rfl) ?_
 refine dU ?_;refine aM ?_;refine re [(5,⟨_,_, .eq (x:=(ar (aE ((5:Int)+(1:Int))))) (y:=(ar (6:Int))) (by kernel_rfl)⟩)] [(8,(ar (6:Int))),(14,(ar (6:Int))),(13,(ar (5:Int)))] (BH v1 v3 v6 v9 v12 []) (by kernel_rfl) ?_;refine aM ?_;refine gn ?_;refine au ?_;refine au ?_;refine rg [] [(12,(az (decide ((6:Int)<6))))] (BH v1 v3 v6 v9 v12 []) (by kernel_rfl) ?_;refine dm (t:=(decide ((6:Int)<6))) (by kernel_rfl) rfl ?_;refine kW (at_e (at_e (l4 rfl ?_)));refine aM ?_;refine au ?_;refine rg [] [] [.cells [(.d (.v (.int .u64 v1.cr))),(.d (.v (.int .u64 v1.cE))),(.d (.v (.int .u64 ((v3).tmod (4294967296:Int))))),(.d (.v (.int .u64 ((v6).tmod (4294967296:Int))))),(.d (.v (.int .u64 ((v9).tmod (4294967296:Int))))),(.d (.v (.int .u64 ((v12).tmod (4294967296:Int)))))], .cells [(.d (.v (.int .u64 v1.cr))),(.d (.v (.int .u64 v1.cE))),(.d (.v (.int .u64 ((v3).tmod (4294967296:Int))))),(.d (.v (.int .u64 ((v6).tmod (4294967296:Int))))),(.d (.v (.int .u64 ((v9).tmod (4294967296:Int))))),(.d (.v (.int .u64 ((v12).tmod (4294967296:Int)))))]] (by kernel_rfl) ?_;refine cU ?_;have hr:=amo J;subst hr;exact eJ (by kernel_rfl)
def vw(N:Nat)(v1:cl)(v2:Int)(v3:Int):amV cl:=
 Option.bind (CO N v1 (IntKind.u64.wrap (((v2).tmod (4294967296:Int))*((v3).tmod (4294967296:Int))))) λv4=>
 Option.bind (zo N v4 (IntKind.u64.wrap (((v2).tmod (4294967296:Int))*(IntKind.u64.wrap ((v3).tdiv (4294967296:Int)))))) λv5=>
 Option.bind (zo N v5 (IntKind.u64.wrap ((IntKind.u64.wrap ((v2).tdiv (4294967296:Int)))*((v3).tmod (4294967296:Int))))) λv6=>
 Option.bind (Bv N v6 (IntKind.u64.wrap ((IntKind.u64.wrap ((v2).tdiv (4294967296:Int)))*(IntKind.u64.wrap ((v3).tdiv (4294967296:Int)))))) λv7=>
 some v7
theorem J3{N v1 v2 v3}:KO 142 [(eC v1),(.d (.v (.int .u64 v2))),(.d (.v (.int .u64 v3)))] eC (vw N v1 v2 v3):=
 fw Tryz.func142 (aw λv4 h1=>aw λv5 h2=>aw λv6 h3=>aw λv7 h4=>gR [[],[(4,⟨_,_, .nz (b:=4294967296) (by decide)⟩),(10,⟨_,_, .nz (b:=4294967296) (by decide)⟩),(16,⟨_,_, .nz (b:=4294967296) (by decide)⟩),(22,⟨_,_, .nz (b:=4294967296) (by decide)⟩)],[(13,cL (agh h1))],[(13,cL (Xt h2))],[(13,cL (Xt h3))],[(13,cL (abD h4))]])
def Cx(N:Nat)(v2:amU):amT aV->Nat->amV (Int64×Bool)
 |[],_=>
  some ((0:Int64),false)
 |v5::v6,v3=>
  bif (bL v5.bo==bL v2)then
   some (v5.dR,true)
  else
   (Cx N v2 v6 (v3+1))
def Lq(N:Nat)(v1:amT aV)(v2:amU):amV (Int64×Bool):=
 Cx N v2 v1 0
theorem ak0{N v1 v2}:KO 144 [(.d (.sl (aS v1))),(di v2)] (λr=> .aY [(bk r.1),(az r.2)]) (Lq N v1 v2):=
 fw Tryz.func144 (gA [[],[]] (gT zc 0 v1 λh2=>e7 1 [] [0,1,6] 0 (λv3=>⟨25,[(0,(.d (.sl (aS v1)))),(1,(di v2)),(6,(ar (v3:Int)))],[]⟩) (λv3 h3 f1=>gR [[(7,oL v1 rX)],[f0 (cf h3)],[]]) (λv3 v5 v6 h3 f1 aJ=>gA [[(7,oL v1 rX)],[t0 (bZ h3)],[(7,oE (uP (bM h3)))]] (ax (λh4=>gR [[t0 h4],[(7,oE (uP (bM h3)))]]) λh4=>gb aJ () [[f0 h4],[(5,oq (cC h3 rfl h2))]] h3))))
def Dt(N:Nat)(v1:cl)(v2:cl):amV Bool:=
 bif (v1.cJ !=v2.cJ)then
  some (decide (v1.cJ<v2.cJ))
 else
  bif (v1.cP !=v2.cP)then
   some (decide (v1.cP<v2.cP))
  else
   bif (v1.cV !=v2.cV)then
    some (decide (v1.cV<v2.cV))
   else
    bif (v1.cX !=v2.cX)then
     some (decide (v1.cX<v2.cX))
    else
     bif (v1.cE !=v2.cE)then
      some (decide (v1.cE<v2.cE))
     else
      bif (v1.cr !=v2.cr)then
       some (decide (v1.cr<v2.cr))
      else
       some false
def gU(v1:cl)(v2:cl)(l:amT aq):amT aq:= .cells (eC v1).cells:: .cells (eC v2).cells::l
theorem alB{N v1 v2 r}(J:Dt N v1 v2=some r):KF 145 [(eC v1),(eC v2)] (az r):=by
 rw[Dt]at J;refine lO Tryz.func145 rfl (by kernel_rfl) ?_;refine ft [0,1] 0 (amg _) (s':=⟨24,[(0,(eC v1)),(1,(eC v2))],[]⟩) (by kernel_rfl) ?_;refine au ?_;refine rg [] [(2,(.ptr 0 0)),(3,(.ptr 1 0))] (gU v1 v2 []) (by kernel_rfl) ?_;refine au ?_;refine au ?_;refine rg [] [(5,(ar (5:Int)))] (gU v1 v2 []) (by kernel_rfl) ?_;refine dn ?_;refine BD 8 ?_;refine gn ?_;refine au ?_;refine au ?_;refine rg [] [(7,(az (decide ((5:Int)>=0))))] (gU v1 v2 []) (by kernel_rfl) ?_;refine cS (t:=(decide ((5:Int)>=0))) (by kernel_rfl) rfl ?_;refine ct ?_;refine aM ?_;refine au ?_;refine dn ?_;refine au ?_;refine rd bw (by kernel_rfl) [(4,⟨_,_, .lt (z:=5) (n:=6) (by decide) (by decide)⟩),(13,⟨_,_, .lt (z:=5) (n:=6) (by decide) (by decide)⟩)] [(16,(az (v1.cJ !=v2.cJ)))] (gU v1 v2 []) (by kernel_rfl) ?_;rcases dw (v1.cJ !=v2.cJ)with h1|h1
 ·replace J:=(c7 h1).symm.trans J;refine cS (t:=(v1.cJ !=v2.cJ)) (by kernel_rfl) h1 ?_;refine au ?_;refine rd bw (by kernel_rfl) [(4,⟨_,_, .lt (z:=5) (n:=6) (by decide) (by decide)⟩),(13,⟨_,_, .lt (z:=5) (n:=6) (by decide) (by decide)⟩)] [(4,(az (decide (v1.cJ<v2.cJ))))] (gU v1 v2 []) (by kernel_rfl) ?_;refine cU (dS (cT (cT (dS (cT ?_)))));have hr:=amo J;subst hr;exact eJ (by kernel_rfl)
 replace J:=(du h1).symm.trans J;refine dm (t:=(v1.cJ !=v2.cJ)) (by kernel_rfl) h1 ?_;refine ct ?_;refine dU ?_;refine aM ?_;refine re [(5,⟨_,_, .eq (x:=(ar (aE ((5:Int)-(1:Int))))) (y:=(ar (4:Int))) (by kernel_rfl)⟩)] [(5,(ar (4:Int))),(9,(ar (4:Int))),(8,(ar (5:Int)))] (gU v1 v2 []) (by kernel_rfl) ?_;refine aM ?_;refine gn ?_;refine au ?_;refine au ?_;refine rg [] [(7,(az (decide ((4:Int)>=0))))] (gU v1 v2 []) (by kernel_rfl) ?_;refine cS (t:=(decide ((4:Int)>=0))) (by kernel_rfl) rfl ?_;refine ct ?_;refine aM ?_;refine au ?_;refine dn ?_;refine au ?_;refine rd bw (by kernel_rfl) [(4,⟨_,_, .lt (z:=4) (n:=6) (by decide) (by decide)⟩),(13,⟨_,_, .lt (z:=4) (n:=6) (by decide) (by decide)⟩)] [(16,(az (v1.cP !=v2.cP)))] (gU v1 v2 []) (by kernel_rfl) ?_;rcases dw (v1.cP !=v2.cP)with h2|h2
 ·replace J:=(c7 h2).symm.trans J;refine cS (t:=(v1.cP !=v2.cP)) (by kernel_rfl) h2 ?_;refine au ?_;refine rd bw (by kernel_rfl) [(4,⟨_,_, .lt (z:=4) (n:=6) (by decide) (by decide)⟩),(13,⟨_,_, .lt (z:=4) (n:=6) (by decide) (by decide)⟩)] [(4,(az (decide (v1.cP<v2.cP))))] (gU v1 v2 []) (by kernel_rfl) ?_;refine cU (dS (cT (cT (dS (cT ?_)))));have hr:=amo J;subst hr;exact eJ (by kernel_rfl)
 replace J:=(du h2).symm.trans J;refine dm (t:=(v1.cP !=v2.cP)) (by kernel_rfl) h2 ?_;refine ct ?_;refine dU ?_;refine aM ?_;refine re [(5,⟨_,_, .eq (x:=(ar (aE ((4:Int)-(1:Int))))) (y:=(ar (3:Int))) (by kernel_rfl)⟩)] [(5,(ar (3:Int))),(9,(ar (3:Int))),(8,(ar (4:Int)))] (gU v1 v2 []) (by kernel_rfl) ?_;refine aM ?_;refine gn ?_;refine au ?_;refine au ?_;refine rg [] [(7,(az (decide ((3:Int)>=0))))] (gU v1 v2 []) (by kernel_rfl) ?_;refine cS (t:=(decide ((3:Int)>=0))) (by kernel_rfl) rfl ?_;refine ct ?_;refine aM ?_;refine au ?_;refine dn ?_;refine au ?_;refine rd bw (by kernel_rfl) [(4,⟨_,_, .lt (z:=3) (n:=6) (by decide) (by decide)⟩),(13,⟨_,_, .lt (z:=3) (n:=6) (by decide) (by decide)⟩)] [(16,(az (v1.cV !=v2.cV)))] (gU v1 v2 []) (by kernel_rfl) ?_;rcases dw (v1.cV !=v2.cV)with h3|h3
 ·replace J:=(c7 h3).symm.trans J;refine cS (t:=(v1.cV !=v2.cV)) (by kernel_rfl) h3 ?_;refine au ?_;refine rd bw (by kernel_rfl) [(4,⟨_,_, .lt (z:=3) (n:=6) (by decide) (by decide)⟩),(13,⟨_,_, .lt (z:=3) (n:=6) (by decide) (by decide)⟩)] [(4,(az (decide (v1.cV<v2.cV))))] (gU v1 v2 []) (by kernel_rfl) ?_;refine cU (dS (cT (cT (dS (cT ?_)))));have hr:=amo J;subst hr;exact eJ (by kernel_rfl)
 replace J:=(du h3).symm.trans J;refine dm (t:=(v1.cV !=v2.cV)) (by kernel_rfl) h3 ?_;refine ct ?_;refine dU ?_;refine aM ?_;refine re [(5,⟨_,_, .eq (x:=(ar (aE ((3:Int)-(1:Int))))) (y:=(ar (2:Int))) (by kernel_rfl)⟩)] [(5,(ar (2:Int))),(9,(ar (2:Int))),(8,(ar (3:Int)))] (gU v1 v2 []) (by kernel_rfl) ?_;refine aM ?_;refine gn ?_;refine au ?_;refine au ?_;refine rg [] [(7,(az (decide ((2:Int)>=0))))] (gU v1 v2 []) (by kernel_rfl) ?_;refine cS (t:=(decide ((2:Int)>=0))) (by kernel_rfl) rfl ?_;refine ct ?_;refine aM ?_;refine au ?_;refine dn ?_;refine au ?_;refine rd bw (by kernel_rfl) [(4,⟨_,_, .lt (z:=2) (n:=6) (by decide) (by decide)⟩),(13,⟨_,_, .lt (z:=2) (n:=6) (by decide) (by decide)⟩)] [(16,(az (v1.cX !=v2.cX)))] (gU v1 v2 []) (by kernel_rfl) ?_;rcases dw (v1.cX !=v2.cX)with h4|h4
 ·replace J:=(c7 h4).symm.trans J;refine cS (t:=(v1.cX !=v2.cX)) (by kernel_rfl) h4 ?_;refine au ?_;refine rd bw (by kernel_rfl) [(4,⟨_,_, .lt (z:=2) (n:=6) (by decide) (by decide)⟩),(13,⟨_,_, .lt (z:=2) (n:=6) (by decide) (by decide)⟩)] [(4,(az (decide (v1.cX<v2.cX))))] (gU v1 v2 []) (by kernel_rfl) ?_;refine cU (dS (cT (cT (dS (cT ?_)))));have hr:=amo J;subst hr;exact eJ (by kernel_rfl)
 replace J:=(du h4).symm.trans J;refine dm (t:=(v1.cX !=v2.cX)) (by kernel_rfl) h4 ?_;refine ct ?_;refine dU ?_;refine aM ?_;refine re [(5,⟨_,_, .eq (x:=(ar (aE ((2:Int)-(1:Int))))) (y:=(ar (1:Int))) (by kernel_rfl)⟩)] [(5,(ar (1:Int))),(9,(ar (1:Int))),(8,(ar (2:Int)))] (gU v1 v2 []) (by kernel_rfl) ?_;refine aM ?_;refine gn ?_;refine au ?_;refine au ?_;refine rg [] [(7,(az (decide ((1:Int)>=0))))] (gU v1 v2 []) (by kernel_rfl) ?_;refine cS (t:=(decide ((1:Int)>=0))) (by kernel_rfl) rfl ?_;refine ct ?_;refine aM ?_;refine au ?_;refine dn ?_;refine au ?_;refine rd bw (by kernel_rfl) [(4,⟨_,_, .lt (z:=1) (n:=6) (by decide) (by decide)⟩),(13,⟨_,_, .lt (z:=1) (n:=6) (by decide) (by decide)⟩)] [(16,(az (v1.cE !=v2.cE)))] (gU v1 v2 []) (by kernel_rfl) ?_;rcases dw (v1.cE !=v2.cE)with h5|h5
 ·replace J:=(c7 h5).symm.trans J;refine cS (t:=(v1.cE !=v2.cE)) (by kernel_rfl) h5 ?_;refine au ?_;refine rd bw (by kernel_rfl) [(4,⟨_,_, .lt (z:=1) (n:=6) (by decide) (by decide)⟩),(13,⟨_,_, .lt (z:=1) (n:=6) (by decide) (by decide)⟩)] [(4,(az (decide (v1.cE<v2.cE))))] (gU v1 v2 []) (by kernel_rfl) ?_;refine cU (dS (cT (cT (dS (cT ?_)))));have hr:=amo J;subst hr;exact eJ (by kernel_rfl)
 replace J:=(du h5).symm.trans J;refine dm (t:=(v1.cE !=v2.cE)) (by kernel_rfl) h5 ?_;refine ct ?_;refine dU ?_;refine aM ?_;refine re [(5,⟨_,_, .eq (x:=(ar (aE ((1:Int)-(1:Int))))) (y:=(ar (0:Int))) (by kernel_rfl)⟩)] [(5,(ar (0:Int))),(9,(ar (0:Int))),(8,(ar (1:Int)))] (gU v1 v2 []) (by kernel_rfl) ?_;refine aM ?_;refine gn ?_;refine au ?_;refine au ?_;refine rg [] [(7,(az (decide ((0:Int)>=0))))] (gU v1 v2 []) (by kernel_rfl) ?_;refine cS (t:=(decide ((0:Int)>=0))) (by kernel_rfl) rfl ?_;refine ct ?_;refine aM ?_;refine au ?_;refine dn ?_;refine au ?_;refine rd bw (by kernel_rfl) [(4,⟨_,_, .lt (z:=0) (n:=6) (by decide) (by decide)⟩),(13,⟨_,_, .lt (z:=0) (n:=6) (by decide) (by decide)⟩)] [(16,(az (v1.cr !=v2.cr)))] (gU v1 v2 []) (by kernel_rfl) ?_;rcases dw (v1.cr !=v2.cr)with h6|h6
 ·replace J:=(c7 h6).symm.trans J;refine cS (t:=(v1.cr !=v2.cr)) (by kernel_rfl) h6 ?_;refine au ?_;refine rd bw (by kernel_rfl) [(4,⟨_,_, .lt (z:=0) (n:=6) (by decide) (by decide)⟩),(13,⟨_,_, .lt (z:=0) (n:=6) (by decide) (by decide)⟩)] [(4,(az (decide (v1.cr<v2.cr))))] (gU v1 v2 []) (by kernel_rfl) ?_;refine cU (dS (cT (cT (dS (cT ?_)))));have hr:=amo J;subst hr;exact eJ (by kernel_rfl)
 replace J:=(du h6).symm.trans J;refine dm (t:=(v1.cr !=v2.cr)) (by kernel_rfl) h6 ?_;refine ct ?_;refine dU ?_;refine aM ?_;refine re [(5,⟨_,_, .eq (x:=(ar (aE ((0:Int)-(1:Int))))) (y:=(ar (-1:Int))) (by kernel_rfl)⟩)] [(5,(ar (-1:Int))),(9,(ar (-1:Int))),(8,(ar (0:Int)))] (gU v1 v2 []) (by kernel_rfl) ?_;refine aM ?_;refine gn ?_;refine au ?_;refine au ?_;refine rg [] [(7,(az (decide ((-1:Int)>=0))))] (gU v1 v2 []) (by kernel_rfl) ?_;refine dm (t:=(decide ((-1:Int)>=0))) (by kernel_rfl) rfl ?_;refine kW (at_e (at_e (l4 rfl ?_)));refine aM ?_;refine au ?_;refine rg [] [(4,(az false))] (gU v1 v2 []) (by kernel_rfl) ?_;refine cU ?_;have hr:=amo J;subst hr;exact eJ (by kernel_rfl)
def yS(N:Nat)(v4:Int)(v2:cl)(v6:Int)(v3:Int)(v8:Int)(v5:Int)(v10:Int)(v7:Int)(v12:Int)(v9:Int)(v11:Int)(aF:Int)(aI:Int):amV cl:=
 some (⟨(IntKind.u64.wrap (v4-(IntKind.u64.wrap (v2.cr+(0:Int))))),(IntKind.u64.wrap (v6-(IntKind.u64.wrap (v2.cE+v3)))),(IntKind.u64.wrap (v8-(IntKind.u64.wrap (v2.cX+v5)))),(IntKind.u64.wrap (v10-(IntKind.u64.wrap (v2.cV+v7)))),(IntKind.u64.wrap (v12-(IntKind.u64.wrap (v2.cP+v9)))),(IntKind.u64.wrap (aI-(IntKind.u64.wrap (v2.cJ+v11))))⟩:cl)
def xZ(N:Nat)(v1:cl)(v2:cl)(v4:Int)(v6:Int)(v3:Int)(v8:Int)(v5:Int)(v10:Int)(v7:Int)(v9:Int)(v11:Int)(v12:Int):amV cl:=
 bif (decide (v1.cJ<(IntKind.u64.wrap (v2.cJ+v11))))then
  yS N v4 v2 v6 v3 v8 v5 v10 v7 v12 v9 v11 (1:Int) (IntKind.u64.wrap (v1.cJ+(4294967296:Int)))
 else
  yS N v4 v2 v6 v3 v8 v5 v10 v7 v12 v9 v11 (0:Int) v1.cJ
def A6(N:Nat)(v1:cl)(v2:cl)(v4:Int)(v6:Int)(v3:Int)(v8:Int)(v5:Int)(v7:Int)(v9:Int)(v10:Int):amV cl:=
 bif (decide (v1.cP<(IntKind.u64.wrap (v2.cP+v9))))then
  xZ N v1 v2 v4 v6 v3 v8 v5 v10 v7 v9 (1:Int) (IntKind.u64.wrap (v1.cP+(4294967296:Int)))
 else
  xZ N v1 v2 v4 v6 v3 v8 v5 v10 v7 v9 (0:Int) v1.cP
def yP(N:Nat)(v1:cl)(v2:cl)(v4:Int)(v6:Int)(v3:Int)(v5:Int)(v7:Int)(v8:Int):amV cl:=
 bif (decide (v1.cV<(IntKind.u64.wrap (v2.cV+v7))))then
  A6 N v1 v2 v4 v6 v3 v8 v5 v7 (1:Int) (IntKind.u64.wrap (v1.cV+(4294967296:Int)))
 else
  A6 N v1 v2 v4 v6 v3 v8 v5 v7 (0:Int) v1.cV
def yU(N:Nat)(v1:cl)(v2:cl)(v4:Int)(v3:Int)(v5:Int)(v6:Int):amV cl:=
 bif (decide (v1.cX<(IntKind.u64.wrap (v2.cX+v5))))then
  yP N v1 v2 v4 v6 v3 v5 (1:Int) (IntKind.u64.wrap (v1.cX+(4294967296:Int)))
 else
  yP N v1 v2 v4 v6 v3 v5 (0:Int) v1.cX
def A5(N:Nat)(v1:cl)(v2:cl)(v3:Int)(v4:Int):amV cl:=
 bif (decide (v1.cE<(IntKind.u64.wrap (v2.cE+v3))))then
  yU N v1 v2 v4 v3 (1:Int) (IntKind.u64.wrap (v1.cE+(4294967296:Int)))
 else
  yU N v1 v2 v4 v3 (0:Int) v1.cE
def Bc(N:Nat)(v1:cl)(v2:cl):amV cl:=
 bif (decide (v1.cr<(IntKind.u64.wrap (v2.cr+(0:Int)))))then
  A5 N v1 v2 (1:Int) (IntKind.u64.wrap (v1.cr+(4294967296:Int)))
 else
  A5 N v1 v2 (0:Int) v1.cr
def yg(v4:Int)(v2:cl)(v6:Int)(v3:Int)(v8:Int)(v5:Int)(v10:Int)(v7:Int)(v12:Int)(v9:Int)(v1:cl)(l:amT aq):amT aq:= .cells [(.d (.v (.int .u64 (IntKind.u64.wrap (v4-(IntKind.u64.wrap (v2.cr+(0:Int)))))))),(.d (.v (.int .u64 (IntKind.u64.wrap (v6-(IntKind.u64.wrap (v2.cE+v3))))))),(.d (.v (.int .u64 (IntKind.u64.wrap (v8-(IntKind.u64.wrap (v2.cX+v5))))))),(.d (.v (.int .u64 (IntKind.u64.wrap (v10-(IntKind.u64.wrap (v2.cV+v7))))))),(.d (.v (.int .u64 (IntKind.u64.wrap (v12-(IntKind.u64.wrap (v2.cP+v9))))))),(.d (.v (.int .u64 v1.cJ)))]:: .cells (eC v2).cells:: .cells [(.d (.v (.int .u64 (0:Int)))),(.d (.v (.int .u64 (0:Int)))),(.d (.v (.int .u64 (0:Int)))),(.d (.v (.int .u64 (0:Int)))),(.d (.v (.int .u64 (0:Int)))),(.d (.v (.int .u64 (0:Int))))]::l
def yt(v4:Int)(v2:cl)(v6:Int)(v3:Int)(v8:Int)(v5:Int)(v10:Int)(v7:Int)(v1:cl)(l:amT aq):amT aq:= .cells [(.d (.v (.int .u64 (IntKind.u64.wrap (v4-(IntKind.u64.wrap (v2.cr+(0:Int)))))))),(.d (.v (.int .u64 (IntKind.u64.wrap (v6-(IntKind.u64.wrap (v2.cE+v3))))))),(.d (.v (.int .u64 (IntKind.u64.wrap (v8-(IntKind.u64.wrap (v2.cX+v5))))))),(.d (.v (.int .u64 (IntKind.u64.wrap (v10-(IntKind.u64.wrap (v2.cV+v7))))))),(.d (.v (.int .u64 v1.cP))),(.d (.v (.int .u64 v1.cJ)))]:: .cells (eC v2).cells:: .cells [(.d (.v (.int .u64 (0:Int)))),(.d (.v (.int .u64 (0:Int)))),(.d (.v (.int .u64 (0:Int)))),(.d (.v (.int .u64 (0:Int)))),(.d (.v (.int .u64 (0:Int)))),(.d (.v (.int .u64 (0:Int))))]::l
def Be(v4:Int)(v2:cl)(v6:Int)(v3:Int)(v8:Int)(v5:Int)(v1:cl)(l:amT aq):amT aq:= .cells [(.d (.v (.int .u64 (IntKind.u64.wrap (v4-(IntKind.u64.wrap (v2.cr+(0:Int)))))))),(.d (.v (.int .u64 (IntKind.u64.wrap (v6-(IntKind.u64.wrap (v2.cE+v3))))))),(.d (.v (.int .u64 (IntKind.u64.wrap (v8-(IntKind.u64.wrap (v2.cX+v5))))))),(.d (.v (.int .u64 v1.cV))),(.d (.v (.int .u64 v1.cP))),(.d (.v (.int .u64 v1.cJ)))]:: .cells (eC v2).cells:: .cells [(.d (.v (.int .u64 (0:Int)))),(.d (.v (.int .u64 (0:Int)))),(.d (.v (.int .u64 (0:Int)))),(.d (.v (.int .u64 (0:Int)))),(.d (.v (.int .u64 (0:Int)))),(.d (.v (.int .u64 (0:Int))))]::l
def zn(v4:Int)(v2:cl)(v6:Int)(v3:Int)(v1:cl)(l:amT aq):amT aq:= .cells [(.d (.v (.int .u64 (IntKind.u64.wrap (v4-(IntKind.u64.wrap (v2.cr+(0:Int)))))))),(.d (.v (.int .u64 (IntKind.u64.wrap (v6-(IntKind.u64.wrap (v2.cE+v3))))))),(.d (.v (.int .u64 v1.cX))),(.d (.v (.int .u64 v1.cV))),(.d (.v (.int .u64 v1.cP))),(.d (.v (.int .u64 v1.cJ)))]:: .cells (eC v2).cells:: .cells [(.d (.v (.int .u64 (0:Int)))),(.d (.v (.int .u64 (0:Int)))),(.d (.v (.int .u64 (0:Int)))),(.d (.v (.int .u64 (0:Int)))),(.d (.v (.int .u64 (0:Int)))),(.d (.v (.int .u64 (0:Int))))]::l
def A9(v4:Int)(v2:cl)(v1:cl)(l:amT aq):amT aq:= .cells [(.d (.v (.int .u64 (IntKind.u64.wrap (v4-(IntKind.u64.wrap (v2.cr+(0:Int)))))))),(.d (.v (.int .u64 v1.cE))),(.d (.v (.int .u64 v1.cX))),(.d (.v (.int .u64 v1.cV))),(.d (.v (.int .u64 v1.cP))),(.d (.v (.int .u64 v1.cJ)))]:: .cells (eC v2).cells:: .cells [(.d (.v (.int .u64 (0:Int)))),(.d (.v (.int .u64 (0:Int)))),(.d (.v (.int .u64 (0:Int)))),(.d (.v (.int .u64 (0:Int)))),(.d (.v (.int .u64 (0:Int)))),(.d (.v (.int .u64 (0:Int))))]::l
def xu(v1:cl)(v2:cl)(l:amT aq):amT aq:= .cells (eC v1).cells:: .cells (eC v2).cells:: .cells [(.d (.v (.int .u64 (0:Int)))),(.d (.v (.int .u64 (0:Int)))),(.d (.v (.int .u64 (0:Int)))),(.d (.v (.int .u64 (0:Int)))),(.d (.v (.int .u64 (0:Int)))),(.d (.v (.int .u64 (0:Int))))]::l
def WZ(v4:Int)(v2:cl)(v6:Int)(v3:Int)(v8:Int)(v5:Int)(v10:Int)(v7:Int)(v12:Int)(v9:Int)(aI:Int)(v11:Int)(l:amT aq):amT aq:= .cells [(.d (.v (.int .u64 (IntKind.u64.wrap (v4-(IntKind.u64.wrap (v2.cr+(0:Int)))))))),(.d (.v (.int .u64 (IntKind.u64.wrap (v6-(IntKind.u64.wrap (v2.cE+v3))))))),(.d (.v (.int .u64 (IntKind.u64.wrap (v8-(IntKind.u64.wrap (v2.cX+v5))))))),(.d (.v (.int .u64 (IntKind.u64.wrap (v10-(IntKind.u64.wrap (v2.cV+v7))))))),(.d (.v (.int .u64 (IntKind.u64.wrap (v12-(IntKind.u64.wrap (v2.cP+v9))))))),(.d (.v (.int .u64 (IntKind.u64.wrap (aI-(IntKind.u64.wrap (v2.cJ+v11)))))))]:: .cells (eC v2).cells::l
def Yn(v4:Int)(v2:cl)(v6:Int)(v3:Int)(v8:Int)(v5:Int)(v10:Int)(v7:Int)(v12:Int)(v9:Int)(v1:cl)(l:amT aq):amT aq:= .cells [(.d (.v (.int .u64 (IntKind.u64.wrap (v4-(IntKind.u64.wrap (v2.cr+(0:Int)))))))),(.d (.v (.int .u64 (IntKind.u64.wrap (v6-(IntKind.u64.wrap (v2.cE+v3))))))),(.d (.v (.int .u64 (IntKind.u64.wrap (v8-(IntKind.u64.wrap (v2.cX+v5))))))),(.d (.v (.int .u64 (IntKind.u64.wrap (v10-(IntKind.u64.wrap (v2.cV+v7))))))),(.d (.v (.int .u64 (IntKind.u64.wrap (v12-(IntKind.u64.wrap (v2.cP+v9))))))),(.d (.v (.int .u64 (IntKind.u64.wrap (v1.cJ+(4294967296:Int))))))]:: .cells (eC v2).cells:: .cells [(.d (.v (.int .u64 (0:Int)))),(.d (.v (.int .u64 (0:Int)))),(.d (.v (.int .u64 (0:Int)))),(.d (.v (.int .u64 (0:Int)))),(.d (.v (.int .u64 (0:Int)))),(.d (.v (.int .u64 (0:Int))))]::l
def Wg(v4:Int)(v2:cl)(v6:Int)(v3:Int)(v8:Int)(v5:Int)(v10:Int)(v7:Int)(v1:cl)(l:amT aq):amT aq:= .cells [(.d (.v (.int .u64 (IntKind.u64.wrap (v4-(IntKind.u64.wrap (v2.cr+(0:Int)))))))),(.d (.v (.int .u64 (IntKind.u64.wrap (v6-(IntKind.u64.wrap (v2.cE+v3))))))),(.d (.v (.int .u64 (IntKind.u64.wrap (v8-(IntKind.u64.wrap (v2.cX+v5))))))),(.d (.v (.int .u64 (IntKind.u64.wrap (v10-(IntKind.u64.wrap (v2.cV+v7))))))),(.d (.v (.int .u64 (IntKind.u64.wrap (v1.cP+(4294967296:Int)))))),(.d (.v (.int .u64 v1.cJ)))]:: .cells (eC v2).cells:: .cells [(.d (.v (.int .u64 (0:Int)))),(.d (.v (.int .u64 (0:Int)))),(.d (.v (.int .u64 (0:Int)))),(.d (.v (.int .u64 (0:Int)))),(.d (.v (.int .u64 (0:Int)))),(.d (.v (.int .u64 (0:Int))))]::l
def Vs(v4:Int)(v2:cl)(v6:Int)(v3:Int)(v8:Int)(v5:Int)(v1:cl)(l:amT aq):amT aq:= .cells [(.d (.v (.int .u64 (IntKind.u64.wrap (v4-(IntKind.u64.wrap (v2.cr+(0:Int)))))))),(.d (.v (.int .u64 (IntKind.u64.wrap (v6-(IntKind.u64.wrap (v2.cE+v3))))))),(.d (.v (.int .u64 (IntKind.u64.wrap (v8-(IntKind.u64.wrap (v2.cX+v5))))))),(.d (.v (.int .u64 (IntKind.u64.wrap (v1.cV+(4294967296:Int)))))),(.d (.v (.int .u64 v1.cP))),(.d (.v (.int .u64 v1.cJ)))]:: .cells (eC v2).cells:: .cells [(.d (.v (.int .u64 (0:Int)))),(.d (.v (.int .u64 (0:Int)))),(.d (.v (.int .u64 (0:Int)))),(.d (.v (.int .u64 (0:Int)))),(.d (.v (.int .u64 (0:Int)))),(.d (.v (.int .u64 (0:Int))))]::l
def Uu(v4:Int)(v2:cl)(v6:Int)(v3:Int)(v1:cl)(l:amT aq):amT aq:= .cells [(.d (.v (.int .u64 (IntKind.u64.wrap (v4-(IntKind.u64.wrap (v2.cr+(0:Int)))))))),(.d (.v (.int .u64 (IntKind.u64.wrap (v6-(IntKind.u64.wrap (v2.cE+v3))))))),(.d (.v (.int .u64 (IntKind.u64.wrap (v1.cX+(4294967296:Int)))))),(.d (.v (.int .u64 v1.cV))),(.d (.v (.int .u64 v1.cP))),(.d (.v (.int .u64 v1.cJ)))]:: .cells (eC v2).cells:: .cells [(.d (.v (.int .u64 (0:Int)))),(.d (.v (.int .u64 (0:Int)))),(.d (.v (.int .u64 (0:Int)))),(.d (.v (.int .u64 (0:Int)))),(.d (.v (.int .u64 (0:Int)))),(.d (.v (.int .u64 (0:Int))))]::l
def Vq(v4:Int)(v2:cl)(v1:cl)(l:amT aq):amT aq:= .cells [(.d (.v (.int .u64 (IntKind.u64.wrap (v4-(IntKind.u64.wrap (v2.cr+(0:Int)))))))),(.d (.v (.int .u64 (IntKind.u64.wrap (v1.cE+(4294967296:Int)))))),(.d (.v (.int .u64 v1.cX))),(.d (.v (.int .u64 v1.cV))),(.d (.v (.int .u64 v1.cP))),(.d (.v (.int .u64 v1.cJ)))]:: .cells (eC v2).cells:: .cells [(.d (.v (.int .u64 (0:Int)))),(.d (.v (.int .u64 (0:Int)))),(.d (.v (.int .u64 (0:Int)))),(.d (.v (.int .u64 (0:Int)))),(.d (.v (.int .u64 (0:Int)))),(.d (.v (.int .u64 (0:Int))))]::l
def QF(v1:cl)(v2:cl)(l:amT aq):amT aq:= .cells [(.d (.v (.int .u64 (IntKind.u64.wrap (v1.cr+(4294967296:Int)))))),(.d (.v (.int .u64 v1.cE))),(.d (.v (.int .u64 v1.cX))),(.d (.v (.int .u64 v1.cV))),(.d (.v (.int .u64 v1.cP))),(.d (.v (.int .u64 v1.cJ)))]:: .cells (eC v2).cells:: .cells [(.d (.v (.int .u64 (0:Int)))),(.d (.v (.int .u64 (0:Int)))),(.d (.v (.int .u64 (0:Int)))),(.d (.v (.int .u64 (0:Int)))),(.d (.v (.int .u64 (0:Int)))),(.d (.v (.int .u64 (0:Int))))]::l
def Oi(v4:Int)(v2:cl)(v6:Int)(v3:Int)(v8:Int)(v5:Int)(v10:Int)(v7:Int)(v12:Int)(v9:Int)(aI:Int)(v11:Int)(l:amT aq):amT aq:=WZ v4 v2 v6 v3 v8 v5 v10 v7 v12 v9 aI v11 (.cells [(.d (.v (.int .u64 (0:Int)))),(.d (.v (.int .u64 (0:Int)))),(.d (.v (.int .u64 (0:Int)))),(.d (.v (.int .u64 (0:Int)))),(.d (.v (.int .u64 (0:Int)))),(.d (.v (.int .u64 (0:Int))))]::l)
theorem SG{N v1 v2 r}(J:Bc N v1 v2=some r):KF 146 [(eC v1),(eC v2)] (eC r):=by
 rw[Bc]at J;refine lO Tryz.func146 rfl (by kernel_rfl) ?_;refine ft [0,1] 0 (amg _) (s':=⟨34,[(0,(eC v1)),(1,(eC v2))],[]⟩) (by kernel_rfl) ?_;refine au ?_;refine rg [] [(2,(.ptr 0 0)),(3,(.ptr 1 0)),(4,(.ptr 2 0))] (xu v1 v2 []) (by kernel_rfl) ?_;refine au ?_;refine rg [] [(5,(.d (.v (.int .u64 (0:Int)))))] (xu v1 v2 []) (by kernel_rfl) ?_;refine au ?_;refine au ?_;refine rg [] [(6,(ar (0:Int)))] (xu v1 v2 []) (by kernel_rfl) ?_;refine dn ?_;refine BD 8 ?_;refine gn ?_;refine au ?_;refine au ?_;refine rg [] [(9,(az (decide ((0:Int)<6))))] (xu v1 v2 []) (by kernel_rfl) ?_;refine cS (t:=(decide ((0:Int)<6))) (by kernel_rfl) rfl ?_;refine ct ?_;refine aM ?_;refine au ?_;refine dn ?_;refine au ?_;refine rg [(4,⟨_,_, .lt (z:=0) (n:=6) (by decide) (by decide)⟩)] [(7,(.d (.v (.int .u64 (IntKind.u64.wrap (v2.cr+(0:Int)))))))] (xu v1 v2 []) (by kernel_rfl) ?_;refine au ?_;refine rg [] [(5,(.d (.v (.int .u64 (0:Int)))))] (xu v1 v2 []) (by kernel_rfl) ?_;refine au ?_;refine au ?_;refine rg [(4,⟨_,_, .lt (z:=0) (n:=6) (by decide) (by decide)⟩)] [(21,(az (decide (v1.cr<(IntKind.u64.wrap (v2.cr+(0:Int)))))))] (xu v1 v2 []) (by kernel_rfl) ?_;refine pe [2,3,4,5,6,7] 3 (λ((v3,v4):Int×Int)=>⟨34,[(2,(.ptr 0 0)),(3,(.ptr 1 0)),(4,(.ptr 2 0)),(5,(.d (.v (.int .u64 v3)))),(6,(ar (0:Int))),(7,(.d (.v (.int .u64 (IntKind.u64.wrap (v2.cr+(0:Int)))))))],[.cells [(.d (.v (.int .u64 v4))),(.d (.v (.int .u64 v1.cE))),(.d (.v (.int .u64 v1.cX))),(.d (.v (.int .u64 v1.cV))),(.d (.v (.int .u64 v1.cP))),(.d (.v (.int .u64 v1.cJ)))], .cells (eC v2).cells, .cells [(.d (.v (.int .u64 (0:Int)))),(.d (.v (.int .u64 (0:Int)))),(.d (.v (.int .u64 (0:Int)))),(.d (.v (.int .u64 (0:Int)))),(.d (.v (.int .u64 (0:Int)))),(.d (.v (.int .u64 (0:Int))))]]⟩) (λ((v3,v4):Int×Int)=>A5 N v1 v2 v3 v4=some r) (amd rfl) ?_ ?_
 ·rcases dw (decide (v1.cr<(IntKind.u64.wrap (v2.cr+(0:Int)))))with h6|h6
  ·replace J:=(c7 h6).symm.trans J;refine cS (t:=(decide (v1.cr<(IntKind.u64.wrap (v2.cr+(0:Int)))))) (by kernel_rfl) h6 ?_;refine au ?_;refine rg [(4,⟨_,_, .lt (z:=0) (n:=6) (by decide) (by decide)⟩),(13,⟨_,_, .lt (z:=0) (n:=6) (by decide) (by decide)⟩)] [] (QF v1 v2 []) (by kernel_rfl) ?_;refine re [] [(5,(.d (.v (.int .u64 (1:Int)))))] (QF v1 v2 []) (by kernel_rfl) ?_;refine aM ?_;exact⟨((1:Int),(IntKind.u64.wrap (v1.cr+(4294967296:Int)))),by kernel_rfl,J⟩
  replace J:=(du h6).symm.trans J;refine dm (t:=(decide (v1.cr<(IntKind.u64.wrap (v2.cr+(0:Int)))))) (by kernel_rfl) h6 ?_;refine ct ?_;refine aM ?_;exact⟨((0:Int),v1.cr),by kernel_rfl,J⟩
 rintro⟨v3,v4⟩ J
 try dsimp only at J
 rw[A5]at J;refine re [(4,⟨_,_, .lt (z:=0) (n:=6) (by decide) (by decide)⟩),(16,⟨_,_, .lt (z:=0) (n:=6) (by decide) (by decide)⟩)] [(32,(.ptr 0 0)),(31,(.d (.v (.int .u64 (IntKind.u64.wrap (v4-(IntKind.u64.wrap (v2.cr+(0:Int))))))))),(30,(.d (.v (.int .u64 (IntKind.u64.wrap (v2.cr+(0:Int))))))),(29,(.d (.v (.int .u64 v4)))),(28,(.ptr 0 0)),(27,(ar (0:Int)))] (A9 v4 v2 v1 []) (by kernel_rfl) ?_;refine dU ?_;refine aM ?_;refine re [(5,⟨_,_, .eq (x:=(ar (aE ((0:Int)+(1:Int))))) (y:=(ar (1:Int))) (by kernel_rfl)⟩)] [(6,(ar (1:Int))),(11,(ar (1:Int))),(10,(ar (0:Int)))] (A9 v4 v2 v1 []) (by kernel_rfl) ?_;refine aM ?_;refine gn ?_;refine au ?_;refine au ?_;refine rg [] [(9,(az (decide ((1:Int)<6))))] (A9 v4 v2 v1 []) (by kernel_rfl) ?_;refine cS (t:=(decide ((1:Int)<6))) (by kernel_rfl) rfl ?_;refine ct ?_;refine aM ?_;refine au ?_;refine dn ?_;refine au ?_;refine rg [(4,⟨_,_, .lt (z:=1) (n:=6) (by decide) (by decide)⟩)] [(7,(.d (.v (.int .u64 (IntKind.u64.wrap (v2.cE+v3))))))] (A9 v4 v2 v1 []) (by kernel_rfl) ?_;refine au ?_;refine rg [] [(5,(.d (.v (.int .u64 (0:Int)))))] (A9 v4 v2 v1 []) (by kernel_rfl) ?_;refine au ?_;refine au ?_;refine rg [(4,⟨_,_, .lt (z:=1) (n:=6) (by decide) (by decide)⟩)] [(21,(az (decide (v1.cE<(IntKind.u64.wrap (v2.cE+v3))))))] (A9 v4 v2 v1 []) (by kernel_rfl) ?_
 refine pe [2,3,4,5,6,7] 3 (λ((v5,v6):Int×Int)=>⟨34,[(2,(.ptr 0 0)),(3,(.ptr 1 0)),(4,(.ptr 2 0)),(5,(.d (.v (.int .u64 v5)))),(6,(ar (1:Int))),(7,(.d (.v (.int .u64 (IntKind.u64.wrap (v2.cE+v3))))))],[.cells [(.d (.v (.int .u64 (IntKind.u64.wrap (v4-(IntKind.u64.wrap (v2.cr+(0:Int)))))))),(.d (.v (.int .u64 v6))),(.d (.v (.int .u64 v1.cX))),(.d (.v (.int .u64 v1.cV))),(.d (.v (.int .u64 v1.cP))),(.d (.v (.int .u64 v1.cJ)))], .cells (eC v2).cells, .cells [(.d (.v (.int .u64 (0:Int)))),(.d (.v (.int .u64 (0:Int)))),(.d (.v (.int .u64 (0:Int)))),(.d (.v (.int .u64 (0:Int)))),(.d (.v (.int .u64 (0:Int)))),(.d (.v (.int .u64 (0:Int))))]]⟩) (λ((v5,v6):Int×Int)=>yU N v1 v2 v4 v3 v5 v6=some r) (amd rfl) ?_ ?_
 ·rcases dw (decide (v1.cE<(IntKind.u64.wrap (v2.cE+v3))))with h5|h5
  ·replace J:=(c7 h5).symm.trans J;refine cS (t:=(decide (v1.cE<(IntKind.u64.wrap (v2.cE+v3))))) (by kernel_rfl) h5 ?_;refine au ?_;refine rg [(4,⟨_,_, .lt (z:=1) (n:=6) (by decide) (by decide)⟩),(13,⟨_,_, .lt (z:=1) (n:=6) (by decide) (by decide)⟩)] [] (Vq v4 v2 v1 []) (by kernel_rfl) ?_;refine re [] [(5,(.d (.v (.int .u64 (1:Int)))))] (Vq v4 v2 v1 []) (by kernel_rfl) ?_;refine aM ?_;exact⟨((1:Int),(IntKind.u64.wrap (v1.cE+(4294967296:Int)))),by kernel_rfl,J⟩
  replace J:=(du h5).symm.trans J;refine dm (t:=(decide (v1.cE<(IntKind.u64.wrap (v2.cE+v3))))) (by kernel_rfl) h5 ?_;refine ct ?_;refine aM ?_;exact⟨((0:Int),v1.cE),by kernel_rfl,J⟩
 rintro⟨v5,v6⟩ J
 try dsimp only at J
 rw[yU]at J;refine re [(4,⟨_,_, .lt (z:=1) (n:=6) (by decide) (by decide)⟩),(16,⟨_,_, .lt (z:=1) (n:=6) (by decide) (by decide)⟩)] [(32,(.ptr 0 1)),(31,(.d (.v (.int .u64 (IntKind.u64.wrap (v6-(IntKind.u64.wrap (v2.cE+v3)))))))),(30,(.d (.v (.int .u64 (IntKind.u64.wrap (v2.cE+v3)))))),(29,(.d (.v (.int .u64 v6)))),(28,(.ptr 0 1)),(27,(ar (1:Int)))] (zn v4 v2 v6 v3 v1 []) (by kernel_rfl) ?_;refine dU ?_;refine aM ?_;refine re [(5,⟨_,_, .eq (x:=(ar (aE ((1:Int)+(1:Int))))) (y:=(ar (2:Int))) (by kernel_rfl)⟩)] [(6,(ar (2:Int))),(11,(ar (2:Int))),(10,(ar (1:Int)))] (zn v4 v2 v6 v3 v1 []) (by kernel_rfl) ?_;refine aM ?_;refine gn ?_;refine au ?_;refine au ?_;refine rg [] [(9,(az (decide ((2:Int)<6))))] (zn v4 v2 v6 v3 v1 []) (by kernel_rfl) ?_;refine cS (t:=(decide ((2:Int)<6))) (by kernel_rfl) rfl ?_;refine ct ?_;refine aM ?_;refine au ?_;refine dn ?_;refine au ?_;refine rg [(4,⟨_,_, .lt (z:=2) (n:=6) (by decide) (by decide)⟩)] [(7,(.d (.v (.int .u64 (IntKind.u64.wrap (v2.cX+v5))))))] (zn v4 v2 v6 v3 v1 []) (by kernel_rfl) ?_;refine au ?_;refine rg [] [(5,(.d (.v (.int .u64 (0:Int)))))] (zn v4 v2 v6 v3 v1 []) (by kernel_rfl) ?_;refine au ?_;refine au ?_;refine rg [(4,⟨_,_, .lt (z:=2) (n:=6) (by decide) (by decide)⟩)] [(21,(az (decide (v1.cX<(IntKind.u64.wrap (v2.cX+v5))))))] (zn v4 v2 v6 v3 v1 []) (by kernel_rfl) ?_
 refine pe [2,3,4,5,6,7] 3 (λ((v7,v8):Int×Int)=>⟨34,[(2,(.ptr 0 0)),(3,(.ptr 1 0)),(4,(.ptr 2 0)),(5,(.d (.v (.int .u64 v7)))),(6,(ar (2:Int))),(7,(.d (.v (.int .u64 (IntKind.u64.wrap (v2.cX+v5))))))],[.cells [(.d (.v (.int .u64 (IntKind.u64.wrap (v4-(IntKind.u64.wrap (v2.cr+(0:Int)))))))),(.d (.v (.int .u64 (IntKind.u64.wrap (v6-(IntKind.u64.wrap (v2.cE+v3))))))),(.d (.v (.int .u64 v8))),(.d (.v (.int .u64 v1.cV))),(.d (.v (.int .u64 v1.cP))),(.d (.v (.int .u64 v1.cJ)))], .cells (eC v2).cells, .cells [(.d (.v (.int .u64 (0:Int)))),(.d (.v (.int .u64 (0:Int)))),(.d (.v (.int .u64 (0:Int)))),(.d (.v (.int .u64 (0:Int)))),(.d (.v (.int .u64 (0:Int)))),(.d (.v (.int .u64 (0:Int))))]]⟩) (λ((v7,v8):Int×Int)=>yP N v1 v2 v4 v6 v3 v5 v7 v8=some r) (amd rfl) ?_ ?_
 ·rcases dw (decide (v1.cX<(IntKind.u64.wrap (v2.cX+v5))))with h4|h4
  ·replace J:=(c7 h4).symm.trans J;refine cS (t:=(decide (v1.cX<(IntKind.u64.wrap (v2.cX+v5))))) (by kernel_rfl) h4 ?_;refine au ?_;refine rg [(4,⟨_,_, .lt (z:=2) (n:=6) (by decide) (by decide)⟩),(13,⟨_,_, .lt (z:=2) (n:=6) (by decide) (by decide)⟩)] [] (Uu v4 v2 v6 v3 v1 []) (by kernel_rfl) ?_;refine re [] [(5,(.d (.v (.int .u64 (1:Int)))))] (Uu v4 v2 v6 v3 v1 []) (by kernel_rfl) ?_;refine aM ?_;exact⟨((1:Int),(IntKind.u64.wrap (v1.cX+(4294967296:Int)))),by kernel_rfl,J⟩
  replace J:=(du h4).symm.trans J;refine dm (t:=(decide (v1.cX<(IntKind.u64.wrap (v2.cX+v5))))) (by kernel_rfl) h4 ?_;refine ct ?_;refine aM ?_;exact⟨((0:Int),v1.cX),by kernel_rfl,J⟩
 rintro⟨v7,v8⟩ J
 try dsimp only at J
 rw[yP]at J;refine re [(4,⟨_,_, .lt (z:=2) (n:=6) (by decide) (by decide)⟩),(16,⟨_,_, .lt (z:=2) (n:=6) (by decide) (by decide)⟩)] [(32,(.ptr 0 2)),(31,(.d (.v (.int .u64 (IntKind.u64.wrap (v8-(IntKind.u64.wrap (v2.cX+v5)))))))),(30,(.d (.v (.int .u64 (IntKind.u64.wrap (v2.cX+v5)))))),(29,(.d (.v (.int .u64 v8)))),(28,(.ptr 0 2)),(27,(ar (2:Int)))] (Be v4 v2 v6 v3 v8 v5 v1 []) (by kernel_rfl) ?_;refine dU ?_;refine aM ?_;refine re [(5,⟨_,_, .eq (x:=(ar (aE ((2:Int)+(1:Int))))) (y:=(ar (3:Int))) (by kernel_rfl)⟩)] [(6,(ar (3:Int))),(11,(ar (3:Int))),(10,(ar (2:Int)))] (Be v4 v2 v6 v3 v8 v5 v1 []) (by kernel_rfl) ?_;refine aM ?_;refine gn ?_;refine au ?_;refine au ?_;refine rg [] [(9,(az (decide ((3:Int)<6))))] (Be v4 v2 v6 v3 v8 v5 v1 []) (by kernel_rfl) ?_;refine cS (t:=(decide ((3:Int)<6))) (by kernel_rfl) rfl ?_;refine ct ?_;refine aM ?_;refine au ?_;refine dn ?_;refine au ?_;refine rg [(4,⟨_,_, .lt (z:=3) (n:=6) (by decide) (by decide)⟩)] [(7,(.d (.v (.int .u64 (IntKind.u64.wrap (v2.cV+v7))))))] (Be v4 v2 v6 v3 v8 v5 v1 []) (by kernel_rfl) ?_;refine au ?_;refine rg [] [(5,(.d (.v (.int .u64 (0:Int)))))] (Be v4 v2 v6 v3 v8 v5 v1 []) (by kernel_rfl) ?_;refine au ?_;refine au ?_;refine rg [(4,⟨_,_, .lt (z:=3) (n:=6) (by decide) (by decide)⟩)] [(21,(az (decide (v1.cV<(IntKind.u64.wrap (v2.cV+v7))))))] (Be v4 v2 v6 v3 v8 v5 v1 []) (by kernel_rfl) ?_
 refine pe [2,3,4,5,6,7] 3 (λ((v9,v10):Int×Int)=>⟨34,[(2,(.ptr 0 0)),(3,(.ptr 1 0)),(4,(.ptr 2 0)),(5,(.d (.v (.int .u64 v9)))),(6,(ar (3:Int))),(7,(.d (.v (.int .u64 (IntKind.u64.wrap (v2.cV+v7))))))],[.cells [(.d (.v (.int .u64 (IntKind.u64.wrap (v4-(IntKind.u64.wrap (v2.cr+(0:Int)))))))),(.d (.v (.int .u64 (IntKind.u64.wrap (v6-(IntKind.u64.wrap (v2.cE+v3))))))),(.d (.v (.int .u64 (IntKind.u64.wrap (v8-(IntKind.u64.wrap (v2.cX+v5))))))),(.d (.v (.int .u64 v10))),(.d (.v (.int .u64 v1.cP))),(.d (.v (.int .u64 v1.cJ)))], .cells (eC v2).cells, .cells [(.d (.v (.int .u64 (0:Int)))),(.d (.v (.int .u64 (0:Int)))),(.d (.v (.int .u64 (0:Int)))),(.d (.v (.int .u64 (0:Int)))),(.d (.v (.int .u64 (0:Int)))),(.d (.v (.int .u64 (0:Int))))]]⟩) (λ((v9,v10):Int×Int)=>A6 N v1 v2 v4 v6 v3 v8 v5 v7 v9 v10=some r) (amd rfl) ?_ ?_
 ·rcases dw (decide (v1.cV<(IntKind.u64.wrap (v2.cV+v7))))with h3|h3
  ·replace J:=(c7 h3).symm.trans J;refine cS (t:=(decide (v1.cV<(IntKind.u64.wrap (v2.cV+v7))))) (by kernel_rfl) h3 ?_;refine au ?_;refine rg [(4,⟨_,_, .lt (z:=3) (n:=6) (by decide) (by decide)⟩),(13,⟨_,_, .lt (z:=3) (n:=6) (by decide) (by decide)⟩)] [] (Vs v4 v2 v6 v3 v8 v5 v1 []) (by kernel_rfl) ?_;refine re [] [(5,(.d (.v (.int .u64 (1:Int)))))] (Vs v4 v2 v6 v3 v8 v5 v1 []) (by kernel_rfl) ?_;refine aM ?_;exact⟨((1:Int),(IntKind.u64.wrap (v1.cV+(4294967296:Int)))),by kernel_rfl,J⟩
  replace J:=(du h3).symm.trans J;refine dm (t:=(decide (v1.cV<(IntKind.u64.wrap (v2.cV+v7))))) (by kernel_rfl) h3 ?_;refine ct ?_;refine aM ?_;exact⟨((0:Int),v1.cV),by kernel_rfl,J⟩
 rintro⟨v9,v10⟩ J
 try dsimp only at J
 rw[A6]at J;refine re [(4,⟨_,_, .lt (z:=3) (n:=6) (by decide) (by decide)⟩),(16,⟨_,_, .lt (z:=3) (n:=6) (by decide) (by decide)⟩)] [(32,(.ptr 0 3)),(31,(.d (.v (.int .u64 (IntKind.u64.wrap (v10-(IntKind.u64.wrap (v2.cV+v7)))))))),(30,(.d (.v (.int .u64 (IntKind.u64.wrap (v2.cV+v7)))))),(29,(.d (.v (.int .u64 v10)))),(28,(.ptr 0 3)),(27,(ar (3:Int)))] (yt v4 v2 v6 v3 v8 v5 v10 v7 v1 []) (by kernel_rfl) ?_;refine dU ?_;refine aM ?_;refine re [(5,⟨_,_, .eq (x:=(ar (aE ((3:Int)+(1:Int))))) (y:=(ar (4:Int))) (by kernel_rfl)⟩)] [(6,(ar (4:Int))),(11,(ar (4:Int))),(10,(ar (3:Int)))] (yt v4 v2 v6 v3 v8 v5 v10 v7 v1 []) (by kernel_rfl) ?_;refine aM ?_;refine gn ?_;refine au ?_;refine au ?_;refine rg [] [(9,(az (decide ((4:Int)<6))))] (yt v4 v2 v6 v3 v8 v5 v10 v7 v1 []) (by kernel_rfl) ?_;refine cS (t:=(decide ((4:Int)<6))) (by kernel_rfl) rfl ?_;refine ct ?_;refine aM ?_;refine au ?_;refine dn ?_;refine au ?_;refine rg [(4,⟨_,_, .lt (z:=4) (n:=6) (by decide) (by decide)⟩)] [(7,(.d (.v (.int .u64 (IntKind.u64.wrap (v2.cP+v9))))))] (yt v4 v2 v6 v3 v8 v5 v10 v7 v1 []) (by kernel_rfl) ?_;refine au ?_;refine rg [] [(5,(.d (.v (.int .u64 (0:Int)))))] (yt v4 v2 v6 v3 v8 v5 v10 v7 v1 []) (by kernel_rfl) ?_;refine au ?_;refine au ?_;refine rg [(4,⟨_,_, .lt (z:=4) (n:=6) (by decide) (by decide)⟩)] [(21,(az (decide (v1.cP<(IntKind.u64.wrap (v2.cP+v9))))))] (yt v4 v2 v6 v3 v8 v5 v10 v7 v1 []) (by kernel_rfl) ?_
 refine pe [2,3,4,5,6,7] 3 (λ((v11,v12):Int×Int)=>⟨34,[(2,(.ptr 0 0)),(3,(.ptr 1 0)),(4,(.ptr 2 0)),(5,(.d (.v (.int .u64 v11)))),(6,(ar (4:Int))),(7,(.d (.v (.int .u64 (IntKind.u64.wrap (v2.cP+v9))))))],[.cells [(.d (.v (.int .u64 (IntKind.u64.wrap (v4-(IntKind.u64.wrap (v2.cr+(0:Int)))))))),(.d (.v (.int .u64 (IntKind.u64.wrap (v6-(IntKind.u64.wrap (v2.cE+v3))))))),(.d (.v (.int .u64 (IntKind.u64.wrap (v8-(IntKind.u64.wrap (v2.cX+v5))))))),(.d (.v (.int .u64 (IntKind.u64.wrap (v10-(IntKind.u64.wrap (v2.cV+v7))))))),(.d (.v (.int .u64 v12))),(.d (.v (.int .u64 v1.cJ)))], .cells (eC v2).cells, .cells [(.d (.v (.int .u64 (0:Int)))),(.d (.v (.int .u64 (0:Int)))),(.d (.v (.int .u64 (0:Int)))),(.d (.v (.int .u64 (0:Int)))),(.d (.v (.int .u64 (0:Int)))),(.d (.v (.int .u64 (0:Int))))]]⟩) (λ((v11,v12):Int×Int)=>xZ N v1 v2 v4 v6 v3 v8 v5 v10 v7 v9 v11 v12=some r) (amd rfl) ?_ ?_
 ·rcases dw (decide (v1.cP<(IntKind.u64.wrap (v2.cP+v9))))with h2|h2
  ·replace J:=(c7 h2).symm.trans J;refine cS (t:=(decide (v1.cP<(IntKind.u64.wrap (v2.cP+v9))))) (by kernel_rfl) h2 ?_;refine au ?_;refine rg [(4,⟨_,_, .lt (z:=4) (n:=6) (by decide) (by decide)⟩),(13,⟨_,_, .lt (z:=4) (n:=6) (by decide) (by decide)⟩)] [] (Wg v4 v2 v6 v3 v8 v5 v10 v7 v1 []) (by kernel_rfl) ?_;refine re [] [(5,(.d (.v (.int .u64 (1:Int)))))] (Wg v4 v2 v6 v3 v8 v5 v10 v7 v1 []) (by kernel_rfl) ?_;refine aM ?_;exact⟨((1:Int),(IntKind.u64.wrap (v1.cP+(4294967296:Int)))),by kernel_rfl,J⟩
  replace J:=(du h2).symm.trans J;refine dm (t:=(decide (v1.cP<(IntKind.u64.wrap (v2.cP+v9))))) (by kernel_rfl) h2 ?_;refine ct ?_;refine aM ?_;exact⟨((0:Int),v1.cP),by kernel_rfl,J⟩
 rintro⟨v11,v12⟩ J
 try dsimp only at J
 rw[xZ]at J;refine re [(4,⟨_,_, .lt (z:=4) (n:=6) (by decide) (by decide)⟩),(16,⟨_,_, .lt (z:=4) (n:=6) (by decide) (by decide)⟩)] [(32,(.ptr 0 4)),(31,(.d (.v (.int .u64 (IntKind.u64.wrap (v12-(IntKind.u64.wrap (v2.cP+v9)))))))),(30,(.d (.v (.int .u64 (IntKind.u64.wrap (v2.cP+v9)))))),(29,(.d (.v (.int .u64 v12)))),(28,(.ptr 0 4)),(27,(ar (4:Int)))] (yg v4 v2 v6 v3 v8 v5 v10 v7 v12 v9 v1 []) (by kernel_rfl) ?_;refine dU ?_;refine aM ?_;refine re [(5,⟨_,_, .eq (x:=(ar (aE ((4:Int)+(1:Int))))) (y:=(ar (5:Int))) (by kernel_rfl)⟩)] [(6,(ar (5:Int))),(11,(ar (5:Int))),(10,(ar (4:Int)))] (yg v4 v2 v6 v3 v8 v5 v10 v7 v12 v9 v1 []) (by kernel_rfl) ?_;refine aM ?_;refine gn ?_;refine au ?_;refine au ?_;refine rg [] [(9,(az (decide ((5:Int)<6))))] (yg v4 v2 v6 v3 v8 v5 v10 v7 v12 v9 v1 []) (by kernel_rfl) ?_;refine cS (t:=(decide ((5:Int)<6))) (by kernel_rfl) rfl ?_;refine ct ?_;refine aM ?_;refine au ?_;refine dn ?_;refine au ?_;refine rg [(4,⟨_,_, .lt (z:=5) (n:=6) (by decide) (by decide)⟩)] [(7,(.d (.v (.int .u64 (IntKind.u64.wrap (v2.cJ+v11))))))] (yg v4 v2 v6 v3 v8 v5 v10 v7 v12 v9 v1 []) (by kernel_rfl) ?_;refine au ?_;refine rg [] [(5,(.d (.v (.int .u64 (0:Int)))))] (yg v4 v2 v6 v3 v8 v5 v10 v7 v12 v9 v1 []) (by kernel_rfl) ?_;refine au ?_;refine au ?_
 refine rg [(4,⟨_,_, .lt (z:=5) (n:=6) (by decide) (by decide)⟩)] [(21,(az (decide (v1.cJ<(IntKind.u64.wrap (v2.cJ+v11))))))] (yg v4 v2 v6 v3 v8 v5 v10 v7 v12 v9 v1 []) (by kernel_rfl) ?_;refine pe [2,3,4,5,6,7] 3 (λ((aF,aI):Int×Int)=>⟨34,[(2,(.ptr 0 0)),(3,(.ptr 1 0)),(4,(.ptr 2 0)),(5,(.d (.v (.int .u64 aF)))),(6,(ar (5:Int))),(7,(.d (.v (.int .u64 (IntKind.u64.wrap (v2.cJ+v11))))))],[.cells [(.d (.v (.int .u64 (IntKind.u64.wrap (v4-(IntKind.u64.wrap (v2.cr+(0:Int)))))))),(.d (.v (.int .u64 (IntKind.u64.wrap (v6-(IntKind.u64.wrap (v2.cE+v3))))))),(.d (.v (.int .u64 (IntKind.u64.wrap (v8-(IntKind.u64.wrap (v2.cX+v5))))))),(.d (.v (.int .u64 (IntKind.u64.wrap (v10-(IntKind.u64.wrap (v2.cV+v7))))))),(.d (.v (.int .u64 (IntKind.u64.wrap (v12-(IntKind.u64.wrap (v2.cP+v9))))))),(.d (.v (.int .u64 aI)))], .cells (eC v2).cells, .cells [(.d (.v (.int .u64 (0:Int)))),(.d (.v (.int .u64 (0:Int)))),(.d (.v (.int .u64 (0:Int)))),(.d (.v (.int .u64 (0:Int)))),(.d (.v (.int .u64 (0:Int)))),(.d (.v (.int .u64 (0:Int))))]]⟩) (λ((aF,aI):Int×Int)=>yS N v4 v2 v6 v3 v8 v5 v10 v7 v12 v9 v11 aF aI=some r) (amd rfl) ?_ ?_
 ·rcases dw (decide (v1.cJ<(IntKind.u64.wrap (v2.cJ+v11))))with h1|h1
  ·replace J:=(c7 h1).symm.trans J;refine cS (t:=(decide (v1.cJ<(IntKind.u64.wrap (v2.cJ+v11))))) (by kernel_rfl) h1 ?_;refine au ?_;refine rg [(4,⟨_,_, .lt (z:=5) (n:=6) (by decide) (by decide)⟩),(13,⟨_,_, .lt (z:=5) (n:=6) (by decide) (by decide)⟩)] [] (Yn v4 v2 v6 v3 v8 v5 v10 v7 v12 v9 v1 []) (by kernel_rfl) ?_;refine re [] [(5,(.d (.v (.int .u64 (1:Int)))))] (Yn v4 v2 v6 v3 v8 v5 v10 v7 v12 v9 v1 []) (by kernel_rfl) ?_;refine aM ?_;exact⟨((1:Int),(IntKind.u64.wrap (v1.cJ+(4294967296:Int)))),by kernel_rfl,J⟩
  replace J:=(du h1).symm.trans J;refine dm (t:=(decide (v1.cJ<(IntKind.u64.wrap (v2.cJ+v11))))) (by kernel_rfl) h1 ?_;refine ct ?_;refine aM ?_;exact⟨((0:Int),v1.cJ),by kernel_rfl,J⟩
 rintro⟨aF,aI⟩ J
 try dsimp only at J
 rw[yS]at J;refine re [(4,⟨_,_, .lt (z:=5) (n:=6) (by decide) (by decide)⟩),(16,⟨_,_, .lt (z:=5) (n:=6) (by decide) (by decide)⟩)] [(32,(.ptr 0 5)),(31,(.d (.v (.int .u64 (IntKind.u64.wrap (aI-(IntKind.u64.wrap (v2.cJ+v11)))))))),(30,(.d (.v (.int .u64 (IntKind.u64.wrap (v2.cJ+v11)))))),(29,(.d (.v (.int .u64 aI)))),(28,(.ptr 0 5)),(27,(ar (5:Int)))] (Oi v4 v2 v6 v3 v8 v5 v10 v7 v12 v9 aI v11 []) (by kernel_rfl) ?_;refine dU ?_;refine aM ?_;refine re [(5,⟨_,_, .eq (x:=(ar (aE ((5:Int)+(1:Int))))) (y:=(ar (6:Int))) (by kernel_rfl)⟩)] [(6,(ar (6:Int))),(11,(ar (6:Int))),(10,(ar (5:Int)))] (Oi v4 v2 v6 v3 v8 v5 v10 v7 v12 v9 aI v11 []) (by kernel_rfl) ?_;refine aM ?_;refine gn ?_;refine au ?_;refine au ?_;refine rg [] [(9,(az (decide ((6:Int)<6))))] (Oi v4 v2 v6 v3 v8 v5 v10 v7 v12 v9 aI v11 []) (by kernel_rfl) ?_;refine dm (t:=(decide ((6:Int)<6))) (by kernel_rfl) rfl ?_;refine kW (at_e (at_e (l4 rfl ?_)));refine aM ?_;refine au ?_;refine rg [] [] (WZ v4 v2 v6 v3 v8 v5 v10 v7 v12 v9 aI v11 [.cells [(.d (.v (.int .u64 (IntKind.u64.wrap (v4-(IntKind.u64.wrap (v2.cr+(0:Int)))))))),(.d (.v (.int .u64 (IntKind.u64.wrap (v6-(IntKind.u64.wrap (v2.cE+v3))))))),(.d (.v (.int .u64 (IntKind.u64.wrap (v8-(IntKind.u64.wrap (v2.cX+v5))))))),(.d (.v (.int .u64 (IntKind.u64.wrap (v10-(IntKind.u64.wrap (v2.cV+v7))))))),(.d (.v (.int .u64 (IntKind.u64.wrap (v12-(IntKind.u64.wrap (v2.cP+v9))))))),(.d (.v (.int .u64 (IntKind.u64.wrap (aI-(IntKind.u64.wrap (v2.cJ+v11)))))))]]) (by kernel_rfl) ?_
 refine cU ?_;have hr:=amo J;subst hr;exact eJ (by kernel_rfl)
end Go.Proofs.YtnnapanbbbcalaaGreatDoor
