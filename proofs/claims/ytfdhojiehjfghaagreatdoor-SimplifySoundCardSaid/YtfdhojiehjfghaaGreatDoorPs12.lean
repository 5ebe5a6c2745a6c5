/-
  Part 12 of the proof: PE4, PE5, PE6, PE7, PE8, PE9, PRef, PAll, ValNames, ValNode, SmV, LinP, ValTree, ValTree2, ValidLaw, InVal1, InVal2, InLin, SmVR, SmVF, SdA, SdB, InLin2, InLin3.
-/
import Derived.Test.YtfdhojiehjfghaaGreatDoorPs11
import Derived.Laws.Bits64
namespace Go.Proofs.YtfdhojiehjfghaaGreatDoor
open Go.RowKit
set_option maxRecDepth 100000
set_option maxHeartbeats 0
set_option linter.unusedVariables false
def SZ:jf:=⟨(0:Int),(0:Int),(0:Int)⟩
def U6:a8:=⟨dZ,[],[]⟩
def zJ:dX:=⟨bZ,dZ⟩
def zc4:anD AV:=[(au (0:Int)),(au (0:Int)),(au (0:Int)),(au (0:Int)),(au (0:Int)),(.d (.v (.slice none 0 0))),(.d (.v (.slice none 0 0)))]
def dn:anD AV:=[(aT (0:Int64)),(aT (0:Int64)),(au (0:Int)),(au (0:Int)),(au (0:Int)),(au (0:Int)),(au (0:Int))]
def R6(v:dX)(r:anD AV):anD AV:=(au v.eH.aL)::(au v.eH.bY)::(au v.eH.bM)::(au v.eH.b5)::(au v.eH.bK)::r
def H4(N:Nat)(v1:anD bm)(v2:anD bp)(v3:anD (anE×a8)):anF ((anD bm)):=
 some v1
def BT(v2:anD bp)(v3:anD (anE×a8))(v1:anD bm)(l:anD ao):anD ao:= .cells [(.mp 2)]:: .cells [(.d (.sl (bq v2)))]:: .map (bU bR v3):: .cells [(.fn 69 [(.ptr 0 0),(.ptr 1 0)])]:: .cells [(.d (.sl (bt v1)))]::l
theorem pO{N v1 v2 v3 r}(J:H4 N v1 v2 v3=some r):KH 37 [(.fn 69 [(.ptr 0 0),(.ptr 1 0)]),(.d (.sl (bt v1)))] ([.cells [(.mp 2)], .cells [(.d (.sl (bq v2)))], .map (bU bR v3)]) (.ptr 5 0) ([.cells [(.mp 2)], .cells [(.d (.sl (bq v2)))], .map (bU bR v3), .cells [(.fn 69 [(.ptr 0 0),(.ptr 1 0)])], .cells [(.d (.sl (bt r)))], .cells [(.fn 66 [(.ptr 3 0),(.ptr 4 0),(.ptr 6 0)]),(.fn 64 [(.ptr 6 0)])], .cells [(.ptr 5 0)]]):=by
 rw[H4]at J;refine DA 7 Tryz.func37 rfl (by kernel_rfl) (amV rfl) ?_;refine w9 (s':=⟨17,[(0,(.fn 69 [(.ptr 0 0),(.ptr 1 0)])),(1,(.d (.sl (bt v1))))],[.cells [(.mp 2)], .cells [(.d (.sl (bq v2)))], .map (bU bR v3)]⟩) (by kernel_rfl) ?_;refine aR ?_;refine rg [] [(2,(.ptr 3 0)),(3,(.ptr 4 0))] (BT v2 v3 v1 []) (by kernel_rfl) ?_;refine aR ?_;refine rg [] [(5,(.ptr 6 0))] (BT v2 v3 v1 [.cells [(.d (.v .nilFunc)),(.d (.v .nilFunc))], .cells [(.ptr 5 0)]]) (by kernel_rfl) ?_;refine aR ?_;refine rg [] [] (BT v2 v3 v1 [.cells [(.d (.v .nilFunc)),(.fn 64 [(.ptr 6 0)])], .cells [(.ptr 5 0)]]) (by kernel_rfl) ?_;refine aR ?_;refine rg [] [] (BT v2 v3 v1 [.cells [(.fn 66 [(.ptr 3 0),(.ptr 4 0),(.ptr 6 0)]),(.fn 64 [(.ptr 6 0)])], .cells [(.ptr 5 0)]]) (by kernel_rfl) ?_;refine aR ?_;refine rg [] [(4,(.ptr 5 0))] (BT v2 v3 v1 [.cells [(.fn 66 [(.ptr 3 0),(.ptr 4 0),(.ptr 6 0)]),(.fn 64 [(.ptr 6 0)])], .cells [(.ptr 5 0)]]) (by kernel_rfl) ?_;refine dz ?_;have hr:=am6 J;subst hr;exact uo (qH trivial (qH trivial (qH trivial (qH trivial (qH trivial (qH trivial (qH trivial pf))))))) (by kernel_rfl)
def Fj(N:Nat)(v4:jf)(v7:Int)(v5:Int)(v8:Int)(v6:Int)(v10:Int):anF (Int×Int×Int):=
 some ((IntKind.u64.wrap (v4.nN+(IntKind.u64.wrap (v7+v10)))),(IntKind.u64.wrap ((IntKind.u64.wrap (v4.kH+v5))+v8)),(IntKind.u64.wrap (v4.jD+v6)))
def vO(N:Nat)(v4:jf)(v5:Int)(v8:Int)(v7:Int)(v6:Int)(v9:Int):anF (Int×Int×Int):=
 bif (decide ((IntKind.u64.wrap ((IntKind.u64.wrap (v4.kH+v5))+v8))<(IntKind.u64.wrap (v4.kH+v5))))then
  Fj N v4 v7 v5 v8 v6 (IntKind.u64.wrap (v9+(1:Int)))
 else
  Fj N v4 v7 v5 v8 v6 v9
def x6(N:Nat)(v4:jf)(v5:Int)(v7:Int)(v6:Int)(v8:Int):anF (Int×Int×Int):=
 bif (decide ((IntKind.u64.wrap (v4.kH+v5))<v5))then
  vO N v4 v5 v8 v7 v6 (1:Int)
 else
  vO N v4 v5 v8 v7 v6 (0:Int)
def sR(N:Nat)(v4:jf)(v5:Int)(v6:Int)(v7:Int):anF (Int×Int×Int):=
 bif (decide ((IntKind.u64.wrap (v4.jD+v6))<v6))then
  x6 N v4 v5 v7 v6 (1:Int)
 else
  x6 N v4 v5 v7 v6 (0:Int)
def zM(N:Nat)(v1:Int)(v2:Int)(v3:Bool)(v4:jf):anF (Int×Int×Int):=
 bif v3 then
  bif ((IntKind.u64.wrap ((IntKind.u64.wrap ((BitVec.ofInt (IntKind.bits .u64) (IntKind.max .u64)^^^BitVec.ofInt (IntKind.bits .u64) v2).toNat:Int))+(1:Int)))==0)then
   bif ((IntKind.u64.wrap ((IntKind.u64.wrap ((BitVec.ofInt (IntKind.bits .u64) (IntKind.max .u64)^^^BitVec.ofInt (IntKind.bits .u64) v1).toNat:Int))+(1:Int)))==0)then
    sR N v4 (IntKind.u64.wrap ((IntKind.u64.wrap ((BitVec.ofInt (IntKind.bits .u64) (IntKind.max .u64)^^^BitVec.ofInt (IntKind.bits .u64) v1).toNat:Int))+(1:Int))) (IntKind.u64.wrap ((IntKind.u64.wrap ((BitVec.ofInt (IntKind.bits .u64) (IntKind.max .u64)^^^BitVec.ofInt (IntKind.bits .u64) v2).toNat:Int))+(1:Int))) (IntKind.u64.wrap ((IntKind.u64.wrap ((BitVec.ofInt (IntKind.bits .u64) (IntKind.max .u64)^^^BitVec.ofInt (IntKind.bits .u64) (0:Int)).toNat:Int))+(1:Int)))
   else
    sR N v4 (IntKind.u64.wrap ((IntKind.u64.wrap ((BitVec.ofInt (IntKind.bits .u64) (IntKind.max .u64)^^^BitVec.ofInt (IntKind.bits .u64) v1).toNat:Int))+(1:Int))) (IntKind.u64.wrap ((IntKind.u64.wrap ((BitVec.ofInt (IntKind.bits .u64) (IntKind.max .u64)^^^BitVec.ofInt (IntKind.bits .u64) v2).toNat:Int))+(1:Int))) (IntKind.u64.wrap ((BitVec.ofInt (IntKind.bits .u64) (IntKind.max .u64)^^^BitVec.ofInt (IntKind.bits .u64) (0:Int)).toNat:Int))
  else
   sR N v4 (IntKind.u64.wrap ((BitVec.ofInt (IntKind.bits .u64) (IntKind.max .u64)^^^BitVec.ofInt (IntKind.bits .u64) v1).toNat:Int)) (IntKind.u64.wrap ((IntKind.u64.wrap ((BitVec.ofInt (IntKind.bits .u64) (IntKind.max .u64)^^^BitVec.ofInt (IntKind.bits .u64) v2).toNat:Int))+(1:Int))) (IntKind.u64.wrap ((BitVec.ofInt (IntKind.bits .u64) (IntKind.max .u64)^^^BitVec.ofInt (IntKind.bits .u64) (0:Int)).toNat:Int))
 else
  sR N v4 v1 v2 (0:Int)
def U7(v4:jf)(v6:Int)(l:anD ao):anD ao:= .cells [(.d (.v (.int .u64 v4.nN))),(.d (.v (.int .u64 v4.kH))),(.d (.v (.int .u64 (IntKind.u64.wrap (v4.jD+v6)))))]::l
theorem T6{N v1 v2 v3 v4 r}(J:zM N v1 v2 v3 v4=some r):KH 186 [(.ptr 0 0),(.d (.v (.int .u64 v1))),(.d (.v (.int .u64 v2))),(aC v3)] ([.cells (Dh v4).cells]) (.aQ []) ([.cells [(.d (.v (.int .u64 r.1))),(.d (.v (.int .u64 r.2.1))),(.d (.v (.int .u64 r.2.2)))]]):=by
 rw[zM]at J;refine tF 1 Tryz.func186 ?_;refine Dq aX 1 [[],[]] [0,1,2,8] 1 (λ((v5,v6,v7):Int×Int×Int)=>⟨76,[(0,(.ptr 0 0)),(1,(.d (.v (.int .u64 v5)))),(2,(.d (.v (.int .u64 v6)))),(8,(.d (.v (.int .u64 v7))))],[.cells (Dh v4).cells]⟩) (λ((v5,v6,v7):Int×Int×Int)=>sR N v4 v5 v6 v7=some r) ?_ ?_
 ·intro f1 aK;apply bc J<;>intro h4 J
  ·refine ft aX [[(0,bT h4)],[],[],[]] ?_;apply bc J<;>intro h5 J
   ·refine ft aX [[(0,bT h5)],[],[]] ?_;apply bc J<;>intro h6 J
    ·exact lf aX aK ((IntKind.u64.wrap ((IntKind.u64.wrap ((BitVec.ofInt (IntKind.bits .u64) (IntKind.max .u64)^^^BitVec.ofInt (IntKind.bits .u64) v1).toNat:Int))+(1:Int))),(IntKind.u64.wrap ((IntKind.u64.wrap ((BitVec.ofInt (IntKind.bits .u64) (IntKind.max .u64)^^^BitVec.ofInt (IntKind.bits .u64) v2).toNat:Int))+(1:Int))),(IntKind.u64.wrap ((IntKind.u64.wrap ((BitVec.ofInt (IntKind.bits .u64) (IntKind.max .u64)^^^BitVec.ofInt (IntKind.bits .u64) (0:Int)).toNat:Int))+(1:Int)))) [[(0,bT h6)],[]] J
    exact lf aX aK ((IntKind.u64.wrap ((IntKind.u64.wrap ((BitVec.ofInt (IntKind.bits .u64) (IntKind.max .u64)^^^BitVec.ofInt (IntKind.bits .u64) v1).toNat:Int))+(1:Int))),(IntKind.u64.wrap ((IntKind.u64.wrap ((BitVec.ofInt (IntKind.bits .u64) (IntKind.max .u64)^^^BitVec.ofInt (IntKind.bits .u64) v2).toNat:Int))+(1:Int))),(IntKind.u64.wrap ((BitVec.ofInt (IntKind.bits .u64) (IntKind.max .u64)^^^BitVec.ofInt (IntKind.bits .u64) (0:Int)).toNat:Int))) [[(0,bF h6)]] J
   exact lf aX aK ((IntKind.u64.wrap ((BitVec.ofInt (IntKind.bits .u64) (IntKind.max .u64)^^^BitVec.ofInt (IntKind.bits .u64) v1).toNat:Int)),(IntKind.u64.wrap ((IntKind.u64.wrap ((BitVec.ofInt (IntKind.bits .u64) (IntKind.max .u64)^^^BitVec.ofInt (IntKind.bits .u64) v2).toNat:Int))+(1:Int))),(IntKind.u64.wrap ((BitVec.ofInt (IntKind.bits .u64) (IntKind.max .u64)^^^BitVec.ofInt (IntKind.bits .u64) (0:Int)).toNat:Int))) [[(0,bF h5)]] J
  exact lf aX aK (v1,v2,(0:Int)) [[(0,bF h4)]] J
 rintro⟨v5,v6,v7⟩ J
 try dsimp only at J
 rw[sR]at J;refine Dl aX r 2 [[],[],[]] [0,1,8,9] 1 (λ(v8:Int)=>⟨76,[(0,(.ptr 0 0)),(1,(.d (.v (.int .u64 v5)))),(8,(.d (.v (.int .u64 v7)))),(9,(.d (.v (.int .u64 v8))))],(U7 v4 v6 [])⟩) (x6 N v4 v5 v7 v6) ?_ ?_
 ·intro f2 fY;apply bc J<;>intro h3 J
  ·exact lf aX fY (1:Int) [[(0,bT h3)],[]] J
  exact lf aX fY (0:Int) [[(0,bF h3)]] J
 intro v8 J;rw[x6]at J;refine Dl aX r 3 [[],[],[]] [0,8,9,10,11] 1 (λ(v9:Int)=>⟨76,[(0,(.ptr 0 0)),(8,(.d (.v (.int .u64 v7)))),(9,(.d (.v (.int .u64 v8)))),(10,(.d (.v (.int .u64 (IntKind.u64.wrap (v4.kH+v5)))))),(11,(.d (.v (.int .u64 v9))))],(U7 v4 v6 [])⟩) (vO N v4 v5 v8 v7 v6) ?_ ?_
 ·intro f3 qu;apply bc J<;>intro h2 J
  ·exact lf aX qu (1:Int) [[(0,bT h2)],[]] J
  exact lf aX qu (0:Int) [[(0,bF h2)]] J
 intro v9 J;rw[vO]at J;refine Dl aX r 4 [[],[]] [0,8,11] 1 (λ(v10:Int)=>⟨76,[(0,(.ptr 0 0)),(8,(.d (.v (.int .u64 v7)))),(11,(.d (.v (.int .u64 v10))))],[.cells [(.d (.v (.int .u64 v4.nN))),(.d (.v (.int .u64 (IntKind.u64.wrap ((IntKind.u64.wrap (v4.kH+v5))+v8))))),(.d (.v (.int .u64 (IntKind.u64.wrap (v4.jD+v6)))))]]⟩) (Fj N v4 v7 v5 v8 v6) ?_ ?_
 ·intro f4 yy;apply bc J<;>intro h1 J
  ·exact lf aX yy (IntKind.u64.wrap (v9+(1:Int))) [[(0,bT h1)],[]] J
  exact lf aX yy v9 [[(0,bF h1)]] J
 intro v10 J;rw[Fj]at J;cases J;exact iV aX [[]]
def Nb(N:Nat)(v1:bm)(v2:bf):anF Bool:=
 some (bL v1.aO==bL v2.aO)
theorem ajU{N v1 v2}:KP 189 [(Ue v1),(.ptr 0 0)] [.cells (oF v2).cells] aC (λ_=>[.cells (oF v2).cells]) (Nb N v1 v2):=
 fh 1 Tryz.func189 (gH [[],[]])
def AX(N:Nat)(v2:bf):anD bm->Nat->anF Int
 |[],_=>
  some (-1:Int)
 |v5::v6,v3=>
  (Nb N v5 v2).bind λv7=>
  bif v7 then
   some (v3:Int)
  else
   (AX N v2 v6 (v3+1))
def Q7(N:Nat)(v1:anD bm)(v2:bf):anF Int:=
 AX N v2 v1 0
theorem aad{N v1 v2}:KP 188 [(.d (.sl (bt v1))),(.fn 189 [(.ptr 0 0)])] [.cells (oF v2).cells] au (λ_=>[.cells (oF v2).cells]) (Q7 N v1 v2):=
 fh 1 Tryz.func188 (gA [[],[(4,oL v1 QM)]] (gT ae5 0 v1 λh2=>js 1 [] [0,1,7,8] 1 (λv3=>⟨19,[(0,(.d (.sl (bt v1)))),(1,(.fn 189 [(.ptr 0 0)])),(7,(au (v1.length:Int))),(8,(au (v3:Int)))],[.cells (oF v2).cells]⟩) (λv3 h3 f1=>gH [[],[f0 (dv h3)],[]]) (λv3 v5 v6 h3 f1 aK=>ax λv7 h4=>gA [[],[t0 (dt h3)],[],[(10,oE (VX (cO h3))),(16,oQ [(Ue v5),(.ptr 0 0)] [.cells (oF v2).cells] [0] (ajU _ h4))]] (ay (λh5=>gH [[t0 h5],[]]) λh5=>gb aK () [[f0 h5],[(2,oq (dR h3 rfl h2))]] h3))))
def IL(N:Nat)(v1:jf):anF (Int64×Bool):=
 Option.bind (bif (v1.kH==(IntKind.u64.wrap (Int64.ofInt (((Int64.ofInt v1.jD).toInt).fdiv (2^(min ((63:Int)).toNat (IntKind.bits .i64))))).toInt))then some (v1.nN==(IntKind.u64.wrap (Int64.ofInt (((Int64.ofInt v1.jD).toInt).fdiv (2^(min ((63:Int)).toNat (IntKind.bits .i64))))).toInt))else some false) λv2=>
 some ((Int64.ofInt v1.jD),v2)
theorem agq{N v1}:KP 191 [(.ptr 0 0)] [.cells (Dh v1).cells] (λr=> .aQ [(aT r.1),(aC r.2)]) (λ_=>[.cells (Dh v1).cells]) (IL N v1):=
 fh 1 Tryz.func191 (gA [[],[(14,⟨_,_, .eq (iZ v1.jD)⟩)],[(4,⟨_,_, .nn (b:=63) (by decide)⟩),(5,⟨_,_, .eq (RM (Int64.ofInt v1.jD) (min ((63:Int)).toNat (IntKind.bits .i64)))⟩)]] (gG (λv2=>[(2,(aT (Int64.ofInt v1.jD))),(3,(aC v2))]) (λ_=>[.cells (Dh v1).cells]) (ay (λh1=>gE [(7,bT h1)] []) λh1=>gE [(7,bF h1)] []) λv2=>gH []))
def BO(N:Nat)(v2:anD bm):anD bf->Nat->Int->Int->Int->anF (Int64×Int)
 |[],_,v10,v11,v12=>
  Option.bind (IL N (⟨v10,v11,v12⟩:jf)) λaW=>
  bif aW.2 then
   some (aW.1,(0:Int))
  else
   some ((0:Int64),(3:Int))
 |v8::v9,v6,v10,v11,v12=>
  (Q7 N v2 v8).bind λbX=>
  bif (decide (bX<0))then
   some ((0:Int64),(9:Int))
  else
   bif (decide ((0:Int)<=bX))then
   Option.bind (v2[(bX).toNat]?) λb7=>
   (uB N v8.cA).bind λfO=>
   (uB N b7.bg).bind λb6=>
   (DW N fO b6).bind λaU=>
   Option.bind (zM N aU.1 aU.2 (!((decide (v8.cA.toInt<0))==(decide (b7.bg.toInt<0)))) (⟨v10,v11,v12⟩:jf)) λcD=>
   (λdV iU wu=>BO N v2 v9 (v6+1) dV iU wu) cD.1 cD.2.1 cD.2.2
   else none
def AL(N:Nat)(v1:aP)(v2:anD bm):anF (Int64×Int):=
 (wm N v1).bind λv3=>
 bif (v3 !=0)then
  some ((0:Int64),(1:Int))
 else
  (uB N v1.xK).bind λv4=>
  Option.bind (zM N (0:Int) v4 (decide (v1.xK.toInt<0)) SZ) λv5=>
  BO N v2 v1.xL 0 v5.1 v5.2.1 v5.2.2
def H0(v1:aP)(v10:Int)(v11:Int)(v12:Int)(l:anD ao):anD ao:= .cells (cz v1).cells:: .cells [(.d (.v (.int .u64 v10))),(.d (.v (.int .u64 v11))),(.d (.v (.int .u64 v12)))]::l
theorem OF{N v1 v2}:KO 124 [(cz v1),(.d (.sl (bt v2)))] (λr=> .aQ [(aT r.1),(au r.2)]) (AL N v1 v2):=
 fw Tryz.func124 (ax λv3 h1=>gA [[],[(4,cK Di h1)]] (gF λ_=>ax λv4 h3=>ax λv5 h4=>li (λ_=>(sE aX [(7,cK B4 h3),(19,oR [(.ptr 1 0),(.d (.v (.int .u64 (0:Int)))),(.d (.v (.int .u64 v4))),(aC (decide (v1.xK.toInt<0)))] [.cells (cz v1).cells, .cells [(.d (.v (.int .u64 (0:Int)))),(.d (.v (.int .u64 (0:Int)))),(.d (.v (.int .u64 (0:Int))))]] [1] (T6 h4))] [] [.cells (cz v1).cells, .cells [(.d (.v (.int .u64 v5.1))),(.d (.v (.int .u64 v5.2.1))),(.d (.v (.int .u64 v5.2.2)))]] ·)) (gA [[(7,oL v1.xL fc)]] (gT vP 26 v1.xL λh6=>gl3 1 [] [1,6,26,27,28] 2 (λv6(v10:Int)(v11:Int)(v12:Int)=>⟨68,[(1,(.d (.sl (bt v2)))),(6,(.ptr 1 0)),(26,(.d (.sl (cC v1.xL)))),(27,(au (v1.xL.length:Int))),(28,(au (v6:Int)))],(H0 v1 v10 v11 v12 [])⟩) (λv6 v10 v11 v12 h7 f1=>ax λaW h8=>gA [[],[f0 (dv h7)],[(1,oQ [(.ptr 1 0)] (H0 v1 v10 v11 v12 []) [1] (agq _ h8))],[]] (rM λh9=>gR [[t0 (dD h9)],[]])) (λv6 v8 v9 v10 v11 v12 h7 f1 aK=>ax λbX bk=>gA [[],[t0 (dt h7)],[(1,oE (jM (cO h7)))],[(7,oQ [(.d (.sl (bt v2))),(.fn 189 [(.ptr 2 0)])] (H0 v1 v10 v11 v12 [.cells (oF v8).cells]) [2] (aad _ bk))],[]] (bN λbo=>gy λcf=>ax λb7 bJ=>ax λfO ct=>ax λb6 cq=>ax λaU bH=>ax λcD cE=>gb aK (cD.1,cD.2.1,cD.2.2) [[f0 bo],[(7,⟨_,_, .el (xs:=bt v2) (i:=bX) (of_decide_eq_true cf) (VX bJ)⟩)],[(7,cK B4 ct),(13,cK B4 cq),(16,cK XE bH)],[(25,oR [(.ptr 1 0),(.d (.v (.int .u64 aU.1))),(.d (.v (.int .u64 aU.2))),(aC (!((decide (v8.cA.toInt<0))==(decide (b7.bg.toInt<0)))))] (H0 v1 v10 v11 v12 [.cells (oF v8).cells]) [1] (T6 cE))],[(2,oq (dR h7 rfl h6))]] h7))))))
def Qr(N:Nat)(v1:bp)(v2:anE):anF Bool:=
 some (bL v1.aO==bL v2)
theorem aaY{N v1 v2}:KP 129 [(XM v1),(.ptr 0 0)] [.cells [(bu v2)]] aC (λ_=>[.cells [(bu v2)]]) (Qr N v1 v2):=
 fh 1 Tryz.func129 (gH [[],[]])
def yC(N:Nat)(v2:anE):anD bp->Nat->anF Int
 |[],_=>
  some (-1:Int)
 |v5::v6,v3=>
  (Qr N v5 v2).bind λv7=>
  bif v7 then
   some (v3:Int)
  else
   (yC N v2 v6 (v3+1))
def LV(N:Nat)(v1:anD bp)(v2:anE):anF Int:=
 yC N v2 v1 0
theorem agY{N v1 v2}:KP 128 [(.d (.sl (bq v1))),(.fn 129 [(.ptr 0 0)])] [.cells [(bu v2)]] au (λ_=>[.cells [(bu v2)]]) (LV N v1 v2):=
 fh 1 Tryz.func128 (gA [[],[(4,oL v1 OV)]] (gT ad6 0 v1 λh2=>js 1 [] [0,1,7,8] 1 (λv3=>⟨19,[(0,(.d (.sl (bq v1)))),(1,(.fn 129 [(.ptr 0 0)])),(7,(au (v1.length:Int))),(8,(au (v3:Int)))],[.cells [(bu v2)]]⟩) (λv3 h3 f1=>gH [[],[f0 (dv h3)],[]]) (λv3 v5 v6 h3 f1 aK=>ax λv7 h4=>gA [[],[t0 (dt h3)],[],[(10,oE (YG (cO h3))),(16,oQ [(XM v5),(.ptr 0 0)] [.cells [(bu v2)]] [0] (aaY _ h4))]] (ay (λh5=>gH [[t0 h5],[]]) λh5=>gb aK () [[f0 h5],[(2,oq (dR h3 rfl h2))]] h3))))
def JR(N:Nat)(v1:anD bp)(v2:anE):anF (a8×Bool):=
 (LV N v1 v2).bind λv3=>
 bif (decide (v3<0))then
  some (U6,false)
 else
  bif (decide ((0:Int)<=v3))then
  Option.bind (v1[(v3).toNat]?) λv4=>
  some (v4.jS,true)
  else none
theorem ac8{N v1 v2}:KO 70 [(.d (.sl (bq v1))),(bu v2)] (λr=> .aQ [(od r.1),(aC r.2)]) (JR N v1 v2):=
 fw Tryz.func70 (ax λv3 h1=>gA [[],[(7,oQ [(.d (.sl (bq v1))),(.fn 129 [(.ptr 0 0)])] [.cells [(bu v2)], .cells zc4] [0] (agY _ h1))],[]] (bN λh2=>gy λh4=>ax λv4 h3=>gR [[f0 h2],[(7,⟨_,_, .el (xs:=bq v1) (i:=v3) (of_decide_eq_true h4) (YG h3)⟩)]]))
def An(N:Nat):anD Int->Nat->Int->anF Int
 |[],_,_=>
  some (0:Int)
 |v8::v9,v6,v10=>
  bif (v10 !=0)then
  bif (decide (v8>(IntKind.i64.wrap (((4096:Int)).tdiv v10))))then
   some (2:Int)
  else
   (λsF=>An N v9 (v6+1) sF) (aS (v10*v8))
  else none
def Gv(N:Nat)(v1:anD Int):anD Int->Nat->anF Int
 |[],_=>
  An N v1 0 (1:Int)
 |v4::v5,v2=>
  bif (decide (v4<1))then
   some (1:Int)
  else
   (Gv N v1 v5 (v2+1))
def BW(N:Nat)(v1:anD Int):anF Int:=
 bif (decide ((v1.length:Int)>6))then
  some (2:Int)
 else
  Gv N v1 v1 0
theorem US{N v1}:KO 130 [(.d (.sl (iQ v1)))] au (BW N v1):=
 fw Tryz.func130 (gA [[],[(4,oL v1 uS)]] (bN λh1=>gA [[f0 h1],[(4,oL v1 uS)]] (gT F7 0 v1 λh3=>js 1 [] [0,11,12,13] 0 (λv2=>⟨34,[(0,(.d (.sl (iQ v1)))),(11,(.d (.sl (iQ v1)))),(12,(au (v1.length:Int))),(13,(au (v2:Int)))],[]⟩) (λv2 h4 f1=>gA [[],[f0 (dv h4)],[],[(4,oL v1 uS)]] (gT F7 0 v1 λh6=>q9 2 [] [5,20,21,22] 0 (λv6(v10:Int)=>⟨34,[(5,(au v10)),(20,(.d (.sl (iQ v1)))),(21,(au (v1.length:Int))),(22,(au (v6:Int)))],[]⟩) (λv6 v10 h7 f2=>gR [[],[f0 (dv h7)],[]]) (λv6 v8 v9 v10 h7 f2 fY=>gy λh8=>gA [[],[t0 (dt h7)],[(1,oE (vF (cO h7)))],[(7,⟨_,_, .nz (b:=v10) (bne_iff_ne.1 h8)⟩)]] (bN λh9=>gb fY (aS (v10*v8)) [[f0 h9],[],[(2,oq (dR h7 rfl h6))]] h7)))) (λv2 v4 v5 h4 f1 aK=>gA [[],[t0 (dt h4)],[(1,oE (vF (cO h4)))],[]] (bN λbk=>gb aK () [[f0 bk],[(2,oq (dR h4 rfl h3))]] h4)))))
def GP(N:Nat):anD Int->Nat->Int->anF Int
 |[],_,v7=>
  some v7
 |v5::v6,v3,v7=>
  (λdV=>GP N v6 (v3+1) dV) (aS (v7*v5))
def Jn(N:Nat)(v1:anD Int):anF Int:=
 (BW N v1).bind λv2=>
 bif (v2 !=0)then
  some (0:Int)
 else
  GP N v1 0 (1:Int)
theorem aja{N v1}:KO 131 [(.d (.sl (iQ v1)))] au (Jn N v1):=
 fw Tryz.func131 (ax λv2 h1=>gA [[],[(4,cK US h1)]] (bN λh2=>gA [[f0 h2],[],[(4,oL v1 uS)]] (gT F7 0 v1 λh4=>q9 1 [] [3,9,10,11] 0 (λv3(v7:Int)=>⟨20,[(3,(au v7)),(9,(.d (.sl (iQ v1)))),(10,(au (v1.length:Int))),(11,(au (v3:Int)))],[]⟩) (λv3 v7 h5 f1=>gR [[],[f0 (dv h5)],[]]) (λv3 v5 v6 v7 h5 f1 aK=>gb aK (aS (v7*v5)) [[],[t0 (dt h5)],[(1,oE (vF (cO h5)))],[],[(2,oq (dR h5 rfl h4))]] h5))))
def IY(N:Nat)(v1:a8):anD aB->Nat->anF Int
 |[],_=>
  some (0:Int)
 |v7::v8,v5=>
  (ox N v1.aD v7).bind λv9=>
  bif v9 then
   (IY N v1 v8 (v5+1))
  else
   some (1:Int)
def Ic(N:Nat)(v1:a8):anF Int:=
 (nf N v1.aD).bind λv2=>
 bif (v2 !=0)then
  some v2
 else
  (BW N v1.dg).bind λv3=>
  bif (v3 !=0)then
   some v3
  else
   (Jn N v1.dg).bind λv4=>
   bif ((v1.eN.length:Int) !=v4)then
    some (1:Int)
   else
    IY N v1 v1.eN 0
theorem af7{N v1}:KO 71 [(od v1)] au (Ic N v1):=
 fw Tryz.func71 (ax λv2 h1=>gA [[],[(7,cK qT h1)],[]] (bN λh2=>ax λv3 h3=>gA [[f0 h2],[(7,cK US h3)],[]] (bN λh4=>ax λv4 h5=>gA [[f0 h4],[(7,oL v1.eN JC),(16,cK aja h5)]] (bN λh6=>gA [[f0 h6],[(7,oL v1.eN JC)]] (gT VH 27 v1.eN λh8=>js 1 [] [1,27,28,29] 1 (λv5=>⟨39,[(1,(.ptr 0 0)),(27,(.d (.sl (kf v1.eN)))),(28,(au (v1.eN.length:Int))),(29,(au (v5:Int)))],[.cells (od v1).cells]⟩) (λv5 h9 f1=>gR [[],[f0 (dv h9)],[]]) (λv5 v7 v8 h9 f1 aK=>ax λv9 bk=>gA [[],[t0 (dt h9)],[(1,oE (Is (cO h9)))],[(10,cK xu bk)]] (mu λbo=>gb aK () [[f0 (du bo)],[(2,oq (dR h9 rfl h8))]] h9)))))))
def Dk(N:Nat)(v1:anE)(v2:anD bp)(v3:anD (anE×a8)):anF (a8×Int×(anD (anE×a8))):=
 bif (mO v3 v1)then
  some ((nk v3 v1 (⟨(⟨0,0,0,0,0⟩:aF),[],[]⟩:a8)),(0:Int),v3)
 else
  (JR N v2 v1).bind λv4=>
  bif v4.2 then
   (Ic N v4.1).bind λv5=>
   bif (v5 !=0)then
    some (v4.1,(1:Int),v3)
   else
    bif (Nat.blt v3.length 9223372036854775807)then
    some (v4.1,(0:Int),((v1,v4.1)::v3))
    else none
  else
   some (v4.1,(9:Int),v3)
theorem XC{N v1 v2 v3}:KP 69 [(bu v1),(.ptr 0 0),(.ptr 1 0)] [.cells [(.mp 2)], .cells [(.d (.sl (bq v2)))], .map (bU bR v3)] (λr=> .aQ [(od r.1),(au r.2.1)]) (λr=>[.cells [(.mp 2)], .cells [(.d (.sl (bq v2)))], .map (bU bR r.2.2)]) (Dk N v1 v2 v3):=
 fh 3 Tryz.func69 (gA [[],[(8,⟨_,_, .eq (ahh bR (.agg #[.int .i64 0, .int .i64 0, .int .i64 0, .int .i64 0, .int .i64 0, .slice none 0 0, .slice none 0 0]) (⟨(⟨0,0,0,0,0⟩:aF),[],[]⟩:a8) rfl true v3 v1)⟩)],[]] (ay (λh1=>gH [[t0 h1],[]]) λh1=>ax λv4 h2=>gA [[f0 h1],[(7,cK ac8 h2)],[]] (ay (λh3=>ax λv5 h4=>gA [[f0 (du h3)],[(4,cK af7 h4)]] (ay (λh5=>gH [[t0 h5],[]]) λh5=>gy λh6=>gH [[f0 h5],[(10,⟨_,_, .sd (o:= .none) (afU (f:=bR) h6)⟩)],[]])) λh3=>gH [[t0 (dD h3)],[]])))
def Bo(N:Nat)(v1:Int)(v2:Int64)(v3:Int):anF (Int×Int):=
 Option.bind (bif (decide (v2.toInt<0))then some true else some (decide (v2.toInt>=v3))) λv4=>
 bif v4 then
  some ((0:Int),(12:Int))
 else
  some ((aS ((aS (v1*v3))+v2.toInt)),(0:Int))
theorem R5{N v1 v2 v3}:KO 193 [(au v1),(aT v2),(au v3)] (λr=> .aQ [(au r.1),(au r.2)]) (Bo N v1 v2 v3):=
 fw Tryz.func193 (gA [[]] (gG (λv4=>[(14,(aC v4))]) (λ_=>[]) (ay (λh1=>gE [(2,bT h1)] []) λh1=>gE [(2,bF h1)] []) λv4=>bN λh3=>gR [[f0 h3],[]]))
def CE(N:Nat)(v6:a8×Int×(anD (anE×a8)))(v3:Int)(v1:anD bm):anD aP->Nat->Int->anF (Int64×Int×(anD (anE×a8)))
 |[],_,v11=>
  bif (decide ((0:Int)<=v11))then
  Option.bind (v6.1.eN[(v11).toNat]?) λv12=>
  bif (aS (if(if(aS (v3-(1:Int)))<v12.xN.toInt then(aS (v3-(1:Int)))else v12.xN.toInt)>0then(if(aS (v3-(1:Int)))<v12.xN.toInt then(aS (v3-(1:Int)))else v12.xN.toInt)else(0:Int))==(if(if(aS (v3-(1:Int)))<v12.xN.toInt then(aS (v3-(1:Int)))else v12.xN.toInt)>0then(if(aS (v3-(1:Int)))<v12.xN.toInt then(aS (v3-(1:Int)))else v12.xN.toInt)else(0:Int)))then
  some ((Int64.ofInt (if(if(aS (v3-(1:Int)))<v12.xN.toInt then(aS (v3-(1:Int)))else v12.xN.toInt)>0then(if(aS (v3-(1:Int)))<v12.xN.toInt then(aS (v3-(1:Int)))else v12.xN.toInt)else(0:Int))),(0:Int),v6.2.2)
  else none
  else none
 |v9::v10,v7,v11=>
  (AL N v9 v1).bind λaW=>
  bif (aW.2 !=0)then
   some ((0:Int64),aW.2,v6.2.2)
  else
   Option.bind (v6.1.dg[((v7:Int)).toNat]?) λbX=>
   (Bo N v11 aW.1 bX).bind λb7=>
   bif (b7.2 !=0)then
    some ((0:Int64),b7.2,v6.2.2)
   else
    (λdV=>CE N v6 v3 v1 v10 (v7+1) dV) b7.1
def JU(N:Nat)(v1:anD bm)(v2:aN)(v3:Int)(v4:anD bp)(v5:anD (anE×a8)):anF (Int64×Int×(anD (anE×a8))):=
 (Dk N v2.bI v4 v5).bind λv6=>
 bif (v6.2.1 !=0)then
  some ((0:Int64),v6.2.1,v6.2.2)
 else
  bif (v6.1.aD.aL !=3)then
   some ((0:Int64),(10:Int),v6.2.2)
  else
   bif ((v2.aZ.length:Int) !=(v6.1.dg.length:Int))then
    some ((0:Int64),(11:Int),v6.2.2)
   else
    CE N v6 v3 v1 v2.aZ 0 (0:Int)
theorem ae8{N v1 v2 v3 v4 v5}:KP 192 [(.fn 69 [(.ptr 0 0),(.ptr 1 0)]),(.d (.sl (bt v1))),(gh v2),(au v3)] [.cells [(.mp 2)], .cells [(.d (.sl (bq v4)))], .map (bU bR v5)] (λr=> .aQ [(aT r.1),(au r.2.1)]) (λr=>[.cells [(.mp 2)], .cells [(.d (.sl (bq v4)))], .map (bU bR r.2.2)]) (JU N v1 v2 v3 v4 v5):=
 fh 3 Tryz.func192 (ax λv6 h1=>gA [[],[(10,oR [(bu v2.bI),(.ptr 0 0),(.ptr 1 0)] [.cells [(.mp 2)], .cells [(.d (.sl (bq v4)))], .map (bU bR v5), .cells (gh v2).cells] [0,1,2] (XC _ h1))],[]] (ay (λh2=>gH [[t0 h2],[]]) λh2=>gA [[f0 h2],[]] (ay (λh3=>gH [[t0 h3],[]]) λh3=>gA [[f0 h3],[(7,oL v2.aZ gW),(16,oL v6.1.dg uS)]] (ay (λh4=>gH [[t0 h4],[]]) λh4=>gA [[f0 h4],[],[(7,oL v2.aZ gW)]] (gT Ij 42 v2.aZ λh6=>q9 1 [] [1,3,10,12,42,43,44] 5 (λv7(v11:Int)=>⟨83,[(1,(.d (.sl (bt v1)))),(3,(au v3)),(10,(.ptr 4 0)),(12,(au v11)),(42,(.d (.sl (ew v2.aZ)))),(43,(au (v2.aZ.length:Int))),(44,(au (v7:Int)))],[.cells [(.mp 2)], .cells [(.d (.sl (bq v4)))], .map (bU bR v6.2.2), .cells (gh v2).cells, .cells (od v6.1).cells]⟩) (λv7 v11 h7 f1=>gy λh9=>ax λv12 h8=>gy λbk=>gH [[],[f0 (dv h7)],[(10,⟨_,_, .el (xs:=kf v6.1.eN) (i:=v11) (of_decide_eq_true h9) (Is h8)⟩),(32,⟨_,_, .eq (NK (beq_iff_eq.1 bk))⟩)]]) (λv7 v9 v10 v11 h7 f1 aK=>ax λaW bo=>gA [[],[t0 (dt h7)],[(4,oE (uE (cO h7)))],[(7,cK OF bo)],[]] (ay (λbJ=>gH [[t0 bJ],[]]) λbJ=>ax λbX cf=>ax λb7 cq=>gA [[f0 bJ],[(16,oE (vF cf)),(22,cK R5 cq)],[]] (ay (λbH=>gH [[t0 bH],[]]) λbH=>gb aK b7.1 [[f0 bH],[(2,oq (dR h7 rfl h6))]] h7))))))))
def AK(N:Nat)(v5:a8×Int×(anD (anE×a8)))(v6:Nat)(v10:Int)(uH:Int->(anD (anE×a8))->anF (dX×Int×(anD (anE×a8))))(aW:Int)(bX:Int64)(b7:anD (anE×a8)):anF (dX×Int×(anD (anE×a8))):=
 bif (aW !=0)then
  some (zJ,aW,b7)
 else
  Option.bind (v5.1.dg[((v6:Int)).toNat]?) λfO=>
  (Bo N v10 bX fO).bind λb6=>
  bif (b6.2 !=0)then
   some (zJ,b6.2,b7)
  else
   uH b6.1 b7
def o0(N:Nat)(v5:a8×Int×(anD (anE×a8)))(v1:anD bm)(v3:anD bp):anD aN->Nat->Int->(anD (anE×a8))->anF (dX×Int×(anD (anE×a8)))
 |[],_,v10,v11=>
  bif (decide ((0:Int)<=v10))then
  Option.bind (v5.1.eN[(v10).toNat]?) λv12=>
  some ((⟨v12,v5.1.aD⟩:dX),(0:Int),v11)
  else none
 |v8::v9,v6,v10,v11=>
  bif (bL v8.bI==bL (bs []))then
   (AL N v8.aM v1).bind λaU=>
   AK N v5 v6 v10 (λdV iU=>o0 N v5 v1 v3 v9 (v6+1) dV iU) aU.2 aU.1 v11
  else
   Option.bind (v5.1.dg[((v6:Int)).toNat]?) λcD=>
   (JU N v1 v8 cD v3 v11).bind λv20=>
   AK N v5 v6 v10 (λdV iU=>o0 N v5 v1 v3 v9 (v6+1) dV iU) v20.2.1 v20.1 v20.2.2
def EN(N:Nat)(v1:anD bm)(v2:an)(v3:anD bp)(v4:anD (anE×a8)):anF (dX×Int×(anD (anE×a8))):=
 (Dk N v2.aO v3 v4).bind λv5=>
 bif (v5.2.1 !=0)then
  some (zJ,v5.2.1,v5.2.2)
 else
  bif ((v2.xIdx.length:Int) !=(v5.1.dg.length:Int))then
   some (zJ,(11:Int),v5.2.2)
  else
   o0 N v5 v1 v3 v2.xIdx 0 (0:Int) v5.2.2
def yv(v3:anD bp)(v4:anD (anE×a8))(v2:an)(l:anD ao):anD ao:= .cells [(.mp 2)]:: .cells [(.d (.sl (bq v3)))]:: .map (bU bR v4):: .cells (aA v2).cells:: .cells dn::l
def wE(v3:anD bp)(v5:a8×Int×(anD (anE×a8)))(v2:an)(l:anD ao):anD ao:= .cells [(.mp 2)]:: .cells [(.d (.sl (bq v3)))]:: .map (bU bR v5.2.2):: .cells (aA v2).cells:: .cells dn:: .cells (od v5.1).cells::l
def nR(v3:anD bp)(v11:anD (anE×a8))(v2:an)(v5:a8×Int×(anD (anE×a8)))(v8:aN)(l:anD ao):anD ao:=yv v3 v11 v2 (.cells (od v5.1).cells:: .cells (gh v8).cells::l)
def N6(v3:anD bp)(l:anD ao):anD ao:= .cells [(.mp 2)]:: .cells [(.d (.sl (bq v3)))]::l
theorem abh(N:Nat)(v1:anD bm)(v2:an)(v3:anD bp)(v4:anD (anE×a8))(r:dX×Int×(anD (anE×a8)))(J:EN N v1 v2 v3 v4=some r):KH 125 [(.fn 69 [(.ptr 0 0),(.ptr 1 0)]),(.d (.sl (bt v1))),(aA v2)] ([.cells [(.mp 2)], .cells [(.d (.sl (bq v3)))], .map (bU bR v4)]) (.aQ [(dA r.1),(au r.2.1)]) ([.cells [(.mp 2)], .cells [(.d (.sl (bq v3)))], .map (bU bR r.2.2)]):=by
 rw[EN]at J;refine zD 3 Tryz.func125 rfl (by kernel_rfl) (amV rfl) ?_;refine w9 (s':=⟨91,[(0,(.fn 69 [(.ptr 0 0),(.ptr 1 0)])),(1,(.d (.sl (bt v1)))),(2,(aA v2))],(N6 v3 [.map (bU bR v4)])⟩) (by kernel_rfl) ?_;refine aR ?_;refine rg [] [(5,(.ptr 3 0)),(6,(.ptr 4 0))] (yv v3 v4 v2 []) (by kernel_rfl) ?_;refine aR ?_;obtain⟨v5,h1,J⟩:=b8 J;refine rg [(10,oR [(bu v2.aO),(.ptr 0 0),(.ptr 1 0)] (yv v3 v4 v2 []) [0,1,2] (XC _ h1))] [(8,(.ptr 5 0)),(9,(au v5.2.1))] (wE v3 v5 v2 []) (by kernel_rfl) ?_;refine aR ?_;refine aR ?_;refine rg [] [(22,(aC (v5.2.1 !=0)))] (wE v3 v5 v2 []) (by kernel_rfl) ?_;rcases gq (v5.2.1 !=0)with h2|h2
 ·replace J:=(gg h2).symm.trans J;refine aw_cond_h (t:=(v5.2.1 !=0)) (by kernel_rfl) h2 ?_;refine aR ?_;refine rg [] [(7,(au v5.2.1))] (wE v3 v5 v2 []) (by kernel_rfl) ?_;refine dz (dO ?_);have hr:=am6 J;subst hr;exact m5 (by kernel_rfl)
 replace J:=(gu h2).symm.trans J;refine gZ (t:=(v5.2.1 !=0)) (by kernel_rfl) h2 ?_;refine fj ?_;refine cw ?_;refine aR ?_;refine aR ?_;refine rg [(7,oL v2.xIdx fU),(16,oL v5.1.dg uS)] [(31,(aC ((v2.xIdx.length:Int) !=(v5.1.dg.length:Int))))] (wE v3 v5 v2 []) (by kernel_rfl) ?_;rcases gq ((v2.xIdx.length:Int) !=(v5.1.dg.length:Int))with h3|h3
 ·replace J:=(gg h3).symm.trans J;refine aw_cond_h (t:=((v2.xIdx.length:Int) !=(v5.1.dg.length:Int))) (by kernel_rfl) h3 ?_;refine aR ?_;refine rg [] [(7,(au (11:Int)))] (wE v3 v5 v2 []) (by kernel_rfl) ?_;refine dz (dO ?_);have hr:=am6 J;subst hr;exact m5 (by kernel_rfl)
 replace J:=(gu h3).symm.trans J;refine gZ (t:=((v2.xIdx.length:Int) !=(v5.1.dg.length:Int))) (by kernel_rfl) h3 ?_;refine fj ?_;refine cw ?_;refine aR ?_;refine rg [] [(10,(au (0:Int)))] (wE v3 v5 v2 []) (by kernel_rfl) ?_;refine aR ?_;refine aR ?_;refine rg [(7,oL v2.xIdx fU)] [(34,(.d (.sl (cH v2.xIdx)))),(35,(au (v2.xIdx.length:Int))),(36,(au (0:Int)))] (wE v3 v5 v2 []) (by kernel_rfl) ?_;refine la ?_;refine EE 34 (cH v2.xIdx) (by kernel_rfl) λh4=> ?_;have h5:=Km fU h4;refine TT [0,1,6,8,10,34,35,36] 6 (λ((v6,v7,v10,v11):Nat×(anD aN)×Int×(anD (anE×a8)))=>⟨91,[(0,(.fn 69 [(.ptr 0 0),(.ptr 1 0)])),(1,(.d (.sl (bt v1)))),(6,(.ptr 4 0)),(8,(.ptr 5 0)),(10,(au v10)),(34,(.d (.sl (cH v2.xIdx)))),(35,(au (v2.xIdx.length:Int))),(36,(au (v6:Int)))],(yv v3 v11 v2 [.cells (od v5.1).cells])⟩) (λ((v6,v7,v10,v11):Nat×(anD aN)×Int×(anD (anE×a8)))=>v2.xIdx.drop v6=v7/\o0 N v5 v1 v3 v7 v6 v10 v11=some r) (λ((v6,v7,v10,v11):Nat×(anD aN)×Int×(anD (anE×a8)))=>v7.length) (0,v2.xIdx,(0:Int),v5.2.2) (amV rfl) (by kernel_rfl) ⟨rfl,J⟩ ?_;rintro⟨v6,v7,v10,v11⟩ ⟨h6,J⟩;cases v7 with
 |nil=>
  rw[o0]at J;refine aR ?_;refine rg [] [(37,(aC (decide ((v6:Int)<(v2.xIdx.length:Int)))))] (yv v3 v11 v2 [.cells (od v5.1).cells]) (by kernel_rfl) ?_;refine aR ?_;refine gZ (t:=(decide ((v6:Int)<(v2.xIdx.length:Int)))) (by kernel_rfl) (dv h6) ?_;refine x9 (uk (uk (B5 rfl ?_)));refine cw ?_;refine aR ?_;have h8:=aaV J;replace J:=(gg h8).symm.trans J;obtain⟨v12,h7,J⟩:=b8 J;refine rd aX (by kernel_rfl) [(10,⟨_,_, .el (xs:=kf v5.1.eN) (i:=v10) (of_decide_eq_true h8) (Is h7)⟩)] [(7,(au (0:Int)))] (N6 v3 [.map (bU bR v11), .cells (aA v2).cells, .cells [(aT v12.xN),(aT v12.xD),(au v5.1.aD.aL),(au v5.1.aD.bY),(au v5.1.aD.bM),(au v5.1.aD.b5),(au v5.1.aD.bK)], .cells (od v5.1).cells]) (by kernel_rfl) ?_;refine dz ?_;have hr:=am6 J;subst hr;exact m5 (by kernel_rfl)
 |cons v8 v9=>
  rw[o0]at J;refine aR ?_;refine rg [] [(37,(aC (decide ((v6:Int)<(v2.xIdx.length:Int)))))] (yv v3 v11 v2 [.cells (od v5.1).cells]) (by kernel_rfl) ?_;refine aR ?_;refine aw_cond_h (t:=(decide ((v6:Int)<(v2.xIdx.length:Int)))) (by kernel_rfl) (dt h6) ?_;refine fj ?_;refine cw ?_;refine aR ?_;refine la ?_;refine aR ?_;refine rg [(4,oE (kC (cO h6)))] [(12,(.ptr 6 0)),(11,(au (v6:Int)))] (nR v3 v11 v2 v5 v8 []) (by kernel_rfl) ?_;refine aR ?_;refine rg [] [] (nR v3 v11 v2 v5 v8 []) (by kernel_rfl) ?_;refine aR ?_;refine aR ?_;refine rg [] [(43,(aC (bL v8.bI==bL (bs []))))] (nR v3 v11 v2 v5 v8 []) (by kernel_rfl) ?_;refine M5 [0,1,6,8,9,10,11,13,34,35,36] 7 (λ((aW,bX,b7):Int×Int64×(anD (anE×a8)))=>⟨91,[(0,(.fn 69 [(.ptr 0 0),(.ptr 1 0)])),(1,(.d (.sl (bt v1)))),(6,(.ptr 4 0)),(8,(.ptr 5 0)),(9,(au aW)),(10,(au v10)),(11,(au (v6:Int))),(13,(aT bX)),(34,(.d (.sl (cH v2.xIdx)))),(35,(au (v2.xIdx.length:Int))),(36,(au (v6:Int)))],(nR v3 b7 v2 v5 v8 [])⟩) (λ((aW,bX,b7):Int×Int64×(anD (anE×a8)))=>AK N v5 v6 v10 (λdV iU=>o0 N v5 v1 v3 v9 (v6+1) dV iU) aW bX b7=some r) (amV rfl) ?_ ?_
  ·rcases gq (bL v8.bI==bL (bs []))with ct|ct
   ·replace J:=(gg ct).symm.trans J;refine aw_cond_h (t:=(bL v8.bI==bL (bs []))) (by kernel_rfl) ct ?_;obtain⟨aU,cq,J⟩:=b8 J;refine re [(10,cK OF cq)] [(9,(au aU.2)),(13,(aT aU.1)),(50,(au aU.2)),(49,(aT aU.1)),(44,(.aQ [(aT aU.1),(au aU.2)])),(48,(.aQ [(aT aU.1),(au aU.2)])),(47,(.d (.sl (bt v1)))),(46,(cz v8.aM)),(45,(.ptr 6 0))] (nR v3 v11 v2 v5 v8 []) (by kernel_rfl) ?_;refine cw ?_;exact⟨(aU.2,aU.1,v11),by kernel_rfl,J⟩
   replace J:=(gu ct).symm.trans J;refine gZ (t:=(bL v8.bI==bL (bs []))) (by kernel_rfl) ct ?_;obtain⟨cD,bH,v20,cY,J⟩:=k00 J;refine rle aX (by kernel_rfl) [(19,oE (vF bH)),(25,oR [(.fn 69 [(.ptr 0 0),(.ptr 1 0)]),(.d (.sl (bt v1))),(gh v8),(au cD)] (nR v3 v11 v2 v5 v8 []) [0,1,2] (ae8 _ cY))] [(9,(au v20.2.1)),(13,(aT v20.1)),(62,(au v20.2.1)),(61,(aT v20.1)),(51,(.aQ [(aT v20.1),(au v20.2.1)])),(60,(.aQ [(aT v20.1),(au v20.2.1)])),(59,(au cD)),(58,(.ba [BP cD] 0 0)),(57,(au (v6:Int))),(56,(.d (.sl (iQ v5.1.dg)))),(55,(.ptr 5 5)),(54,(gh v8)),(53,(.d (.sl (bt v1)))),(52,(.fn 69 [(.ptr 0 0),(.ptr 1 0)]))] (N6 v3 [.map (bU bR v20.2.2), .cells (aA v2).cells, .cells dn, .cells (od v5.1).cells, .cells (gh v8).cells]) ⟨by kernel_rfl,by kernel_rfl⟩ ?_;refine cw ?_;exact⟨(v20.2.1,v20.1,v20.2.2),by kernel_rfl,J⟩
  rintro⟨aW,bX,b7⟩ J
  try dsimp only at J
  rw[AK]at J;refine aR ?_;refine aR ?_;refine rg [] [(64,(aC (aW !=0)))] (nR v3 b7 v2 v5 v8 []) (by kernel_rfl) ?_;rcases gq (aW !=0)with h9|h9
  ·replace J:=(gg h9).symm.trans J;refine aw_cond_h (t:=(aW !=0)) (by kernel_rfl) h9 ?_;refine aR ?_;refine rg [] [(7,(au aW))] (nR v3 b7 v2 v5 v8 []) (by kernel_rfl) ?_;refine dz (dO (gO (dO (dO (gO (dO ?_))))));have hr:=am6 J;subst hr;exact m5 (by kernel_rfl)
  replace J:=(gu h9).symm.trans J;refine gZ (t:=(aW !=0)) (by kernel_rfl) h9 ?_;refine fj ?_;refine cw ?_;refine aR ?_;obtain⟨fO,bk,b6,bJ,J⟩:=k00 J;refine rg [(16,oE (vF bk)),(22,cK R5 bJ)] [(10,(au b6.1)),(9,(au b6.2))] (nR v3 b7 v2 v5 v8 []) (by kernel_rfl) ?_;refine aR ?_;refine rg [] [(79,(aC (b6.2 !=0)))] (nR v3 b7 v2 v5 v8 []) (by kernel_rfl) ?_;rcases gq (b6.2 !=0)with cf|cf
  ·replace J:=(gg cf).symm.trans J;refine aw_cond_h (t:=(b6.2 !=0)) (by kernel_rfl) cf ?_;refine aR ?_;refine rg [] [(7,(au b6.2))] (nR v3 b7 v2 v5 v8 []) (by kernel_rfl) ?_;refine dz (gO (dO (dO (gO (dO ?_)))));have hr:=am6 J;subst hr;exact m5 (by kernel_rfl)
  replace J:=(gu cf).symm.trans J;refine gZ (t:=(b6.2 !=0)) (by kernel_rfl) cf ?_;refine fj ?_;refine oJ ?_;refine cw ?_;refine re [(2,oq (dR h6 rfl h5))] [(36,(au ((v6+1:Nat):Int))),(82,(au ((v6+1:Nat):Int)))] (nR v3 b7 v2 v5 v8 []) (by kernel_rfl) ?_;refine cw ?_;exact⟨(v6+1,v9,b6.1,b7),by kernel_rfl,⟨oc h6,J⟩,anB _⟩
def GK(N:Nat)(v5:Int64×Int)(v4:anD (anE×a8))(v7:Int):anF (dX×Int×(anD (anE×a8))):=
 some ((⟨(⟨v5.1,(1:Int64)⟩:aB),(⟨(3:Int),(0:Int),(0:Int),(0:Int),(0:Int)⟩:aF)⟩:dX),v7,v4)
def H5(N:Nat)(v1:anD bm)(v2:an)(v3:anD bp)(v4:anD (anE×a8)):anF (dX×Int×(anD (anE×a8))):=
 bif (v2.aq==1)then
  some ((⟨v2.bg,v2.aD⟩:dX),(0:Int),v4)
 else
  bif (v2.aq==2)then
   (AL N v2.aM v1).bind λv5=>
   Option.bind (bif (v5.2==0)then(bif (decide (v5.1.toInt>2147483647))then some true else some (decide (v5.1.toInt<(-2147483647:Int))))else some false) λv6=>
   bif v6 then
    GK N v5 v4 (3:Int)
   else
    GK N v5 v4 v5.2
  else
   (EN N v1 v2 v3 v4).bind λv8=>
   some (v8.1,v8.2.1,v8.2.2)
def Mm(v3:anD bp)(v4:anD (anE×a8))(v2:an)(l:anD ao):anD ao:= .cells [(.mp 2)]:: .cells [(.d (.sl (bq v3)))]:: .map (bU bR v4):: .cells (aA v2).cells:: .cells dn::l
theorem alE{N v1 v2 v3 v4}:KP 67 [(.fn 69 [(.ptr 0 0),(.ptr 1 0)]),(.d (.sl (bt v1))),(aA v2)] [.cells [(.mp 2)], .cells [(.d (.sl (bq v3)))], .map (bU bR v4)] (λr=> .aQ [(dA r.1),(au r.2.1)]) (λr=>[.cells [(.mp 2)], .cells [(.d (.sl (bq v3)))], .map (bU bR r.2.2)]) (H5 N v1 v2 v3 v4):=
 fh 3 Tryz.func67 (gA [[],[],[]] (ay (λh1=>gH [[t0 h1],[]]) λh1=>gA [[f0 h1],[]] (ay (λh2=>ax λv5 h3=>gA [[t0 h2],[(10,cK OF h3)]] (gG (λv6=>[(37,(aC v6))]) (λ_=>(Mm v3 v4 v2 [])) (ay (λh4=>cm (2,bT h4) (ay (λh5=>gE [(5,bT h5)] [(25,bT h5)]) λh5=>gE [(5,bF h5)] [(25,bF h5)])) λh4=>gE [(2,bF h4),(5,uN)] []) λv6=>lH 1 [] [6,8,9] 5 (λ(v7:Int)=>⟨49,[(6,(.ptr 4 0)),(8,(aT v5.1)),(9,(au v7))],(Mm v3 v4 v2 [])⟩) (GK N v5 v4) (λf1 aK=>ay (λh7=>gm aK (3:Int) [[t0 h7],[]]) λh7=>gm aK v5.2 [[f0 h7]]) (λv7=>gH [[]]))) λh2=>ax λv8 h8=>gH [[f0 h2],[(10,oR [(.fn 69 [(.ptr 0 0),(.ptr 1 0)]),(.d (.sl (bt v1))),(aA v2)] (Mm v3 v4 v2 []) [0,1,2] (abh N v1 v2 v3 v4 v8 h8))]])))
def Qf(N:Nat)(v1:Int)(v2:Int):anF Bool:=
 bif (v1==13)then
  some (decide (v2<0))
 else
  bif (v1==14)then
   some (decide (v2<=0))
  else
   some (v2==0)
theorem ZN{N v1 v2}:KO 122 [(au v1),(au v2)] aC (Qf N v1 v2):=
 fw Tryz.func122 (gA [[],[],[]] (gF λ_=>bN λh2=>gR [[f0 h2],[]]))
def vH(N:Nat)(v2:anD bm)(v1:an)(v3:anD bp)(v4:anD (anE×a8))(ahF:an->(anD bm)->(anD bp)->(anD (anE×a8))->anF (Bool×Int×(anD (anE×a8))))(UQ:an->(anD bm)->(anD bp)->(anD (anE×a8))->anF (dX×Int×(anD (anE×a8))))(aeZ:an->(anD bm)->(anD bp)->(anD (anE×a8))->anF (dX×Int×(anD (anE×a8))))(v5:Bool):anF (dX×Int×(anD (anE×a8))):=
 bif v5 then
  (H5 N v2 v1 v3 v4).bind λv6=>
  some (v6.1,v6.2.1,v6.2.2)
 else
  bif (v1.aq==11)then
   Option.bind (v1.aw[0]?) λv7=>
   (ahF v7 v2 v3 v4).bind λv8=>
   bif (v8.2.1 !=0)then
    some (zJ,v8.2.1,v8.2.2)
   else
    bif v8.1 then
     Option.bind (v1.aw[1]?) λv9=>
     (UQ v9 v2 v3 v8.2.2).bind λv10=>
     some (v10.1,v10.2.1,v10.2.2)
    else
     Option.bind (v1.aw[2]?) λv11=>
     (UQ v11 v2 v3 v8.2.2).bind λv12=>
     some (v12.1,v12.2.1,v12.2.2)
  else
   (aeZ v1 v2 v3 v4).bind λaW=>
   some (aW.1,aW.2.1,aW.2.2)
def BA(N:Nat)(v6:dX×Int×(anD (anE×a8)))(v8:dX×Int×(anD (anE×a8)))(v10:Int):anF (dX×dX×Int×(anD (anE×a8))):=
 some (v6.1,v8.1,v10,v8.2.2)
mutual
def lG(N:Nat):Nat->an->(anD bm)->(anD bp)->(anD (anE×a8))->anF (dX×Int×(anD (anE×a8)))
 |0,_,_,_,_=>none
 |d+1,v1,v2,v3,v4=>
  bif (v1.aq==1)then
   vH N v2 v1 v3 v4 (oa N d) (lG N d) (pw N d) (v1.aq==1)
  else
   bif (v1.aq==2)then
    vH N v2 v1 v3 v4 (oa N d) (lG N d) (pw N d) (v1.aq==2)
   else
    vH N v2 v1 v3 v4 (oa N d) (lG N d) (pw N d) (v1.aq==3)
def oa(N:Nat):Nat->an->(anD bm)->(anD bp)->(anD (anE×a8))->anF (Bool×Int×(anD (anE×a8)))
 |0,_,_,_,_=>none
 |d+1,v1,v2,v3,v4=>
  Option.bind ((Ef N d) v1 v2 v3 v4) λv5=>
  some (v5.1,v5.2.1,v5.2.2)
def Ef(N:Nat):Nat->an->(anD bm)->(anD bp)->(anD (anE×a8))->anF (Bool×Int×(anD (anE×a8)))
 |0,_,_,_,_=>none
 |d+1,v1,v2,v3,v4=>
  bif (decide (v1.aq<16))then
   Option.bind ((vI N d) v1 v2 v3 v4) λv5=>
   bif (v5.2.2.1 !=0)then
    some (false,v5.2.2.1,v5.2.2.2)
   else
    (zy N v5.1.eH v5.1.j7 v5.2.1.j7).bind λv6=>
    (Qf N v1.aq v6).bind λv7=>
    some (v7,(0:Int),v5.2.2.2)
  else
   Option.bind (v1.aw[0]?) λv8=>
   Option.bind ((oa N d) v8 v2 v3 v4) λv9=>
   Option.bind (bif (v9.2.1 !=0)then some true else some (v1.aq==18)) λv10=>
   bif v10 then
    Option.bind (bif (v9.2.1==0)then some (!v9.1)else some false) λv11=>
    some (v11,v9.2.1,v9.2.2)
   else
    Option.bind (v1.aw[1]?) λv12=>
    Option.bind ((oa N d) v12 v2 v3 v9.2.2) λaW=>
    bif (aW.2.1 !=0)then
     some (false,aW.2.1,aW.2.2)
    else
     bif (v1.aq==16)then
      (bif v9.1 then some aW.1 else some false).bind λbX=>
      some (bX,(0:Int),aW.2.2)
     else
      (bif v9.1 then some true else some aW.1).bind λb7=>
      some (b7,(0:Int),aW.2.2)
def vI(N:Nat):Nat->an->(anD bm)->(anD bp)->(anD (anE×a8))->anF (dX×dX×Int×(anD (anE×a8)))
 |0,_,_,_,_=>none
 |d+1,v1,v2,v3,v4=>
  Option.bind (v1.aw[0]?) λv5=>
  Option.bind ((lG N d) v5 v2 v3 v4) λv6=>
  bif (v6.2.1 !=0)then
   some (v6.1,v6.1,v6.2.1,v6.2.2)
  else
   Option.bind (v1.aw[1]?) λv7=>
   Option.bind ((lG N d) v7 v2 v3 v6.2.2) λv8=>
   Option.bind (bif (v8.2.1==0)then some (!((v6.1.eH.aL==v8.1.eH.aL)&&((v6.1.eH.bY==v8.1.eH.bY)&&((v6.1.eH.bM==v8.1.eH.bM)&&((v6.1.eH.b5==v8.1.eH.b5)&&((v6.1.eH.bK==v8.1.eH.bK)&&true))))))else some false) λv9=>
   bif v9 then
    BA N v6 v8 (10:Int)
   else
    BA N v6 v8 v8.2.1
def pw(N:Nat):Nat->an->(anD bm)->(anD bp)->(anD (anE×a8))->anF (dX×Int×(anD (anE×a8)))
 |0,_,_,_,_=>none
 |d+1,v1,v2,v3,v4=>
  Option.bind (bif (v1.aq==8)then some true else some (v1.aq==12)) λv5=>
  bif v5 then
   Option.bind (v1.aw[0]?) λv6=>
   Option.bind ((lG N d) v6 v2 v3 v4) λv7=>
   bif (v7.2.1 !=0)then
    some (v7.1,v7.2.1,v7.2.2)
   else
    bif (v1.aq==12)then
     (AF N v7.1.eH v1.aD v7.1.j7).bind λv8=>
     some ((⟨v8.1,v1.aD⟩:dX),v8.2,v7.2.2)
    else
     Option.bind (xJ N (8:Int) v7.1.eH v7.1.j7 v7.1.j7) λv9=>
     some ((⟨v9.1,v7.1.eH⟩:dX),v9.2,v7.2.2)
  else
   Option.bind ((vI N d) v1 v2 v3 v4) λv10=>
   bif (v10.2.2.1 !=0)then
    some (zJ,v10.2.2.1,v10.2.2.2)
   else
    (xJ N v1.aq v10.1.eH v10.1.j7 v10.2.1.j7).bind λv11=>
    some ((⟨v11.1,v10.1.eH⟩:dX),v11.2,v10.2.2.2)
end
def Rv(N:Nat)(v1:an)(v2:anD bm)(v3:anD bp)(v4:anD (anE×a8)):anF (dX×Int×(anD (anE×a8))):=lG N N v1 v2 v3 v4
theorem akS(N:Nat):∀d:Nat,(∀{v1:an}{v2:anD bm}{v3:anD bp}{v4:anD (anE×a8)}{r:dX×Int×(anD (anE×a8))},lG N d v1 v2 v3 v4=some r->KH 66 [(aA v1),(.ptr 0 0),(.ptr 1 0),(.ptr 2 0)] ([.cells [(.fn 69 [(.ptr 3 0),(.ptr 4 0)])], .cells [(.d (.sl (bt v2)))], .cells [(.ptr 5 0)], .cells [(.mp 6)], .cells [(.d (.sl (bq v3)))], .cells [(.fn 66 [(.ptr 0 0),(.ptr 1 0),(.ptr 2 0)]),(.fn 64 [(.ptr 2 0)])], .map (bU bR v4)]) (.aQ [(dA r.1),(au r.2.1)]) ([.cells [(.fn 69 [(.ptr 3 0),(.ptr 4 0)])], .cells [(.d (.sl (bt v2)))], .cells [(.ptr 5 0)], .cells [(.mp 6)], .cells [(.d (.sl (bq v3)))], .cells [(.fn 66 [(.ptr 0 0),(.ptr 1 0),(.ptr 2 0)]),(.fn 64 [(.ptr 2 0)])], .map (bU bR r.2.2)]))/\(∀{v1:an}{v2:anD bm}{v3:anD bp}{v4:anD (anE×a8)}{r:Bool×Int×(anD (anE×a8))},oa N d v1 v2 v3 v4=some r->KH 64 [(aA v1),(.ptr 0 0)] ([.cells [(.ptr 1 0)], .cells [(.fn 66 [(.ptr 2 0),(.ptr 3 0),(.ptr 0 0)]),(.fn 64 [(.ptr 0 0)])], .cells [(.fn 69 [(.ptr 4 0),(.ptr 5 0)])], .cells [(.d (.sl (bt v2)))], .cells [(.mp 6)], .cells [(.d (.sl (bq v3)))], .map (bU bR v4)]) (.aQ [(aC r.1),(au r.2.1)]) ([.cells [(.ptr 1 0)], .cells [(.fn 66 [(.ptr 2 0),(.ptr 3 0),(.ptr 0 0)]),(.fn 64 [(.ptr 0 0)])], .cells [(.fn 69 [(.ptr 4 0),(.ptr 5 0)])], .cells [(.d (.sl (bt v2)))], .cells [(.mp 6)], .cells [(.d (.sl (bq v3)))], .map (bU bR r.2.2)]))/\(∀{v1:an}{v2:anD bm}{v3:anD bp}{v4:anD (anE×a8)}{r:Bool×Int×(anD (anE×a8))},Ef N d v1 v2 v3 v4=some r->KH 65 [(.ptr 0 0),(aA v1)] ([.cells [(.fn 66 [(.ptr 1 0),(.ptr 2 0),(.ptr 3 0)]),(.fn 64 [(.ptr 3 0)])], .cells [(.fn 69 [(.ptr 4 0),(.ptr 5 0)])], .cells [(.d (.sl (bt v2)))], .cells [(.ptr 0 0)], .cells [(.mp 6)], .cells [(.d (.sl (bq v3)))], .map (bU bR v4)]) (.aQ [(aC r.1),(au r.2.1)]) ([.cells [(.fn 66 [(.ptr 1 0),(.ptr 2 0),(.ptr 3 0)]),(.fn 64 [(.ptr 3 0)])], .cells [(.fn 69 [(.ptr 4 0),(.ptr 5 0)])], .cells [(.d (.sl (bt v2)))], .cells [(.ptr 0 0)], .cells [(.mp 6)], .cells [(.d (.sl (bq v3)))], .map (bU bR r.2.2)]))/\(∀{v1:an}{v2:anD bm}{v3:anD bp}{v4:anD (anE×a8)}{r:dX×dX×Int×(anD (anE×a8))},vI N d v1 v2 v3 v4=some r->KH 121 [(.ptr 0 0),(aA v1)] ([.cells [(.fn 66 [(.ptr 1 0),(.ptr 2 0),(.ptr 3 0)]),(.fn 64 [(.ptr 3 0)])], .cells [(.fn 69 [(.ptr 4 0),(.ptr 5 0)])], .cells [(.d (.sl (bt v2)))], .cells [(.ptr 0 0)], .cells [(.mp 6)], .cells [(.d (.sl (bq v3)))], .map (bU bR v4)]) (.aQ [(dA r.1),(dA r.2.1),(au r.2.2.1)]) ([.cells [(.fn 66 [(.ptr 1 0),(.ptr 2 0),(.ptr 3 0)]),(.fn 64 [(.ptr 3 0)])], .cells [(.fn 69 [(.ptr 4 0),(.ptr 5 0)])], .cells [(.d (.sl (bt v2)))], .cells [(.ptr 0 0)], .cells [(.mp 6)], .cells [(.d (.sl (bq v3)))], .map (bU bR r.2.2.2)]))/\(∀{v1:an}{v2:anD bm}{v3:anD bp}{v4:anD (anE×a8)}{r:dX×Int×(anD (anE×a8))},pw N d v1 v2 v3 v4=some r->KH 68 [(.ptr 0 0),(aA v1)] ([.cells [(.fn 66 [(.ptr 1 0),(.ptr 2 0),(.ptr 3 0)]),(.fn 64 [(.ptr 3 0)])], .cells [(.fn 69 [(.ptr 4 0),(.ptr 5 0)])], .cells [(.d (.sl (bt v2)))], .cells [(.ptr 0 0)], .cells [(.mp 6)], .cells [(.d (.sl (bq v3)))], .map (bU bR v4)]) (.aQ [(dA r.1),(au r.2.1)]) ([.cells [(.fn 66 [(.ptr 1 0),(.ptr 2 0),(.ptr 3 0)]),(.fn 64 [(.ptr 3 0)])], .cells [(.fn 69 [(.ptr 4 0),(.ptr 5 0)])], .cells [(.d (.sl (bt v2)))], .cells [(.ptr 0 0)], .cells [(.mp 6)], .cells [(.d (.sl (bq v3)))], .map (bU bR r.2.2)])):=by
 intro d
 induction d with
 |zero=>exact⟨(by intro v1 v2 v3 v4 r J;rw[lG]at J;cases J),(by intro v1 v2 v3 v4 r J;rw[oa]at J;cases J),(by intro v1 v2 v3 v4 r J;rw[Ef]at J;cases J),(by intro v1 v2 v3 v4 r J;rw[vI]at J;cases J),(by intro v1 v2 v3 v4 r J;rw[pw]at J;cases J)⟩
 |succ d ih=>
  have uA:= @ih.1;have QP:= @ih.2.1;have ail:= @ih.2.2.1;have Vc:= @ih.2.2.2.1;have alD:= @ih.2.2.2.2;refine⟨?_,?_,?_,?_,?_⟩
  ·intro v1 v2 v3 v4 r J;rw[lG]at J;refine tF 7 Tryz.func66 ?_;refine Dl aX r 1 [[],[],[]] [1,2,3,4,5,10,11] 9 (λ(v5:Bool)=>⟨67,[(1,(.ptr 0 0)),(2,(.ptr 1 0)),(3,(.ptr 2 0)),(4,(.ptr 7 0)),(5,(.ptr 8 0)),(10,(au v1.aq)),(11,(aC v5))],[.cells [(.fn 69 [(.ptr 3 0),(.ptr 4 0)])], .cells [(.d (.sl (bt v2)))], .cells [(.ptr 5 0)], .cells [(.mp 6)], .cells [(.d (.sl (bq v3)))], .cells [(.fn 66 [(.ptr 0 0),(.ptr 1 0),(.ptr 2 0)]),(.fn 64 [(.ptr 2 0)])], .map (bU bR v4), .cells (aA v1).cells, .cells dn]⟩) (vH N v2 v1 v3 v4 (oa N d) (lG N d) (pw N d)) ?_ ?_
   ·intro f1 aK;apply bc J<;>intro cf J
    ·exact lf aX aK (v1.aq==1) [[(0,bT cf)]] J
    refine ft aX [[(0,bF cf)],[]] ?_;apply bc J<;>intro ct J
    ·exact lf aX aK (v1.aq==2) [[(0,bT ct)]] J
    exact lf aX aK (v1.aq==3) [[(0,bF ct)],[]] J
   intro v5 J;rw[vH]at J;apply bc J<;>intro h1 J
   ·obtain⟨v6,h2,J⟩:=b8 J;cases J;exact iV aX [[(0,bT h1)],[(10,oR [(.fn 69 [(.ptr 3 0),(.ptr 4 0)]),(.d (.sl (bt v2))),(aA v1)] [.cells [(.fn 69 [(.ptr 3 0),(.ptr 4 0)])], .cells [(.d (.sl (bt v2)))], .cells [(.ptr 5 0)], .cells [(.mp 6)], .cells [(.d (.sl (bq v3)))], .cells [(.fn 66 [(.ptr 0 0),(.ptr 1 0),(.ptr 2 0)]),(.fn 64 [(.ptr 2 0)])], .map (bU bR v4), .cells (aA v1).cells, .cells dn] [3,4,6] (alE _ h2))]]
   refine ft aX [[(0,bF h1)],[]] ?_;apply bc J<;>intro h3 J
   ·refine ft aX [[(0,bT h3)]] ?_;obtain⟨v7,h4,v8,h5,J⟩:=k00 J;refine sE aX [(19,oE (k:=0) (cn h4)),(25,oR [(aA v7),(.ptr 2 0)] [.cells [(.fn 69 [(.ptr 3 0),(.ptr 4 0)])], .cells [(.d (.sl (bt v2)))], .cells [(.ptr 5 0)], .cells [(.mp 6)], .cells [(.d (.sl (bq v3)))], .cells [(.fn 66 [(.ptr 0 0),(.ptr 1 0),(.ptr 2 0)]),(.fn 64 [(.ptr 2 0)])], .map (bU bR v4), .cells (aA v1).cells, .cells dn] [2,5,0,1,3,4,6] (QP h5))] [(7,(aC v8.1)),(8,(au v8.2.1))] [.cells [(.fn 69 [(.ptr 3 0),(.ptr 4 0)])], .cells [(.d (.sl (bt v2)))], .cells [(.ptr 5 0)], .cells [(.mp 6)], .cells [(.d (.sl (bq v3)))], .cells [(.fn 66 [(.ptr 0 0),(.ptr 1 0),(.ptr 2 0)]),(.fn 64 [(.ptr 2 0)])], .map (bU bR v8.2.2), .cells (aA v1).cells, .cells dn] ?_;refine ft aX [[]] ?_;apply bc J<;>intro h6 J
    ·cases J;exact iV aX [[(0,bT h6)],[]]
    refine ft aX [[(0,bF h6)],[]] ?_;apply bc J<;>intro h7 J
    ·refine ft aX [[(0,bT h7)]] ?_;obtain⟨v9,h8,v10,h9,J⟩:=k00 J;refine sE aX [(19,oE (k:=1) (cn h8)),(25,oR [(aA v9),(.ptr 0 0),(.ptr 1 0),(.ptr 2 0)] [.cells [(.fn 69 [(.ptr 3 0),(.ptr 4 0)])], .cells [(.d (.sl (bt v2)))], .cells [(.ptr 5 0)], .cells [(.mp 6)], .cells [(.d (.sl (bq v3)))], .cells [(.fn 66 [(.ptr 0 0),(.ptr 1 0),(.ptr 2 0)]),(.fn 64 [(.ptr 2 0)])], .map (bU bR v8.2.2), .cells (aA v1).cells, .cells dn] [0,1,2,3,4,5,6] (uA h9))] [(6,(au v10.2.1))] [.cells [(.fn 69 [(.ptr 3 0),(.ptr 4 0)])], .cells [(.d (.sl (bt v2)))], .cells [(.ptr 5 0)], .cells [(.mp 6)], .cells [(.d (.sl (bq v3)))], .cells [(.fn 66 [(.ptr 0 0),(.ptr 1 0),(.ptr 2 0)]),(.fn 64 [(.ptr 2 0)])], .map (bU bR v10.2.2), .cells (aA v1).cells, .cells (dA v10.1).cells] ?_;cases J;exact iV aX []
    refine ft aX [[(0,bF h7)]] ?_;obtain⟨v11,bk,v12,bo,J⟩:=k00 J;refine sE aX [(19,oE (k:=2) (cn bk)),(25,oR [(aA v11),(.ptr 0 0),(.ptr 1 0),(.ptr 2 0)] [.cells [(.fn 69 [(.ptr 3 0),(.ptr 4 0)])], .cells [(.d (.sl (bt v2)))], .cells [(.ptr 5 0)], .cells [(.mp 6)], .cells [(.d (.sl (bq v3)))], .cells [(.fn 66 [(.ptr 0 0),(.ptr 1 0),(.ptr 2 0)]),(.fn 64 [(.ptr 2 0)])], .map (bU bR v8.2.2), .cells (aA v1).cells, .cells dn] [0,1,2,3,4,5,6] (uA bo))] [(6,(au v12.2.1))] [.cells [(.fn 69 [(.ptr 3 0),(.ptr 4 0)])], .cells [(.d (.sl (bt v2)))], .cells [(.ptr 5 0)], .cells [(.mp 6)], .cells [(.d (.sl (bq v3)))], .cells [(.fn 66 [(.ptr 0 0),(.ptr 1 0),(.ptr 2 0)]),(.fn 64 [(.ptr 2 0)])], .map (bU bR v12.2.2), .cells (aA v1).cells, .cells (dA v12.1).cells] ?_;cases J;exact iV aX []
   obtain⟨aW,bJ,J⟩:=b8 J;cases J;exact iV aX [[(0,bF h3)],[(7,oR [(.ptr 5 0),(aA v1)] [.cells [(.fn 69 [(.ptr 3 0),(.ptr 4 0)])], .cells [(.d (.sl (bt v2)))], .cells [(.ptr 5 0)], .cells [(.mp 6)], .cells [(.d (.sl (bq v3)))], .cells [(.fn 66 [(.ptr 0 0),(.ptr 1 0),(.ptr 2 0)]),(.fn 64 [(.ptr 2 0)])], .map (bU bR v4), .cells (aA v1).cells, .cells dn] [5,0,1,2,3,4,6] (alD bJ))]]
  ·intro v1 v2 v3 v4 r J;rw[oa]at J;refine tF 7 Tryz.func64 ?_;obtain⟨v5,h1,J⟩:=b8 J;cases J;exact iV aX [[],[(7,oR [(.ptr 1 0),(aA v1)] [.cells [(.ptr 1 0)], .cells [(.fn 66 [(.ptr 2 0),(.ptr 3 0),(.ptr 0 0)]),(.fn 64 [(.ptr 0 0)])], .cells [(.fn 69 [(.ptr 4 0),(.ptr 5 0)])], .cells [(.d (.sl (bt v2)))], .cells [(.mp 6)], .cells [(.d (.sl (bq v3)))], .map (bU bR v4), .cells (aA v1).cells] [1,2,3,0,4,5,6] (ail h1))]]
  ·intro v1 v2 v3 v4 r J;rw[Ef]at J;refine tF 7 Tryz.func65 ?_;refine ft aX [[],[]] ?_;apply bc J<;>intro h1 J
   ·obtain⟨v5,h2,J⟩:=b8 J;refine ft aX [[(0,bT h1)],[(7,oR [(.ptr 0 0),(aA v1)] [.cells [(.fn 66 [(.ptr 1 0),(.ptr 2 0),(.ptr 3 0)]),(.fn 64 [(.ptr 3 0)])], .cells [(.fn 69 [(.ptr 4 0),(.ptr 5 0)])], .cells [(.d (.sl (bt v2)))], .cells [(.ptr 0 0)], .cells [(.mp 6)], .cells [(.d (.sl (bq v3)))], .map (bU bR v4), .cells (aA v1).cells] [0,1,2,3,4,5,6] (Vc h2))],[]] ?_;apply bc J<;>intro h3 J
    ·cases J;exact iV aX [[(0,bT h3)],[]]
    obtain⟨v6,h4,v7,h5,J⟩:=k00 J;cases J;exact iV aX [[(0,bF h3)],[(25,cK PQ h4),(28,cK ZN h5)]]
   refine ft aX [[(0,bF h1)]] ?_;obtain⟨v8,h6,v9,h7,J⟩:=k00 J;refine sE aX [(19,oE (k:=0) (cn h6)),(25,oR [(aA v8),(.ptr 3 0)] [.cells [(.fn 66 [(.ptr 1 0),(.ptr 2 0),(.ptr 3 0)]),(.fn 64 [(.ptr 3 0)])], .cells [(.fn 69 [(.ptr 4 0),(.ptr 5 0)])], .cells [(.d (.sl (bt v2)))], .cells [(.ptr 0 0)], .cells [(.mp 6)], .cells [(.d (.sl (bq v3)))], .map (bU bR v4), .cells (aA v1).cells] [3,0,1,2,4,5,6] (QP h7))] [(9,(aC v9.1)),(10,(au v9.2.1))] [.cells [(.fn 66 [(.ptr 1 0),(.ptr 2 0),(.ptr 3 0)]),(.fn 64 [(.ptr 3 0)])], .cells [(.fn 69 [(.ptr 4 0),(.ptr 5 0)])], .cells [(.d (.sl (bt v2)))], .cells [(.ptr 0 0)], .cells [(.mp 6)], .cells [(.d (.sl (bq v3)))], .map (bU bR v9.2.2), .cells (aA v1).cells] ?_;obtain⟨v10,h9,J⟩:=b8 J;refine tr aX [(53,(aC v10))] [.cells [(.fn 66 [(.ptr 1 0),(.ptr 2 0),(.ptr 3 0)]),(.fn 64 [(.ptr 3 0)])], .cells [(.fn 69 [(.ptr 4 0),(.ptr 5 0)])], .cells [(.d (.sl (bt v2)))], .cells [(.ptr 0 0)], .cells [(.mp 6)], .cells [(.d (.sl (bq v3)))], .map (bU bR v9.2.2), .cells (aA v1).cells] ?_ ?_
   ·apply bc h9<;>intro h8 h9
    ·cases h9;exact yq [(2,bT h8)] []
    cases h9;exact yq [(2,bF h8)] []
   apply bc J<;>intro bk J
   ·refine ft aX [[(0,bT bk)]] ?_;obtain⟨v11,bJ,J⟩:=b8 J;refine tr aX [(4,(aC v11)),(5,(au v9.2.1))] [.cells [(.fn 66 [(.ptr 1 0),(.ptr 2 0),(.ptr 3 0)]),(.fn 64 [(.ptr 3 0)])], .cells [(.fn 69 [(.ptr 4 0),(.ptr 5 0)])], .cells [(.d (.sl (bt v2)))], .cells [(.ptr 0 0)], .cells [(.mp 6)], .cells [(.d (.sl (bq v3)))], .map (bU bR v9.2.2), .cells (aA v1).cells] ?_ ?_
    ·apply bc bJ<;>intro bo bJ
     ·cases bJ;exact yq [(2,bT bo)] []
     cases bJ;exact yq [(2,bF bo)] []
    cases J;exact iV aX []
   refine ft aX [[(0,bF bk)]] ?_;obtain⟨v12,cf,aW,ct,J⟩:=k00 J;refine sE aX [(19,oE (k:=1) (cn cf)),(25,oR [(aA v12),(.ptr 3 0)] [.cells [(.fn 66 [(.ptr 1 0),(.ptr 2 0),(.ptr 3 0)]),(.fn 64 [(.ptr 3 0)])], .cells [(.fn 69 [(.ptr 4 0),(.ptr 5 0)])], .cells [(.d (.sl (bt v2)))], .cells [(.ptr 0 0)], .cells [(.mp 6)], .cells [(.d (.sl (bq v3)))], .map (bU bR v9.2.2), .cells (aA v1).cells] [3,0,1,2,4,5,6] (QP ct))] [(11,(aC aW.1)),(10,(au aW.2.1))] [.cells [(.fn 66 [(.ptr 1 0),(.ptr 2 0),(.ptr 3 0)]),(.fn 64 [(.ptr 3 0)])], .cells [(.fn 69 [(.ptr 4 0),(.ptr 5 0)])], .cells [(.d (.sl (bt v2)))], .cells [(.ptr 0 0)], .cells [(.mp 6)], .cells [(.d (.sl (bq v3)))], .map (bU bR aW.2.2), .cells (aA v1).cells] ?_;refine ft aX [[]] ?_;apply bc J<;>intro cq J
   ·cases J;exact iV aX [[(0,bT cq)],[]]
   refine ft aX [[(0,bF cq)],[]] ?_;apply bc J<;>intro bH J
   ·refine ft aX [[(0,bT bH)]] ?_;obtain⟨bX,cY,J⟩:=b8 J;refine tr aX [(4,(aC bX)),(5,(au (0:Int)))] [.cells [(.fn 66 [(.ptr 1 0),(.ptr 2 0),(.ptr 3 0)]),(.fn 64 [(.ptr 3 0)])], .cells [(.fn 69 [(.ptr 4 0),(.ptr 5 0)])], .cells [(.d (.sl (bt v2)))], .cells [(.ptr 0 0)], .cells [(.mp 6)], .cells [(.d (.sl (bq v3)))], .map (bU bR aW.2.2), .cells (aA v1).cells] ?_ ?_
    ·apply bc cY<;>intro cE cY
     ·cases cY;exact yq [(1,bT cE)] []
     cases cY;exact yq [(1,bF cE)] []
    cases J;exact iV aX []
   refine ft aX [[(0,bF bH)]] ?_;obtain⟨b7,dj,J⟩:=b8 J;refine tr aX [(4,(aC b7)),(5,(au (0:Int)))] [.cells [(.fn 66 [(.ptr 1 0),(.ptr 2 0),(.ptr 3 0)]),(.fn 64 [(.ptr 3 0)])], .cells [(.fn 69 [(.ptr 4 0),(.ptr 5 0)])], .cells [(.d (.sl (bt v2)))], .cells [(.ptr 0 0)], .cells [(.mp 6)], .cells [(.d (.sl (bq v3)))], .map (bU bR aW.2.2), .cells (aA v1).cells] ?_ ?_
   ·apply bc dj<;>intro dC dj
    ·cases dj;exact yq [(1,bT dC)] []
    cases dj;exact yq [(1,bF dC)] []
   cases J;exact iV aX []
  ·intro v1 v2 v3 v4 r J;rw[vI]at J;refine zD 7 Tryz.func121 rfl (by kernel_rfl) (amV rfl) ?_;refine w9 (s':=⟨51,[(0,(.ptr 0 0)),(1,(aA v1))],[.cells [(.fn 66 [(.ptr 1 0),(.ptr 2 0),(.ptr 3 0)]),(.fn 64 [(.ptr 3 0)])], .cells [(.fn 69 [(.ptr 4 0),(.ptr 5 0)])], .cells [(.d (.sl (bt v2)))], .cells [(.ptr 0 0)], .cells [(.mp 6)], .cells [(.d (.sl (bq v3)))], .map (bU bR v4)]⟩) (by kernel_rfl) ?_;refine aR ?_;refine rg [] [(3,(.ptr 7 0)),(4,(.ptr 8 0)),(5,(.ptr 9 0))] [.cells [(.fn 66 [(.ptr 1 0),(.ptr 2 0),(.ptr 3 0)]),(.fn 64 [(.ptr 3 0)])], .cells [(.fn 69 [(.ptr 4 0),(.ptr 5 0)])], .cells [(.d (.sl (bt v2)))], .cells [(.ptr 0 0)], .cells [(.mp 6)], .cells [(.d (.sl (bq v3)))], .map (bU bR v4), .cells (aA v1).cells, .cells dn, .cells dn] (by kernel_rfl) ?_;refine aR ?_;obtain⟨v5,h1,v6,h2,J⟩:=k00 J;refine ro 2 aX (.node 0 [] (.node 1 [] (.node 2 [] (.node 3 [] (.node 4 [] (.node 5 [] (.node 6 [(19,oE (k:=0) (cn h1))] (.node 7 [] (.node 8 [(25,oR [(aA v5),(.ptr 1 0),(.ptr 2 0),(.ptr 3 0)] [.cells [(.fn 66 [(.ptr 1 0),(.ptr 2 0),(.ptr 3 0)]),(.fn 64 [(.ptr 3 0)])], .cells [(.fn 69 [(.ptr 4 0),(.ptr 5 0)])], .cells [(.d (.sl (bt v2)))], .cells [(.ptr 0 0)], .cells [(.mp 6)], .cells [(.d (.sl (bq v3)))], .map (bU bR v4), .cells (aA v1).cells, .cells dn, .cells dn] [1,2,3,4,5,0,6] (uA h2))] (.node 9 [] (.node 10 [] (.node 11 [] (.node 12 [] (.node 13 [] (.node 14 [] .nil .nil) .nil) .nil) .nil) .nil) .nil) (.node 12 [] (.node 8 [(25,oR [(aA v5),(.ptr 1 0),(.ptr 2 0),(.ptr 3 0)] [.cells [(.fn 66 [(.ptr 1 0),(.ptr 2 0),(.ptr 3 0)]),(.fn 64 [(.ptr 3 0)])], .cells [(.fn 69 [(.ptr 4 0),(.ptr 5 0)])], .cells [(.d (.sl (bt v2)))], .cells [(.ptr 0 0)], .cells [(.mp 6)], .cells [(.d (.sl (bq v3)))], .map (bU bR v4), .cells (aA v1).cells, .cells dn, .cells dn, .cells dn] [1,2,3,4,5,0,6] (uA h2))] (.node 9 [] (.node 10 [] (.node 11 [] (.node 13 [] (.node 14 [] .nil .nil) .nil) .nil) .nil) .nil) .nil) .nil)) .nil) .nil) .nil) .nil) .nil) .nil) .nil) .nil) [(7,(.ptr 10 0)),(8,(au v6.2.1))] [.cells [(.fn 66 [(.ptr 1 0),(.ptr 2 0),(.ptr 3 0)]),(.fn 64 [(.ptr 3 0)])], .cells [(.fn 69 [(.ptr 4 0),(.ptr 5 0)])], .cells [(.d (.sl (bt v2)))], .cells [(.ptr 0 0)], .cells [(.mp 6)], .cells [(.d (.sl (bq v3)))], .map (bU bR v6.2.2), .cells (aA v1).cells, .cells dn, .cells dn, .cells (dA v6.1).cells] (by kernel_rfl) ?_
   refine aR ?_;refine aR ?_;refine rg [] [(23,(aC (v6.2.1 !=0)))] [.cells [(.fn 66 [(.ptr 1 0),(.ptr 2 0),(.ptr 3 0)]),(.fn 64 [(.ptr 3 0)])], .cells [(.fn 69 [(.ptr 4 0),(.ptr 5 0)])], .cells [(.d (.sl (bt v2)))], .cells [(.ptr 0 0)], .cells [(.mp 6)], .cells [(.d (.sl (bq v3)))], .map (bU bR v6.2.2), .cells (aA v1).cells, .cells dn, .cells dn, .cells (dA v6.1).cells] (by kernel_rfl) ?_;rcases gq (v6.2.1 !=0)with h3|h3
   ·replace J:=(gg h3).symm.trans J;refine aw_cond_h (t:=(v6.2.1 !=0)) (by kernel_rfl) h3 ?_;refine aR ?_;refine rt 2 aX [] [(6,(au v6.2.1))] [.cells [(.fn 66 [(.ptr 1 0),(.ptr 2 0),(.ptr 3 0)]),(.fn 64 [(.ptr 3 0)])], .cells [(.fn 69 [(.ptr 4 0),(.ptr 5 0)])], .cells [(.d (.sl (bt v2)))], .cells [(.ptr 0 0)], .cells [(.mp 6)], .cells [(.d (.sl (bq v3)))], .map (bU bR v6.2.2), .cells (aA v1).cells, .cells (dA v6.1).cells, .cells (dA v6.1).cells, .cells (dA v6.1).cells] (by kernel_rfl) ?_;refine dz (dO ?_);have hr:=am6 J;subst hr;exact m5 (by kernel_rfl)
   replace J:=(gu h3).symm.trans J;refine gZ (t:=(v6.2.1 !=0)) (by kernel_rfl) h3 ?_;refine fj ?_;refine cw ?_;refine aR ?_;obtain⟨v7,h4,v8,h5,J⟩:=k00 J;refine ro 2 aX (.node 0 [] (.node 1 [] (.node 2 [] (.node 3 [] (.node 4 [] (.node 5 [] (.node 6 [(19,oE (k:=1) (cn h4))] (.node 7 [] (.node 8 [(25,oR [(aA v7),(.ptr 1 0),(.ptr 2 0),(.ptr 3 0)] [.cells [(.fn 66 [(.ptr 1 0),(.ptr 2 0),(.ptr 3 0)]),(.fn 64 [(.ptr 3 0)])], .cells [(.fn 69 [(.ptr 4 0),(.ptr 5 0)])], .cells [(.d (.sl (bt v2)))], .cells [(.ptr 0 0)], .cells [(.mp 6)], .cells [(.d (.sl (bq v3)))], .map (bU bR v6.2.2), .cells (aA v1).cells, .cells dn, .cells dn, .cells (dA v6.1).cells] [1,2,3,4,5,0,6] (uA h5))] (.node 9 [] (.node 10 [] (.node 11 [] (.node 12 [] (.node 13 [] (.node 14 [] .nil .nil) .nil) .nil) .nil) .nil) .nil) (.node 12 [] (.node 8 [(25,oR [(aA v7),(.ptr 1 0),(.ptr 2 0),(.ptr 3 0)] [.cells [(.fn 66 [(.ptr 1 0),(.ptr 2 0),(.ptr 3 0)]),(.fn 64 [(.ptr 3 0)])], .cells [(.fn 69 [(.ptr 4 0),(.ptr 5 0)])], .cells [(.d (.sl (bt v2)))], .cells [(.ptr 0 0)], .cells [(.mp 6)], .cells [(.d (.sl (bq v3)))], .map (bU bR v6.2.2), .cells (aA v1).cells, .cells dn, .cells dn, .cells (dA v6.1).cells, .cells dn] [1,2,3,4,5,0,6] (uA h5))] (.node 9 [] (.node 10 [] (.node 11 [] (.node 13 [] (.node 14 [] .nil .nil) .nil) .nil) .nil) .nil) .nil) .nil)) .nil) .nil) .nil) .nil) .nil) .nil) .nil) .nil) [(9,(.ptr 11 0)),(8,(au v8.2.1))] [.cells [(.fn 66 [(.ptr 1 0),(.ptr 2 0),(.ptr 3 0)]),(.fn 64 [(.ptr 3 0)])], .cells [(.fn 69 [(.ptr 4 0),(.ptr 5 0)])], .cells [(.d (.sl (bt v2)))], .cells [(.ptr 0 0)], .cells [(.mp 6)], .cells [(.d (.sl (bq v3)))], .map (bU bR v8.2.2), .cells (aA v1).cells, .cells dn, .cells dn, .cells (dA v6.1).cells, .cells (dA v8.1).cells] (by kernel_rfl) ?_
   refine aR ?_;refine aR ?_;obtain⟨v9,h7,J⟩:=b8 J;refine L6 [(47,(aC v9))] [.cells [(.fn 66 [(.ptr 1 0),(.ptr 2 0),(.ptr 3 0)]),(.fn 64 [(.ptr 3 0)])], .cells [(.fn 69 [(.ptr 4 0),(.ptr 5 0)])], .cells [(.d (.sl (bt v2)))], .cells [(.ptr 0 0)], .cells [(.mp 6)], .cells [(.d (.sl (bq v3)))], .map (bU bR v8.2.2), .cells (aA v1).cells, .cells dn, .cells dn, .cells (dA v6.1).cells, .cells (dA v8.1).cells] ?_ ?_
   ·rcases gq (v8.2.1==0)with h6|h6
    ·replace h7:=(gg h6).symm.trans h7;have he:=am6 h7;subst he;exact⟨[(9,bT h6),(12,bT h6),(15,bT h6),(18,bT h6),(21,bT h6),(25,bT h6)],by kernel_rfl⟩
    replace h7:=(gu h6).symm.trans h7;have he:=am6 h7;subst he;exact⟨[(9,bF h6),(12,bF h6),(15,bF h6),(18,bF h6),(21,bF h6),(25,bF h6)],by kernel_rfl⟩
   refine M5 [4,5,7,8,9] 12 (λ(v10:Int)=>⟨51,[(4,(.ptr 8 0)),(5,(.ptr 9 0)),(7,(.ptr 10 0)),(8,(au v10)),(9,(.ptr 11 0))],[.cells [(.fn 66 [(.ptr 1 0),(.ptr 2 0),(.ptr 3 0)]),(.fn 64 [(.ptr 3 0)])], .cells [(.fn 69 [(.ptr 4 0),(.ptr 5 0)])], .cells [(.d (.sl (bt v2)))], .cells [(.ptr 0 0)], .cells [(.mp 6)], .cells [(.d (.sl (bq v3)))], .map (bU bR v8.2.2), .cells (aA v1).cells, .cells dn, .cells dn, .cells (dA v6.1).cells, .cells (dA v8.1).cells]⟩) (λ(v10:Int)=>BA N v6 v8 v10=some r) (amV rfl) ?_ ?_
   ·rcases gq v9 with h8|h8
    ·replace J:=(gg h8).symm.trans J;refine aw_cond_h (t:=v9) (by kernel_rfl) h8 ?_;refine re [] [(8,(au (10:Int)))] [.cells [(.fn 66 [(.ptr 1 0),(.ptr 2 0),(.ptr 3 0)]),(.fn 64 [(.ptr 3 0)])], .cells [(.fn 69 [(.ptr 4 0),(.ptr 5 0)])], .cells [(.d (.sl (bt v2)))], .cells [(.ptr 0 0)], .cells [(.mp 6)], .cells [(.d (.sl (bq v3)))], .map (bU bR v8.2.2), .cells (aA v1).cells, .cells dn, .cells dn, .cells (dA v6.1).cells, .cells (dA v8.1).cells] (by kernel_rfl) ?_;refine cw ?_;exact⟨(10:Int),by kernel_rfl,J⟩
    replace J:=(gu h8).symm.trans J;refine gZ (t:=v9) (by kernel_rfl) h8 ?_;refine fj ?_;refine cw ?_;exact⟨v8.2.1,by kernel_rfl,J⟩
   rintro v10 J
   try dsimp only at J
   rw[BA]at J;refine aR ?_;refine rt 2 aX [] [(6,(au v10))] [.cells [(.fn 66 [(.ptr 1 0),(.ptr 2 0),(.ptr 3 0)]),(.fn 64 [(.ptr 3 0)])], .cells [(.fn 69 [(.ptr 4 0),(.ptr 5 0)])], .cells [(.d (.sl (bt v2)))], .cells [(.ptr 0 0)], .cells [(.mp 6)], .cells [(.d (.sl (bq v3)))], .map (bU bR v8.2.2), .cells (aA v1).cells, .cells (dA v6.1).cells, .cells (dA v8.1).cells, .cells (dA v6.1).cells, .cells (dA v8.1).cells] (by kernel_rfl) ?_;refine dz ?_;have hr:=am6 J;subst hr;exact m5 (by kernel_rfl)
  intro v1 v2 v3 v4 r J;rw[pw]at J;refine zD 7 Tryz.func68 rfl (by kernel_rfl) (amV rfl) ?_;refine w9 (s':=⟨100,[(0,(.ptr 0 0)),(1,(aA v1))],[.cells [(.fn 66 [(.ptr 1 0),(.ptr 2 0),(.ptr 3 0)]),(.fn 64 [(.ptr 3 0)])], .cells [(.fn 69 [(.ptr 4 0),(.ptr 5 0)])], .cells [(.d (.sl (bt v2)))], .cells [(.ptr 0 0)], .cells [(.mp 6)], .cells [(.d (.sl (bq v3)))], .map (bU bR v4)]⟩) (by kernel_rfl) ?_;refine aR ?_;refine rg [] [(3,(.ptr 7 0)),(4,(.ptr 8 0))] [.cells [(.fn 66 [(.ptr 1 0),(.ptr 2 0),(.ptr 3 0)]),(.fn 64 [(.ptr 3 0)])], .cells [(.fn 69 [(.ptr 4 0),(.ptr 5 0)])], .cells [(.d (.sl (bt v2)))], .cells [(.ptr 0 0)], .cells [(.mp 6)], .cells [(.d (.sl (bq v3)))], .map (bU bR v4), .cells (aA v1).cells, .cells dn] (by kernel_rfl) ?_;refine aR ?_;refine aR ?_;obtain⟨v5,h2,J⟩:=b8 J;refine L6 [(22,(aC v5))] [.cells [(.fn 66 [(.ptr 1 0),(.ptr 2 0),(.ptr 3 0)]),(.fn 64 [(.ptr 3 0)])], .cells [(.fn 69 [(.ptr 4 0),(.ptr 5 0)])], .cells [(.d (.sl (bt v2)))], .cells [(.ptr 0 0)], .cells [(.mp 6)], .cells [(.d (.sl (bq v3)))], .map (bU bR v4), .cells (aA v1).cells, .cells dn] ?_ ?_
  ·rcases gq (v1.aq==8)with h1|h1
   ·replace h2:=(gg h1).symm.trans h2;have he:=am6 h2;subst he;exact⟨[(12,bT h1),(15,bT h1),(18,bT h1),(22,bT h1)],by kernel_rfl⟩
   replace h2:=(gu h1).symm.trans h2;have he:=am6 h2;subst he;exact⟨[(12,bF h1),(15,bF h1),(18,bF h1),(22,bF h1)],by kernel_rfl⟩
  rcases gq v5 with h3|h3
  ·replace J:=(gg h3).symm.trans J;refine aw_cond_h (t:=v5) (by kernel_rfl) h3 ?_;refine aR ?_;obtain⟨v6,h4,v7,h5,J⟩:=k00 J;refine ro 2 aX (.node 0 [] (.node 1 [] (.node 2 [] (.node 3 [] (.node 4 [] (.node 5 [] (.node 6 [(19,oE (k:=0) (cn h4))] (.node 7 [] (.node 8 [(25,oR [(aA v6),(.ptr 1 0),(.ptr 2 0),(.ptr 3 0)] [.cells [(.fn 66 [(.ptr 1 0),(.ptr 2 0),(.ptr 3 0)]),(.fn 64 [(.ptr 3 0)])], .cells [(.fn 69 [(.ptr 4 0),(.ptr 5 0)])], .cells [(.d (.sl (bt v2)))], .cells [(.ptr 0 0)], .cells [(.mp 6)], .cells [(.d (.sl (bq v3)))], .map (bU bR v4), .cells (aA v1).cells, .cells dn] [1,2,3,4,5,0,6] (uA h5))] (.node 9 [] (.node 10 [] (.node 11 [] (.node 12 [] (.node 13 [] (.node 14 [] .nil .nil) .nil) .nil) .nil) .nil) .nil) (.node 12 [] (.node 8 [(25,oR [(aA v6),(.ptr 1 0),(.ptr 2 0),(.ptr 3 0)] [.cells [(.fn 66 [(.ptr 1 0),(.ptr 2 0),(.ptr 3 0)]),(.fn 64 [(.ptr 3 0)])], .cells [(.fn 69 [(.ptr 4 0),(.ptr 5 0)])], .cells [(.d (.sl (bt v2)))], .cells [(.ptr 0 0)], .cells [(.mp 6)], .cells [(.d (.sl (bq v3)))], .map (bU bR v4), .cells (aA v1).cells, .cells dn, .cells dn] [1,2,3,4,5,0,6] (uA h5))] (.node 9 [] (.node 10 [] (.node 11 [] (.node 13 [] (.node 14 [] .nil .nil) .nil) .nil) .nil) .nil) .nil) .nil)) .nil) .nil) .nil) .nil) .nil) .nil) .nil) .nil) [(6,(.ptr 9 0)),(7,(au v7.2.1))] [.cells [(.fn 66 [(.ptr 1 0),(.ptr 2 0),(.ptr 3 0)]),(.fn 64 [(.ptr 3 0)])], .cells [(.fn 69 [(.ptr 4 0),(.ptr 5 0)])], .cells [(.d (.sl (bt v2)))], .cells [(.ptr 0 0)], .cells [(.mp 6)], .cells [(.d (.sl (bq v3)))], .map (bU bR v7.2.2), .cells (aA v1).cells, .cells dn, .cells (dA v7.1).cells] (by kernel_rfl) ?_
   refine aR ?_;refine aR ?_;refine rg [] [(36,(aC (v7.2.1 !=0)))] [.cells [(.fn 66 [(.ptr 1 0),(.ptr 2 0),(.ptr 3 0)]),(.fn 64 [(.ptr 3 0)])], .cells [(.fn 69 [(.ptr 4 0),(.ptr 5 0)])], .cells [(.d (.sl (bt v2)))], .cells [(.ptr 0 0)], .cells [(.mp 6)], .cells [(.d (.sl (bq v3)))], .map (bU bR v7.2.2), .cells (aA v1).cells, .cells dn, .cells (dA v7.1).cells] (by kernel_rfl) ?_;rcases gq (v7.2.1 !=0)with h6|h6
   ·replace J:=(gg h6).symm.trans J;refine aw_cond_h (t:=(v7.2.1 !=0)) (by kernel_rfl) h6 ?_;refine aR ?_;refine rg [] [(5,(au v7.2.1))] [.cells [(.fn 66 [(.ptr 1 0),(.ptr 2 0),(.ptr 3 0)]),(.fn 64 [(.ptr 3 0)])], .cells [(.fn 69 [(.ptr 4 0),(.ptr 5 0)])], .cells [(.d (.sl (bt v2)))], .cells [(.ptr 0 0)], .cells [(.mp 6)], .cells [(.d (.sl (bq v3)))], .map (bU bR v7.2.2), .cells (aA v1).cells, .cells (dA v7.1).cells, .cells (dA v7.1).cells] (by kernel_rfl) ?_;refine dz (dO (dO ?_));have hr:=am6 J;subst hr;exact m5 (by kernel_rfl)
   replace J:=(gu h6).symm.trans J;refine gZ (t:=(v7.2.1 !=0)) (by kernel_rfl) h6 ?_;refine fj ?_;refine cw ?_;refine aR ?_;refine aR ?_;refine rg [] [(41,(aC (v1.aq==12)))] [.cells [(.fn 66 [(.ptr 1 0),(.ptr 2 0),(.ptr 3 0)]),(.fn 64 [(.ptr 3 0)])], .cells [(.fn 69 [(.ptr 4 0),(.ptr 5 0)])], .cells [(.d (.sl (bt v2)))], .cells [(.ptr 0 0)], .cells [(.mp 6)], .cells [(.d (.sl (bq v3)))], .map (bU bR v7.2.2), .cells (aA v1).cells, .cells dn, .cells (dA v7.1).cells] (by kernel_rfl) ?_;rcases gq (v1.aq==12)with h7|h7
   ·replace J:=(gg h7).symm.trans J;refine aw_cond_h (t:=(v1.aq==12)) (by kernel_rfl) h7 ?_;refine aR ?_;obtain⟨v8,h8,J⟩:=b8 J;refine rg [(19,cK X1 h8)] [(8,(.ptr 10 0)),(9,(au v8.2))] [.cells [(.fn 66 [(.ptr 1 0),(.ptr 2 0),(.ptr 3 0)]),(.fn 64 [(.ptr 3 0)])], .cells [(.fn 69 [(.ptr 4 0),(.ptr 5 0)])], .cells [(.d (.sl (bt v2)))], .cells [(.ptr 0 0)], .cells [(.mp 6)], .cells [(.d (.sl (bq v3)))], .map (bU bR v7.2.2), .cells (aA v1).cells, .cells dn, .cells (dA v7.1).cells, .cells (a7 v8.1).cells] (by kernel_rfl) ?_;refine aR ?_;refine rg [] [(5,(au v8.2))] [.cells [(.fn 66 [(.ptr 1 0),(.ptr 2 0),(.ptr 3 0)]),(.fn 64 [(.ptr 3 0)])], .cells [(.fn 69 [(.ptr 4 0),(.ptr 5 0)])], .cells [(.d (.sl (bt v2)))], .cells [(.ptr 0 0)], .cells [(.mp 6)], .cells [(.d (.sl (bq v3)))], .map (bU bR v7.2.2), .cells (aA v1).cells, .cells [(aT v8.1.xN),(aT v8.1.xD),(au v1.aD.aL),(au v1.aD.bY),(au v1.aD.bM),(au v1.aD.b5),(au v1.aD.bK)], .cells (dA v7.1).cells, .cells (a7 v8.1).cells] (by kernel_rfl) ?_;refine dz (dO (dO ?_));have hr:=am6 J;subst hr;exact m5 (by kernel_rfl)
   replace J:=(gu h7).symm.trans J;refine gZ (t:=(v1.aq==12)) (by kernel_rfl) h7 ?_;refine fj ?_;refine cw ?_;refine aR ?_;obtain⟨v9,h9,J⟩:=b8 J;refine rg [(19,cK Ly h9)] [(10,(.ptr 10 0)),(7,(au v9.2))] [.cells [(.fn 66 [(.ptr 1 0),(.ptr 2 0),(.ptr 3 0)]),(.fn 64 [(.ptr 3 0)])], .cells [(.fn 69 [(.ptr 4 0),(.ptr 5 0)])], .cells [(.d (.sl (bt v2)))], .cells [(.ptr 0 0)], .cells [(.mp 6)], .cells [(.d (.sl (bq v3)))], .map (bU bR v7.2.2), .cells (aA v1).cells, .cells dn, .cells (dA v7.1).cells, .cells (a7 v9.1).cells] (by kernel_rfl) ?_;refine aR ?_;refine rg [] [(5,(au v9.2))] [.cells [(.fn 66 [(.ptr 1 0),(.ptr 2 0),(.ptr 3 0)]),(.fn 64 [(.ptr 3 0)])], .cells [(.fn 69 [(.ptr 4 0),(.ptr 5 0)])], .cells [(.d (.sl (bt v2)))], .cells [(.ptr 0 0)], .cells [(.mp 6)], .cells [(.d (.sl (bq v3)))], .map (bU bR v7.2.2), .cells (aA v1).cells, .cells ((aT v9.1.xN)::(aT v9.1.xD)::R6 v7.1 []), .cells (dA v7.1).cells, .cells (a7 v9.1).cells] (by kernel_rfl) ?_;refine dz (dO ?_);have hr:=am6 J;subst hr;exact m5 (by kernel_rfl)
  replace J:=(gu h3).symm.trans J;refine gZ (t:=v5) (by kernel_rfl) h3 ?_;refine fj ?_;refine cw ?_;refine aR ?_;obtain⟨v10,bk,J⟩:=b8 J;refine rg [(7,oR [(.ptr 0 0),(aA v1)] [.cells [(.fn 66 [(.ptr 1 0),(.ptr 2 0),(.ptr 3 0)]),(.fn 64 [(.ptr 3 0)])], .cells [(.fn 69 [(.ptr 4 0),(.ptr 5 0)])], .cells [(.d (.sl (bt v2)))], .cells [(.ptr 0 0)], .cells [(.mp 6)], .cells [(.d (.sl (bq v3)))], .map (bU bR v4), .cells (aA v1).cells, .cells dn] [0,1,2,3,4,5,6] (Vc bk))] [(11,(.ptr 9 0)),(12,(.ptr 10 0)),(13,(au v10.2.2.1))] [.cells [(.fn 66 [(.ptr 1 0),(.ptr 2 0),(.ptr 3 0)]),(.fn 64 [(.ptr 3 0)])], .cells [(.fn 69 [(.ptr 4 0),(.ptr 5 0)])], .cells [(.d (.sl (bt v2)))], .cells [(.ptr 0 0)], .cells [(.mp 6)], .cells [(.d (.sl (bq v3)))], .map (bU bR v10.2.2.2), .cells (aA v1).cells, .cells dn, .cells (dA v10.1).cells, .cells (dA v10.2.1).cells] (by kernel_rfl) ?_;refine aR ?_;refine aR ?_;refine rg [] [(80,(aC (v10.2.2.1 !=0)))] [.cells [(.fn 66 [(.ptr 1 0),(.ptr 2 0),(.ptr 3 0)]),(.fn 64 [(.ptr 3 0)])], .cells [(.fn 69 [(.ptr 4 0),(.ptr 5 0)])], .cells [(.d (.sl (bt v2)))], .cells [(.ptr 0 0)], .cells [(.mp 6)], .cells [(.d (.sl (bq v3)))], .map (bU bR v10.2.2.2), .cells (aA v1).cells, .cells dn, .cells (dA v10.1).cells, .cells (dA v10.2.1).cells] (by kernel_rfl) ?_;rcases gq (v10.2.2.1 !=0)with bo|bo
  ·replace J:=(gg bo).symm.trans J;refine aw_cond_h (t:=(v10.2.2.1 !=0)) (by kernel_rfl) bo ?_;refine aR ?_;refine rg [] [(5,(au v10.2.2.1))] [.cells [(.fn 66 [(.ptr 1 0),(.ptr 2 0),(.ptr 3 0)]),(.fn 64 [(.ptr 3 0)])], .cells [(.fn 69 [(.ptr 4 0),(.ptr 5 0)])], .cells [(.d (.sl (bt v2)))], .cells [(.ptr 0 0)], .cells [(.mp 6)], .cells [(.d (.sl (bq v3)))], .map (bU bR v10.2.2.2), .cells (aA v1).cells, .cells dn, .cells (dA v10.1).cells, .cells (dA v10.2.1).cells] (by kernel_rfl) ?_;refine dz (dO ?_);have hr:=am6 J;subst hr;exact m5 (by kernel_rfl)
  replace J:=(gu bo).symm.trans J;refine gZ (t:=(v10.2.2.1 !=0)) (by kernel_rfl) bo ?_;refine fj ?_;refine cw ?_;refine aR ?_;obtain⟨v11,bJ,J⟩:=b8 J;refine rg [(25,cK Ly bJ)] [(14,(.ptr 11 0)),(13,(au v11.2))] [.cells [(.fn 66 [(.ptr 1 0),(.ptr 2 0),(.ptr 3 0)]),(.fn 64 [(.ptr 3 0)])], .cells [(.fn 69 [(.ptr 4 0),(.ptr 5 0)])], .cells [(.d (.sl (bt v2)))], .cells [(.ptr 0 0)], .cells [(.mp 6)], .cells [(.d (.sl (bq v3)))], .map (bU bR v10.2.2.2), .cells (aA v1).cells, .cells dn, .cells (dA v10.1).cells, .cells (dA v10.2.1).cells, .cells (a7 v11.1).cells] (by kernel_rfl) ?_;refine aR ?_;refine rg [] [(5,(au v11.2))] [.cells [(.fn 66 [(.ptr 1 0),(.ptr 2 0),(.ptr 3 0)]),(.fn 64 [(.ptr 3 0)])], .cells [(.fn 69 [(.ptr 4 0),(.ptr 5 0)])], .cells [(.d (.sl (bt v2)))], .cells [(.ptr 0 0)], .cells [(.mp 6)], .cells [(.d (.sl (bq v3)))], .map (bU bR v10.2.2.2), .cells (aA v1).cells, .cells ((aT v11.1.xN)::(aT v11.1.xD)::R6 v10.1 []), .cells (dA v10.1).cells, .cells (dA v10.2.1).cells, .cells (a7 v11.1).cells] (by kernel_rfl) ?_;refine dz ?_;have hr:=am6 J;subst hr;exact m5 (by kernel_rfl)
theorem mL(N:Nat)(v1:an)(v2:anD bm)(v3:anD bp)(v4:anD (anE×a8))(r:dX×Int×(anD (anE×a8)))(J:Rv N v1 v2 v3 v4=some r):KH 66 [(aA v1),(.ptr 0 0),(.ptr 1 0),(.ptr 2 0)] ([.cells [(.fn 69 [(.ptr 3 0),(.ptr 4 0)])], .cells [(.d (.sl (bt v2)))], .cells [(.ptr 5 0)], .cells [(.mp 6)], .cells [(.d (.sl (bq v3)))], .cells [(.fn 66 [(.ptr 0 0),(.ptr 1 0),(.ptr 2 0)]),(.fn 64 [(.ptr 2 0)])], .map (bU bR v4)]) (.aQ [(dA r.1),(au r.2.1)]) ([.cells [(.fn 69 [(.ptr 3 0),(.ptr 4 0)])], .cells [(.d (.sl (bt v2)))], .cells [(.ptr 5 0)], .cells [(.mp 6)], .cells [(.d (.sl (bq v3)))], .cells [(.fn 66 [(.ptr 0 0),(.ptr 1 0),(.ptr 2 0)]),(.fn 64 [(.ptr 2 0)])], .map (bU bR r.2.2)]):=(akS N N).1 J
def zc6:anD AV:=[(au (0:Int)),(au (0:Int)),(au (0:Int)),(au (0:Int)),(au (0:Int))]
def vS(N:Nat)(v1:anD bp)(v2:anD bm)(v3:an):anF (aB×aF×Int):=
 (zR N v3).bind λv4=>
 bif (v4 !=0)then
  some (bZ,dZ,v4)
 else
  (yt N v3).bind λv5=>
  bif v5 then
   some (bZ,dZ,(10:Int))
  else
   (FR N v1).bind λv6=>
   (H4 N v2 v6.1 v6.2).bind λv7=>
   (Rv N v3 v7 v6.1 v6.2).bind λv8=>
   bif (v8.2.1 !=0)then
    some (bZ,dZ,v8.2.1)
   else
    some (v8.1.j7,v8.1.eH,(0:Int))
def mX(v3:an)(l:anD ao):anD ao:= .cells (aA v3).cells:: .cells lA:: .cells zc6::l
def Fh(v3:an)(v6:(anD bp)×(anD (anE×a8)))(l:anD ao):anD ao:=mX v3 (.cells [(.d (.sl (bq v6.1)))]:: .map (bU bR v6.2):: .cells [(.mp 4)]:: .cells dn::l)
def Bi(v3:an)(v6:(anD bp)×(anD (anE×a8)))(l:anD ao):anD ao:=mX v3 (.cells dn:: .cells [(.d (.sl (bq v6.1)))]:: .map (bU bR v6.2):: .cells [(.mp 5)]::l)
def Iq(v3:an)(v6:(anD bp)×(anD (anE×a8)))(v7:(anD bm))(l:anD ao):anD ao:=mX v3 (.cells [(.d (.sl (bq v6.1)))]:: .map (bU bR v6.2):: .cells [(.mp 4)]:: .cells [(.fn 69 [(.ptr 5 0),(.ptr 3 0)])]:: .cells [(.d (.sl (bt v7)))]:: .cells [(.fn 66 [(.ptr 6 0),(.ptr 7 0),(.ptr 9 0)]),(.fn 64 [(.ptr 9 0)])]:: .cells [(.ptr 8 0)]::l)
def Ke(v3:an)(v6:(anD bp)×(anD (anE×a8)))(v7:(anD bm))(l:anD ao):anD ao:=Fh v3 v6 (.cells [(.fn 69 [(.ptr 5 0),(.ptr 3 0)])]:: .cells [(.d (.sl (bt v7)))]:: .cells [(.fn 66 [(.ptr 7 0),(.ptr 8 0),(.ptr 10 0)]),(.fn 64 [(.ptr 10 0)])]:: .cells [(.ptr 9 0)]::l)
def F3(v3:an)(v6:(anD bp)×(anD (anE×a8)))(v7:(anD bm))(l:anD ao):anD ao:=Bi v3 v6 (.cells [(.fn 69 [(.ptr 6 0),(.ptr 4 0)])]:: .cells [(.d (.sl (bt v7)))]:: .cells [(.fn 66 [(.ptr 7 0),(.ptr 8 0),(.ptr 10 0)]),(.fn 64 [(.ptr 10 0)])]:: .cells [(.ptr 9 0)]::l)
def Mj(v3:an)(v6:(anD bp)×(anD (anE×a8)))(v8:dX×Int×(anD (anE×a8)))(v7:(anD bm))(l:anD ao):anD ao:=mX v3 (.cells [(.d (.sl (bq v6.1)))]:: .map (bU bR v8.2.2):: .cells [(.mp 4)]:: .cells [(.fn 69 [(.ptr 5 0),(.ptr 3 0)])]:: .cells [(.d (.sl (bt v7)))]:: .cells [(.fn 66 [(.ptr 6 0),(.ptr 7 0),(.ptr 9 0)]),(.fn 64 [(.ptr 9 0)])]:: .cells [(.ptr 8 0)]:: .cells (dA v8.1).cells::l)
def LW(v3:an)(l:anD ao):anD ao:=mX v3 (.cells dn::l)
def OO(v3:an)(v6:(anD bp)×(anD (anE×a8)))(v7:(anD bm))(l:anD ao):anD ao:=Iq v3 v6 v7 (.cells dn::l)
def Pt(v3:an)(v6:(anD bp)×(anD (anE×a8)))(l:anD ao):anD ao:=mX v3 (.cells [(.d (.sl (bq v6.1)))]:: .map (bU bR v6.2):: .cells [(.mp 4)]::l)
theorem KM{N v1 v2 v3 r}(J:vS N v1 v2 v3=some r):KF 15 [(.d (.sl (bq v1))),(.d (.sl (bt v2))),(aA v3)] (.aQ [(a7 r.1),(cB r.2.1),(au r.2.2)]):=by
 rw[vS]at J;refine Ar Tryz.func15 rfl (by kernel_rfl) ?_;refine jZ [0,1,2] 0 (amY _) (s':=⟨44,[(0,(.d (.sl (bq v1)))),(1,(.d (.sl (bt v2)))),(2,(aA v3))],[]⟩) (by kernel_rfl) ?_;refine aR ?_;refine rg [] [(5,(.ptr 0 0)),(6,(.ptr 1 0)),(7,(.ptr 2 0))] (mX v3 []) (by kernel_rfl) ?_;refine aR ?_;refine aR ?_;obtain⟨v4,h1,J⟩:=b8 J;refine rg [(4,cL (Tu h1))] [(9,(au v4))] (mX v3 []) (by kernel_rfl) ?_;refine aR ?_;refine rg [] [(15,(aC (v4 !=0)))] (mX v3 []) (by kernel_rfl) ?_;rcases gq (v4 !=0)with h2|h2
 ·replace J:=(gg h2).symm.trans J;refine aw_cond_h (t:=(v4 !=0)) (by kernel_rfl) h2 ?_;refine aR ?_;refine rg [] [(8,(au v4))] (mX v3 []) (by kernel_rfl) ?_;refine dz (dO ?_);have hr:=am6 J;subst hr;exact jI (by kernel_rfl)
 replace J:=(gu h2).symm.trans J;refine gZ (t:=(v4 !=0)) (by kernel_rfl) h2 ?_;refine fj ?_;refine cw ?_;refine aR ?_;refine aR ?_;obtain⟨v5,h3,J⟩:=b8 J;refine rg [(4,cK ND h3)] [(20,(aC v5))] (mX v3 []) (by kernel_rfl) ?_;rcases gq v5 with h4|h4
 ·replace J:=(gg h4).symm.trans J;refine aw_cond_h (t:=v5) (by kernel_rfl) h4 ?_;refine aR ?_;refine rg [] [(8,(au (10:Int)))] (mX v3 []) (by kernel_rfl) ?_;refine dz (dO ?_);have hr:=am6 J;subst hr;exact jI (by kernel_rfl)
 replace J:=(gu h4).symm.trans J;refine gZ (t:=v5) (by kernel_rfl) h4 ?_;refine fj ?_;refine cw ?_;refine aR ?_;obtain⟨v6,h5,v7,h6,J⟩:=k00 J;obtain⟨v8,h7,J⟩:=b8 J;refine ro 14 aX (.node 0 [] (.node 2 [] (.node 1 [(4,oX eC (bO (gp (bO eC))) [(.d (.sl (bq v1)))] (mX v3 []) [] (Dm N v1 v6 h5))] (.node 3 [(10,oX (bO (bO (gp eC))) (bO (bO (gp (bO (bO (bO (bO eC))))))) [(.fn 69 [(.ptr 5 0),(.ptr 3 0)]),(.d (.sl (bt v2)))] (Pt v3 v6 []) [5,3,4] (pO h6))] (.node 4 [] (.node 5 [] (.node 6 [] (.node 7 [] (.node 8 [(25,oR [(aA v3),(.ptr 6 0),(.ptr 7 0),(.ptr 9 0)] (Iq v3 v6 v7 []) [6,7,9,5,3,8,4] (mL N v3 v7 v6.1 v6.2 v8 h7))] (.node 9 [] (.node 10 [] (.node 11 [] (.node 12 [] (.node 13 [] (.node 14 [] .nil .nil) .nil) .nil) .nil) .nil) .nil) (.node 12 [] (.node 8 [(25,oR [(aA v3),(.ptr 6 0),(.ptr 7 0),(.ptr 9 0)] (OO v3 v6 v7 []) [6,7,9,5,3,8,4] (mL N v3 v7 v6.1 v6.2 v8 h7))] (.node 9 [] (.node 10 [] (.node 11 [] (.node 13 [] (.node 14 [] .nil .nil) .nil) .nil) .nil) .nil) .nil) .nil)) .nil) .nil) .nil) .nil) (.node 7 [] (.node 3 [(10,oX (bO (bO (gp eC))) (bO (bO (gp (bO (bO (bO (bO eC))))))) [(.fn 69 [(.ptr 5 0),(.ptr 3 0)]),(.d (.sl (bt v2)))] (Pt v3 v6 []) [5,3,4] (pO h6))] (.node 4 [] (.node 5 [] (.node 6 [] (.node 8 [(25,oR [(aA v3),(.ptr 6 0),(.ptr 7 0),(.ptr 9 0)] (Iq v3 v6 v7 []) [6,7,9,5,3,8,4] (mL N v3 v7 v6.1 v6.2 v8 h7))] (.node 9 [] (.node 10 [] (.node 11 [] (.node 12 [] (.node 13 [] (.node 14 [] .nil .nil) .nil) .nil) .nil) .nil) .nil) (.node 12 [] (.node 8 [(25,oR [(aA v3),(.ptr 6 0),(.ptr 7 0),(.ptr 9 0)] (OO v3 v6 v7 []) [6,7,9,5,3,8,4] (mL N v3 v7 v6.1 v6.2 v8 h7))] (.node 9 [] (.node 10 [] (.node 11 [] (.node 13 [] (.node 14 [] .nil .nil) .nil) .nil) .nil) .nil) .nil) .nil)) .nil) .nil) .nil) (.node 12 [] (.node 3 [(10,oX (bO (bO (gp eC))) (bO (bO (gp (bO (bO (bO (bO eC))))))) [(.fn 69 [(.ptr 5 0),(.ptr 3 0)]),(.d (.sl (bt v2)))] (Fh v3 v6 []) [5,3,4] (pO h6))] (.node 4 [] (.node 5 [] (.node 6 [] (.node 8 [(25,oR [(aA v3),(.ptr 7 0),(.ptr 8 0),(.ptr 10 0)] (Ke v3 v6 v7 []) [7,8,10,5,3,9,4] (mL N v3 v7 v6.1 v6.2 v8 h7))] (.node 9 [] (.node 10 [] (.node 11 [] (.node 13 [] (.node 14 [] .nil .nil) .nil) .nil) .nil) .nil) .nil) .nil) .nil) .nil) .nil) .nil)) (.node 12 [] (.node 3 [(10,oX (bO (bO (gp eC))) (bO (bO (gp (bO (bO (bO (bO eC))))))) [(.fn 69 [(.ptr 5 0),(.ptr 3 0)]),(.d (.sl (bt v2)))] (Fh v3 v6 []) [5,3,4] (pO h6))] (.node 4 [] (.node 5 [] (.node 6 [] (.node 7 [] (.node 8 [(25,oR [(aA v3),(.ptr 7 0),(.ptr 8 0),(.ptr 10 0)] (Ke v3 v6 v7 []) [7,8,10,5,3,9,4] (mL N v3 v7 v6.1 v6.2 v8 h7))] (.node 9 [] (.node 10 [] (.node 11 [] (.node 13 [] (.node 14 [] .nil .nil) .nil) .nil) .nil) .nil) .nil) .nil) .nil) .nil) .nil) (.node 7 [] (.node 3 [(10,oX (bO (bO (gp eC))) (bO (bO (gp (bO (bO (bO (bO eC))))))) [(.fn 69 [(.ptr 5 0),(.ptr 3 0)]),(.d (.sl (bt v2)))] (Fh v3 v6 []) [5,3,4] (pO h6))] (.node 4 [] (.node 5 [] (.node 6 [] (.node 8 [(25,oR [(aA v3),(.ptr 7 0),(.ptr 8 0),(.ptr 10 0)] (Ke v3 v6 v7 []) [7,8,10,5,3,9,4] (mL N v3 v7 v6.1 v6.2 v8 h7))] (.node 9 [] (.node 10 [] (.node 11 [] (.node 13 [] (.node 14 [] .nil .nil) .nil) .nil) .nil) .nil) .nil) .nil) .nil) .nil) .nil) .nil)) .nil))) (.node 7 [] (.node 1 [(4,oX eC (bO (gp (bO eC))) [(.d (.sl (bq v1)))] (mX v3 []) [] (Dm N v1 v6 h5))] (.node 3 [(10,oX (bO (bO (gp eC))) (bO (bO (gp (bO (bO (bO (bO eC))))))) [(.fn 69 [(.ptr 5 0),(.ptr 3 0)]),(.d (.sl (bt v2)))] (Pt v3 v6 []) [5,3,4] (pO h6))] (.node 4 [] (.node 5 [] (.node 6 [] (.node 8 [(25,oR [(aA v3),(.ptr 6 0),(.ptr 7 0),(.ptr 9 0)] (Iq v3 v6 v7 []) [6,7,9,5,3,8,4] (mL N v3 v7 v6.1 v6.2 v8 h7))] (.node 9 [] (.node 10 [] (.node 11 [] (.node 12 [] (.node 13 [] (.node 14 [] .nil .nil) .nil) .nil) .nil) .nil) .nil) (.node 12 [] (.node 8 [(25,oR [(aA v3),(.ptr 6 0),(.ptr 7 0),(.ptr 9 0)] (OO v3 v6 v7 []) [6,7,9,5,3,8,4] (mL N v3 v7 v6.1 v6.2 v8 h7))] (.node 9 [] (.node 10 [] (.node 11 [] (.node 13 [] (.node 14 [] .nil .nil) .nil) .nil) .nil) .nil) .nil) .nil)) .nil) .nil) .nil) (.node 12 [] (.node 3 [(10,oX (bO (bO (gp eC))) (bO (bO (gp (bO (bO (bO (bO eC))))))) [(.fn 69 [(.ptr 5 0),(.ptr 3 0)]),(.d (.sl (bt v2)))] (Fh v3 v6 []) [5,3,4] (pO h6))] (.node 4 [] (.node 5 [] (.node 6 [] (.node 8 [(25,oR [(aA v3),(.ptr 7 0),(.ptr 8 0),(.ptr 10 0)] (Ke v3 v6 v7 []) [7,8,10,5,3,9,4] (mL N v3 v7 v6.1 v6.2 v8 h7))] (.node 9 [] (.node 10 [] (.node 11 [] (.node 13 [] (.node 14 [] .nil .nil) .nil) .nil) .nil) .nil) .nil) .nil) .nil) .nil) .nil) .nil)) (.node 12 [] (.node 1 [(4,oX eC (bO (gp (bO eC))) [(.d (.sl (bq v1)))] (LW v3 []) [] (Dm N v1 v6 h5))] (.node 3 [(10,oX (bO (bO (gp eC))) (bO (bO (gp (bO (bO (bO (bO eC))))))) [(.fn 69 [(.ptr 6 0),(.ptr 4 0)]),(.d (.sl (bt v2)))] (Bi v3 v6 []) [6,4,5] (pO h6))] (.node 4 [] (.node 5 [] (.node 6 [] (.node 8 [(25,oR [(aA v3),(.ptr 7 0),(.ptr 8 0),(.ptr 10 0)] (F3 v3 v6 v7 []) [7,8,10,6,4,9,5] (mL N v3 v7 v6.1 v6.2 v8 h7))] (.node 9 [] (.node 10 [] (.node 11 [] (.node 13 [] (.node 14 [] .nil .nil) .nil) .nil) .nil) .nil) .nil) .nil) .nil) .nil) .nil) .nil) .nil)) (.node 12 [] (.node 1 [(4,oX eC (bO (gp (bO eC))) [(.d (.sl (bq v1)))] (LW v3 []) [] (Dm N v1 v6 h5))] (.node 3 [(10,oX (bO (bO (gp eC))) (bO (bO (gp (bO (bO (bO (bO eC))))))) [(.fn 69 [(.ptr 6 0),(.ptr 4 0)]),(.d (.sl (bt v2)))] (Bi v3 v6 []) [6,4,5] (pO h6))] (.node 4 [] (.node 5 [] (.node 6 [] (.node 7 [] (.node 8 [(25,oR [(aA v3),(.ptr 7 0),(.ptr 8 0),(.ptr 10 0)] (F3 v3 v6 v7 []) [7,8,10,6,4,9,5] (mL N v3 v7 v6.1 v6.2 v8 h7))] (.node 9 [] (.node 10 [] (.node 11 [] (.node 13 [] (.node 14 [] .nil .nil) .nil) .nil) .nil) .nil) .nil) .nil) .nil) .nil) .nil) (.node 7 [] (.node 3 [(10,oX (bO (bO (gp eC))) (bO (bO (gp (bO (bO (bO (bO eC))))))) [(.fn 69 [(.ptr 6 0),(.ptr 4 0)]),(.d (.sl (bt v2)))] (Bi v3 v6 []) [6,4,5] (pO h6))] (.node 4 [] (.node 5 [] (.node 6 [] (.node 8 [(25,oR [(aA v3),(.ptr 7 0),(.ptr 8 0),(.ptr 10 0)] (F3 v3 v6 v7 []) [7,8,10,6,4,9,5] (mL N v3 v7 v6.1 v6.2 v8 h7))] (.node 9 [] (.node 10 [] (.node 11 [] (.node 13 [] (.node 14 [] .nil .nil) .nil) .nil) .nil) .nil) .nil) .nil) .nil) .nil) .nil) .nil)) (.node 7 [] (.node 1 [(4,oX eC (bO (gp (bO eC))) [(.d (.sl (bq v1)))] (LW v3 []) [] (Dm N v1 v6 h5))] (.node 3 [(10,oX (bO (bO (gp eC))) (bO (bO (gp (bO (bO (bO (bO eC))))))) [(.fn 69 [(.ptr 6 0),(.ptr 4 0)]),(.d (.sl (bt v2)))] (Bi v3 v6 []) [6,4,5] (pO h6))] (.node 4 [] (.node 5 [] (.node 6 [] (.node 8 [(25,oR [(aA v3),(.ptr 7 0),(.ptr 8 0),(.ptr 10 0)] (F3 v3 v6 v7 []) [7,8,10,6,4,9,5] (mL N v3 v7 v6.1 v6.2 v8 h7))] (.node 9 [] (.node 10 [] (.node 11 [] (.node 13 [] (.node 14 [] .nil .nil) .nil) .nil) .nil) .nil) .nil) .nil) .nil) .nil) .nil) .nil) .nil)) .nil))) .nil) .nil) [(10,(.ptr 10 0)),(11,(au v8.2.1))] (Mj v3 v6 v8 v7 []) (by kernel_rfl) ?_
 refine aR ?_;refine aR ?_;refine rg [] [(36,(aC (v8.2.1 !=0)))] (Mj v3 v6 v8 v7 []) (by kernel_rfl) ?_;rcases gq (v8.2.1 !=0)with h8|h8
 ·replace J:=(gg h8).symm.trans J;refine aw_cond_h (t:=(v8.2.1 !=0)) (by kernel_rfl) h8 ?_;refine aR ?_;refine rg [] [(8,(au v8.2.1))] (Mj v3 v6 v8 v7 []) (by kernel_rfl) ?_;refine dz (dO ?_);have hr:=am6 J;subst hr;exact jI (by kernel_rfl)
 replace J:=(gu h8).symm.trans J;refine gZ (t:=(v8.2.1 !=0)) (by kernel_rfl) h8 ?_;refine fj ?_;refine cw ?_;refine aR ?_;refine rt 2 aX [] [(8,(au (0:Int)))] [.cells (aA v3).cells, .cells (a7 v8.1.j7).cells, .cells (cB v8.1.eH).cells, .cells [(.d (.sl (bq v6.1)))], .map (bU bR v8.2.2), .cells [(.mp 4)], .cells [(.fn 69 [(.ptr 5 0),(.ptr 3 0)])], .cells [(.d (.sl (bt v7)))], .cells [(.fn 66 [(.ptr 6 0),(.ptr 7 0),(.ptr 9 0)]),(.fn 64 [(.ptr 9 0)])], .cells [(.ptr 8 0)], .cells (dA v8.1).cells] (by kernel_rfl) ?_;refine dz ?_;have hr:=am6 J;subst hr;exact jI (by kernel_rfl)
def Ml(N:Nat)(v1:anD bp)(v2:anD bm)(v3:an):anF Bool:=
 Option.bind (Lb N v3 (300:Int)) λv4=>
 Option.bind (bif (decide (v4>300))then some true else(bif (decide ((v1.length:Int)>20))then some true else some (decide ((v2.length:Int)>20)))) λv5=>
 bif v5 then
  (AD N).bind λv6=>
  some v6
 else
  (vS N v1 v2 v3).bind λv7=>
  bif (v7.2.2 !=0)then
   (AD N).bind λv8=>
   some v8
  else
   (tO N v7.2.1 v3).bind λv9=>
   (vS N v1 v2 v9.1).bind λv10=>
   (xk N v7.2.1 v3).bind λv11=>
   (vS N v1 v2 v11).bind λv12=>
   Option.bind (bif ((v10.1.xN.toInt==v7.1.xN.toInt)&&((v10.1.xD.toInt==v7.1.xD.toInt)&&true))then(bif ((v10.2.1.aL==v7.2.1.aL)&&((v10.2.1.bY==v7.2.1.bY)&&((v10.2.1.bM==v7.2.1.bM)&&((v10.2.1.b5==v7.2.1.b5)&&((v10.2.1.bK==v7.2.1.bK)&&true)))))then(bif (v10.2.2==0)then(bif ((v12.1.xN.toInt==v7.1.xN.toInt)&&((v12.1.xD.toInt==v7.1.xD.toInt)&&true))then(bif ((v12.2.1.aL==v7.2.1.aL)&&((v12.2.1.bY==v7.2.1.bY)&&((v12.2.1.bM==v7.2.1.bM)&&((v12.2.1.b5==v7.2.1.b5)&&((v12.2.1.bK==v7.2.1.bK)&&true)))))then(bif (v12.2.2==0)then (AD N).bind λaW=>
   some aW else some false)else some false)else some false)else some false)else some false)else some false) λbX=>
   some bX
theorem alX{N v1 v2 v3}:KO 4 [(.d (.sl (bq v1))),(.d (.sl (bt v2))),(aA v3)] aC (Ml N v1 v2 v3):=
 fw Tryz.func4 (gA [[]] (ax λv4 h1=>gG (λv5=>[(31,(aC v5))]) (λ_=>[.cells (aA v3).cells]) (cP (4,cK aaX h1) (ay (λh2=>gE [(3,bT h2),(8,bT rfl)] []) λh2=>cm (3,bF h2) (cP (16,oL v1 OV) (ay (λh3=>gE [(8,bT h3)] []) λh3=>gE [(8,bF h3)] [(31,oL v2 QM)])))) λv5=>ay (λh5=>ax λv6 h6=>gR [[t0 h5],[(1,cK PX h6)]]) λh5=>ax λv7 h7=>gA [[f0 h5],[(10,cL (KM h7))],[]] (ay (λh8=>ax λv8 h9=>gR [[t0 h8],[(1,cK PX h9)]]) λh8=>ax λv9 bk=>ax λv10 bo=>ax λv11 bJ=>ax λv12 cf=>gA [[f0 h8],[(7,cK M9 bk)],[(10,cL (KM bo))],[(13,cK DD bJ),(16,cL (KM cf))]] (gG (λbX=>[(6,(aC bX))]) (λ_=>[.cells (aA v3).cells, .cells (a7 v7.1).cells, .cells (cB v7.2.1).cells, .cells (aA v9.1).cells, .cells (a7 v10.1).cells, .cells (cB v10.2.1).cells, .cells (a7 v12.1).cells, .cells (cB v12.2.1).cells]) (ay (λct=>cm (3,bT ct) (ay (λcq=>cm (8,bT cq) (ay (λbH=>cm (12,bT bH) (ay (λcE=>cm (17,bT cE) (ay (λcY=>cm (22,bT cY) (ay (λdC=>ax λaW dj=>gE [(26,bT dC)] [(82,cK PX dj)]) λdC=>gE [(26,bF dC)] [])) λcY=>gE [(22,bF cY),(26,bF rfl)] [])) λcE=>gE [(17,bF cE),(22,bF rfl),(26,bF rfl)] [])) λbH=>gE [(12,bF bH),(17,bF rfl),(22,bF rfl),(26,bF rfl)] [])) λcq=>gE [(8,bF cq),(12,bF rfl),(17,bF rfl),(22,bF rfl),(26,bF rfl)] [])) λct=>gE [(3,bF ct),(8,bF rfl),(12,bF rfl),(17,bF rfl),(22,bF rfl),(26,bF rfl)] []) λbX=>gR []))))
end Go.Proofs.YtfdhojiehjfghaaGreatDoor
namespace Go.Proofs.YtfdhojiehjfghaaGreatDoor
end Go.Proofs.YtfdhojiehjfghaaGreatDoor
namespace Go.Proofs.YtfdhojiehjfghaaGreatDoor
open Go.RowKit
theorem IA(b:anE)(i:Nat):b[i]?=(bL b)[i]?:=by
 unfold bL;rw[ana];by_cases h:i<b.size
 ·rw[getElem?_pos b i h,am9 (xs:=b.data) (by exact h)];rfl
 ·rw[getElem?_neg b i h,Array.getElem?_eq_none (xs:=b.data) (by exact Nat.le_of_not_lt h)]
theorem AP(b:anE):b.size=(bL b).length:=by unfold bL;rw[anl];rfl
theorem Nc{i:Nat}(h:i<9223372036854775807):aS ((i:Int)+1)=((i+1:Nat):Int):=by
 unfold aS;rw[IntKind.wrap_i64]<;>omega
def xX(c:UInt8):Bool:=decide (97<=c.toNat)&&decide (c.toNat<=122)
def pc(c:UInt8):Bool:=xX c||(decide (48<=c.toNat)&&decide (c.toNat<=57))||c.toNat==95
def zZ(l:anD UInt8):Bool:=nL.any λw=>bL w==l
def Pw(l:anD UInt8):Bool:=decide (1<=l.length)&&(decide (l.length<=16)&&(!zZ l&&((l.take 1).all xX&&l.all pc)))
def j8(s:anE):Bool:=Pw (bL s)
theorem VK(c:UInt8):IntKind.i32.wrap (c.toNat:Int)=(c.toNat:Int):=by
 have:=c.toNat_lt;rw[IntKind.wrap_i32]<;>omega
theorem pC{p q:Prop} [Decidable p] [Decidable q](h:p↔q):decide p=decide q:=decide_eq_decide.2 h
theorem fJ(a b:Bool):(bif a then some b else some false)=some (a&&b):=by cases a<;>rfl
theorem rR(a b:Bool):(bif a then some true else some b)=some (a||b):=by cases a<;>rfl
theorem YY(N:Nat)(c:UInt8):DF N (c.toNat:Int)=some (xX c):=by
 unfold DF xX;rw[fJ,amM,pC (q:=97<=c.toNat) (by omega),pC (p:=(c.toNat:Int)<=122) (q:=c.toNat<=122) (by omega)]
theorem akz(N:Nat)(c:UInt8):HG N (c.toNat:Int)=some (decide (48<=c.toNat)&&decide (c.toNat<=57)):=by
 unfold HG;rw[fJ,amM,pC (q:=48<=c.toNat) (by omega),pC (p:=(c.toNat:Int)<=57) (q:=c.toNat<=57) (by omega)]
theorem pI(n k:Nat):((n:Int)==(k:Int))=(n==k):=by
 rw[Bool.eq_iff_iff,beq_iff_eq,beq_iff_eq];omega
theorem ahO(N:Nat)(c:UInt8):Ga N (c.toNat:Int)=some (pc c):=by
 unfold Ga pc;rw[YY,amM,akz,amM];have:=pI c.toNat 95;rw[show(((c.toNat:Int)==95))=(c.toNat==95)from this];rw[rR,rR,amM,Bool.or_assoc]
theorem W8(N:Nat)(s:anE)(hs:s.size<9223372036854775807):∀(k i:Nat),i<=s.size->s.size-i<k->Ey N s k (i:Int)=some ((i+(((bL s).drop i).takeWhile pc).length:Nat):Int)
 |0,i,_,hk=>absurd hk (ang _)
 |k+1,i,hi,hk=>by
  rw[Ey];by_cases aJ:i<s.size
  ·have h1:decide ((i:Int)<(s.size:Int))=true:=anv (by omega);have h2:decide ((0:Int)<=(i:Int))=true:=anv (by omega);rw[h1,h2];simp only[cond_true,anf];have hl:i<(bL s).length:=by rw[<-AP];exact aJ
   rw[IA,amR hl,List.drop_eq_getElem_cons hl,amM,VK,ahO,amM,amM];cases hw:pc (bL s)[i]with
   |true=>
    simp only[cond_true];rw[Nc (Nat.lt_trans aJ hs),W8 N s hs k (i+1) aJ (by omega),List.takeWhile_cons_of_pos hw,amQ]
    congr 2;omega
   |false=>
    simp only[cond_false];rw[List.takeWhile_cons_of_neg (by rw[hw];simp)];rfl
  ·have h1:decide ((i:Int)<(s.size:Int))=false:=anw (by omega);rw[h1];simp only[cond_false,amM];rw[List.drop_eq_nil_of_le (by rw[<-AP];omega)];rfl
theorem aaJ(N:Nat)(s:anE)(hs:s.size<9223372036854775807)(hN:s.size<N):HL N s=some ((((bL s).takeWhile pc).length:Nat):Int):=by
 unfold HL;have:=W8 N s hs N 0 (Nat.zero_le _) (by omega);rw[ann,am7]at this;exact this
theorem Sm{α:Type}(p:α->Bool):∀l:anD α,((l.takeWhile p).length==l.length)=l.all p
 |[]=>rfl
 |x::l=>by
  cases h:p x with
  |true=>
   rw[List.takeWhile_cons_of_pos h,anz,h,Bool.true_and,<-Sm p l];simp
  |false=>rw[List.takeWhile_cons_of_neg (by rw[h];simp),anz,h];simp
theorem TR(N:Nat)(v:anE):∀(l:anD anE)(k:Nat),∃z:Int,JT N v l k=some z/\decide (z>=0)=l.any λw=>bL w==bL v
 |[],k=>⟨-1,rfl,rfl⟩
 |w::l,k=>by
  rw[JT,anA];have hc:(bL v==bL w)=(bL w==bL v):=by rw[Bool.eq_iff_iff,beq_iff_eq,beq_iff_eq];exact eq_comm
  cases h:bL v==bL w with
  |true=>rw[hc]at h;exact⟨k,rfl,by rw[h,Bool.true_or];exact anv (by omega)⟩
  |false=>
   obtain⟨z,h1,h2⟩:=TR N v l (k+1);rw[hc]at h;exact⟨z,h1,by rw[h,Bool.false_or];exact h2⟩
theorem agV(N:Nat)(v:anE):GG N v=some (zZ (bL v)):=by
 unfold GG QU Mr PY;obtain⟨z,h1,h2⟩:=TR N v nL 0;rw[amM,h1,amM,amM,h2];rfl
theorem Zy{α:Type}{l:anD α}(h:0<l.length):l.take 1=[l[0]]:=by
 cases l with
 |nil=>cases h
 |cons x l=>rfl
theorem I7:bL (bs [])=[]:=rfl
theorem XO(N:Nat)(s:anE)(hN:16<N):Bj N s=some (j8 s):=by
 unfold Bj j8 Pw;have hz:=AP s;by_cases h0:(bL s).length=0
 ·have:bL s=[]:=List.length_eq_zero_iff.1 h0;rw[this];rfl
 have ck:(bL s==bL (bs []))=false:=by
  rw[I7,beq_eq_false_iff_ne];intro h;rw[h]at h0;exact h0 rfl
 rw[ck,anv (show 1<=(bL s).length by omega),Bool.true_and];simp only[cond_false];by_cases bH:(bL s).length<=16
 ·rw[anv (show(s.size:Int)<=16 by omega),anv bH,Bool.true_and];simp only[cond_true];have hl:0<(bL s).length:=by omega
  rw[IA,amR hl,amM,VK,YY,amM,aaJ N s (by omega) (by omega),amM,agV,amM];rw[hz,pI,Sm];have ht:(bL s).take 1=[(bL s)[0]]:=Zy hl;rw[ht,anz,List.all_nil,Bool.and_true,fJ,fJ,amM]
  congr 1
  cases zZ (bL s)<;>cases xX (bL s)[0]<;>cases (bL s).all pc<;>rfl
 ·rw[anw (show ¬(s.size:Int)<=16 by omega),anw bH];rfl
theorem aau(N:Nat)(b:Bool):ia N b=some b:=by cases b<;>rfl
theorem ajg(a b:Bool):(bif a then some a else some b)=some (a||b):=by cases a<;>rfl
theorem aeB(a b:anD UInt8):(a==b)=(b==a):=by rw[Bool.eq_iff_iff,beq_iff_eq,beq_iff_eq];exact eq_comm
theorem ahb(N:Nat)(v:anE):Jc N v=some (zZ (bL v)):=by
 simp only[Jc,aau,ajg,zZ,nL,anA,List.any_nil,Bool.or_false,aeB (bL v)]
theorem Ge(n k:Nat):decide ((n:Int)<(k:Int))= !decide (k<=n):=by
 by_cases h:k<=n
 ·rw[anv h,anw (by omega)];rfl
 ·rw[anw h,anv (by omega)];rfl
theorem zg(n k:Nat):decide ((n:Int)>(k:Int))= !decide (n<=k):=by
 by_cases h:n<=k
 ·rw[anv h,anw (by omega)];rfl
 ·rw[anw h,anv (by omega)];rfl
theorem Kv(n k:Nat):decide ((n:Int)<=(k:Int))=decide (n<=k):=pC (by omega)
theorem ahB(n k:Nat):((n:Int) !=(k:Int))= !(n==k):=by unfold bne;rw[pI]
theorem aed(c:UInt8):(bif (decide ((c.toNat:Int)<97))then(bif (decide ((c.toNat:Int)<48))then some ((c.toNat:Int) !=95)else(bif (decide ((c.toNat:Int)>57))then some ((c.toNat:Int) !=95)else some false))else(bif (decide ((c.toNat:Int)>122))then(bif (decide ((c.toNat:Int)<48))then some ((c.toNat:Int) !=95)else(bif (decide ((c.toNat:Int)>57))then some ((c.toNat:Int) !=95)else some false))else some false))=some (!pc c):=by
 have a1:=Ge c.toNat 97;have a2:=Ge c.toNat 48;have a3:=zg c.toNat 57;have a4:=zg c.toNat 122;have a5:=ahB c.toNat 95;simp only[Int.cast_ofNat_Int]at a1 a2 a3 a4 a5;rw[a1,a2,a3,a4,a5];unfold pc xX;cases decide (97<=c.toNat)<;>cases decide (48<=c.toNat)<;>cases decide (c.toNat<=57)<;>cases decide (c.toNat<=122)<;>cases (c.toNat==95)<;>rfl
theorem VC(N:Nat)(s:anE)(hs:s.size<9223372036854775807):∀(k i:Nat),i<=s.size->s.size-i<k->zO N s k (i:Int)=some (((bL s).drop i).all pc)
 |0,i,_,hk=>absurd hk (ang _)
 |k+1,i,hi,hk=>by
  rw[zO];by_cases aJ:i<s.size
  ·have h1:decide ((i:Int)<(s.size:Int))=true:=anv (by omega);have h2:decide ((0:Int)<=(i:Int))=true:=anv (by omega);rw[h1,h2];simp only[cond_true,anf];have hl:i<(bL s).length:=by rw[<-AP];exact aJ
   rw[IA,amR hl,List.drop_eq_getElem_cons hl,amM,aed,amM,anz];cases hw:pc (bL s)[i]with
   |true=>
    simp only[Bool.not_true,cond_false,Bool.true_and];rw[Nc (Nat.lt_trans aJ hs),VC N s hs k (i+1) aJ (by omega)]
   |false=>rfl
  ·have h1:decide ((i:Int)<(s.size:Int))=false:=anw (by omega);rw[h1];simp only[cond_false];rw[List.drop_eq_nil_of_le (by rw[<-AP];omega)];rfl
theorem aiG(N:Nat)(s:anE)(hN:16<N):F2 N s=some (j8 s):=by
 unfold F2 j8 Pw;have hz:=AP s;have a1:=Ge s.size 1;have a2:=zg s.size 16;simp only[Int.cast_ofNat_Int]at a1 a2;rw[a1,a2,hz];cases h1:decide (1<=(bL s).length)with
 |false=>rfl
 |true=>
  cases bH:decide ((bL s).length<=16)with
  |false=>rfl
  |true=>
   have sQ:=of_decide_eq_true h1;have amJ:=of_decide_eq_true bH;have hl:0<(bL s).length:=by omega
   simp only[Bool.not_true,cond_false,Bool.true_and];rw[ahb,amM,IA,amR hl,amM];have b1:=Ge (bL s)[0].toNat 97;have b2:=zg (bL s)[0].toNat 122;simp only[Int.cast_ofNat_Int]at b1 b2;rw[b1,b2,rR,rR,amM,Zy hl];have:=VC N s (by omega) N 0 (Nat.zero_le _) (by omega);rw[ann]at this;rw[show zO N s N 0=_ from this,anz,List.all_nil,Bool.and_true];unfold xX;cases zZ (bL s)<;>cases decide (97<=(bL s)[0].toNat)<;>cases decide ((bL s)[0].toNat<=122)<;>rfl
def b9(t:aF):Bool:=
 bif t.aL==1||t.aL==3 then t.bY==0&&(t.bM==0&&(t.b5==0&&t.bK==0))
 else t.aL==2&&(decide (2<=t.bY)&&(decide (t.bY<=31)&&(decide (0<=t.bM)&&(decide (t.bM<=30)&&(decide (1<=t.b5)&&(decide (t.b5<=4)&&(t.bK==1||t.bK==2)))))))
theorem SD(a b:Int):decide (a<b)= !decide (b<=a):=by
 by_cases h:b<=a
 ·rw[anv h,anw (by omega)];rfl
 ·rw[anw h,anv (by omega)];rfl
theorem Od(a b:Int):decide (a>b)= !decide (a<=b):=SD b a
theorem oe(a b:Int):decide (a>=b)=decide (b<=a):=rfl
theorem kY(a b:Int):(a !=b)= !(a==b):=rfl
theorem Pp(N:Nat)(t:aF)(h:(t.aL==2)=true):uX N t=some (bif (decide (2<=t.bY)&&(decide (t.bY<=31)&&(decide (0<=t.bM)&&(decide (t.bM<=30)&&(decide (1<=t.b5)&&(decide (t.b5<=4)&&(t.bK==1||t.bK==2)))))))then 0 else 10):=by
 unfold uX;simp only[rR,fJ,amM,oe,Od,kY,h,Bool.not_true,Bool.false_or];cases decide (2<=t.bY)<;>cases decide (t.bY<=31)<;>cases decide (0<=t.bM)<;>cases decide (t.bM<=30)<;>cases decide (1<=t.b5)<;>cases decide (t.b5<=4)<;>cases t.bK==1<;>cases t.bK==2<;>rfl
theorem pE(N:Nat)(t:aF):nf N t=some (bif b9 t then 0 else 10):=by
 unfold nf Ks b9 OQ;cases h1:t.aL==1 with
 |true=>
  simp only[cond_true,amM,anx,Bool.true_and,Bool.true_or,Bool.and_true];cases (t.bY==0&&(t.bM==0&&(t.b5==0&&t.bK==0)))<;>rfl
 |false=>
  cases h3:t.aL==3 with
  |true=>
   simp only[cond_true,cond_false,amM,anx,Bool.true_and,Bool.or_true,Bool.and_true];cases (t.bY==0&&(t.bM==0&&(t.b5==0&&t.bK==0)))<;>rfl
  |false=>
   cases h2:t.aL==2 with
   |true=>
    rw[Pp N t h2];simp only[cond_true,cond_false,amM,Bool.true_and,Bool.or_false];cases (decide (2<=t.bY)&&(decide (t.bY<=31)&&(decide (0<=t.bM)&&(decide (t.bM<=30)&&(decide (1<=t.b5)&&(decide (t.b5<=4)&&(t.bK==1||t.bK==2)))))))<;>rfl
   |false=>rfl
def sA:anF anE->anD bf->Bool
 |_,[]=>true
 |p,m::l=>j8 m.aO&&(!(m.cA.toInt==0)&&((match p with|none=>true|some q=>Op.bytesLess (bL q) (bL m.aO))&&sA (some m.aO) l))
theorem HO(p:anF anE)(m:bf)(l:anD bf):sA p (m::l)=(j8 m.aO&&(!(m.cA.toInt==0)&&((match p with|none=>true|some q=>Op.bytesLess (bL q) (bL m.aO))&&sA (some m.aO) l))):=by cases p<;>rfl
def dY(x:aP):Bool:=sA none x.xL
def vN(x:aP)(k:Nat):anF anE:=bif k==0 then none else(x.xL[k-1]?).map (·.aO)
theorem aam{k:Nat}(h0:0<k)(h:k<=maxLen):aS ((k:Int)-1)=((k-1:Nat):Int):=by
 unfold aS;have:(k:Int)-1=((k-1:Nat):Int):=by omega
 rw[this];unfold maxLen at h;rw[IntKind.wrap_i64]<;>omega
theorem aji{x:aP}{k:Nat}{m:bf}{l:anD bf}(hd:x.xL.drop k=m::l):vN x (k+1)=some m.aO:=by
 have:=cO hd;unfold vN;simp [this]
theorem ame{x:aP}{k:Nat}{m:bf}{l:anD bf}(hd:x.xL.drop k=m::l)(hm:x.xL.length<=maxLen):
 (bif (decide ((k:Int)>0))then bif (decide ((0:Int)<=(aS ((k:Int)-(1:Int)))))then
 Option.bind (x.xL[((aS ((k:Int)-(1:Int)))).toNat]?) λv7=>
 some (!(Op.bytesLess (bL v7.aO) (bL m.aO)))
 else none else some false)=some (!(match vN x k with|none=>true|some q=>Op.bytesLess (bL q) (bL m.aO))):=by
 have aJ:k<x.xL.length:=(amN.1 (cO hd)).1;by_cases h0:k=0
 ·subst h0;rfl
 ·rw[anv (show(k:Int)>0 by omega),aam (by omega) (by omega),anv (show(0:Int)<=((k-1:Nat):Int) by omega)];simp only[cond_true,anf];have hp:vN x k=(x.xL[k-1]?).map (·.aO):=by
    unfold vN;rw[beq_false_of_ne h0];rfl
  rw[hp,amR (show k-1<x.xL.length by omega)];rfl
theorem Vu(N:Nat)(hN:16<N)(x:aP)(hm:x.xL.length<=maxLen):∀(l:anD bf)(k:Nat),x.xL.drop k=l->HI N x l k=some (bif sA (vN x k) l then 0 else 1)
 |[],k,_=>rfl
 |m::l,k,hd=>by
  rw[HI,aiG N m.aO hN,amM,HO,ame hd hm,Vu N hN x hm l (k+1) (oc hd),aji hd];generalize (match vN x k with|none=>true|some q=>Op.bytesLess (bL q) (bL m.aO))=b;cases j8 m.aO<;>cases (m.cA.toInt==0)<;>cases b<;>cases sA (some m.aO) l<;>rfl
theorem Bd(N:Nat)(hN:16<N)(x:aP)(hm:x.xL.length<=maxLen):wm N x=some (bif dY x then 0 else 1):=Vu N hN x hm x.xL 0 rfl
def b4(t:aF)(v:aB):Bool:=
 bif t.aL==2 then v.xD.toInt==1&&(decide (-(2^(t.bY-1).toNat)<=v.xN.toInt)&&decide (v.xN.toInt<2^(t.bY-1).toNat))
 else decide (v.xN.toInt<=2147483647)&&(decide (-2147483647<=v.xN.toInt)&&(decide (1<=v.xD.toInt)&&(decide (v.xD.toInt<=2147483647)&&
  (bif t.aL==3 then v.xD.toInt==1 else Nat.gcd v.xN.toInt.natAbs v.xD.toInt.toNat==1))))
theorem acx:∀n:Fin 30,(decide ((0:Int)<=(IntKind.u64.wrap (aS (((n.val+2:Nat):Int)-(1:Int))))))=true/\(decide ((0:Int)<=(aS (((n.val+2:Nat):Int)-(1:Int)))))=true/\
 (-(Int64.ofInt ((1:Int)*2^(min ((IntKind.u64.wrap (aS (((n.val+2:Nat):Int)-(1:Int))))).toNat (IntKind.bits .i64))))).toInt= -(2^(n.val+1))/\
 ((Int64.ofInt ((1:Int)*2^(min ((IntKind.u64.wrap (aS (((n.val+2:Nat):Int)-(1:Int))))).toNat (IntKind.bits .i64))))-(1:Int64)).toInt=2^(n.val+1)-1/\
 (-(Int64.ofInt ((1:Int)*2^(min ((aS (((n.val+2:Nat):Int)-(1:Int)))).toNat (IntKind.bits .i64))))).toInt= -(2^(n.val+1))/\
 (Int64.ofInt ((1:Int)*2^(min ((aS (((n.val+2:Nat):Int)-(1:Int)))).toNat (IntKind.bits .i64)))).toInt=2^(n.val+1):=by decide+kernel
theorem Th{b:Int}(h1:2<=b)(h2:b<=31):(decide ((0:Int)<=(IntKind.u64.wrap (aS (b-(1:Int))))))=true/\(decide ((0:Int)<=(aS (b-(1:Int)))))=true/\
 (-(Int64.ofInt ((1:Int)*2^(min ((IntKind.u64.wrap (aS (b-(1:Int))))).toNat (IntKind.bits .i64))))).toInt= -(2^(b-1).toNat)/\
 ((Int64.ofInt ((1:Int)*2^(min ((IntKind.u64.wrap (aS (b-(1:Int))))).toNat (IntKind.bits .i64))))-(1:Int64)).toInt=2^(b-1).toNat-1/\
 (-(Int64.ofInt ((1:Int)*2^(min ((aS (b-(1:Int)))).toNat (IntKind.bits .i64))))).toInt= -(2^(b-1).toNat)/\
 (Int64.ofInt ((1:Int)*2^(min ((aS (b-(1:Int)))).toNat (IntKind.bits .i64)))).toInt=2^(b-1).toNat:=by
 obtain⟨n,rfl⟩:∃n:Nat,b=n:=⟨b.toNat,by omega⟩;have:=acx ⟨n-2,by omega⟩;simp only[show n-2+2=n by omega,show n-2+1=n-1 by omega]at this;rw[show((n:Int)-1).toNat=n-1 by omega];exact this
theorem Np(N:Nat):∀(k a b:Nat),b<k->Dx N k (a:Int) (b:Int)=some ((Nat.gcd a b:Nat):Int)
 |0,a,b,h=>absurd h (ang _)
 |k+1,a,b,h=>by
  rw[Dx];by_cases h0:b=0
  ·subst h0;simp
  ·rw[show(((b:Nat):Int) !=0)=true by rw[bne_iff_ne];omega];simp only[cond_true];rw[<-Int.ofNat_tmod,Np N k b (a%b) (by have:=Nat.mod_lt a (Nat.pos_of_ne_zero h0);omega)];rw[Nat.gcd_comm a b,Nat.gcd_rec b a,Nat.gcd_comm]
theorem lY(z:Int):IntKind.u64.wrap z=z%18446744073709551616:=rfl
theorem K9(N:Nat)(v:Int64):yO N v=some ((v.toInt.natAbs:Nat):Int):=by
 unfold yO;have h1:v.toInt<2^63:=Int64.toInt_lt v;have h2: -2^63<=v.toInt:=Int64.le_toInt v;by_cases h:v.toInt<0
 ·rw[anv h];simp only[cond_true,lY]
  congr 1
  omega
 ·rw[anw h];simp only[cond_false,lY]
  congr 1
  omega
theorem sX(N:Nat)(hN:2147483648<N)(t:aF)(v:aB)(ht:b9 t=true):ox N t v=some (b4 t v):=by
 unfold ox;rw[pE,ht,amM];unfold b4;cases h2:t.aL==2 with
 |true=>
  simp only[cond_true];show Option.bind (s9 N t v) _=_;unfold b9 at ht;have hk:t.aL=2:=by simpa using h2
  rw[hk]at ht;have ya:(decide (2<=t.bY)&&(decide (t.bY<=31)&&(decide (0<=t.bM)&&(decide (t.bM<=30)&&(decide (1<=t.b5)&&(decide (t.b5<=4)&&(t.bK==1||t.bK==2)))))))=true:=ht;unfold s9;rw[Pp N t h2,ya,amM];simp only[amP,decide_eq_true_eq]at ya;obtain⟨b1,b2,_⟩:=ya;obtain⟨f1,f2,f3,f4,f5,f6⟩:=Th b1 b2;unfold Ch Bw zU;rw[fJ,amM,amM,oe,anv b1,anv b2];simp only[Bool.and_self,cond_true];rw[f1];simp only[cond_true,amM];rw[f3,f4];rw[oe,fJ,pC (p:=v.xN.toInt<=2^(t.bY-1).toNat-1) (q:=v.xN.toInt<2^(t.bY-1).toNat) (by omega)];cases (v.xD.toInt==1)<;>rfl
 |false=>
  simp only[cond_false];show(bif t.aL==3 then _ else _)=_;cases h3:t.aL==3 with
  |true=>
   simp only[cond_true];unfold pN;rw[oe,fJ,amM,amM];by_cases hd:v.xD.toInt=1
   ·rw[hd];simp only[anx,cond_true,amM,show decide ((1:Int)<=1)=true from rfl,show decide ((1:Int)<=2147483647)=true from rfl,Bool.and_true];rw[Bool.and_comm]
   ·rw[beq_false_of_ne hd];simp only[cond_false,amM,Bool.and_false]
  |false=>
   simp only[cond_false];unfold jO Rb;rw[oe,oe,fJ,amM,amM,K9,amM];cases yQ:decide (1<=v.xD.toInt)with
   |false=>cases decide (v.xN.toInt<=2147483647)<;>cases decide (-2147483647<=v.xN.toInt)<;>rfl
   |true=>
    cases qj:decide (v.xD.toInt<=2147483647)with
    |false=>cases decide (v.xN.toInt<=2147483647)<;>cases decide (-2147483647<=v.xN.toInt)<;>rfl
    |true=>
     have e1:=of_decide_eq_true yQ;have e2:=of_decide_eq_true qj;have hw:IntKind.u64.wrap v.xD.toInt=((v.xD.toInt.toNat:Nat):Int):=by rw[lY];omega
     simp only[cond_true,Bool.true_and];rw[hw];unfold Ck;rw[Np N N v.xN.toInt.natAbs v.xD.toInt.toNat (by omega),amM,show((((Nat.gcd v.xN.toInt.natAbs v.xD.toInt.toNat:Nat):Int))==1)=(Nat.gcd v.xN.toInt.natAbs v.xD.toInt.toNat==1)from pI _ 1,fJ,amM];cases decide (v.xN.toInt<=2147483647)<;>cases decide (-2147483647<=v.xN.toInt)<;>rfl
set_option linter.unusedSimpArgs false
set_option linter.unusedVariables false
def jW(wrap:Bool)(h n:Int):Int:=bif wrap then(n+h)%(2*h)-h else max (-h) (min (h-1) n)
theorem abf(P:Int->Prop)(h:∀k:Fin 30,P (2^(k.val+1))){b:Int}(h1:2<=b)(h2:b<=31):P (2^(b-1).toNat):=by
 have:=h ⟨(b-2).toNat,by omega⟩
 rwa [show(b-2).toNat+1=(b-1).toNat by omega]at this
theorem VU{w:Bool}{h n:Int}(hp:0<h)(h1: -h<=n)(h2:n<=h-1):jW w h n=n:=by
 unfold jW;cases w
 ·simp only[cond_false];omega
 ·simp only[cond_true];rw[Int.emod_eq_of_lt (by omega) (by omega)];omega
theorem Zj{w:Bool}{h n:Int}(hp:0<h): -h<=jW w h n/\jW w h n<=h-1:=by
 unfold jW;cases w
 ·simp only[cond_false];omega
 ·simp only[cond_true];have:=Int.emod_nonneg (n+h) (show 2*h≠0 by omega);have:=Int.emod_lt_of_pos (n+h) (show 0<2*h by omega);omega
theorem SJ{h u n:Int}(hu:u*(2*h)=18446744073709551616)(hu0:0<u)(hh:0<h):
 (((n*u)%18446744073709551616+9223372036854775808)%18446744073709551616-9223372036854775808)/ u=(n+h)%(2*h)-h:=by
 have h2:u*h=9223372036854775808:=by have:u*(2*h)=2*(u*h):=by rw[Int.mul_left_comm]
                                     omega
 rw[Int.emod_add_emod,<-hu];have e:n*u+9223372036854775808=u*(n+h):=by rw[Int.mul_add,h2,Int.mul_comm]
 rw[e,Int.mul_emod_mul_of_pos _ _ hu0,<-h2,<-Int.mul_sub,Int.mul_ediv_cancel_left _ (by omega)]
theorem ajh{n d:Int}(hd:0<d):n.tdiv d=if 0<=n then n / d else-((-n)/ d):=by
 split
 ·exact Int.tdiv_eq_ediv_of_nonneg (by assumption)
 ·have:n= -(-n):=by omega
  conv=>lhs;rw[this]
  rw[Int.neg_tdiv,Int.tdiv_eq_ediv_of_nonneg (by omega)]
theorem aa6{m d:Int}(hd:0<d)(hm:0<m):(-m)/ d=if m%d=0 then-(m / d)else-(m / d)-1:=by
 have h1:=Int.mul_ediv_add_emod m d;have h2:=Int.emod_nonneg m (show d≠0 by omega);have h3:=Int.emod_lt_of_pos m hd;split
 ·rename_i h
  exact((Int.ediv_emod_unique hd).2 ⟨(by rw[Int.mul_neg];omega:(0:Int)+d*(-(m / d))= -m),by omega,by omega⟩).1
 ·exact((Int.ediv_emod_unique hd).2 ⟨(by rw[Int.mul_sub,Int.mul_neg];omega:(d-m%d)+d*(-(m / d)-1)= -m),by omega,by omega⟩).1
theorem aa5{n d:Int}(hd:0<d):(bif decide (n.tdiv d*d>n)then n.tdiv d-1 else n.tdiv d)=n / d:=by
 rw[ajh hd];by_cases h:0<=n
 ·rw[if_pos h,anw (by have:=Int.ediv_mul_le n (show d≠0 by omega);omega)];rfl
 ·rw[if_neg h];obtain⟨m,rfl⟩:∃m,n= -m:=⟨-n,by omega⟩;rw[Int.neg_neg,aa6 hd (by omega),Int.neg_mul];have h1:=Int.mul_ediv_add_emod m d;have h2:=Int.emod_nonneg m (show d≠0 by omega);rw[Int.mul_comm]at h1;split
  ·rw[anw (by omega)];rfl
  ·rw[anv (by omega)];rfl
theorem Su{n d:Int}(hd:0<d):(bif decide (n.tmod d<0)then n.tdiv d-1 else n.tdiv d)=n / d:=by
 rw[<-aa5 hd];have h:n.tmod d=n-n.tdiv d*d:=by have:=Int.mul_tdiv_add_tmod n d;rw[Int.mul_comm]at this;omega
 rw[h]
 congr 1
 exact decide_eq_decide.2 (by omega)
def nM(a b:Int):Int:=bif decide (b<0)then(-a)/(-b)else a / b
theorem ah3{a b:Int}(hb:b≠0):(bif a.tmod b !=0&&(decide (a<0) !=decide (b<0))then a.tdiv b-1 else a.tdiv b)=nM a b:=by
 have key:∀a b:Int,0<b->(bif a.tmod b !=0&&(decide (a<0) !=false)then a.tdiv b-1 else a.tdiv b)=a / b:=λa b hb=>by
  rw[<-Su hb]
  congr 1
  have hm:0<=a->0<=a.tmod b:=λh=>Int.tmod_nonneg _ h;have mI:a<0->a.tmod b<=0:=λh=>by
   have:a= -(-a):=by omega
   rw[this,Int.neg_tmod];have:=Int.tmod_nonneg b (show 0<=-a by omega);omega
  by_cases h:a<0
  ·rw[anv h];have:=mI h;by_cases h0:a.tmod b=0
   ·rw[h0];rfl
   ·rw[anv (by omega),bne_iff_ne.2 h0];rfl
  ·rw[anw h];have:=hm (by omega);rw[anw (show ¬a.tmod b<0 by omega)];cases (a.tmod b !=0)<;>rfl
 unfold nM;by_cases h:b<0
 ·rw[anv h];simp only[cond_true];rw[<-key (-a) (-b) (by omega),Int.neg_tmod,Int.tmod_neg,Int.neg_tdiv_neg]
  congr 1
  have hz:(-(a.tmod b) !=0)=(a.tmod b !=0):=by
   by_cases h0:a.tmod b=0
   ·rw[h0];rfl
   ·rw[bne_iff_ne.2 h0,bne_iff_ne.2 (show-(a.tmod b)≠0 by omega)]
  rw[hz];by_cases h0:a=0
  ·subst h0;simp
  ·by_cases ha:a<0
   ·rw[anv ha,anw (show ¬-a<0 by omega)];rfl
   ·rw[anw ha,anv (show-a<0 by omega)];rfl
 ·rw[anw h];simp only[cond_false];exact key a b (by omega)
def y6(a b:Nat)(neg:Bool)(how:Int):Bool:=(a%b==0||how==3)||((how==1&& !neg)||(how==2&&neg))||(how==4&&(decide (2*(a%b)<b)||(2*(a%b)==b&&a / b%2==0)))
def mH(a b:Nat)(neg:Bool)(how:Int):Nat:=bif y6 a b neg how then a / b else a / b+1
def iF(n d:Int)(how:Int):Int:=
 bif n%d==0||how==1 then n / d else bif how==2 then n / d+1 else bif how==3 then(bif decide (n<0)then n / d+1 else n / d)
 else bif decide (n%d>d-n%d)||(n%d==d-n%d&&n / d%2 !=0)then n / d+1 else n / d
theorem amp{a b:Nat}(hb:0<b)(hr:a%b≠0):(-(a:Int))/(b:Int)= -((a / b:Nat):Int)-1/\(-(a:Int))%(b:Int)=(b:Int)-((a%b:Nat):Int):=by
 have h1:a%b<b:=Nat.mod_lt _ hb;have h2:(b:Int)*((a / b:Nat):Int)+((a%b:Nat):Int)=(a:Int):=by rw[<-Int.natCast_mul,<-Int.natCast_add,Nat.div_add_mod]
 refine(Int.ediv_emod_unique (by omega)).2 ⟨?_,by omega,by omega⟩;rw[Int.mul_sub,Int.mul_neg];omega
theorem aez{a b:Nat}(hb:0<b)(hr:a%b=0):(-(a:Int))/(b:Int)= -((a / b:Nat):Int)/\(-(a:Int))%(b:Int)=0:=by
 have h2:(b:Int)*((a / b:Nat):Int)+((a%b:Nat):Int)=(a:Int):=by rw[<-Int.natCast_mul,<-Int.natCast_add,Nat.div_add_mod]
 refine(Int.ediv_emod_unique (by omega)).2 ⟨?_,by omega,by omega⟩;rw[Int.mul_neg];omega
theorem akv{a b:Nat}(hb:0<b){how:Int}(h0:1<=how)(h3:how<=4):((mH a b false how:Nat):Int)=iF (a:Int) (b:Int) how:=by
 unfold mH y6 iF;have e1:(a:Int)%(b:Int)=((a%b:Nat):Int):=(Int.natCast_emod a b).symm;have e2:(a:Int)/(b:Int)=((a / b:Nat):Int):=(Int.natCast_ediv a b).symm;rw[e1,e2];have hl:=Nat.mod_lt a hb;generalize a%b=r at*;generalize a / b=q at*;rcases (by omega:how=1\/how=2\/how=3\/how=4)with rfl|rfl|rfl|rfl<;>simp only[cond_eq_ite]<;>simp<;>(repeat' split)<;>omega
theorem alq{a b:Nat}(hb:0<b)(ha:0<a){how:Int}(h0:1<=how)(h3:how<=4): -((mH a b true how:Nat):Int)=iF (-(a:Int)) (b:Int) how:=by
 unfold mH y6 iF;have hl:=Nat.mod_lt a hb;by_cases hr:a%b=0
 ·obtain⟨e1,e2⟩:=aez hb hr;rw[e1,e2,hr];rfl
 ·obtain⟨e1,e2⟩:=amp hb hr;rw[e1,e2];generalize a%b=r at*;generalize a / b=q at*;rcases (by omega:how=1\/how=2\/how=3\/how=4)with rfl|rfl|rfl|rfl<;>simp only[cond_eq_ite]<;>simp<;>(repeat' split)<;>omega
def nr(n d how:Int):Int:=bif decide (d<0)then iF (-n) (-d) how else iF n d how
theorem CB(d how:Int):iF 0 d how=0:=by unfold iF;simp
theorem ZH{n d:Int}(hd:d≠0){how:Int}(h0:1<=how)(h3:how<=4):
 (bif decide (n<0) !=decide (d<0)then-((mH n.natAbs d.natAbs true how:Nat):Int)else((mH n.natAbs d.natAbs false how:Nat):Int))=nr n d how:=by
 have key:∀n d:Int,0<d->(bif decide (n<0)then-((mH n.natAbs d.natAbs true how:Nat):Int)else((mH n.natAbs d.natAbs false how:Nat):Int))=iF n d how:=λn d hd=>by
  by_cases h:n<0
  ·rw[anv h];simp only[cond_true];rw[alq (by omega) (by omega) h0 h3,show-((n.natAbs:Nat):Int)=n by omega,show((d.natAbs:Nat):Int)=d by omega]
  ·rw[anw h];simp only[cond_false];rw[akv (by omega) h0 h3,show((n.natAbs:Nat):Int)=n by omega,show((d.natAbs:Nat):Int)=d by omega]
 unfold nr;by_cases h:d<0
 ·rw[anv h];simp only[cond_true];by_cases hn:n=0
  ·subst hn;rw[show(decide ((0:Int)<0) !=true)=true from rfl,Int.neg_zero,CB];unfold mH y6;simp
  ·rw[<-key (-n) (-d) (by omega),Int.natAbs_neg,Int.natAbs_neg]
   congr 1
   by_cases ha:n<0
   ·rw[anv ha,anw (show ¬-n<0 by omega)];rfl
   ·rw[anw ha,anv (show-n<0 by omega)];rfl
 ·rw[anw h];simp only[cond_false];rw[<-key n d (by omega)];cases decide (n<0)<;>rfl
theorem alO{n d how B:Int}(hd:0<d)(hB:0<=B)(h1: -B<=n)(h2:n<=B): -B<=iF n d how/\iF n d how<=B+1:=by
 have h3: -B<=n / d:=by
  refine Int.le_ediv_of_mul_le hd ?_;have:B*1<=B*d:=Int.mul_le_mul_of_nonneg_left (by omega) hB;rw[Int.neg_mul];omega
 have h4:n / d<=B:=by
  have:n / d<=n\/n / d<=0:=by
   by_cases h:0<=n
   ·exact .inl (Int.ediv_le_self _ h)
   ·exact .inr (Int.le_of_lt (Int.ediv_neg_of_neg_of_pos (by omega) hd))
  omega
 unfold iF;simp only[cond_eq_ite]
 (repeat' split)<;>omega
theorem ac6{n m:Int}{d e:Nat}(hd:0<d)(he:0<e)(h1:Nat.gcd n.natAbs d=1)(h2:Nat.gcd m.natAbs e=1)(h:n*(e:Int)=m*(d:Int)):n=m/\d=e:=by
 have ha:n.natAbs*e=m.natAbs*d:=by
  have:=congrArg Int.natAbs h
  rwa [Int.natAbs_mul,Int.natAbs_mul,Int.natAbs_natCast,Int.natAbs_natCast]at this
 have Z1:d∣ e:=by
  have h3:d∣ n.natAbs*e:=by rw[ha];exact Nat.dvd_mul_left _ _
  exact Nat.Coprime.dvd_of_dvd_mul_left (show Nat.Coprime d n.natAbs by rw[Nat.coprime_comm];exact h1) h3
 have hed:e∣ d:=by
  have h3:e∣ m.natAbs*d:=by rw[<-ha];exact Nat.dvd_mul_left _ _
  exact Nat.Coprime.dvd_of_dvd_mul_left (show Nat.Coprime e m.natAbs by rw[Nat.coprime_comm];exact h2) h3
 have e1:d=e:=Nat.dvd_antisymm Z1 hed;subst e1;refine⟨?_,rfl⟩;exact Int.eq_of_mul_eq_mul_right (by omega) h
theorem VV{n d:Nat}(hd:0<d):Nat.gcd (n / Nat.gcd n d) (d / Nat.gcd n d)=1:=Nat.gcd_div_gcd_div_gcd_of_pos_right hd
def fF(t:aF):Int:=2^(t.bY-1).toNat
def fP(t:aF):Int:=2^t.bM.toNat
def fe(t:aF)(n:Int):aB:=⟨Int64.ofInt (jW (t.bK==2) (fF t) n),1⟩
def fE(n d:Int):Nat:=Nat.gcd n.natAbs d.natAbs
def mY(n d:Int):Int:=bif decide (n<0) !=decide (d<0)then-((n.natAbs / fE n d:Nat):Int)else((n.natAbs / fE n d:Nat):Int)
def eF(n d:Int):aB×Int:=
 bif d==0 then(bZ,4)else bif decide (2147483647<n.natAbs / fE n d)||decide (2147483647<d.natAbs / fE n d)then(bZ,3)
 else(⟨Int64.ofInt (mY n d),Int64.ofInt ((d.natAbs / fE n d:Nat):Int)⟩,0)
def mF(a b:Int):Int:=bif decide (a<b)then-1 else bif decide (a>b)then 1 else 0
def fD(t:aF)(a b:aB):Int:=
 bif b9 t&&(b4 t a&&b4 t b)then bif t.aL==1 then mF (a.xN.toInt*b.xD.toInt) (b.xN.toInt*a.xD.toInt)else mF a.xN.toInt b.xN.toInt else 0
def oH(op:Int)(t:aF)(a b:Int):aB×Int:=
 bif op==4 then(fe t (a+b),0)else bif op==5 then(fe t (a-b),0)else bif op==6 then(fe t (iF (a*b) (fP t) t.b5),0)
 else bif op==8 then(fe t (-a),0)else bif b==0 then(bZ,4)else(fe t (nr (a*fP t) b t.b5),0)
def kK(op a b:Int):aB×Int:=
 bif op==7&&b==0 then(bZ,4)
 else
  let n:=bif op==4 then a+b else bif op==5 then a-b else bif op==6 then a*b else bif op==7 then nM a b else-a
  bif decide (-2147483647<=n)&&decide (n<=2147483647)then(⟨Int64.ofInt n,1⟩,0)else(bZ,3)
def mC(op:Int)(a b:aB):aB×Int:=
 bif op==4 then eF (a.xN.toInt*b.xD.toInt+b.xN.toInt*a.xD.toInt) (a.xD.toInt*b.xD.toInt)
 else bif op==5 then eF (a.xN.toInt*b.xD.toInt-b.xN.toInt*a.xD.toInt) (a.xD.toInt*b.xD.toInt)
 else bif op==6 then eF (a.xN.toInt*b.xN.toInt) (a.xD.toInt*b.xD.toInt)
 else bif op==7 then eF (a.xN.toInt*b.xD.toInt) (a.xD.toInt*b.xN.toInt)
 else(⟨-a.xN,a.xD⟩,0)
def cJ(op:Int)(t:aF)(a b:aB):aB×Int:=
 bif decide (op<4)||decide (op>10)then(bZ,1)else bif !b9 t then(bZ,10)
 else bif !b4 t a||(!(op==8)&& !b4 t b)then(bZ,1)
 else bif op==9 then(bif decide (fD t a b>0)then b else a,0)else bif op==10 then(bif decide (fD t a b<0)then b else a,0)
 else bif t.aL==2 then oH op t a.xN.toInt b.xN.toInt else bif t.aL==3 then kK op a.xN.toInt b.xN.toInt else mC op a b
def n7(t:aF)(v:aB):aB:=bif t.aL==2 then(eF v.xN.toInt (fP t)).1 else v
def nx(from_ y7:aF)(v:aB):aB×Int:=
 bif !b9 from_|| !b9 y7 then(bZ,10)else bif !b4 from_ v then(bZ,1)
 else
  let x:=n7 from_ v
  bif y7.aL==3 then(⟨Int64.ofInt (x.xN.toInt / x.xD.toInt),1⟩,0)else bif y7.aL==2 then(fe y7 (iF (x.xN.toInt*fP y7) x.xD.toInt y7.b5),0)else(x,0)
def tn(t:aF):aB:=bif b9 t then⟨0,1⟩else bZ
def fM(t:aF):aB×Int:=
 bif !b9 t then(bZ,10)else
  let v:aB:=⟨Int64.ofInt (bif t.aL==2 then fP t else 1),1⟩
  bif b4 t v then(v,0)else(bZ,3)
structure uq(t:aF):Prop where
 b1:2<=t.bY
 b2:t.bY<=31
 f1:0<=t.bM
 f2:t.bM<=30
 r1:1<=t.b5
 r2:t.b5<=4
 o:t.bK=1\/t.bK=2
theorem fm{t:aF}(h:b9 t=true)(hk:t.aL=2):uq t:=by
 unfold b9 at h;rw[hk]at h;have h':(decide (2<=t.bY)&&(decide (t.bY<=31)&&(decide (0<=t.bM)&&(decide (t.bM<=30)&&(decide (1<=t.b5)&&(decide (t.b5<=4)&&(t.bK==1||t.bK==2)))))))=true:=h;simp only[amP,decide_eq_true_eq,Bool.or_eq_true,beq_iff_eq]at h';obtain⟨h1,h2,h3,h4,h5,h6,h7⟩:=h';exact⟨h1,h2,h3,h4,h5,h6,h7⟩
theorem kinds{t:aF}(h:b9 t=true):t.aL=1\/t.aL=2\/t.aL=3:=by
 unfold b9 at h;by_cases h1:t.aL=1
 ·exact .inl h1
 ·by_cases h2:t.aL=2
  ·exact .inr (.inl h2)
  ·by_cases h3:t.aL=3
   ·exact .inr (.inr h3)
   ·simp [h1,h2,h3]at h
theorem uO{t:aF}(f:uq t):2<=fF t/\fF t<=1073741824:=
 abf (λx=>2<=x/\x<=1073741824) (by decide) f.b1 f.b2
theorem Wn(P:Int->Prop)(h:∀k:Fin 31,P (2^k.val)){b:Int}(h1:0<=b)(h2:b<=30):P (2^b.toNat):=
 h ⟨b.toNat,by omega⟩
theorem xl{t:aF}(f:uq t):1<=fP t/\fP t<=1073741824:=
 Wn (λx=>1<=x/\x<=1073741824) (by decide) f.f1 f.f2
structure DR(t:aF)(v:aB):Prop where
 d:v.xD.toInt=1
 n1: -fF t<=v.xN.toInt
 n2:v.xN.toInt<=fF t-1
theorem ly{t:aF}{v:aB}(h:b4 t v=true)(hk:t.aL=2):DR t v:=by
 unfold b4 at h;rw[hk]at h;have h':(v.xD.toInt==1&&(decide (-(2^(t.bY-1).toNat)<=v.xN.toInt)&&decide (v.xN.toInt<2^(t.bY-1).toNat)))=true:=h;simp only[amP,decide_eq_true_eq,beq_iff_eq]at h';obtain⟨h1,h2,h3⟩:=h';exact⟨h1,h2,by unfold fF;omega⟩
structure gK(v:aB):Prop where
 n1: -2147483647<=v.xN.toInt
 n2:v.xN.toInt<=2147483647
 d1:1<=v.xD.toInt
 d2:v.xD.toInt<=2147483647
 g:Nat.gcd v.xN.toInt.natAbs v.xD.toInt.toNat=1
theorem gL{t:aF}{v:aB}(h:b4 t v=true)(hk:t.aL≠2):gK v:=by
 unfold b4 at h;rw[beq_false_of_ne hk]at h;simp only[cond_false,amP,decide_eq_true_eq]at h;obtain⟨h1,h2,h3,h4,h5⟩:=h;refine⟨h2,h1,h3,h4,?_⟩;cases H7:t.aL==3 with
 |true=>
  rw[H7]at h5;have h6:v.xD.toInt=1:=by simpa using h5
  rw[h6];exact Nat.gcd_one_right _
 |false=>rw[H7]at h5;simpa using h5
theorem sc{t:aF}{v:aB}(h:b4 t v=true)(hk:t.aL=3):v.xD.toInt=1:=by
 unfold b4 at h;rw[hk]at h;have h':(decide (v.xN.toInt<=2147483647)&&(decide (-2147483647<=v.xN.toInt)&&(decide (1<=v.xD.toInt)&&(decide (v.xD.toInt<=2147483647)&&(v.xD.toInt==1)))))=true:=h;simp only[amP,beq_iff_eq]at h';exact h'.2.2.2.2
theorem lz{n:Int}(h1: -9223372036854775808<=n)(h2:n<=9223372036854775807):(Int64.ofInt n).toInt=n:=Int64.toInt_ofInt_of_le (by omega) (by omega)
structure ajt(n d:Int)(v:aB):Prop where
 n1: -2147483647<=v.xN.toInt
 n2:v.xN.toInt<=2147483647
 d1:1<=v.xD.toInt
 d2:v.xD.toInt<=2147483647
 g:Nat.gcd v.xN.toInt.natAbs v.xD.toInt.toNat=1
 en:v.xN.toInt=mY n d
 ed:v.xD.toInt=((d.natAbs / fE n d:Nat):Int)
theorem Gp{n d:Int}{v:aB}(h:eF n d=(v,0)):ajt n d v:=by
 unfold eF at h;by_cases hd:d=0
 ·subst hd;cases h
 ·rw[beq_false_of_ne hd]at h;simp only[cond_false]at h;cases hc:(decide (2147483647<n.natAbs / fE n d)||decide (2147483647<d.natAbs / fE n d))with
  |true=>rw[hc]at h;cases h
  |false=>
   rw[hc]at h;cases h
   rw[anC,decide_eq_false_iff_not,decide_eq_false_iff_not]at hc;have hg:0<fE n d:=Nat.gcd_pos_of_pos_right _ (by omega);have hq:0<d.natAbs / fE n d:=Nat.div_pos (Nat.le_of_dvd (by omega) (Nat.gcd_dvd_right _ _)) hg;have hN:(mY n d).natAbs=n.natAbs / fE n d:=by
     unfold mY;cases (decide (n<0) !=decide (d<0))
     ·exact Int.natAbs_natCast _
     ·exact(Int.natAbs_neg _).trans (Int.natAbs_natCast _)
   have e1:=lz (n:=mY n d) (by omega) (by omega);have e2:=lz (n:=((d.natAbs / fE n d:Nat):Int)) (by omega) (by omega);refine⟨?_,?_,?_,?_,?_,e1,e2⟩
   ·show _<=(Int64.ofInt _).toInt;rw[e1];omega
   ·show(Int64.ofInt _).toInt<=_;rw[e1];omega
   ·show _<=(Int64.ofInt _).toInt;rw[e2];omega
   ·show(Int64.ofInt _).toInt<=_;rw[e2];omega
   ·show Nat.gcd (Int64.ofInt _).toInt.natAbs (Int64.ofInt _).toInt.toNat=1;rw[e1,e2,hN,anf];exact VV (by omega)
theorem SK{n S:Int}(h1: -1073741824<=n)(h2:n<=1073741824)(s1:1<=S)(s2:S<=1073741824):∃v,eF n S=(v,0):=by
 unfold eF;rw[beq_false_of_ne (show S≠0 by omega)];have a1:n.natAbs / fE n S<=n.natAbs:=Nat.div_le_self _ _;have a2:S.natAbs / fE n S<=S.natAbs:=Nat.div_le_self _ _;rw[anw (show ¬2147483647<n.natAbs / fE n S by omega),anw (show ¬2147483647<S.natAbs / fE n S by omega)];exact⟨_,rfl⟩
theorem yY{a b:aB}(h1:a.xN.toInt=b.xN.toInt)(h2:a.xD.toInt=b.xD.toInt):a=b:=by
 cases a;cases b
 congr 1
 ·exact Int64.toInt_inj.1 h1
 ·exact Int64.toInt_inj.1 h2
theorem YX{t:aF}{v:aB}(ht:b9 t=true)(hv:b4 t v=true):gK (n7 t v):=by
 unfold n7;rcases kinds ht with hk|hk|hk
 ·rw[hk];exact gL hv (by omega)
 ·rw[hk];have F:=fm ht hk;have A:=ly hv hk;have hH:=uO F;have hS:=xl F;obtain⟨x,hx⟩:=SK (n:=v.xN.toInt) (S:=fP t) (by have:=A.n1;omega) (by have:=A.n2;omega) hS.1 hS.2;have L:=Gp hx;show gK (eF v.xN.toInt (fP t)).1;rw[hx];exact⟨L.n1,L.n2,L.d1,L.d2,L.g⟩
 ·rw[hk];exact gL hv (by omega)
def dU(n:Int):Bool:=decide (-9223372036854775808<=n)&&decide (n<=9223372036854775807)
theorem kg{n:Int}:dU n=true↔-9223372036854775808<=n/\n<=9223372036854775807:=by
 unfold dU;rw[amP,decide_eq_true_iff,decide_eq_true_iff]
theorem TZ(n:Int64):dU n.toInt=true:=by
 rw[kg];have h1:=n.le_toInt;have h2:=n.toInt_lt;omega
def same(a b:anE):Bool:=bL a==bL b
def lt(a b:anE):Bool:=Op.bytesLess (bL a) (bL b)
theorem Zs{a b:anE}(h:(bL a)=(bL b)):a=b:=by
 unfold bL at h;have:a.data=b.data:=Array.toList_inj.mp h;cases a;cases b;simp_all
theorem XL:∀(x y:anD UInt8),Op.bytesLess x y=decide (x<y)
 |[],[]=>by simp [Op.bytesLess]
 |_::_,[]=>by simp [Op.bytesLess]
 |[],_::_=>by simp [Op.bytesLess]
 |a::x,b::y=>by
  rw[Op.bytesLess,XL x y];simp only[List.cons_lt_cons_iff];by_cases h:a<b<;>by_cases h2:a=b<;>simp_all
theorem Zu{a b:anE}:lt a b=true↔(bL a)<(bL b):=by unfold lt;rw[XL];simp
theorem RA{a b c:anE}(h1:lt a b=true)(h2:lt b c=true):lt a c=true:=by
 rw[Zu]at*;exact List.lt_trans h1 h2
theorem Pj{a b:anE}(h1:lt a b=false)(h2:lt b a=false):a=b:=by
 rw[<-Bool.not_eq_true,Zu]at*;exact Zs (List.le_antisymm (List.not_lt.mp h2) (List.not_lt.mp h1))
inductive Er|arg|range
def Er.code:Er->Int
 | .arg=>1
 | .range=>3
theorem Er.ne(e:Er):(e.code !=0)=true:=by cases e<;>rfl
abbrev X(α:Type):=Except Er α
def AU{α:Type}(d:α):X α->α×Int
 | .ok v=>(v,0)
 | .error e=>(d,e.code)
def eE:anD bf->anD bf->anD (anE×Int×Int)
 |[],[]=>[]
 |a::l,[]=>(a.aO,a.cA.toInt,0)::eE l []
 |[],b::r=>(b.aO,0,b.cA.toInt)::eE [] r
 |a::l,b::r=>if lt a.aO b.aO then(a.aO,a.cA.toInt,0)::eE l (b::r)else if lt b.aO a.aO then(b.aO,0,b.cA.toInt)::eE (a::l) r else(a.aO,a.cA.toInt,b.cA.toInt)::eE l r
termination_by l r=>l.length+r.length
def Ry(k:Int)(l:anD (anE×Int×Int)):X aP:=
 if dU k&&l.all (λt=>dU (t.2.1+t.2.2))then .ok ⟨Int64.ofInt k,l.filterMap λt=>if t.2.1+t.2.2=0 then none else some ⟨t.1,Int64.ofInt (t.2.1+t.2.2)⟩⟩else .error .range
def n4(a b:aP):X aP:=if dY a&&dY b then Ry (a.xK.toInt+b.xK.toInt) (eE a.xL b.xL)else .error .arg
def kV(a:aP)(cr:Int64):X aP:=
 if dY a then(if cr.toInt=0 then .ok ⟨0,[]⟩else if dU (a.xK.toInt*cr.toInt)&&a.xL.all (λm=>dU (m.cA.toInt*cr.toInt))then .ok ⟨Int64.ofInt (a.xK.toInt*cr.toInt),a.xL.map λm=>⟨m.aO,Int64.ofInt (m.cA.toInt*cr.toInt)⟩⟩else .error .range)else .error .arg
def xU(l:anD anE):Prop:=l.Pairwise λa b=>lt a b=true
theorem pj:∀(a b:anD bf)(x:anE),x∈(eE a b).map (·.1)↔x∈a.map (·.aO)\/x∈b.map (·.aO)
 |[],[],x=>by simp [eE]
 |a::l,[],x=>by
  have:=pj l [] x;rw[eE];simp only[anc,ani,this];simp
 |[],b::r,x=>by
  have:=pj [] r x;rw[eE];simp only[anc,ani,this];simp
 |a::l,b::r,x=>by
  rw[eE];split
  ·have:=pj l (b::r) x;simp only[anc,ani,this];exact⟨by rintro(h|h|h|h)<;>simp [h],by rintro((h|h)|h|h)<;>simp [h]⟩
  ·split
   ·have:=pj (a::l) r x;simp only[anc,ani,this];exact⟨by rintro(h|(h|h)|h)<;>simp [h],by rintro((h|h)|h|h)<;>simp [h]⟩
   next h1 h2=>
    have e:=Pj (by simpa using h1) (by simpa using h2);have:=pj l r x;simp only[anc,ani,this,e];exact⟨by rintro(h|h|h)<;>simp [h],by rintro((h|h)|h|h)<;>simp [h]⟩
termination_by a b=>a.length+b.length
def lT(l:anD bf):Prop:=xU (l.map (·.aO))
theorem lT.tail{m:bf}{l:anD bf}(h:lT (m::l)):lT l:=(List.pairwise_cons.mp h).2
theorem lT.head{m:bf}{l:anD bf}(h:lT (m::l)):∀x∈l.map (·.aO),lt m.aO x=true:=(List.pairwise_cons.mp h).1
theorem yV:∀(a b:anD bf),lT a->lT b->xU ((eE a b).map (·.1))
 |[],[],_,_=>by simp [eE,xU]
 |a::l,[],ha,hb=>by
  rw[eE];refine List.pairwise_cons.mpr ⟨λx hx=> ?_,yV l [] ha.tail hb⟩;rcases (pj l [] x).mp hx with h|h
  ·exact ha.head x h
  ·simp at h
 |[],b::r,ha,hb=>by
  rw[eE];refine List.pairwise_cons.mpr ⟨λx hx=> ?_,yV [] r ha hb.tail⟩;rcases (pj [] r x).mp hx with h|h
  ·simp at h
  ·exact hb.head x h
 |a::l,b::r,ha,hb=>by
  rw[eE];split
  next h1=>
   refine List.pairwise_cons.mpr ⟨λx hx=> ?_,yV l (b::r) ha.tail hb⟩;rcases (pj l (b::r) x).mp hx with h|h
   ·exact ha.head x h
   ·simp only[anc,ani]at h;rcases h with h|h
    ·subst h;exact h1
    ·exact RA h1 (hb.head x h)
  next h1=>
   split
   next h2=>
    refine List.pairwise_cons.mpr ⟨λx hx=> ?_,yV (a::l) r ha hb.tail⟩;rcases (pj (a::l) r x).mp hx with h|h
    ·simp only[anc,ani]at h;rcases h with h|h
     ·subst h;exact h2
     ·exact RA h2 (ha.head x h)
    ·exact hb.head x h
   next h2=>
    have e:=Pj (by simpa using h1) (by simpa using h2);refine List.pairwise_cons.mpr ⟨λx hx=> ?_,yV l r ha.tail hb.tail⟩;rcases (pj l r x).mp hx with h|h
    ·exact ha.head x h
    ·show lt a.aO x=true;rw[e];exact hb.head x h
termination_by a b=>a.length+b.length
theorem V9:∀(l:anD bf)(p:anF anE),sA p l=true->lT l/\∀q,p=some q->∀x∈l.map (·.aO),lt q x=true
 |[],p,_=>⟨by simp [lT,xU],λ_ _ x hx=>by simp at hx⟩
 |m::l,p,h=>by
  rw[HO]at h;simp only[amP]at h;obtain⟨_,_,h3,h4⟩:=h;obtain⟨i1,i2⟩:=V9 l (some m.aO) h4;refine⟨List.pairwise_cons.mpr ⟨i2 _ rfl,i1⟩,λq hq x hx=> ?_⟩;subst hq;simp only[anc,ani]at hx;rcases hx with e|e
  ·subst e;exact h3
  ·exact RA h3 (i2 _ rfl x e)
theorem ah8{x:aP}(h:dY x=true):lT x.xL:=(V9 _ _ h).1
def tC(l:aP):Prop:=l.xL.length<=maxLen
structure ae4(x:aN):Prop where
 ic:tC x.aM
 at_:∀l∈x.aZ,tC l
structure FH(e:an):Prop where
 ic:tC e.aM
 idx:∀x∈e.xIdx,ae4 x
 args:e.aw.length<=maxLen
def SQ(e:an):Prop:=∀x∈dq e,FH x
def DI(l:aP):Bool:=l.xK.toInt==0&&l.xL.length==0
def wo(x:aN):Bool:=bif bL x.bI==[]then x.aZ.length==0 else DI x.aM
def OM(v:aB):Bool:=v.xN.toInt==0&&v.xD.toInt==0
def Qa(t:aF):Bool:=t.aL==0&&(t.bY==0&&(t.bM==0&&(t.b5==0&&t.bK==0)))
def jT(e:an):Bool:=decide (1<=e.aq)&&(decide (e.aq<=18)&&((e.aq==1||OM e.bg)&&((e.aq==1||(e.aq==12||Qa e.aD))&&((e.aq==2||DI e.aM)&&((e.aq==3||(bL e.aO==[]&&e.xIdx.length==0))&&e.xIdx.all wo)))))
def lU(e:an):Bool:=(!(e.aq==3)||j8 e.aO)&&e.xIdx.all λx=>bL x.bI==[]||j8 x.bI
def iY(op:Int):Int:=bif op==1||(op==2||op==3)then 0 else bif op==8||(op==12||op==18)then 1 else bif op==11 then 3 else 2
def jl(e:an):Bool:=(e.aw.length:Int)==iY e.aq&&(decide (e.xIdx.length<=6)&&e.xIdx.all λx=>decide (x.aZ.length<=6))
def bn(e:an):Bool:=decide (13<=e.aq)&&decide (e.aq<=18)
def wantsB(op:Int)(i:Nat):Bool:=(op==11&&i==0)||(op==16||(op==17||op==18))
def lF(op:Int):Nat->anD an->Bool
 |_,[]=>true
 |i,a::l=>bn a==wantsB op i&&lF op (i+1) l
def jr(e:an):Bool:=(!(e.aq==1||e.aq==12)||b9 e.aD)&&lF e.aq 0 e.aw
def mP(e:an):Bool:=(!(e.aq==1)||b4 e.aD e.bg)&&(pg e).all dY
def jj(e:an):Int:=bif jT e then bif lU e then bif jl e then bif jr e then bif mP e then 0 else 1 else 10 else 11 else 7 else 5
theorem BE(n:Nat):((n:Int)==0)=(n==0):=pI n 0
theorem acG(n:Nat):decide ((n:Int)>0)= !(n==0):=by
 by_cases h:n=0
 ·subst h;rfl
 ·rw[anv (show(n:Int)>0 by omega),beq_false_of_ne h];rfl
theorem Yd(N:Nat)(l:aP):D9 N l=some (DI l):=by
 unfold D9 DI;rw[fJ,amM,BE]
theorem aal(N:Nat)(x:aN):Ja N x=some (wo x):=by
 unfold Ja wo;rw[Yd,amM,BE,I7];cases bL x.bI==[]<;>rfl
theorem Q4{α:Type}(f:α->Bool)(l:anD α):(l.any λx=> !f x)= !l.all f:=by
 induction l with
 |nil=>rfl
 |cons x l ih=>rw[anA,anz,ih];cases f x<;>rfl
theorem Ya(N:Nat):∀(l:anD aN)(k:Nat),∃z:Int,Gt N l k=some z/\decide (z>=0)=l.any λx=> !wo x
 |[],k=>⟨-1,rfl,rfl⟩
 |x::l,k=>by
  rw[Gt,anA];unfold Ro;rw[aal,amM,amM];cases h: !wo x with
  |true=>exact⟨k,rfl,anv (by omega)⟩
  |false=>exact Ya N l (k+1)
theorem ako(N:Nat)(l:anD aN):J2 N l=some (!l.all wo):=by
 unfold J2 LJ;obtain⟨z,h1,h2⟩:=Ya N l 0;rw[h1,amM,h2,Q4]
theorem adz(v:aB):((v.xN.toInt==(0:Int64).toInt)&&((v.xD.toInt==(0:Int64).toInt)&&true))=OM v:=by rw[Bool.and_true];rfl
theorem adT(t:aF):((t.aL==0)&&((t.bY==0)&&((t.bM==0)&&((t.b5==0)&&((t.bK==0)&&true)))))=Qa t:=by rw[Bool.and_true];rfl
theorem I5(a b:Bool):(bif a then some false else some b)=some (!a&&b):=by cases a<;>rfl
theorem ab1(a b:Bool):(bif a then some b else some true)=some (!a||b):=by cases a<;>rfl
theorem akh(N:Nat)(e:an):I2 N e=some (jT e):=by
 unfold I2 jT;simp only[acG];simp only[rR,fJ,I5,ab1,amM,Od,SD,Yd,ako,adz,adT,I7];cases decide (1<=e.aq)<;>cases decide (e.aq<=18)<;>cases e.aq==1<;>cases OM e.bg<;>cases e.aq==12<;>cases Qa e.aD<;>cases e.aq==2<;>cases DI e.aM<;>cases e.aq==3<;>cases bL e.aO==[]<;>cases e.xIdx.length==0<;>cases e.xIdx.all wo<;>rfl
theorem akW(N:Nat)(hN:16<N)(x:aN):JH N x=some (!(bL x.bI==[]||j8 x.bI)):=by
 unfold JH;rw[XO N _ hN,amM,I5,amM,I7];cases bL x.bI==[]<;>rfl
theorem Uf(N:Nat)(hN:16<N):∀(l:anD aN)(k:Nat),∃z:Int,IK N l k=some z/\decide (z>=0)=l.any λx=> !(bL x.bI==[]||j8 x.bI)
 |[],k=>⟨-1,rfl,rfl⟩
 |x::l,k=>by
  rw[IK,anA,akW N hN,amM];cases h: !(bL x.bI==[]||j8 x.bI)with
  |true=>exact⟨k,rfl,anv (by omega)⟩
  |false=>exact Uf N hN l (k+1)
theorem adH(N:Nat)(hN:16<N)(e:an):I1 N e=some (lU e):=by
 unfold I1 lU OL P2;obtain⟨z,h1,h2⟩:=Uf N hN e.xIdx 0;rw[XO N _ hN,amM,h1];simp only[amM,h2,Q4,fJ,I5];cases e.aq==3<;>cases j8 e.aO<;>cases (e.xIdx.all λx=>bL x.bI==[]||j8 x.bI)<;>rfl
theorem Ur(N:Nat):∀(l:anD aN)(k:Nat),∃z:Int,HH N l k=some z/\decide (z>=0)=l.any λx=> !decide (x.aZ.length<=6)
 |[],k=>⟨-1,rfl,rfl⟩
 |x::l,k=>by
  rw[HH,anA];unfold Nx;rw[amM,show decide ((x.aZ.length:Int)>6)= !decide (x.aZ.length<=6)from zg _ 6];cases h: !decide (x.aZ.length<=6)with
  |true=>exact⟨k,rfl,anv (by omega)⟩
  |false=>exact Ur N l (k+1)
theorem adh(N:Nat)(op:Int):Kj N op=some (iY op):=by
 unfold Kj Dd Eu iY;cases op==1<;>cases op==2<;>cases op==3<;>cases op==8<;>cases op==12<;>cases op==18<;>cases op==11<;>rfl
theorem amh(N:Nat)(e:an):FN N e=some (jl e):=by
 unfold FN jl KA MM;obtain⟨z,h1,h2⟩:=Ur N e.xIdx 0;rw[adh,amM,h1,show decide ((e.xIdx.length:Int)>6)= !decide (e.xIdx.length<=6)from zg _ 6];simp only[amM,h2,Q4,rR,I5,kY];cases (e.aw.length:Int)==iY e.aq<;>cases decide (e.xIdx.length<=6)<;>cases (e.xIdx.all λx=>decide (x.aZ.length<=6))<;>rfl
theorem Rx(N:Nat)(e:an):yt N e=some (bn e):=by
 unfold yt bn;rw[fJ,amM]
theorem ace(N:Nat)(op:Int)(i:Nat):H3 N op (i:Int)=some (wantsB op i):=by
 unfold H3 Cy wantsB;rw[BE];cases op==16<;>cases op==17<;>cases op==18<;>cases op==11<;>cases i==0<;>rfl
theorem Wk(N:Nat)(e:an):∀(l:anD an)(i:Nat),FL N e l i=some (lF e.aq i l)
 |[],_=>rfl
 |a::l,i=>by
  rw[FL,lF,Rx,amM,ace,amM,Wk N e l (i+1)];cases bn a==wantsB e.aq i<;>rfl
theorem aeK(b:Bool):((bif b then(0:Int)else 10) !=0)= !b:=by cases b<;>rfl
theorem ag0(N:Nat)(e:an):G5 N e=some (jr e):=by
 unfold G5 jr;rw[pE,amM,Wk];simp only[aeK];cases e.aq==1<;>cases e.aq==12<;>cases b9 e.aD<;>rfl
theorem ac1(b:Bool):((bif b then(0:Int)else 1) !=0)= !b:=by cases b<;>rfl
theorem Yn(N:Nat)(hN:16<N):∀l:anD aP,(∀x∈l,tC x)->tY N l=some (bif l.all dY then 0 else 1)
 |[],_=>rfl
 |x::l,h=>by
  rw[tY,Bd N hN x (h x amT),amM,ac1,Yn N hN l (λy hy=>h y (amW _ hy)),anz];cases dY x<;>rfl
theorem aac{e:an}(h:FH e):∀x∈pg e,tC x:=by
 intro x hx;unfold pg at hx;rcases ani.1 hx with rfl|hx
 ·exact h.ic
 ·obtain⟨y,hy,hx⟩:=List.mem_flatMap.1 hx;unfold Dc at hx;rcases ani.1 hx with rfl|hx
  ·exact(h.idx y hy).ic
  ·exact(h.idx y hy).at_ x hx
theorem acJ(N:Nat)(hN:2147483648<N)(e:an)(h:FH e):Da N e=some (jj e):=by
 unfold Da jj;rw[akh,amM];cases jT e with
 |false=>rfl
 |true=>
  simp only[cond_true];rw[adH N (by omega),amM];cases lU e with
  |false=>rfl
  |true=>
   simp only[cond_true];rw[amh,amM];cases jl e with
   |false=>rfl
   |true=>
    simp only[cond_true];rw[ag0,amM];cases ht:jr e with
    |false=>rfl
    |true=>
     simp only[cond_true];have hf:tY N (pg e)=_:=Yn N (by omega) (pg e) (aac h);unfold mP Lz;rw[amM,hf];cases h1:e.aq==1 with
     |true=>
      have rT:b9 e.aD=true:=by
       unfold jr at ht;rw[h1]at ht;simp only[Bool.true_or,Bool.not_true,Bool.false_or,amP]at ht;exact ht.1
      rw[sX N hN _ _ rT,amM];cases b4 e.aD e.bg<;>cases (pg e).all dY<;>rfl
     |false=>cases (pg e).all dY<;>rfl
theorem fW{e x:an}(h:x∈e.aw):SizeOf.sizeOf x<SizeOf.sizeOf e:=by
 have h1:=List.sizeOf_lt_of_mem h;cases e
 simp only[an.mk.sizeOf_spec]at*;omega
theorem mc{e x y:an}(h:x∈e.aw)(hy:y∈dq x):y∈dq e:=by
 have gen:∀l:anD an,x∈l->y∈me l:=by
  intro l
  induction l with
  |nil=>intro h;cases h
  |cons z l ih=>
   intro h;rw[JX];rcases ani.1 h with rfl|h
   ·exact List.mem_append_left _ hy
   ·exact List.mem_append_right _ (ih h)
 exact amW _ (gen _ h)
def qw:anD an->Int
 |[]=>0
 |x::l=>bif jj x !=0 then jj x else qw l
theorem Wv(N:Nat)(hN:2147483648<N):∀l:anD an,(∀x∈l,FH x)->xV N l=some (qw l)
 |[],_=>rfl
 |x::l,h=>by
  rw[xV,acJ N hN x (h x amT),amM,Wv N hN l (λy hy=>h y (amW _ hy)),qw];cases jj x !=0<;>rfl
def iJ:Nat->an->Nat
 |0,_=>1
 |L+1,e=>e.aw.foldl (λm a=>max m (1+iJ L a)) 1
theorem Qp{α:Type}(f:α->Nat)(b:Nat):∀(l:anD α)(m:Nat),m<=b->(∀x∈l,f x<=b)->l.foldl (λm a=>max m (f a)) m<=b
 |[],_,h,_=>h
 |x::l,_,h,hl=>Qp f b l _ (Nat.max_le.2 ⟨h,hl x amT⟩) λy hy=>hl y (amW _ hy)
theorem Zg:∀(L:Nat)(e:an),iJ L e<=L+1
 |0,_=>amY _
 |L+1,e=>Qp (λa=>1+iJ L a) (L+2) e.aw 1 (by omega) λx _=>by have:=Zg L x;show 1+iJ L x<=L+2;omega
theorem Ku{z:Int}(h1: -9223372036854775808<=z)(h2:z<9223372036854775808):aS z=z:=by
 unfold aS;rw[IntKind.wrap_i64];omega
theorem abQ(a b:Nat):(if((a:Nat):Int)>((b:Nat):Int)then((a:Nat):Int)else(b:Int))=((max b a:Nat):Int):=by
 split<;>omega
theorem XZ(N:Nat)(rec:an->Int->anF Int)(L:Nat)(hL:L<=100):∀(l:anD an)(k m:Nat),(∀x∈l,rec x ((L:Int)+1)=some ((iJ L x:Nat):Int))->Gj N rec ((L:Int)+1+1) l k (m:Int)=some ((l.foldl (λm a=>max m (1+iJ L a)) m:Nat):Int)
 |[],_,_,_=>rfl
 |x::l,k,m,h=>by
  have h1:=Zg L x;rw[Gj,Ku (by omega) (by omega),show(L:Int)+1+1-1=(L:Int)+1 by omega,h x amT,amM];rw[Ku (by omega) (by omega),show(1:Int)+((iJ L x:Nat):Int)=((1+iJ L x:Nat):Int) by omega,abQ];exact XZ N rec L hL l (k+1) _ λy hy=>h y (amW _ hy)
theorem Uw(N:Nat):∀(L d:Nat)(e:an),L<d->L<=100->qU N d e ((L:Int)+1)=some ((iJ L e:Nat):Int)
 |L,0,_,h,_=>absurd h (ang _)
 |0,d+1,e,_,_=>by rw[qU];rfl
 |L+1,d+1,e,h,hL=>by
  rw[qU,anw (by omega)];simp only[cond_false];exact XZ N (qU N d) L (by omega) e.aw 0 1 λx _=>Uw N L d x (by omega) (by omega)
theorem UC(N:Nat):∀(l:anD an)(v:Nat),v<=2000->tI N l (v:Int)=some ((min (v+l.length) 2001:Nat):Int)
 |[],v,h=>by rw[tI];congr 2;simp only[amZ];omega
 |x::l,v,h=>by
  rw[tI,Ku (by omega) (by omega)];by_cases h2:v+1>2000
  ·rw[anv (by omega)];simp only[cond_true]
   congr 1
   simp only[amQ];omega
  ·rw[anw (by omega)];simp only[cond_false];rw[show(v:Int)+1=((v+1:Nat):Int) by omega,UC N l (v+1) (by omega)]
   congr 3
   simp only[amQ];omega
theorem ak1(N:Nat)(e:an):D6 N e=some ((min (dq e).length 2001:Nat):Int):=by
 unfold D6 Jd;have:=UC N (dq e) 0 (by omega);rw[am7]at this;exact this
def hJ(e:an):Int:=bif decide (40<iJ 40 e)then 13 else bif decide (2000<(dq e).length)then 2 else qw (dq e)
theorem Zk(N:Nat)(hN:2147483648<N)(e:an)(h:SQ e):zR N e=some (hJ e):=by
 unfold zR NO O2 hJ;have hd:qU N N e 41=_:=Uw N 40 N e (by omega) (by omega);rw[hd,amM,amM,ak1,amM];rw[pC (p:=((iJ 40 e:Nat):Int)>40) (q:=40<iJ 40 e) (by omega),pC (p:=((min (dq e).length 2001:Nat):Int)>2000) (q:=2000<(dq e).length) (by omega)];cases decide (40<iJ 40 e)<;>cases decide (2000<(dq e).length)<;>try rfl
 simp only[cond_false];exact Wv N hN (dq e) h
section
variable {m:anD (anE×Int)} {S T:anD anE}
theorem WD{a:Int}(h:(a !=0)=false):a=0:=by
 rw[bne_eq_false_iff_eq]at h;exact h
theorem Wf{n:Nat}(h:n<=9223372036854775807):aS (n:Int)=(n:Int):=Ku (by omega) (by omega)
end
def tk(B:Nat)(l:aP):Prop:=l.xL.length<=B
theorem tk.ok{l:aP}(h:tk 1000000000 l):tC l:=am5 h (by decide)
theorem xo{n k:Nat}(h:n<=k):Nat.ble n k=true:=Nat.ble_eq_true_of_le h
theorem acT{α:Type}{l:anD α}{i:Nat}{d:α}(h:l[i]?=some d):d∈l:=am0 h
set_option maxRecDepth 100000
theorem sU(n:Int):(Int64.ofInt n).toInt=IntKind.i64.wrap n:=by
 have h:=iZ n;unfold au aT aS at h;injection h with h;injection h with h;injection h with _ h;exact h.symm
theorem EW(a b:Int64):(a+b).toInt=IntKind.i64.wrap (a.toInt+b.toInt):=by
 have h:=CI a b;unfold au aT aS at h;injection h with h;injection h with h;injection h with _ h;exact h.symm
theorem MX(a b:Int64):(a*b).toInt=IntKind.i64.wrap (a.toInt*b.toInt):=by
 have h:=mh a b;unfold au aT aS at h;injection h with h;injection h with h;injection h with _ h;exact h.symm
theorem ag1(a b:Int64):(a-b).toInt=IntKind.i64.wrap (a.toInt-b.toInt):=by
 have h:=wy a b;unfold au aT aS at h;injection h with h;injection h with h;injection h with _ h;exact h.symm
theorem l7(a:Int64): -9223372036854775808<=a.toInt/\a.toInt<=9223372036854775807:=kg.1 (TZ a)
theorem AW{a b:Int64}(h:a.toInt=b.toInt):a=b:=Int64.toInt_inj.1 h
theorem WX(a b:Int64):Int64.ofInt (a.toInt+b.toInt)=a+b:=AW (by rw[sU,EW])
theorem Pb(a b:Int64):Int64.ofInt (a.toInt*b.toInt)=a*b:=AW (by rw[sU,MX])
theorem K4(x:Int)(h:0<=x/\x<18446744073709551616):IntKind.u64.wrap ((BitVec.ofInt IntKind.u64.bits x&&&BitVec.ofInt IntKind.u64.bits 4294967295).toNat:Int)=x%4294967296:=by
 obtain⟨n,rfl⟩:=Int.eq_ofNat_of_zero_le h.1;have e:(BitVec.ofInt IntKind.u64.bits (n:Int)&&&BitVec.ofInt IntKind.u64.bits 4294967295).toNat=n%4294967296:=by
  show(BitVec.ofInt 64 (n:Int)&&&BitVec.ofInt 64 4294967295).toNat=_;rw[BitVec.toNat_and];have h1:(BitVec.ofInt 64 (n:Int)).toNat=n:=by
   rw[BitVec.toNat_ofInt];omega
  have h2:(BitVec.ofInt 64 (4294967295:Int)).toNat=2^32-1:=by decide
  rw[h1,h2,Nat.and_two_pow_sub_one_eq_mod]
 rw[e,IntKind.wrap_u64];omega
theorem ahe(x:Int):x.fdiv (2^min (32:Int).toNat IntKind.u64.bits)=x / 4294967296:=by
 show x.fdiv 4294967296=_;rw[Int.fdiv_eq_ediv_of_nonneg _ (by omega)]
theorem ajQ(a b:Int)(ha:0<=a/\a<18446744073709551616)(hb:0<=b/\b<18446744073709551616):
 let ah:=a / 4294967296
 let al:=a%4294967296
 let bh:=b / 4294967296
 let bl:=b%4294967296
 let W:=IntKind.u64.wrap
 let low:=W (al*bl)
 let vQ:=W (W (ah*bl)+low / 4294967296)
 let JA:=W (W (al*bh)+vQ%4294967296)
 W (W (W (ah*bh)+vQ / 4294967296)+JA / 4294967296)=a*b / 18446744073709551616:=by
 intro ah al bh bl W low vQ JA;have h1:0<=ah/\ah<=4294967295:=by omega
 have h2:0<=al/\al<=4294967295:=by omega
 have h3:0<=bh/\bh<=4294967295:=by omega
 have h4:0<=bl/\bl<=4294967295:=by omega
 have pb:∀{x y:Int},(0<=x/\x<=4294967295)->(0<=y/\y<=4294967295)->0<=x*y/\x*y<=18446744065119617025:=λhx hy=>
  ⟨Int.mul_nonneg hx.1 hy.1,Int.le_trans (Int.mul_le_mul hx.2 hy.2 hy.1 (by omega)) (by decide)⟩
 have p1:=pb h1 h3;have p2:=pb h1 h4;have p3:=pb h2 h3;have p4:=pb h2 h4;have e:a*b=18446744073709551616*(ah*bh)+4294967296*(ah*bl)+4294967296*(al*bh)+al*bl:=by
  have ea:a=4294967296*ah+al:=by omega
  have eb:b=4294967296*bh+bl:=by omega
  have:∀x y z w:Int,(4294967296*x+y)*(4294967296*z+w)=18446744073709551616*(x*z)+4294967296*(x*w)+4294967296*(y*z)+y*w:=λx y z w=>by
   rw[Int.add_mul,Int.mul_add,Int.mul_add];rw[show 4294967296*x*(4294967296*z)=18446744073709551616*(x*z)from by
     rw[Int.mul_assoc,Int.mul_left_comm x,<-Int.mul_assoc];rfl]
   rw[Int.mul_assoc 4294967296 x w,Int.mul_left_comm y];omega
  rw[<-this,<-ea,<-eb]
 generalize hP:ah*bh=P at*;generalize hQ:ah*bl=Q at*;generalize hR:al*bh=R at*;generalize hT:al*bl=T at*;have w1:low=T:=by show IntKind.u64.wrap _=_;rw[IntKind.wrap_u64];omega
 have w2:vQ=Q+T / 4294967296:=by show IntKind.u64.wrap (IntKind.u64.wrap _+low / _)=_;rw[IntKind.wrap_u64,IntKind.wrap_u64,w1];omega
 have w3:JA=R+vQ%4294967296:=by show IntKind.u64.wrap (IntKind.u64.wrap _+vQ%_)=_;rw[IntKind.wrap_u64,IntKind.wrap_u64];omega
 show IntKind.u64.wrap (IntKind.u64.wrap (IntKind.u64.wrap P+vQ / 4294967296)+JA / 4294967296)=_;rw[IntKind.wrap_u64,IntKind.wrap_u64,IntKind.wrap_u64,e,w3,w2];omega
theorem tw(n:Int):0<=IntKind.u64.wrap n/\IntKind.u64.wrap n<18446744073709551616:=by rw[IntKind.wrap_u64];omega
theorem YQ(N:Nat)(a b:Int)(ha:0<=a/\a<18446744073709551616)(hb:0<=b/\b<18446744073709551616):DW N a b=some (a*b / 18446744073709551616,a*b%18446744073709551616):=by
 unfold DW;simp only[K4 _ ha,K4 _ hb,K4 _ (tw _),ahe];rw[ajQ a b ha hb,IntKind.wrap_u64 (a*b)]
theorem DZ(N:Nat)(a:Int64):uB N a=some (a.toInt.natAbs:Int):=by
 unfold uB;have:=l7 a;rw[IntKind.wrap_u64,IntKind.wrap_u64];by_cases h:a.toInt<0
 ·rw[anv h,cond_true];congr 1;omega
 ·rw[anw h,cond_false];congr 1;omega
theorem Uy(a b:Int):(a.natAbs:Int)*b.natAbs=if(decide (a<0)==decide (b<0))=true then a*b else-(a*b):=by
 by_cases h1:a<0<;>by_cases h2:b<0
 ·rw[show(a.natAbs:Int)= -a by omega,show(b.natAbs:Int)= -b by omega,Int.neg_mul_neg];simp [h1,h2]
 ·rw[show(a.natAbs:Int)= -a by omega,show(b.natAbs:Int)=b by omega,Int.neg_mul];simp [h1,h2]
 ·rw[show(a.natAbs:Int)=a by omega,show(b.natAbs:Int)= -b by omega,Int.mul_neg];simp [h1,h2]
 ·rw[show(a.natAbs:Int)=a by omega,show(b.natAbs:Int)=b by omega];simp [h1,h2]
def yH(a b:Int64):Int64×Bool:=bif dU (a.toInt*b.toInt)then(a*b,true)else(0,false)
theorem WZ(N:Nat)(a b:Int64):Co N a b=some (yH a b):=by
 unfold Co yH;have ha:=l7 a;have hb:=l7 b;rw[DZ,DZ,amM,amM,YQ N _ _ (by omega) (by omega),amM];dsimp only;have h0:0<=(a.toInt.natAbs:Int)*b.toInt.natAbs:=Int.mul_nonneg (by omega) (by omega);have hu:(a.toInt.natAbs:Int)*b.toInt.natAbs<=85070591730234615865843651857942052864:=
  Int.le_trans (Int.mul_le_mul (show(a.toInt.natAbs:Int)<=9223372036854775808 by omega) (show(b.toInt.natAbs:Int)<=9223372036854775808 by omega) (by omega) (by omega)) (by decide)
 have hm:=Uy a.toInt b.toInt;have hw:=Pb a b;generalize a*b=c at*;generalize (a.toInt.natAbs:Int)*b.toInt.natAbs=q at*;generalize a.toInt*b.toInt=z at*;have key:(bif (q / 18446744073709551616 !=0)then some true else(bif (decide (q%18446744073709551616>9223372036854775808))then some true else(bif (q%18446744073709551616==9223372036854775808)then some (!(!((decide (a.toInt<0))==(decide (b.toInt<0)))))else some false)))=some (!dU z):=by
  have:dU z=(q / 18446744073709551616==0&&(decide (q%18446744073709551616<=9223372036854775808)&&(!(q%18446744073709551616==9223372036854775808)|| !(decide (a.toInt<0)==decide (b.toInt<0))))):=by
   rw[Bool.eq_iff_iff,kg];cases hs:decide (a.toInt<0)==decide (b.toInt<0)with
   |true=>
    rw[hs,if_pos rfl]at hm;simp only[amP,Bool.or_eq_true,Bool.not_eq_true',beq_iff_eq,decide_eq_true_iff,beq_eq_false_iff_ne,Bool.not_true,Bool.false_eq_true,or_false];omega
   |false=>
    rw[hs,if_neg (by decide)]at hm;simp only[amP,Bool.or_eq_true,Bool.not_eq_true',beq_iff_eq,decide_eq_true_iff,beq_eq_false_iff_ne,Bool.not_false,or_true,and_true];omega
  rw[this,show(q / 18446744073709551616 !=0)= !(q / 18446744073709551616==0)from rfl,Od];cases q / 18446744073709551616==0<;>cases decide (q%18446744073709551616<=9223372036854775808)<;>cases q%18446744073709551616==9223372036854775808<;>cases decide (a.toInt<0)==decide (b.toInt<0)<;>rfl
 rw[key,amM];cases hf:dU z with
 |false=>rfl
 |true=>
  rw[kg]at hf;simp only[Bool.not_true,cond_false,cond_true];cases hs:decide (a.toInt<0)==decide (b.toInt<0)with
  |true=>
   rw[hs,if_pos rfl]at hm;rw[cond_true,<-hw,show q%18446744073709551616=z by omega]
  |false=>
   rw[hs,if_neg (by decide)]at hm;rw[cond_false,<-hw]
   congr 2
   refine AW ?_;rw[sU,sU,IntKind.wrap_i64,IntKind.wrap_i64,IntKind.wrap_u64];omega
theorem Ym(N:Nat)(a b:Int64):C2 N a b=some (a+b,dU (a.toInt+b.toInt)):=by
 unfold C2;have ha:=l7 a;have hb:=l7 b
 congr 2
 rw[EW,IntKind.wrap_i64,Bool.eq_iff_iff,kg,beq_iff_eq,decide_eq_decide];omega
theorem PO{a b:Int64}(h1: -9223372036854775808<=a.toInt+b.toInt)(h2:a.toInt+b.toInt<=9223372036854775807):(a+b).toInt=a.toInt+b.toInt:=by rw[EW,IntKind.wrap_i64];omega
theorem Bq{a b:Int64}(h1: -9223372036854775808<=a.toInt-b.toInt)(h2:a.toInt-b.toInt<=9223372036854775807):(a-b).toInt=a.toInt-b.toInt:=by rw[ag1,IntKind.wrap_i64];omega
theorem R0{a b:Int64}(h1: -9223372036854775808<=a.toInt*b.toInt)(h2:a.toInt*b.toInt<=9223372036854775807):(a*b).toInt=a.toInt*b.toInt:=by rw[MX,IntKind.wrap_i64];omega
theorem JN{a:Int64}(h1: -9223372036854775807<=a.toInt):(-a).toInt= -a.toInt:=by
 have:=Int64.toInt_lt a;rw[Int64.toInt_neg,Int.bmod_def];omega
theorem QY{a b A B:Int}(ha: -A<=a)(CV:a<=A)(hb: -B<=b)(eI:b<=B): -(A*B)<=a*b/\a*b<=A*B:=by
 have h1:a.natAbs<=A.natAbs:=by omega
 have h2:b.natAbs<=B.natAbs:=by omega
 have h3:(a*b).natAbs<=(A*B).natAbs:=by rw[Int.natAbs_mul,Int.natAbs_mul];exact Nat.mul_le_mul h1 h2
 have h4:0<=A*B:=Int.mul_nonneg (by omega) (by omega);omega
theorem abU:∀n:Fin 31,IntKind.u64.wrap (n.val:Int)=(n.val:Int)/\(Int64.ofInt ((1:Int)*2^(min n.val (IntKind.bits .i64)))).toInt=2^n.val/\min n.val (IntKind.bits .i64)=n.val:=by decide+kernel
theorem Bh{f:Int}(h1:0<=f)(h2:f<=30):IntKind.u64.wrap f=f/\(Int64.ofInt ((1:Int)*2^(min f.toNat (IntKind.bits .i64)))).toInt=2^f.toNat/\min f.toNat (IntKind.bits .i64)=f.toNat:=by
 obtain⟨n,rfl⟩:∃n:Nat,f=n:=⟨f.toNat,by omega⟩;have:=abU ⟨n,by omega⟩
 simpa using this
theorem Z3:∀n:Fin 30,(decide ((0:Int)<=(IntKind.u64.wrap (aS ((64:Int)-((n.val+2:Nat):Int))))))=true/\min ((IntKind.u64.wrap (aS ((64:Int)-((n.val+2:Nat):Int))))).toNat (IntKind.bits .u64)=62-n.val/\
 min ((IntKind.u64.wrap (aS ((64:Int)-((n.val+2:Nat):Int))))).toNat (IntKind.bits .i64)=62-n.val/\(2:Int)^(62-n.val)*(2*2^(n.val+1))=18446744073709551616/\(0:Int)<2^(62-n.val):=by decide+kernel
theorem ajH{b:Int}(h1:2<=b)(h2:b<=31):∃k:Nat,(decide ((0:Int)<=(IntKind.u64.wrap (aS ((64:Int)-b)))))=true/\min ((IntKind.u64.wrap (aS ((64:Int)-b)))).toNat (IntKind.bits .u64)=k/\
 min ((IntKind.u64.wrap (aS ((64:Int)-b)))).toNat (IntKind.bits .i64)=k/\(2:Int)^k*(2*2^(b-1).toNat)=18446744073709551616/\(0:Int)<2^k:=by
 obtain⟨n,rfl⟩:∃n:Nat,b=n:=⟨b.toNat,by omega⟩;have:=Z3 ⟨n-2,by omega⟩;simp only[show n-2+2=n by omega,show n-2+1=n-1 by omega]at this;rw[show((n:Int)-1).toNat=n-1 by omega];exact⟨_,this⟩
theorem L4(n:Int64):Int64.ofInt n.toInt=n:=AW (by rw[sU,IntKind.wrap_i64];have:=l7 n;omega)
theorem Gf{q:Int64}{z:Int}(h:q.toInt=z):q=Int64.ofInt z:=by rw[<-h,L4]
theorem Ay(N:Nat){t:aF}(F:uq t)(n:Int64):om N t n=some (fe t n.toInt):=by
 obtain⟨f1,f2,f3,f4,f5,f6⟩:=Th F.b1 F.b2;obtain⟨k,u1,u2,u3,u4,u5⟩:=ajH F.b1 F.b2;have hH:=uO F;unfold om Nq Ch Bw zU;rw[fJ,amM,amM,oe,anv F.b1,anv F.b2];simp only[Bool.and_self,cond_true];rw[f1,u1];simp only[cond_true,amM];rw[f3,f4,u2,u3]
 change _=some (⟨Int64.ofInt (jW (t.bK==2) (fF t) n.toInt),1⟩:aB)
 have qu:(-(Int64.ofInt ((1:Int)*2^(min ((IntKind.u64.wrap (aS (t.bY-(1:Int))))).toNat (IntKind.bits .i64)))))=Int64.ofInt (-fF t):=Gf f3;have yy:((Int64.ofInt ((1:Int)*2^(min ((IntKind.u64.wrap (aS (t.bY-(1:Int))))).toNat (IntKind.bits .i64))))-(1:Int64))=Int64.ofInt (fF t-1):=Gf f4;rw[qu,yy];rw[oe,fJ];have hr:(decide (-(2^(t.bY-1).toNat)<=n.toInt)&&decide (n.toInt<=2^(t.bY-1).toNat-1))=(decide (-fF t<=n.toInt)&&decide (n.toInt<=fF t-1)):=rfl;have hm:(t.bK !=1&&t.bK !=2)=false:=by rcases F.o with h|h<;>rw[h]<;>rfl
 rw[hm];simp only[amM,cond_false];rw[fJ,hr];by_cases h1: -fF t<=n.toInt
 ·by_cases h2:n.toInt<=fF t-1
  ·rw[anv h1,anv h2,VU (by omega) h1 h2,L4];rfl
  ·rw[anv h1,anw h2];simp only[Bool.and_false,cond_false];rcases F.o with ho|ho
   ·rw[ho,anw (show ¬n.toInt< -2^(t.bY-1).toNat from λh=>by have:n.toInt< -fF t:=h;omega)];simp only[anx,cond_true,amM,cond_false];rw[show((1:Int)==2)=false from rfl];unfold jW;simp only[cond_false];rw[show max (-fF t) (min (fF t-1) n.toInt)=fF t-1 by omega]
   ·rw[ho];show some (⟨Int64.ofInt (((Int64.ofInt _).toInt).fdiv (2^k)),1⟩:aB)=_;rw[sU,IntKind.wrap_i64,lY,lY,Int.fdiv_eq_ediv_of_nonneg _ (by omega),Int.mul_emod,Int.emod_emod,<-Int.mul_emod,SJ u4 u5 (by unfold fF at hH;omega)];rfl
 ·rw[anw h1];simp only[Bool.false_and,cond_false];rcases F.o with ho|ho
  ·have aJ:n.toInt< -fF t:=by omega
   rw[ho,anv (show n.toInt< -2^(t.bY-1).toNat from aJ)];simp only[anx,cond_true,amM];rw[show((1:Int)==2)=false from rfl];unfold jW;simp only[cond_false];rw[show max (-fF t) (min (fF t-1) n.toInt)= -fF t by omega];rfl
  ·rw[ho];show some (⟨Int64.ofInt (((Int64.ofInt _).toInt).fdiv (2^k)),1⟩:aB)=_;rw[sU,IntKind.wrap_i64,lY,lY,Int.fdiv_eq_ediv_of_nonneg _ (by omega),Int.mul_emod,Int.emod_emod,<-Int.mul_emod,SJ u4 u5 (by unfold fF at hH;omega)];rfl
theorem Ux(N:Nat)(hN:2147483648<N){t:aF}(v:aB)(ht:b9 t=true)(hk:t.aL=2):s9 N t v=some (b4 t v):=by
 have h:=sX N hN t v ht;unfold ox at h;rw[pE,ht,amM,hk]at h;have h':Option.bind (s9 N t v) (λx=>some x)=some (b4 t v):=h;cases hx:s9 N t v with
 |none=>rw[hx]at h';cases h'
 |some b=>rw[hx]at h';exact h'
def D5:aF:=⟨1,0,0,0,0⟩
theorem R8:b9 D5=true:=rfl
theorem oC(N:Nat)(hN:2147483648<N)(v:aB):jO N v=some (b4 D5 v):=by
 have h:=sX N hN D5 v R8;unfold ox at h;rw[pE,R8,amM]at h;have h':Option.bind (jO N v) (λx=>some x)=some (b4 D5 v):=h;cases hx:jO N v with
 |none=>rw[hx]at h';cases h'
 |some b=>rw[hx]at h';exact h'
theorem gK.ok{v:aB}(h:gK v):b4 D5 v=true:=by
 unfold b4;show(decide (v.xN.toInt<=2147483647)&&(decide (-2147483647<=v.xN.toInt)&&(decide (1<=v.xD.toInt)&&(decide (v.xD.toInt<=2147483647)&&(Nat.gcd v.xN.toInt.natAbs v.xD.toInt.toNat==1)))))=true;rw[anv h.n2,anv h.n1,anv h.d1,anv h.d2,h.g];rfl
theorem UA(N:Nat)(hN:2147483648<N){t:aF}(ht:b9 t=true)(hk:t.aL=2):∀(l:anD aB)(k:Nat),(∀v∈l,b4 t v=true)->Hp N t l k=some 0
 |[],_,_=>rfl
 |v::l,k,h=>by
  rw[Hp,Ux N hN v ht hk,h v amT];exact UA N hN ht hk l (k+1) λx hx=>h x (amW _ hx)
theorem YK(N:Nat){t:aF}(ht:b9 t=true)(hk:t.aL=2):uX N t=some 0:=by
 have F:=fm ht hk;have ho:(t.bK==1||t.bK==2)=true:=by rcases F.o with h|h<;>rw[h]<;>rfl
 rw[Pp N t (by rw[hk];rfl),anv F.b1,anv F.b2,anv F.f1,anv F.f2,anv F.r1,anv F.r2,ho];rfl
theorem Zd(N:Nat)(hN:2147483648<N){t:aF}(ht:b9 t=true)(hk:t.aL=2){l:anD aB}(h:∀v∈l,b4 t v=true):qN N t l=some 0:=by
 unfold qN;rw[YK N ht hk,amM];exact UA N hN ht hk l 0 h
theorem acd{a b:Nat}(hb:0<b)(ha:a<=9223372036854775808)(l4:b<=9223372036854775808)(neg:Bool)(how:Int):sG (a:Int) (b:Int) neg how=((mH a b neg how:Nat):Int):=by
 have hq:a / b<=a:=Nat.div_le_self _ _;have hr:a%b<b:=Nat.mod_lt _ hb;have e1:IntKind.u64.wrap ((a:Int).tdiv (b:Int))=((a / b:Nat):Int):=by rw[<-Int.ofNat_tdiv,lY];generalize a / b=q at*;omega
 have e2:(a:Int).tmod (b:Int)=((a%b:Nat):Int):=(Int.ofNat_tmod a b).symm;have e3:IntKind.u64.wrap (2*((a%b:Nat):Int))=((2*(a%b):Nat):Int):=by rw[lY];generalize a%b=q at*;omega
 have e4:IntKind.u64.wrap (((a / b:Nat):Int)+1)=((a / b+1:Nat):Int):=by rw[lY];generalize a / b=q at*;omega
 have e5:((a / b:Nat):Int).tmod 2=((a / b%2:Nat):Int):=(Int.ofNat_tmod (a / b) 2).symm;unfold sG gz mH y6;simp only[e1,e2,e3,e4,e5];have c1:(((a%b:Nat):Int)==0)=(a%b==0):=pI _ 0;have c2:decide (((2*(a%b):Nat):Int)<(b:Int))=decide (2*(a%b)<b):=pC (by omega);have c3:(((2*(a%b):Nat):Int)==(b:Int))=(2*(a%b)==b):=pI _ _;have c4:(((a / b%2:Nat):Int)==0)=(a / b%2==0):=pI _ 0;rw[c1,c2,c3,c4];generalize ((a%b==0||how==3)||((how==1&& !neg)||(how==2&&neg))||(how==4&&(decide (2*(a%b)<b)||(2*(a%b)==b&&a / b%2==0))))=z;cases z<;>rfl
theorem V2(N:Nat)(v:Int64):C8 N v=some ((v.toInt.natAbs:Nat):Int):=by
 unfold C8;have:=l7 v;by_cases h:v.toInt<0
 ·rw[anv h];simp only[cond_true,lY]
  congr 1
  omega
 ·rw[anw h];simp only[cond_false,lY]
  congr 1
  omega
theorem Z8{a b:Nat}(neg:Bool)(how:Int):mH a b neg how<=a+1:=by
 have hq:a / b<=a:=Nat.div_le_self _ _;unfold mH;cases y6 a b neg how
 ·simp only[cond_false];omega
 ·simp only[cond_true];omega
theorem Ky(N:Nat)(n d:Int64){how:Int}(h1:1<=how)(h4:how<=4)(b1: -4611686018427387904<=n.toInt)(b2:n.toInt<=4611686018427387904):
 Am N n d how=some (bif d.toInt==0 then(0,4)else(Int64.ofInt (nr n.toInt d.toInt how),0)):=by
 unfold Am Fu;rw[oe,fJ,anv h1,anv h4];simp only[Bool.and_self,amM,cond_true];by_cases hd:d.toInt=0
 ·rw[hd];rfl
 ·have AM:=l7 d;rw[beq_false_of_ne hd];simp only[cond_false];rw[V2,V2];unfold Oa;simp only[amM];rw[show(((d.toInt.natAbs:Nat):Int) !=0)=true by rw[bne_iff_ne];omega];simp only[cond_true,amM];rw[acd (by omega) (by omega) (by omega)];have key:=ZH (n:=n.toInt) (d:=d.toInt) hd h1 h4;have hb:=Z8 (a:=n.toInt.natAbs) (b:=d.toInt.natAbs);cases hs:(decide (n.toInt<0)==decide (d.toInt<0))with
  |true=>
   have bP:(decide (n.toInt<0) !=decide (d.toInt<0))=false:=by unfold bne;rw[hs];rfl
   rw[bP]at key;simp only[cond_false]at key;have:=hb false how;simp only[Bool.not_true,cond_true];rw[oe,anw (show ¬(9223372036854775808:Int)<=((mH n.toInt.natAbs d.toInt.natAbs false how:Nat):Int) by omega)];simp only[cond_false];rw[key]
  |false=>
   have bP:(decide (n.toInt<0) !=decide (d.toInt<0))=true:=by unfold bne;rw[hs];rfl
   rw[bP]at key;simp only[cond_true]at key;have:=hb true how;simp only[Bool.not_false,cond_false];rw[<-key]
   congr 2
   refine AW ?_;rw[sU,sU,lY,IntKind.wrap_i64,IntKind.wrap_i64];omega
theorem uf{t:aF}(F:uq t){v:aB}(V:DR t v): -1073741824<=v.xN.toInt/\v.xN.toInt<=1073741824:=by
 have:=uO F;have:=V.n1;have:=V.n2;omega
structure Fx(N:Nat)(t:aF)(a b:aB):Prop where
 hN:2147483648<N
 ht:b9 t=true
 hk:t.aL=2
 ha:b4 t a=true
 hb:b4 t b=true
theorem Fx.eQ{N:Nat}{t:aF}{a b:aB}(h:Fx N t a b):qN N t [a,b]=some 0:=Zd N h.hN h.ht h.hk λv hv=>by
 simp only[ani,anu,or_false]at hv;rcases hv with rfl|rfl
 ·exact h.ha
 ·exact h.hb
theorem adk{N:Nat}{t:aF}{a:aB}(h:Fx N t a a):Fo N t a=some (fe t (-a.xN.toInt),0):=by
 have B:=uf (fm h.ht h.hk) (ly h.ha h.hk);unfold Fo K3 LI;rw[h.eQ];show Option.bind (Option.bind (om N t (-a.xN)) (λv6=>some (v6,0))) _=_;rw[Ay N (fm h.ht h.hk),JN (by omega)];rfl
theorem afs{N:Nat}{t:aF}{a b:aB}(h:Fx N t a b):CS N t a b=some (fe t (a.xN.toInt+b.xN.toInt),0):=by
 have B:=uf (fm h.ht h.hk) (ly h.ha h.hk);have C:=uf (fm h.ht h.hk) (ly h.hb h.hk);unfold CS No NF;rw[h.eQ];show Option.bind (Option.bind (om N t (a.xN+b.xN)) (λv6=>some (v6,0))) _=_;rw[Ay N (fm h.ht h.hk),PO (by omega) (by omega)];rfl
theorem ajx{N:Nat}{t:aF}{a b:aB}(h:Fx N t a b):Cl N t a b=some (fe t (a.xN.toInt-b.xN.toInt),0):=by
 have B:=uf (fm h.ht h.hk) (ly h.ha h.hk);have C:=uf (fm h.ht h.hk) (ly h.hb h.hk);unfold Cl LF Rg;rw[h.eQ];show Option.bind (Option.bind (om N t (a.xN-b.xN)) (λv6=>some (v6,0))) _=_;rw[Ay N (fm h.ht h.hk),Bq (by omega) (by omega)];rfl
theorem J0{n d how:Int}(hd:0<d)(h1: -4611686018427387904<=n)(h2:n<=4611686018427387904):(Int64.ofInt (iF n d how)).toInt=iF n d how:=by
 have:=alO (how:=how) hd (B:=4611686018427387904) (by decide) h1 h2;exact lz (by omega) (by omega)
theorem agD{n d how:Int}(hd:d≠0)(h1: -4611686018427387904<=n)(h2:n<=4611686018427387904):(Int64.ofInt (nr n d how)).toInt=nr n d how:=by
 unfold nr;by_cases h:d<0
 ·rw[anv h];exact J0 (by omega) (by omega) (by omega)
 ·rw[anw h];exact J0 (by omega) h1 h2
theorem OC{n d how:Int}(hd:0<d):nr n d how=iF n d how:=by unfold nr;rw[anw (show ¬d<0 by omega)];rfl
theorem ak2{N:Nat}{t:aF}{a b:aB}(h:Fx N t a b):Ei N t a b=some (fe t (iF (a.xN.toInt*b.xN.toInt) (fP t) t.b5),0):=by
 have F:=fm h.ht h.hk;have B:=uf F (ly h.ha h.hk);have C:=uf F (ly h.hb h.hk);have M:=QY B.1 B.2 C.1 C.2;have S:=xl F;obtain⟨s1,s2,s3⟩:=Bh F.f1 F.f2;unfold Ei MW N8;have e:=R0 (a:=a.xN) (b:=b.xN) (by omega) (by omega);have wg:(Int64.ofInt ((1:Int)*2^(min (t.bM).toNat (IntKind.bits .i64)))).toInt=fP t:=s2;rw[h.eQ,anv F.f1,Ky N _ _ F.r1 F.r2 (by rw[e];omega) (by rw[e];omega),wg,e,beq_false_of_ne (show fP t≠0 by omega)];simp only[amM,cond_true,cond_false,bne_self_eq_false];rw[Ay N F,OC (by omega),J0 (by omega) (by omega) (by omega)];rfl
theorem Sb{n:Int64}{f:Int}(h1:0<=f)(h2:f<=30)(b1: -4294967296<=n.toInt)(b2:n.toInt<=4294967296):
 (Int64.ofInt (n.toInt*2^(min f.toNat (IntKind.bits .i64)))).toInt=n.toInt*2^f.toNat/\-4611686018427387904<=n.toInt*2^f.toNat/\n.toInt*2^f.toNat<=4611686018427387904:=by
 obtain⟨s1,s2,s3⟩:=Bh h1 h2;have S:=Wn (λx=>1<=x/\x<=1073741824) (by decide) h1 h2;have M:=QY b1 b2 (show-1073741824<=2^f.toNat by omega) S.2;rw[s3];exact⟨lz (by omega) (by omega),by omega,by omega⟩
theorem amb{N:Nat}{t:aF}{a b:aB}(h:Fx N t a b):CG N t a b=some (bif b.xN.toInt==0 then(bZ,4)else(fe t (nr (a.xN.toInt*fP t) b.xN.toInt t.b5),0)):=by
 have F:=fm h.ht h.hk;have B:=uf F (ly h.ha h.hk);obtain⟨e,e1,e2⟩:=Sb (n:=a.xN) F.f1 F.f2 (by omega) (by omega);unfold CG Rj Mf;rw[h.eQ,anv F.f1,Ky N _ _ F.r1 F.r2 (by rw[e];omega) (by rw[e];omega),e];by_cases hb:b.xN.toInt=0
 ·rw[hb];rfl
 ·rw[beq_false_of_ne hb];simp only[amM,cond_true,cond_false,bne_self_eq_false];rw[Ay N F,agD hb e1 e2];rfl
theorem D8(N:Nat)(hN:9223372036854775808<N)(n d:Int64):uc N n d=some (eF n.toInt d.toInt):=by
 unfold uc eF;have hn:=l7 n;have hdd:=l7 d;by_cases hd:d.toInt=0
 ·rw[hd];rfl
 ·rw[beq_false_of_ne hd];simp only[cond_false];rw[K9,K9];unfold Ck;simp only[amM];rw[Np N N _ _ (by omega)];simp only[amM];have hg:0<Nat.gcd n.toInt.natAbs d.toInt.natAbs:=Nat.gcd_pos_of_pos_right _ (by omega);rw[show(((Nat.gcd n.toInt.natAbs d.toInt.natAbs:Nat):Int) !=0)=true by rw[bne_iff_ne];omega]
  change _=some (bif decide (2147483647<n.toInt.natAbs / Nat.gcd n.toInt.natAbs d.toInt.natAbs)||decide (2147483647<d.toInt.natAbs / Nat.gcd n.toInt.natAbs d.toInt.natAbs)then(bZ,3)else(⟨Int64.ofInt (bif decide (n.toInt<0) !=decide (d.toInt<0)then-((n.toInt.natAbs / Nat.gcd n.toInt.natAbs d.toInt.natAbs:Nat):Int)else((n.toInt.natAbs / Nat.gcd n.toInt.natAbs d.toInt.natAbs:Nat):Int)),Int64.ofInt ((d.toInt.natAbs / Nat.gcd n.toInt.natAbs d.toInt.natAbs:Nat):Int)⟩,0))
  generalize hgg:Nat.gcd n.toInt.natAbs d.toInt.natAbs=g at*;have a1:n.toInt.natAbs / g<=n.toInt.natAbs:=Nat.div_le_self _ _;have a2:d.toInt.natAbs / g<=d.toInt.natAbs:=Nat.div_le_self _ _;have e1:IntKind.u64.wrap ((n.toInt.natAbs:Int).tdiv (g:Int))=((n.toInt.natAbs / g:Nat):Int):=by rw[<-Int.ofNat_tdiv,lY];generalize n.toInt.natAbs / g=q at*;omega
  have e2:IntKind.u64.wrap ((d.toInt.natAbs:Int).tdiv (g:Int))=((d.toInt.natAbs / g:Nat):Int):=by rw[<-Int.ofNat_tdiv,lY];generalize d.toInt.natAbs / g=q at*;omega
  simp only[cond_true];rw[e1,e2,rR,amM,pC (p:=((n.toInt.natAbs / g:Nat):Int)>2147483647) (q:=2147483647<n.toInt.natAbs / g) (by omega),pC (p:=((d.toInt.natAbs / g:Nat):Int)>2147483647) (q:=2147483647<d.toInt.natAbs / g) (by omega)];cases hc:(decide (2147483647<n.toInt.natAbs / g)||decide (2147483647<d.toInt.natAbs / g))with
  |true=>rfl
  |false=>
   rw[anC,decide_eq_false_iff_not,decide_eq_false_iff_not]at hc;unfold bne;cases (decide (n.toInt<0)==decide (d.toInt<0))with
   |true=>rfl
   |false=>
    simp only[cond_false,Bool.not_false,cond_true];clear e1 e2;generalize n.toInt.natAbs / g=p at*;generalize d.toInt.natAbs / g=q at*
    congr 3
    refine AW ?_;rw[JN (by rw[lz]<;>omega),lz (by omega) (by omega),lz (by omega) (by omega)]
theorem EJ{a b:Int}(ha: -2147483647<=a)(CV:a<=2147483647)(hb: -2147483647<=b)(eI:b<=2147483647): -4611686014132420609<=a*b/\a*b<=4611686014132420609:=by
 have:=QY ha CV hb eI;omega
theorem gK.d0{v:aB}(h:gK v): -2147483647<=v.xD.toInt:=by have:=h.d1;omega
theorem nj{a b:Int64}(h1: -2147483647<=a.toInt)(h2:a.toInt<=2147483647)(h3: -2147483647<=b.toInt)(h4:b.toInt<=2147483647):(a*b).toInt=a.toInt*b.toInt:=by
 have:=EJ h1 h2 h3 h4;exact R0 (by omega) (by omega)
theorem aiS{a b:aB}(A:gK a)(B:gK b):(a.xN*b.xD+b.xN*a.xD).toInt=a.xN.toInt*b.xD.toInt+b.xN.toInt*a.xD.toInt:=by
 have p:=EJ A.n1 A.n2 B.d0 B.d2;have q:=EJ B.n1 B.n2 A.d0 A.d2;rw[PO]<;>rw[nj A.n1 A.n2 B.d0 B.d2,nj B.n1 B.n2 A.d0 A.d2]<;>omega
theorem aeA{a b:aB}(A:gK a)(B:gK b):(a.xN*b.xD-b.xN*a.xD).toInt=a.xN.toInt*b.xD.toInt-b.xN.toInt*a.xD.toInt:=by
 have p:=EJ A.n1 A.n2 B.d0 B.d2;have q:=EJ B.n1 B.n2 A.d0 A.d2;rw[Bq]<;>rw[nj A.n1 A.n2 B.d0 B.d2,nj B.n1 B.n2 A.d0 A.d2]<;>omega
theorem ag4{N:Nat}(hN:9223372036854775808<N){a b:aB}(A:gK a)(B:gK b):DK N a b=some (eF (a.xN.toInt*b.xD.toInt+b.xN.toInt*a.xD.toInt) (a.xD.toInt*b.xD.toInt)):=by
 unfold DK;rw[oC N (by omega),oC N (by omega),A.ok,B.ok,D8 N hN,aiS A B,nj A.d0 A.d2 B.d0 B.d2];rfl
theorem amj{N:Nat}(hN:9223372036854775808<N){a b:aB}(A:gK a)(B:gK b):Bn N a b=some (eF (a.xN.toInt*b.xD.toInt-b.xN.toInt*a.xD.toInt) (a.xD.toInt*b.xD.toInt)):=by
 unfold Bn;rw[oC N (by omega),oC N (by omega),A.ok,B.ok,D8 N hN,aeA A B,nj A.d0 A.d2 B.d0 B.d2];rfl
theorem aaC{N:Nat}(hN:9223372036854775808<N){a b:aB}(A:gK a)(B:gK b):Eb N a b=some (eF (a.xN.toInt*b.xN.toInt) (a.xD.toInt*b.xD.toInt)):=by
 unfold Eb;rw[oC N (by omega),oC N (by omega),A.ok,B.ok,D8 N hN,nj A.n1 A.n2 B.n1 B.n2,nj A.d0 A.d2 B.d0 B.d2];rfl
theorem afA{N:Nat}(hN:9223372036854775808<N){a b:aB}(A:gK a)(B:gK b):Eo N a b=some (eF (a.xN.toInt*b.xD.toInt) (a.xD.toInt*b.xN.toInt)):=by
 unfold Eo;rw[oC N (by omega),oC N (by omega),A.ok,B.ok,D8 N hN,nj A.n1 A.n2 B.d0 B.d2,nj A.d0 A.d2 B.n1 B.n2];rfl
theorem af4(N:Nat)(n:Int64):pN N n=some (decide (-2147483647<=n.toInt)&&decide (n.toInt<=2147483647)):=by
 unfold pN;rw[oe,fJ];rfl
theorem Vw{a b:Int}: -(a.natAbs:Int)<=a.tdiv b/\a.tdiv b<=(a.natAbs:Int):=by
 have h:(a.tdiv b).natAbs<=a.natAbs:=by rw[Int.natAbs_tdiv];exact Nat.div_le_self _ _
 omega
theorem Td{a b:Int}(hb:b≠0): -(a.natAbs:Int)<=a.tmod b/\a.tmod b<=(a.natAbs:Int):=by
 have h:(a.tmod b).natAbs<=a.natAbs:=by rw[Int.natAbs_tmod];exact Nat.mod_le _ _
 omega
theorem ahK(N:Nat)(op:Int)(a b:Int64)(h1: -2147483647<=a.toInt)(h2:a.toInt<=2147483647)(h3: -2147483647<=b.toInt)(h4:b.toInt<=2147483647)(ho:op=4\/op=5\/op=6\/op=7):
 CX N op a b=some (kK op a.toInt b.toInt):=by
 have eA:=PO (a:=a) (b:=b) (by omega) (by omega);have eS:=Bq (a:=a) (b:=b) (by omega) (by omega);have eM:=nj h1 h2 h3 h4;have fin:∀(z:Int64)(n:Int),z.toInt=n->((pN N z).bind λv=>bif v then some ((⟨z,(1:Int64)⟩:aB),(0:Int))else some (bZ,(3:Int)))=some (bif decide (-2147483647<=n)&&decide (n<=2147483647)then(⟨Int64.ofInt n,1⟩,0)else(bZ,3)):=λz n hz=>by
  subst hz;rw[af4,amM,L4];cases (decide (-2147483647<=z.toInt)&&decide (z.toInt<=2147483647))<;>rfl
 unfold CX kK;rcases ho with rfl|rfl|rfl|rfl
 ·exact fin _ _ eA
 ·exact fin _ _ eS
 ·exact fin _ _ eM
 ·show(bif b.toInt==0 then some (bZ,(4:Int))else _)=some (bif true&&b.toInt==0 then(bZ,4)else bif decide (-2147483647<=nM a.toInt b.toInt)&&decide (nM a.toInt b.toInt<=2147483647)then(⟨Int64.ofInt (nM a.toInt b.toInt),1⟩,0)else(bZ,3));by_cases hb:b.toInt=0
  ·rw[hb];rfl
  ·have t1:=Vw (a:=a.toInt) (b:=b.toInt);have t2:=Td (a:=a.toInt) hb;have q1:(Int64.ofInt (a.toInt.tmod b.toInt)).toInt=a.toInt.tmod b.toInt:=lz (by omega) (by omega);have q2:(Int64.ofInt (a.toInt.tdiv b.toInt)).toInt=a.toInt.tdiv b.toInt:=lz (by omega) (by omega);have q3:((Int64.ofInt (a.toInt.tdiv b.toInt))-(1:Int64)).toInt=a.toInt.tdiv b.toInt-1:=by
    rw[Bq]<;>rw[q2,show(1:Int64).toInt=1 from rfl]<;>omega
   have key:=ah3 (a:=a.toInt) hb;rw[beq_false_of_ne hb,bne_iff_ne.2 hb,q1];simp only[cond_false,cond_true,Bool.and_false];rw[fJ,amM];have hx:(!(decide (a.toInt<0)==decide (b.toInt<0)))=(decide (a.toInt<0) !=decide (b.toInt<0)):=rfl;rw[hx];cases hz:(a.toInt.tmod b.toInt !=0&&(decide (a.toInt<0) !=decide (b.toInt<0)))with
   |true=>rw[hz]at key;exact fin _ _ (q3.trans key)
   |false=>rw[hz]at key;exact fin _ _ (q2.trans key)
theorem ake(N:Nat)(a b:Int64):AO N a b=some (mF a.toInt b.toInt):=by
 unfold AO mF;cases decide (a.toInt<b.toInt)
 ·cases decide (a.toInt>b.toInt)<;>rfl
 ·rfl
theorem Lo(N:Nat)(hN:2147483648<N)(t:aF)(a b:aB)(ht:b9 t=true):zy N t a b=some (fD t a b):=by
 unfold zy fD;rw[sX N hN t a ht,sX N hN t b ht,ht];cases ha:b4 t a with
 |false=>rfl
 |true=>
  cases hb:b4 t b with
  |false=>rfl
  |true=>
   simp only[amM,cond_true,Bool.not_true,cond_false,Bool.and_self];cases hk:t.aL==1 with
   |true=>
    have eW:t.aL=1:=by simpa using hk
    have A:=gL ha (by omega);have B:=gL hb (by omega);simp only[cond_true];unfold KD;rw[oC N hN,oC N hN,A.ok,B.ok,ake,nj A.n1 A.n2 B.d0 B.d2,nj B.n1 B.n2 A.d0 A.d2];rfl
   |false=>
    simp only[cond_false];unfold mF;cases decide (a.xN.toInt<b.xN.toInt)
    ·cases decide (a.xN.toInt>b.xN.toInt)<;>rfl
    ·rfl
theorem aaj(N:Nat)(hN:9223372036854775808<N){op:Int}{t:aF}{a b:aB}(ht:b9 t=true)(ha:b4 t a=true)(hb:b4 t b=true)(ho:op=4\/op=5\/op=6\/op=7):
 Ho N op t a b=some (bif t.aL==2 then oH op t a.xN.toInt b.xN.toInt else bif t.aL==3 then kK op a.xN.toInt b.xN.toInt else mC op a b):=by
 unfold Ho;rcases kinds ht with hk|hk|hk
 ·have A:=gL ha (by omega);have B:=gL hb (by omega);rw[hk];rcases ho with rfl|rfl|rfl|rfl
  ·show Option.bind (DK N a b) _=_;rw[ag4 hN A B];rfl
  ·show Option.bind (Bn N a b) _=_;rw[amj hN A B];rfl
  ·show Option.bind (Eb N a b) _=_;rw[aaC hN A B];rfl
  ·show Option.bind (Eo N a b) _=_;rw[afA hN A B];rfl
 ·have X:Fx N t a b:=⟨by omega,ht,hk,ha,hb⟩;rw[hk];rcases ho with rfl|rfl|rfl|rfl
  ·show Option.bind (CS N t a b) _=_;rw[afs X];rfl
  ·show Option.bind (Cl N t a b) _=_;rw[ajx X];rfl
  ·show Option.bind (Ei N t a b) _=_;rw[ak2 X];rfl
  ·show Option.bind (CG N t a b) _=_;rw[amb X];rfl
 ·have A:=gL ha (by omega);have B:=gL hb (by omega);rw[hk];show Option.bind (CX N op a.xN b.xN) _=_;rw[ahK N op _ _ A.n1 A.n2 B.n1 B.n2 ho];rfl
theorem ajy(N:Nat)(hN:2147483648<N){t:aF}{a:aB}(ht:b9 t=true)(ha:b4 t a=true)(b:Int):Hy N t a=some (bif t.aL==2 then oH 8 t a.xN.toInt b else bif t.aL==3 then kK 8 a.xN.toInt b else mC 8 a a):=by
 unfold Hy;rcases kinds ht with hk|hk|hk
 ·rw[hk];rfl
 ·rw[hk];show Option.bind (Fo N t a) _=_;rw[adk ⟨hN,ht,hk,ha,ha⟩];rfl
 ·have A:=gL ha (by omega);have D:=sc ha hk;have e:(-a.xN).toInt= -a.xN.toInt:=JN (by have:=A.n1;omega);rw[hk];unfold kK;rw[show((8:Int)==7&&b==0)=false from rfl,show((8:Int)==4)=false from rfl,show((8:Int)==5)=false from rfl,show((8:Int)==6)=false from rfl,show((8:Int)==7)=false from rfl,show((3:Int)==2)=false from rfl,show((3:Int)==3)=true from rfl];simp only[cond_false,cond_true];rw[anv (show-2147483647<=-a.xN.toInt by have:=A.n2;omega),anv (show-a.xN.toInt<=2147483647 by have:=A.n1;omega)];simp only[Bool.and_self,cond_true]
  congr 2
  exact yY (by rw[e];exact(lz (by have:=A.n2;omega) (by have:=A.n1;omega)).symm) D
theorem Sx(N:Nat)(hN:2147483648<N){t:aF}{a b:aB}(ht:b9 t=true)(op:Int):yB N t a b op true=some (bif op==9 then(bif decide (fD t a b>0)then b else a)else(bif decide (fD t a b<0)then b else a),0):=by
 unfold yB;rw[Lo N hN t a b ht];simp only[cond_true,amM];generalize fD t a b=c;cases h9:op==9 with
 |true=>
  by_cases hc:c>0
  ·rw[anv hc,bne_iff_ne.2 (show c≠0 by omega)];rfl
  ·rw[anw hc];rfl
 |false=>
  by_cases hc:c<0
  ·rw[anv hc,anw (show ¬c>0 by omega),bne_iff_ne.2 (show c≠0 by omega)];rfl
  ·rw[anw hc];by_cases h0:c>0
   ·rw[anv h0];rfl
   ·obtain rfl:c=0:=by omega
    rfl
theorem adA(a b c:aB):mC 8 a b=mC 8 a c:=by
 unfold mC;rw[show((8:Int)==4)=false from rfl,show((8:Int)==5)=false from rfl,show((8:Int)==6)=false from rfl,show((8:Int)==7)=false from rfl];simp only[cond_false]
theorem K7(N:Nat)(hN:9223372036854775808<N)(op:Int)(t:aF)(a b:aB):xJ N op t a b=some (cJ op t a b):=by
 have tD:2147483648<N:=Nat.lt_trans (by decide) hN;unfold xJ cJ;rw[rR,amM,pE,amM];by_cases h4:op<4
 ·rw[anv h4];rfl
 by_cases bk:op<=10
 ·rw[anw h4,anw (show ¬op>10 by omega)];simp only[Bool.or_self,cond_false];cases ht:b9 t with
  |false=>rfl
  |true=>
   simp only[cond_true,Bool.not_true,cond_false,bne_self_eq_false];rw[sX N tD t a ht,sX N tD t b ht];cases ha:b4 t a with
   |false=>rfl
   |true=>
    simp only[amM,cond_true,Bool.not_true,Bool.false_or];rw[kY,fJ,amM];by_cases h8:op=8
    ·subst h8;rw[ajy N tD ht ha b.xN.toInt,adA a a b];rfl
    ·rw[beq_false_of_ne h8];simp only[Bool.not_false,Bool.true_and,cond_false];cases hb:b4 t b with
     |false=>rfl
     |true=>
      simp only[Bool.not_true,cond_false];by_cases h9:op=9
      ·subst h9;rw[show((9:Int)==9)=true from rfl,Sx N tD ht];rfl
      ·rw[beq_false_of_ne h9];simp only[cond_false];by_cases h1:op=10
       ·subst h1;rw[show((10:Int)==10)=true from rfl,Sx N tD ht];rfl
       ·rw[beq_false_of_ne h1];unfold yB;simp only[cond_false];rw[aaj N hN ht ha hb (by omega)];rfl
 ·rw[anv (show op>10 by omega),Bool.or_true];rfl
theorem ZA(N:Nat)(hN:9223372036854775808<N){t:aF}{v:aB}(ht:b9 t=true)(hv:b4 t v=true):Jq N t v=some (n7 t v):=by
 unfold Jq n7;cases hk:t.aL==2 with
 |false=>rfl
 |true=>
  have eW:t.aL=2:=by simpa using hk
  have F:=fm ht eW;obtain⟨s1,s2,s3⟩:=Bh F.f1 F.f2;have wg:(Int64.ofInt ((1:Int)*2^(min (t.bM).toNat (IntKind.bits .i64)))).toInt=fP t:=s2;simp only[cond_true];unfold KE;rw[Zd N (by omega) ht eW (l:=[v]) (by intro x hx;simp only[ani,anu,or_false]at hx;subst hx;exact hv),anv F.f1,D8 N hN,wg];rfl
theorem afN(N:Nat)(hN:2147483648<N){v:aB}(V:gK v):Bv N v=some (Int64.ofInt (v.xN.toInt / v.xD.toInt)):=by
 unfold Bv Ko;have hd:=V.d1;have t1:=Vw (a:=v.xN.toInt) (b:=v.xD.toInt);have t2:=Td (a:=v.xN.toInt) (show v.xD.toInt≠0 by omega);have n1:=V.n1;have n2:=V.n2;rw[oC N hN,V.ok,bne_iff_ne.2 (show v.xD.toInt≠0 by omega),lz (by omega) (by omega)];simp only[amM,cond_true];have key:=Su (n:=v.xN.toInt) (d:=v.xD.toInt) (by omega);have q2:(Int64.ofInt (v.xN.toInt.tdiv v.xD.toInt)).toInt=v.xN.toInt.tdiv v.xD.toInt:=lz (by omega) (by omega);cases hz:decide (v.xN.toInt.tmod v.xD.toInt<0)with
 |true=>
  rw[hz]at key;simp only[cond_true]at key ⊢;rw[<-key]
  congr 1
  refine Gf ?_;rw[Bq]<;>rw[q2,show(1:Int64).toInt=1 from rfl]<;>omega
 |false=>
  rw[hz]at key;simp only[cond_false]at key ⊢;rw[<-key]
theorem abH(N:Nat)(hN:2147483648<N){t:aF}{v:aB}(ht:b9 t=true)(hk:t.aL=2)(V:gK v):EB N t v=some (fe t (iF (v.xN.toInt*fP t) v.xD.toInt t.b5),0):=by
 have F:=fm ht hk;obtain⟨s1,s2,s3⟩:=Bh F.f1 F.f2;have n1:=V.n1;have n2:=V.n2;have d1:=V.d1;obtain⟨e,e1,e2⟩:=Sb (n:=v.xN) F.f1 F.f2 (by omega) (by omega);unfold EB N5 Fu;rw[YK N ht hk,oC N hN,V.ok,s1,oe,fJ,anv F.r1,anv F.r2,anv F.f1,anw (show ¬t.bM<0 by have:=F.f1;omega),anw (show ¬t.bM>30 by have:=F.f2;omega)];simp only[amM,bne_self_eq_false,cond_false,cond_true,Bool.and_self,Bool.not_true];rw[Ky N _ _ F.r1 F.r2 (by rw[e];omega) (by rw[e];omega),e,beq_false_of_ne (show v.xD.toInt≠0 by omega)];simp only[amM,cond_false,bne_self_eq_false];rw[Ay N F,OC (by omega),J0 (by omega) e1 e2];rfl
theorem Xp(N:Nat)(hN:9223372036854775808<N)(t u:aF)(v:aB):AF N t u v=some (nx t u v):=by
 unfold AF nx;rw[pE,pE];cases ht:b9 t with
 |false=>rfl
 |true=>
  cases hu:b9 u with
  |false=>rfl
  |true=>
   simp only[amM,cond_true,bne_self_eq_false,cond_false,Bool.not_true,Bool.or_self];rw[sX N (by omega) t v ht];cases hv:b4 t v with
   |false=>rfl
   |true=>
    simp only[amM,cond_true,Bool.not_true,cond_false];have V:=YX ht hv;rw[ZA N hN ht hv,amM];rcases kinds hu with hk|hk|hk
    ·rw[hk];rfl
    ·rw[hk];show Option.bind (EB N u (n7 t v)) _=_;rw[abH N (by omega) hu hk V];rfl
    ·rw[hk];show Option.bind (Bv N (n7 t v)) _=_;rw[afN N (by omega) V];rfl
theorem X8(N:Nat)(t:aF):y0 N t=some (tn t):=by
 unfold y0 tn;rw[pE];cases b9 t<;>rfl
theorem Ud(N:Nat)(hN:2147483648<N)(t:aF):Ai N t=some (fM t):=by
 unfold Ai fM;rw[pE];cases ht:b9 t with
 |false=>rfl
 |true=>
  simp only[amM,cond_true,bne_self_eq_false,cond_false,Bool.not_true];cases hk:t.aL==2 with
  |false=>
   rw[kY,hk];have hv:b4 t ⟨Int64.ofInt 1,1⟩=true:=by
     unfold b4;rw[hk];cases t.aL==3<;>rfl
   simp only[Bool.not_false,cond_true,cond_false];rw[hv];rfl
  |true=>
   have eW:t.aL=2:=by simpa using hk
   have F:=fm ht eW;obtain⟨s1,s2,s3⟩:=Bh F.f1 F.f2;have s4:(Int64.ofInt ((1:Int)*2^(min (t.bM).toNat (IntKind.bits .i64))))=Int64.ofInt (fP t):=Gf s2;rw[kY,hk,anv F.f1,s4];simp only[Bool.not_true,cond_false,cond_true];rw[Ux N hN _ ht eW];cases b4 t ⟨Int64.ofInt (fP t),1⟩<;>rfl
set_option linter.unusedSectionVars false
theorem Vq{n d:Int}(hd:d≠0):mY n d*d=n*((d.natAbs / fE n d:Nat):Int):=by
 have hg:0<fE n d:=Nat.gcd_pos_of_pos_right _ (by omega);obtain⟨a,ha⟩:fE n d∣ n.natAbs:=Nat.gcd_dvd_left _ _;obtain⟨b,hb⟩:fE n d∣ d.natAbs:=Nat.gcd_dvd_right _ _;have ea:n.natAbs / fE n d=a:=Nat.div_eq_of_eq_mul_right hg ha;have eb:d.natAbs / fE n d=b:=Nat.div_eq_of_eq_mul_right hg hb;have p1:(n.natAbs:Int)=(fE n d:Int)*(a:Int):=by rw[<-Int.natCast_mul,<-ha]
 have p2:(d.natAbs:Int)=(fE n d:Int)*(b:Int):=by rw[<-Int.natCast_mul,<-hb]
 have hl:mY n d=bif decide (n<0) !=decide (d<0)then-(a:Int)else(a:Int):=by unfold mY;rw[ea]
 rw[hl,eb];generalize (fE n d:Int)=G at p1 p2;rcases Int.lt_or_le n 0 with h1|h1<;>rcases Int.lt_or_le d 0 with h2|h2
 ·rw[anv h1,anv h2];have e1:n= -(G*(a:Int)):=by omega
  have e2:d= -(G*(b:Int)):=by omega
  show(a:Int)*d=n*(b:Int);rw[e1,e2];grind
 ·rw[anv h1,anw (show ¬d<0 by omega)];have e1:n= -(G*(a:Int)):=by omega
  have e2:d=G*(b:Int):=by omega
  show-(a:Int)*d=n*(b:Int);rw[e1,e2];grind
 ·rw[anw (show ¬n<0 by omega),anv h2];have e1:n=G*(a:Int):=by omega
  have e2:d= -(G*(b:Int)):=by omega
  show-(a:Int)*d=n*(b:Int);rw[e1,e2];grind
 ·rw[anw (show ¬n<0 by omega),anw (show ¬d<0 by omega)];have e1:n=G*(a:Int):=by omega
  have e2:d=G*(b:Int):=by omega
  show(a:Int)*d=n*(b:Int);rw[e1,e2];grind
theorem aiT(n d:Int):(mY n d).natAbs=n.natAbs / fE n d:=by
 unfold mY;cases (decide (n<0) !=decide (d<0))
 ·exact Int.natAbs_natCast _
 ·exact(Int.natAbs_neg _).trans (Int.natAbs_natCast _)
theorem qo{n d:Int}{x:aB}(V:gK x)(hd:d≠0)(h:n*x.xD.toInt=x.xN.toInt*d):eF n d=(x,0):=by
 have v1:=V.n1;have v2:=V.n2;have v3:=V.d1;have v4:=V.d2;have hg:0<fE n d:=Nat.gcd_pos_of_pos_right _ (by omega);have hc:Nat.gcd (n.natAbs / fE n d) (d.natAbs / fE n d)=1:=VV (n:=n.natAbs) (d:=d.natAbs) (by omega);have pP:0<d.natAbs / fE n d:=Nat.div_pos (Nat.le_of_dvd (by omega) (Nat.gcd_dvd_right _ _)) hg;have hr:=Vq (n:=n) hd;have hla:=aiT n d;unfold eF;rw[<-hla]at hc ⊢;generalize d.natAbs / fE n d=b at hc pP hr ⊢;have hx:mY n d*x.xD.toInt=x.xN.toInt*(b:Int):=by
  refine Int.eq_of_mul_eq_mul_right hd ?_;have:mY n d*x.xD.toInt*d=(mY n d*d)*x.xD.toInt:=by grind
  rw[this,hr];have:n*(b:Int)*x.xD.toInt=(n*x.xD.toInt)*(b:Int):=by grind
  rw[this,h];grind
 obtain⟨c1,c2⟩:=ac6 (n:=mY n d) (m:=x.xN.toInt) (d:=b) (e:=x.xD.toInt.toNat) pP (by omega) hc V.g (by rw[show((x.xD.toInt.toNat:Nat):Int)=x.xD.toInt by omega];exact hx);rw[beq_false_of_ne hd,c1,c2,anw (show ¬2147483647<x.xN.toInt.natAbs by omega),anw (show ¬2147483647<x.xD.toInt.toNat by omega),show((x.xD.toInt.toNat:Nat):Int)=x.xD.toInt by omega];show((⟨Int64.ofInt x.xN.toInt,Int64.ofInt x.xD.toInt⟩:aB),(0:Int))=(x,0);rw[Int64.ofInt_toInt,Int64.ofInt_toInt]
theorem agp{n d:Int}{x:aB}(hd:d≠0)(h:eF n d=(x,0)):x.xN.toInt*d=n*x.xD.toInt:=by
 have L:=Gp h;rw[L.en,L.ed];exact Vq hd
def my(n:Int):aB×Int:=bif decide (-2147483647<=n)&&decide (n<=2147483647)then(⟨Int64.ofInt n,1⟩,0)else(bZ,3)
theorem JM(a b:Int):kK 4 a b=my (a+b):=rfl
theorem yP(a b:Int):kK 5 a b=my (a-b):=rfl
theorem AS(a b:Int):kK 6 a b=my (a*b):=rfl
theorem JK(a b:Int):kK 8 a b=my (-a):=rfl
theorem Rl(a b:Int):kK 7 a b=bif b==0 then(bZ,4)else my (nM a b):=rfl
theorem Fg{x:aB}(V:gK x)(h1:x.xD.toInt=1):my x.xN.toInt=(x,0):=by
 have v1:=V.n1;have v2:=V.n2;unfold my;rw[anv v1,anv v2];show((⟨Int64.ofInt x.xN.toInt,1⟩:aB),(0:Int))=(x,0);rw[Int64.ofInt_toInt,show x=⟨x.xN,x.xD⟩from rfl,yY (a:=⟨x.xN,1⟩) (b:=⟨x.xN,x.xD⟩) rfl (by show(1:Int64).toInt=x.xD.toInt;rw[h1];rfl)]
theorem QD{n:Int}(h:(my n).2=0): -2147483647<=n/\n<=2147483647/\(my n).1=⟨Int64.ofInt n,1⟩:=by
 unfold my at h ⊢;cases hc:(decide (-2147483647<=n)&&decide (n<=2147483647))with
 |false=>rw[hc]at h;cases h
 |true=>
  rw[amP,decide_eq_true_eq,decide_eq_true_eq]at hc;exact⟨hc.1,hc.2,rfl⟩
theorem xB{t:aF}{x:aB}(F:uq t)(V:DR t x):fe t x.xN.toInt=x:=by
 have hH:=uO F;unfold fe;rw[VU (by omega) V.n1 V.n2,Int64.ofInt_toInt];exact yY rfl (by show(1:Int64).toInt=x.xD.toInt;rw[V.d];rfl)
theorem yA{t:aF}(F:uq t)(n:Int):(fe t n).xN.toInt=jW (t.bK==2) (fF t) n:=by
 have hH:=uO F;have:=Zj (w:=t.bK==2) (h:=fF t) (n:=n) (by omega);exact lz (by omega) (by omega)
theorem Qd{t:aF}(F:uq t)(n:Int):DR t (fe t n):=by
 have hH:=uO F;have:=Zj (w:=t.bK==2) (h:=fF t) (n:=n) (by omega);exact⟨rfl,by rw[yA F];exact this.1,by rw[yA F];exact this.2⟩
theorem WN{h a b:Int}:jW true h (a+jW true h b)=jW true h (a+b):=by
 show(a+((b+h)%(2*h)-h)+h)%(2*h)-h=(a+b+h)%(2*h)-h;have e:(b+h)%(2*h)=b+h-2*h*((b+h)/(2*h)):=Int.emod_def _ _;generalize (b+h)/(2*h)=q at e;rw[e,show a+(b+h-2*h*q-h)+h=a+b+h+2*h*(-q) by grind,Int.add_mul_emod_self_left]
theorem T1{h a b:Int}:jW true h (a-jW true h b)=jW true h (a-b):=by
 show(a-((b+h)%(2*h)-h)+h)%(2*h)-h=(a-b+h)%(2*h)-h;have e:(b+h)%(2*h)=b+h-2*h*((b+h)/(2*h)):=Int.emod_def _ _;generalize (b+h)/(2*h)=q at e;rw[e,show a-(b+h-2*h*q-h)+h=a-b+h+2*h*q by grind,Int.add_mul_emod_self_left]
theorem IX{t:aF}(hk:t.aL=2){v:aB}(V:DR t v):b4 t v=true:=by
 unfold b4;have h1:=V.n1;have h2:=V.n2;unfold fF at h1 h2;rw[hk,V.d,show((2:Int)==2)=true from rfl,cond_true,anv h1,anv (by omega)];rfl
theorem Cv{t:aF}(hk:t.aL=1){v:aB}(V:gK v):b4 t v=true:=by
 unfold b4;rw[hk,show((1:Int)==2)=false from rfl,cond_false,anv V.n1,anv V.n2,anv V.d1,anv V.d2,V.g];rfl
theorem BS{t:aF}(hk:t.aL=3){n:Int}(h1: -2147483647<=n)(h2:n<=2147483647):b4 t ⟨Int64.ofInt n,1⟩=true:=by
 unfold b4;have e:=lz (n:=n) (by omega) (by omega);simp only[e];rw[hk,show((3:Int)==2)=false from rfl,cond_false,anv h1,anv h2];rfl
theorem nJ{t:aF}(ht:b9 t=true):b4 t ⟨0,1⟩=true:=by
 rcases kinds ht with hk|hk|hk
 ·exact Cv hk ⟨by decide,by decide,by decide,by decide,by decide⟩
 ·have hH:=uO (fm ht hk);exact IX hk ⟨rfl,by show-fF t<=(0:Int64).toInt;rw[show(0:Int64).toInt=0 from rfl];omega,by show(0:Int64).toInt<=fF t-1;rw[show(0:Int64).toInt=0 from rfl];omega⟩
 ·exact BS hk (n:=0) (by decide) (by decide)
theorem aeN{t:aF}{v:aB}(hk:t.aL=3)(h:b4 t v=true):gK v/\v.xD.toInt=1:=⟨gL h (by omega),sc h hk⟩
def qn(op:Int)(t:aF)(a b:aB):aB×Int:=bif t.aL==2 then oH op t a.xN.toInt b.xN.toInt else bif t.aL==3 then kK op a.xN.toInt b.xN.toInt else mC op a b
theorem iK{op:Int}{t:aF}{a b:aB}(ht:b9 t=true)(ha:b4 t a=true)(hb:b4 t b=true)(ho:op=4\/op=5\/op=6\/op=7\/op=8):cJ op t a b=qn op t a b:=by
 unfold cJ qn;simp only[ht,ha,hb,anw (show ¬op<4 by omega),anw (show ¬op>10 by omega),beq_false_of_ne (show op≠9 by omega),beq_false_of_ne (show op≠10 by omega),Bool.not_true,Bool.and_false,Bool.or_false,Bool.or_self,cond_false]
theorem kG{op:Int}{t:aF}{a b:aB}(hk:t.aL=2):qn op t a b=oH op t a.xN.toInt b.xN.toInt:=by unfold qn;rw[hk];rfl
theorem jK{op:Int}{t:aF}{a b:aB}(hk:t.aL=3):qn op t a b=kK op a.xN.toInt b.xN.toInt:=by unfold qn;rw[hk];rfl
theorem j5{op:Int}{t:aF}{a b:aB}(hk:t.aL=1):qn op t a b=mC op a b:=by unfold qn;rw[hk];rfl
theorem Qz(t:aF)(a b:Int):oH 4 t a b=(fe t (a+b),0):=rfl
theorem Eg(t:aF)(a b:Int):oH 5 t a b=(fe t (a-b),0):=rfl
theorem Hg(t:aF)(a b:Int):oH 6 t a b=(fe t (iF (a*b) (fP t) t.b5),0):=rfl
theorem Nf(t:aF)(a b:Int):oH 8 t a b=(fe t (-a),0):=rfl
theorem W3(t:aF)(a b:Int):oH 7 t a b=bif b==0 then(bZ,4)else(fe t (nr (a*fP t) b t.b5),0):=rfl
theorem Ld(a b:aB):mC 4 a b=eF (a.xN.toInt*b.xD.toInt+b.xN.toInt*a.xD.toInt) (a.xD.toInt*b.xD.toInt):=rfl
theorem Ek(a b:aB):mC 5 a b=eF (a.xN.toInt*b.xD.toInt-b.xN.toInt*a.xD.toInt) (a.xD.toInt*b.xD.toInt):=rfl
theorem HT(a b:aB):mC 6 a b=eF (a.xN.toInt*b.xN.toInt) (a.xD.toInt*b.xD.toInt):=rfl
theorem MT(a b:aB):mC 7 a b=eF (a.xN.toInt*b.xD.toInt) (a.xD.toInt*b.xN.toInt):=rfl
theorem NR(a b:aB):mC 8 a b=(⟨-a.xN,a.xD⟩,0):=rfl
theorem RK(t:aF)(a b:aB):qn 4 t a b=bif t.aL==2 then(fe t (a.xN.toInt+b.xN.toInt),0)else bif t.aL==3 then my (a.xN.toInt+b.xN.toInt)else eF (a.xN.toInt*b.xD.toInt+b.xN.toInt*a.xD.toInt) (a.xD.toInt*b.xD.toInt):=rfl
theorem aeU(t:aF)(a b:aB):qn 5 t a b=bif t.aL==2 then(fe t (a.xN.toInt-b.xN.toInt),0)else bif t.aL==3 then my (a.xN.toInt-b.xN.toInt)else eF (a.xN.toInt*b.xD.toInt-b.xN.toInt*a.xD.toInt) (a.xD.toInt*b.xD.toInt):=rfl
theorem Kg:(0:Int64).toInt=0:=rfl
theorem Lg:(1:Int64).toInt=1:=rfl
section
variable {t:aF} {a b c:aB} (ht:b9 t=true) (ha:b4 t a=true) (hb:b4 t b=true)
include ht ha
theorem MH{n d m:Int}(h1:t.aL=1->d≠0/\n*a.xD.toInt=a.xN.toInt*d)(h2:t.aL=1\/m=a.xN.toInt):(bif t.aL==2 then(fe t m,(0:Int))else bif t.aL==3 then my m else eF n d)=(a,0):=by
 rcases kinds ht with hk|hk|hk
 ·rw[hk];exact qo (gL ha (by omega)) (h1 hk).1 (h1 hk).2
 ·rw[hk];have:m=a.xN.toInt:=by omega
  subst this;show(fe t a.xN.toInt,(0:Int))=_;rw[xB (fm ht hk) (ly ha hk)]
 ·rw[hk];have:m=a.xN.toInt:=by omega
  subst this;exact Fg (gL ha (by omega)) (sc ha hk)
theorem qx(hk:t.aL=1):a.xD.toInt≠0:=by have:=(gL ha (by omega)).d1;have:=ht;omega
theorem aiu:cJ 4 t a ⟨0,1⟩=(a,0):=by
 rw[iK ht ha (nJ ht) (by simp),RK];dsimp only;rw[Kg,Lg];refine MH ht ha (λhk=>⟨?_,?_⟩) (by omega)
 ·have:=qx ht ha hk;omega
 ·grind
theorem aie:cJ 4 t ⟨0,1⟩ a=(a,0):=by
 rw[iK ht (nJ ht) ha (by simp),RK];dsimp only;rw[Kg,Lg];refine MH ht ha (λhk=>⟨?_,?_⟩) (by omega)
 ·have:=qx ht ha hk;omega
 ·grind
theorem akp:cJ 5 t a ⟨0,1⟩=(a,0):=by
 rw[iK ht ha (nJ ht) (by simp),aeU];dsimp only;rw[Kg,Lg];refine MH ht ha (λhk=>⟨?_,?_⟩) (by omega)
 ·have:=qx ht ha hk;omega
 ·grind
theorem Ma(hk:t.aL=1):gK (⟨-a.xN,a.xD⟩:aB)/\(⟨-a.xN,a.xD⟩:aB).xN.toInt= -a.xN.toInt:=by
 have A:=gL ha (by omega);have h1:=A.n1;have h2:=A.n2;have e:(-a.xN).toInt= -a.xN.toInt:=JN (by omega);refine⟨⟨by show _<=(-a.xN).toInt;omega,by show(-a.xN).toInt<=_;omega,A.d1,A.d2,?_⟩,e⟩;show Nat.gcd (-a.xN).toInt.natAbs _=1;rw[e,Int.natAbs_neg];exact A.g
theorem Hc(hk:t.aL=2):fe t 0=⟨0,1⟩:=by
 have h:=xB (fm ht hk) (ly (nJ ht) hk);dsimp only at h;rw[Kg]at h;have:=ha;exact h
theorem aic:cJ 5 t ⟨0,1⟩ a=cJ 8 t a a:=by
 rw[iK ht (nJ ht) ha (by simp),iK ht ha ha (by simp)];rcases kinds ht with hk|hk|hk
 ·rw[j5 hk,j5 hk,Ek,NR];have h:=Ma ht ha hk;refine qo h.1 ?_ ?_
  ·show 1*a.xD.toInt≠0;have:=qx ht ha hk;omega
  ·rw[h.2];show(0*a.xD.toInt-a.xN.toInt*1)*a.xD.toInt= -a.xN.toInt*(1*a.xD.toInt);grind
 ·rw[kG hk,kG hk,Eg,Nf,show(⟨0,1⟩:aB).xN.toInt-a.xN.toInt= -a.xN.toInt by show 0-_=_;omega]
 ·rw[jK hk,jK hk,yP,JK,show(⟨0,1⟩:aB).xN.toInt-a.xN.toInt= -a.xN.toInt by show 0-_=_;omega]
theorem afZ:cJ 6 t a ⟨0,1⟩=(⟨0,1⟩,0):=by
 rw[iK ht ha (nJ ht) (by simp)];rcases kinds ht with hk|hk|hk
 ·rw[j5 hk,HT];refine qo (gL (nJ ht) (by omega)) ?_ ?_
  ·show a.xD.toInt*1≠0;have:=qx ht ha hk;omega
  ·show(a.xN.toInt*0)*1=0*(a.xD.toInt*1);grind
 ·rw[kG hk,Hg,show a.xN.toInt*(⟨0,1⟩:aB).xN.toInt=0 from Int.mul_zero _,CB,Hc ht ha hk]
 ·rw[jK hk,AS,show a.xN.toInt*(⟨0,1⟩:aB).xN.toInt=0 from Int.mul_zero _];rfl
theorem ac7:cJ 6 t ⟨0,1⟩ a=(⟨0,1⟩,0):=by
 rw[iK ht (nJ ht) ha (by simp)];rcases kinds ht with hk|hk|hk
 ·rw[j5 hk,HT];refine qo (gL (nJ ht) (by omega)) ?_ ?_
  ·show 1*a.xD.toInt≠0;have:=qx ht ha hk;omega
  ·show(0*a.xN.toInt)*1=0*(1*a.xD.toInt);grind
 ·rw[kG hk,Hg,show(⟨0,1⟩:aB).xN.toInt*a.xN.toInt=0 from Int.zero_mul _,CB,Hc ht ha hk]
 ·rw[jK hk,AS,show(⟨0,1⟩:aB).xN.toInt*a.xN.toInt=0 from Int.zero_mul _];rfl
theorem ahY:cJ 5 t a a=(⟨0,1⟩,0):=by
 rw[iK ht ha ha (by simp)];rcases kinds ht with hk|hk|hk
 ·rw[j5 hk,Ek];refine qo (gL (nJ ht) (by omega)) ?_ ?_
  ·have:=(gL ha (by omega)).d1;have:=Int.mul_le_mul this this (by decide) (by omega);omega
  ·show(a.xN.toInt*a.xD.toInt-a.xN.toInt*a.xD.toInt)*1=0*_;grind
 ·rw[kG hk,Eg,Int.sub_self,Hc ht ha hk]
 ·rw[jK hk,yP,Int.sub_self];rfl
end
theorem Ji{S:Int}(hS:0<S)(a how:Int):iF (a*S) S how=a:=by
 have h1:a*S%S=0:=Int.mul_emod_left a S;have h2:a*S / S=a:=Int.mul_ediv_cancel a (by omega);unfold iF;rw[h1,h2];simp
theorem zx{t:aF}(h:(fM t).2=0):b9 t=true/\(fM t).1=⟨Int64.ofInt (bif t.aL==2 then fP t else 1),1⟩/\b4 t (fM t).1=true:=by
 unfold fM at h ⊢;cases ht:b9 t with
 |false=>rw[ht]at h;cases h
 |true=>
  rw[ht]at h;simp only[Bool.not_true,cond_false]at h ⊢;cases hv:b4 t ⟨Int64.ofInt (bif t.aL==2 then fP t else 1),1⟩with
  |false=>rw[hv]at h;cases h
  |true=>exact⟨trivial,rfl,hv⟩
section
variable {t:aF} {a:aB} (ht:b9 t=true) (ha:b4 t a=true)
include ht ha
theorem yg(h:(fM t).2=0)(hk:t.aL≠2):(fM t).1=⟨1,1⟩:=by
 rw[(zx h).2.1,beq_false_of_ne hk];rfl
theorem O0(h:(fM t).2=0)(hk:t.aL=2):(fM t).1.xN.toInt=fP t:=by
 have hS:=xl (fm ht hk);rw[(zx h).2.1,hk];exact lz (by show-9223372036854775808<=fP t;omega) (by show fP t<=9223372036854775807;omega)
theorem ach(h:(fM t).2=0):cJ 6 t a (fM t).1=(a,0):=by
 rw[iK ht ha (zx h).2.2 (by simp)];rcases kinds ht with hk|hk|hk
 ·rw[j5 hk,yg ht ha h (by omega),HT];refine qo (gL ha (by omega)) ?_ ?_
  ·show a.xD.toInt*1≠0;have:=qx ht ha hk;omega
  ·show(a.xN.toInt*1)*a.xD.toInt=a.xN.toInt*(a.xD.toInt*1);grind
 ·rw[kG hk,Hg,O0 ht ha h hk,Ji (by have:=xl (fm ht hk);omega)];exact congrArg (·,(0:Int)) (xB (fm ht hk) (ly ha hk))
 ·rw[jK hk,yg ht ha h (by omega),AS,show a.xN.toInt*(⟨1,1⟩:aB).xN.toInt=a.xN.toInt from Int.mul_one _];exact Fg (gL ha (by omega)) (sc ha hk)
theorem abP(h:(fM t).2=0):cJ 6 t (fM t).1 a=(a,0):=by
 rw[iK ht (zx h).2.2 ha (by simp)];rcases kinds ht with hk|hk|hk
 ·rw[j5 hk,yg ht ha h (by omega),HT];refine qo (gL ha (by omega)) ?_ ?_
  ·show 1*a.xD.toInt≠0;have:=qx ht ha hk;omega
  ·show(1*a.xN.toInt)*a.xD.toInt=a.xN.toInt*(1*a.xD.toInt);grind
 ·rw[kG hk,Hg,O0 ht ha h hk,Int.mul_comm,Ji (by have:=xl (fm ht hk);omega)];exact congrArg (·,(0:Int)) (xB (fm ht hk) (ly ha hk))
 ·rw[jK hk,yg ht ha h (by omega),AS,show(⟨1,1⟩:aB).xN.toInt*a.xN.toInt=a.xN.toInt from Int.one_mul _];exact Fg (gL ha (by omega)) (sc ha hk)
theorem ajr(z:Int):nM z 1=z:=by unfold nM;simp
theorem ajW(h:(fM t).2=0):cJ 7 t a (fM t).1=(a,0):=by
 rw[iK ht ha (zx h).2.2 (by simp)];rcases kinds ht with hk|hk|hk
 ·rw[j5 hk,yg ht ha h (by omega),MT];refine qo (gL ha (by omega)) ?_ ?_
  ·show a.xD.toInt*1≠0;have:=qx ht ha hk;omega
  ·show(a.xN.toInt*1)*a.xD.toInt=a.xN.toInt*(a.xD.toInt*1);grind
 ·have hS:=xl (fm ht hk);rw[kG hk,W3,O0 ht ha h hk,beq_false_of_ne (show fP t≠0 by omega),cond_false,OC (by omega),Ji (by omega)];exact congrArg (·,(0:Int)) (xB (fm ht hk) (ly ha hk))
 ·rw[jK hk,yg ht ha h (by omega),Rl,show(⟨1,1⟩:aB).xN.toInt=1 from rfl,show((1:Int)==0)=false from rfl,cond_false,ajr ht ha];exact Fg (gL ha (by omega)) (sc ha hk)
theorem ac9(h:(cJ 7 t ⟨0,1⟩ a).2=0):cJ 7 t ⟨0,1⟩ a=(⟨0,1⟩,0):=by
 rw[iK ht (nJ ht) ha (by simp)]at h ⊢;rcases kinds ht with hk|hk|hk
 ·rw[j5 hk,MT]at h ⊢;by_cases hz:a.xN.toInt=0
  ·rw[hz]at h;cases h
  ·refine qo (gL (nJ ht) (by omega)) ?_ ?_
   ·show 1*a.xN.toInt≠0;omega
   ·show(0*a.xD.toInt)*1=0*(1*a.xN.toInt);grind
 ·rw[kG hk,W3]at h ⊢;by_cases hz:a.xN.toInt=0
  ·rw[hz]at h;cases h
  ·rw[beq_false_of_ne hz,cond_false,show(⟨0,1⟩:aB).xN.toInt*fP t=0 from Int.zero_mul _,show nr 0 a.xN.toInt t.b5=0 by unfold nr;rw[Int.neg_zero,CB,CB];cases decide (a.xN.toInt<0)<;>rfl,Hc ht ha hk]
 ·rw[jK hk,Rl]at h ⊢;by_cases hz:a.xN.toInt=0
  ·rw[hz]at h;cases h
  ·rw[beq_false_of_ne hz,cond_false,show nM (⟨0,1⟩:aB).xN.toInt a.xN.toInt=0 by unfold nM;show(bif decide (a.xN.toInt<0)then(-0)/(-a.xN.toInt)else 0 / a.xN.toInt)=0;rw[Int.neg_zero,Int.zero_ediv,Int.zero_ediv];cases decide (a.xN.toInt<0)<;>rfl];rfl
theorem aaB(ry:t.aL≠2)(ho:(fM t).2=0)(h:(cJ 7 t a a).2=0):cJ 7 t a a=((fM t).1,0):=by
 rw[iK ht ha ha (by simp)]at h ⊢;rw[yg ht ha ho ry];rcases kinds ht with hk|hk|hk
 ·rw[j5 hk,MT]at h ⊢;by_cases hz:a.xN.toInt=0
  ·rw[hz,Int.mul_zero,Int.zero_mul]at h;cases h
  ·refine qo ⟨by decide,by decide,by decide,by decide,by decide⟩ ?_ ?_
   ·exact Int.mul_ne_zero (qx ht ha hk) hz
   ·show(a.xN.toInt*a.xD.toInt)*1=1*(a.xD.toInt*a.xN.toInt);grind
 ·exact absurd hk ry
 ·rw[jK hk,Rl]at h ⊢;by_cases hz:a.xN.toInt=0
  ·rw[hz]at h;cases h
  ·rw[beq_false_of_ne hz,cond_false,show nM a.xN.toInt a.xN.toInt=1 by
     unfold nM;cases hd:decide (a.xN.toInt<0)with
     |true=>exact Int.ediv_self (by omega)
     |false=>exact Int.ediv_self hz];rfl
structure aco(t:aF)(a c:aB):Prop where
 num:t.aL=1->c=⟨-a.xN,a.xD⟩/\c.xN.toInt= -a.xN.toInt
 int:t.aL=3->c.xN.toInt= -a.xN.toInt
 fix:t.aL=2->c=fe t (-a.xN.toInt)
 ok:b4 t c=true
theorem F4{c:aB}(h:cJ 8 t a a=(c,0)):aco t a c:=by
 rw[iK ht ha ha (by simp)]at h;rcases kinds ht with hk|hk|hk
 ·rw[j5 hk,NR]at h;cases h
  have:=Ma ht ha hk;exact⟨λ_=>⟨rfl,this.2⟩,λh=>by omega,λh=>by omega,Cv hk this.1⟩
 ·rw[kG hk,Nf]at h;cases h
  exact⟨λh=>by omega,λh=>by omega,λ_=>rfl,IX hk (Qd (fm ht hk) _)⟩
 ·rw[jK hk,JK]at h;obtain⟨h1,h2,h3⟩:=QD (n:= -a.xN.toInt) (by rw[h]);rw[h]at h3;have h3:c=⟨Int64.ofInt (-a.xN.toInt),1⟩:=h3;subst h3;exact⟨λh=>by omega,λ_=>lz (by omega) (by omega),λh=>by omega,BS hk h1 h2⟩
theorem adt(hw:t.aL≠2\/t.bK=2){c:aB}(h:cJ 8 t a a=(c,0)):cJ 8 t c c=(a,0):=by
 have C:=F4 ht ha h;rw[iK ht C.ok C.ok (by simp)];rcases kinds ht with hk|hk|hk
 ·rw[j5 hk,NR,(C.num hk).1];show((⟨- -a.xN,a.xD⟩:aB),(0:Int))=(a,0);rw[Int64.neg_neg]
 ·have F:=fm ht hk;have ho:(t.bK==2)=true:=by rcases hw with h|h;exact absurd hk h;rw[h];rfl
  rw[kG hk,Nf,C.fix hk,yA F,ho];refine congrArg (·,(0:Int)) ?_;rw[show-jW true (fF t) (-a.xN.toInt)=0-jW true (fF t) (-a.xN.toInt) by omega];unfold fe;rw[ho,T1,show(0:Int)- -a.xN.toInt=a.xN.toInt by omega];have:=xB F (ly ha hk);unfold fe at this;rw[ho]at this;exact this
 ·rw[jK hk,JK,C.int hk,Int.neg_neg];exact Fg (gL ha (by omega)) (sc ha hk)
theorem amo{b c:aB}(hb:b4 t b=true)(hw:t.aL≠2\/t.bK=2)(h:cJ 8 t b b=(c,0)):cJ 5 t a b=cJ 4 t a c:=by
 have C:=F4 ht hb h;rw[iK ht ha hb (by simp),iK ht ha C.ok (by simp)];rcases kinds ht with hk|hk|hk
 ·rw[j5 hk,j5 hk,Ek,Ld,(C.num hk).2,(C.num hk).1];show eF (a.xN.toInt*b.xD.toInt-b.xN.toInt*a.xD.toInt) _=eF (a.xN.toInt*b.xD.toInt+ -b.xN.toInt*a.xD.toInt) _;rw[show a.xN.toInt*b.xD.toInt+ -b.xN.toInt*a.xD.toInt=a.xN.toInt*b.xD.toInt-b.xN.toInt*a.xD.toInt by grind]
 ·have F:=fm ht hk;have ho:(t.bK==2)=true:=by rcases hw with h|h;exact absurd hk h;rw[h];rfl
  rw[kG hk,kG hk,Qz,Eg,C.fix hk,yA F,ho];unfold fe;rw[ho,WN,show a.xN.toInt+ -b.xN.toInt=a.xN.toInt-b.xN.toInt by omega]
 ·rw[jK hk,jK hk,JM,yP,C.int hk,show a.xN.toInt+ -b.xN.toInt=a.xN.toInt-b.xN.toInt by omega]
theorem amr{b c:aB}(hb:b4 t b=true)(hw:t.aL≠2\/t.bK=2)(h:cJ 8 t a a=(c,0)):cJ 5 t b a=cJ 4 t c b:=by
 have C:=F4 ht ha h;rw[iK ht hb ha (by simp),iK ht C.ok hb (by simp)];rcases kinds ht with hk|hk|hk
 ·rw[j5 hk,j5 hk,Ek,Ld,(C.num hk).2,(C.num hk).1];show eF (b.xN.toInt*a.xD.toInt-a.xN.toInt*b.xD.toInt) (b.xD.toInt*a.xD.toInt)=eF (-a.xN.toInt*b.xD.toInt+b.xN.toInt*a.xD.toInt) (a.xD.toInt*b.xD.toInt);rw[show-a.xN.toInt*b.xD.toInt+b.xN.toInt*a.xD.toInt=b.xN.toInt*a.xD.toInt-a.xN.toInt*b.xD.toInt by grind,Int.mul_comm b.xD.toInt]
 ·have F:=fm ht hk;have ho:(t.bK==2)=true:=by rcases hw with h|h;exact absurd hk h;rw[h];rfl
  rw[kG hk,kG hk,Qz,Eg,C.fix hk,yA F,ho];unfold fe;rw[ho,Int.add_comm (jW _ _ _),WN,show b.xN.toInt+ -a.xN.toInt=b.xN.toInt-a.xN.toInt by omega]
 ·rw[jK hk,jK hk,JM,yP,C.int hk,show-a.xN.toInt+b.xN.toInt=b.xN.toInt-a.xN.toInt by omega]
theorem amq{b c:aB}(hb:b4 t b=true)(hw:t.aL≠2\/t.bK=2)(h:cJ 8 t b b=(c,0)):cJ 4 t a b=cJ 5 t a c:=by
 have C:=F4 ht hb h;rw[iK ht ha hb (by simp),iK ht ha C.ok (by simp)];rcases kinds ht with hk|hk|hk
 ·rw[j5 hk,j5 hk,Ek,Ld,(C.num hk).2,(C.num hk).1];show eF (a.xN.toInt*b.xD.toInt+b.xN.toInt*a.xD.toInt) _=eF (a.xN.toInt*b.xD.toInt- -b.xN.toInt*a.xD.toInt) _;rw[show a.xN.toInt*b.xD.toInt- -b.xN.toInt*a.xD.toInt=a.xN.toInt*b.xD.toInt+b.xN.toInt*a.xD.toInt by grind]
 ·have F:=fm ht hk;have ho:(t.bK==2)=true:=by rcases hw with h|h;exact absurd hk h;rw[h];rfl
  rw[kG hk,kG hk,Qz,Eg,C.fix hk,yA F,ho];unfold fe;rw[ho,T1,show a.xN.toInt- -b.xN.toInt=a.xN.toInt+b.xN.toInt by omega]
 ·rw[jK hk,jK hk,JM,yP,C.int hk,show a.xN.toInt- -b.xN.toInt=a.xN.toInt+b.xN.toInt by omega]
end
theorem F1{t:aF}(hk:t.aL=1){n d:Int}(h:(eF n d).2=0):b4 t (eF n d).1=true:=by
 obtain⟨x,hx⟩:∃x,eF n d=(x,0):=⟨_,Prod.ext rfl h⟩;have L:=Gp hx;rw[hx];exact Cv hk ⟨L.n1,L.n2,L.d1,L.d2,L.g⟩
theorem zB{op:Int}{t:aF}{a b:aB}(h:(cJ op t a b).2=0):b9 t=true/\b4 t a=true/\b4 t (cJ op t a b).1=true:=by
 unfold cJ at h ⊢;cases h1:(decide (op<4)||decide (op>10))with
 |true=>rw[h1]at h;cases h
 |false=>
  rw[h1,cond_false]at h;rw[anC,decide_eq_false_iff_not,decide_eq_false_iff_not]at h1;cases ht:b9 t with
  |false=>rw[ht]at h;cases h
  |true=>
   rw[ht,Bool.not_true,cond_false]at h;cases ha:b4 t a with
   |false=>rw[ha]at h;cases h
   |true=>
    rw[ha,Bool.not_true,Bool.false_or]at h;cases hb:(!(op==8)&& !b4 t b)with
    |true=>rw[hb]at h;cases h
    |false=>
     rw[hb,cond_false]at h;simp only[cond_false,Bool.not_true,Bool.false_or,true_and];cases h9:(op==9)with
     |true=>
      rw[beq_iff_eq]at h9;subst h9;have eI:b4 t b=true:=by simpa using hb
      rw[cond_true];dsimp only;cases decide (fD t a b>0)
      ·exact ha
      ·exact eI
     |false=>
      rw[h9,cond_false]at h;rw[cond_false];cases bk:(op==10)with
      |true=>
       rw[beq_iff_eq]at bk;subst bk;have eI:b4 t b=true:=by simpa using hb
       rw[cond_true];dsimp only;cases decide (fD t a b<0)
       ·exact ha
       ·exact eI
      |false=>
       rw[bk,cond_false]at h;rw[cond_false];rcases kinds ht with hk|hk|hk
       ·rw[hk,show((1:Int)==2)=false from rfl,cond_false,show((1:Int)==3)=false from rfl,cond_false]at h ⊢;unfold mC at h ⊢;cases e4:(op==4)with
        |true=>rw[e4,cond_true]at h;exact F1 hk h
        |false=>
         rw[e4,cond_false]at h;rw[cond_false];cases e5:(op==5)with
         |true=>rw[e5,cond_true]at h;exact F1 hk h
         |false=>
          rw[e5,cond_false]at h;rw[cond_false];cases e6:(op==6)with
          |true=>rw[e6,cond_true]at h;exact F1 hk h
          |false=>
           rw[e6,cond_false]at h;rw[cond_false];cases e7:(op==7)with
           |true=>rw[e7,cond_true]at h;exact F1 hk h
           |false=>exact Cv hk (Ma ht ha hk).1
       ·rw[hk,show((2:Int)==2)=true from rfl,cond_true]at h ⊢;have F:=λn=>IX hk (Qd (fm ht hk) n);unfold oH at h ⊢;cases e4:(op==4)with
        |true=>exact F _
        |false=>
         cases e5:(op==5)with
         |true=>exact F _
         |false=>
          cases e6:(op==6)with
          |true=>exact F _
          |false=>
           cases e8:(op==8)with
           |true=>exact F _
           |false=>
            rw[e4,e5,e6,e8,cond_false,cond_false,cond_false,cond_false]at h;cases e0:(b.xN.toInt==0)with
            |true=>rw[e0]at h;cases h
            |false=>exact F _
       ·rw[hk,show((3:Int)==2)=false from rfl,cond_false,show((3:Int)==3)=true from rfl,cond_true]at h ⊢;unfold kK at h ⊢;cases e7:(op==7&&b.xN.toInt==0)with
        |true=>rw[e7]at h;cases h
        |false=>
         rw[e7,cond_false]at h;rw[cond_false];obtain⟨q1,q2,q3⟩:=QD h;exact(congrArg (b4 t ·) q3).trans (BS hk q1 q2)
theorem S6{s t:aF}{v:aB}(h:(nx s t v).2=0):b9 t=true/\b4 t (nx s t v).1=true:=by
 unfold nx at h ⊢;cases hs:b9 s with
 |false=>rw[hs]at h;cases h
 |true=>
  cases ht:b9 t with
  |false=>rw[hs,ht]at h;cases h
  |true=>
   rw[hs,ht,Bool.not_true,Bool.or_self,cond_false]at h;rw[Bool.not_true,Bool.or_self,cond_false];cases hv:b4 s v with
   |false=>rw[hv]at h;cases h
   |true=>
    have R:=YX hs hv;have r1:=R.n1;have r2:=R.n2;have r3:=R.d1;rw[Bool.not_true,cond_false];dsimp only;refine⟨rfl,?_⟩;rcases kinds ht with hk|hk|hk
    ·rw[hk];exact Cv hk R
    ·rw[hk];exact IX hk (Qd (fm ht hk) _)
    ·rw[hk];have q1:(n7 s v).xN.toInt /(n7 s v).xD.toInt<=2147483647:=by
       refine Int.ediv_le_of_le_mul (by omega) ?_;have:=Int.mul_le_mul_of_nonneg_left r3 (show(0:Int)<=2147483647 by decide);omega
     have q2: -2147483647<=(n7 s v).xN.toInt /(n7 s v).xD.toInt:=by
      refine(Int.le_ediv_iff_mul_le (by omega)).2 ?_;have:=Int.mul_le_mul_of_nonneg_left r3 (show(0:Int)<=2147483647 by decide);omega
     exact BS hk q2 q1
theorem akU{t:aF}{v:aB}(ht:b9 t=true)(hv:b4 t v=true):nx t t v=(v,0):=by
 unfold nx n7;rw[ht,hv,Bool.not_true,Bool.or_self,cond_false,cond_false];rcases kinds ht with hk|hk|hk
 ·rw[hk];rfl
 ·rw[hk];have F:=fm ht hk;have A:=ly hv hk;have hH:=uO F;have hS:=xl F;obtain⟨x,hx⟩:=SK (n:=v.xN.toInt) (S:=fP t) (by have:=A.n1;omega) (by have:=A.n2;omega) hS.1 hS.2;have L:=Gp hx;have e:=agp (by omega) hx;show(fe t (iF ((eF v.xN.toInt (fP t)).1.xN.toInt*fP t) (eF v.xN.toInt (fP t)).1.xD.toInt t.b5),(0:Int))=(v,0);rw[hx];dsimp only;rw[e,Ji (by have:=L.d1;omega),xB F A]
 ·rw[hk];show((⟨Int64.ofInt (v.xN.toInt / v.xD.toInt),1⟩:aB),(0:Int))=(v,0);rw[sc hv hk,Int.ediv_one,Int64.ofInt_toInt];exact congrArg (·,(0:Int)) (yY rfl (by show(1:Int64).toInt=v.xD.toInt;rw[sc hv hk];rfl))
def vv(b:Int64)(m:bf):bf:=⟨m.aO,m.cA*b⟩
def ug(b:Int64)(m:bf):Bool:=dU (m.cA.toInt*b.toInt)
theorem Jy(a:aP)(b:Int64):kV a b=bif dY a then bif b.toInt==0 then .ok dI else bif dU (a.xK.toInt*b.toInt)&&a.xL.all (ug b)then .ok ⟨a.xK*b,a.xL.map (vv b)⟩else .error .range else .error .arg:=by
 unfold kV;have:(a.xL.map λm=>(⟨m.aO,Int64.ofInt (m.cA.toInt*b.toInt)⟩:bf))=a.xL.map (vv b):=anj λm _=>by rw[Pb];rfl
 rw[this,Pb];show(if dY a=true then _ else _)=_;cases dY a with
 |false=>rfl
 |true=>
  by_cases h:b.toInt=0
  ·rw[if_pos rfl,if_pos h,h];rfl
  ·rw[if_pos rfl,if_neg h,beq_eq_false_iff_ne.2 h];show(if(dU (a.xK.toInt*b.toInt)&&a.xL.all (ug b))=true then _ else _)=_;cases dU (a.xK.toInt*b.toInt)&&a.xL.all (ug b)<;>rfl
theorem Y1(N:Nat)(q:Int64×Bool)(b:Int64):∀(l:anD bf)(k:Nat)(f:Bool)(acc:anD bf),acc.length+l.length<=1000000000->
 CT N q b l k f acc=some (bif f&&l.all (ug b)then((⟨q.1,acc++l.map (vv b)⟩:aP),0)else(dI,3))
 |[],_,f,acc,_=>by rw[CT,List.map_nil,am8];cases f<;>rfl
 |m::l,k,f,acc,h=>by
  simp only[amQ]at h;rw[CT,WZ,amM,xo (by omega),show(bif f then some (yH m.cA b).2 else some false)=some (f&&(yH m.cA b).2) by cases f<;>rfl,amM];simp only[cond_true];rw[Y1 N q b l (k+1) _ _ (by simp only[amO,amQ,amZ];omega),anz,anc];unfold yH;rw[show ug b m=dU (m.cA.toInt*b.toInt)from rfl];cases dU (m.cA.toInt*b.toInt)with
  |true=>rw[cond_true,am4];cases f<;>rfl
  |false=>cases f<;>rfl
theorem NY(N:Nat)(hN:16<N)(a:aP)(b:Int64)(h:tk 1000000000 a):vm N a b=some (AU dI (kV a b)):=by
 unfold vm;rw[Bd N hN a h.ok,amM,WZ,amM,Y1 N _ _ _ _ _ _ (by simp only[amZ];exact(am7 _).symm▸h),Jy];unfold yH;cases dY a with
 |false=>rfl
 |true=>
  cases b.toInt==0 with
  |true=>rfl
  |false=>cases dU (a.xK.toInt*b.toInt)<;>cases a.xL.all (ug b)<;>rfl
def kZ(t:anE×Int×Int):Bool:=dU (t.2.1+t.2.2)
def gQ(t:anE×Int×Int):anF bf:=if t.2.1+t.2.2=0 then none else some ⟨t.1,Int64.ofInt (t.2.1+t.2.2)⟩
theorem aaO(k:Int)(l:anD (anE×Int×Int)):Ry k l=bif dU k&&l.all kZ then .ok ⟨Int64.ofInt k,l.filterMap gQ⟩else .error .range:=by
 unfold Ry;show(if(dU k&&l.all kZ)=true then(Except.ok ⟨Int64.ofInt k,l.filterMap gQ⟩:X aP)else _)=_;cases dU k&&l.all kZ<;>rfl
def Qj(acc:anD bf):anF bf->anD bf
 |none=>acc
 |some m=>acc++[m]
theorem Dj(N:Nat)(s:anE)(x y:Int64)(f:Bool)(K:Int64)(acc:anD bf)(h:acc.length<1000000000):
 ∃L,Ah N s x y f K acc=some (f&&dU (x.toInt+y.toInt),L)/\L.length<=acc.length+1/\(dU (x.toInt+y.toInt)=true->L=Qj acc (gQ (s,x.toInt,y.toInt))):=by
 unfold Ah;rw[Ym,amM,xo (by omega),show(bif f then some (x+y,dU (x.toInt+y.toInt)).2 else some false)=some (f&&dU (x.toInt+y.toInt)) by cases f<;>rfl,amM];dsimp only;have e (hf:dU (x.toInt+y.toInt)=true):(x+y).toInt=x.toInt+y.toInt:=by
  rw[kg]at hf;rw[EW,IntKind.wrap_i64];omega
 cases hz:(x+y).toInt !=0 with
 |true=>
  refine⟨_,rfl,by simp,λhf=> ?_⟩;unfold gQ;rw[if_neg (by show ¬x.toInt+y.toInt=0;rw[<-e hf];exact bne_iff_ne.1 hz)];show acc++[(⟨s,x+y⟩:bf)]=acc++[⟨s,Int64.ofInt (x.toInt+y.toInt)⟩];rw[WX]
 |false=>
  refine⟨_,rfl,Nat.le_succ _,λhf=> ?_⟩;unfold gQ;rw[if_pos (by show x.toInt+y.toInt=0;rw[<-e hf];exact WD hz)];rfl
theorem akt(acc:anD bf)(t:anE×Int×Int)(l:anD (anE×Int×Int)):Qj acc (gQ t)++l.filterMap gQ=acc++(t::l).filterMap gQ:=by
 rw[List.filterMap_cons];cases gQ t with
 |none=>rfl
 |some m=>show acc++[m]++_=_;rw[am4];rfl
theorem ES{N:Nat}{K:Int64}{n:Nat}{l r:anD bf}{f f':Bool}{acc L:anD bf}{t:anE×Int×Int}{T:anD (anE×Int×Int)}
 (ih:∀f acc,acc.length+l.length+r.length<=1000000000->∃L,mQ N K n l r f acc=some (f&&T.all kZ,L)/\(T.all kZ=true->L=acc++T.filterMap gQ))
 (hf:f'=(f&&kZ t)) (hL:L.length+l.length+r.length<=1000000000) (h:kZ t=true->L=Qj acc (gQ t)):
 ∃L',mQ N K n l r f' L=some (f&&(t::T).all kZ,L')/\((t::T).all kZ=true->L'=acc++(t::T).filterMap gQ):=by
 obtain⟨L',h1,h2⟩:=ih f' L hL;refine⟨L',?_,λh3=> ?_⟩
 ·rw[h1,hf,anz,Bool.and_assoc]
 ·rw[anz,amP]at h3;rw[h2 h3.2,h h3.1,akt]
theorem yX(N:Nat)(K:Int64):∀(n:Nat)(a b:anD bf)(f:Bool)(acc:anD bf),a.length+b.length<n->acc.length+a.length+b.length<=1000000000->
 ∃L,mQ N K n a b f acc=some (f&&(eE a b).all kZ,L)/\((eE a b).all kZ=true->L=acc++(eE a b).filterMap gQ)
 |0,a,b,f,acc,h,_=>absurd h (ang _)
 |n+1,[],[],f,acc,_,_=>by
  rw[mQ,eE];exact⟨acc,by rw[List.all_nil,Bool.and_true];rfl,λ_=>by rw[List.filterMap_nil,am8]⟩
 |n+1,x::l,[],f,acc,h,hb=>by
  simp only[amQ,amZ]at h hb;rw[mQ,eE];obtain⟨L,e1,e2,e3⟩:=Dj N x.aO x.cA 0 f K acc (by omega);rw[show decide (((x::l).length:Int)>0)=true from anv (by simp only[amQ];omega),show((([]:anD bf).length:Int)==0)=true from rfl];simp only[cond_true,amM,List.getElem?_cons_zero,e1,show decide (1<=(x::l).length)=true from anv (by simp only[amQ];omega),List.drop_one,List.tail_cons];exact ES (λf acc hb=>yX N K n l [] f acc (by simp only[amZ];omega) hb) rfl (by simp only[amZ];omega) e3
 |n+1,[],y::r,f,acc,h,hb=>by
  simp only[amQ,amZ]at h hb;rw[mQ,eE];obtain⟨L,e1,e2,e3⟩:=Dj N y.aO 0 y.cA f K acc (by omega);rw[show decide (((y::r).length:Int)>0)=true from anv (by simp only[amQ];omega),show(((y::r).length:Int)==0)=false from beq_eq_false_iff_ne.2 (by simp only[amQ];omega),show decide ((([]:anD bf).length:Int)>0)=false from rfl,show((([]:anD bf).length:Int)==0)=true from rfl];simp only[cond_true,cond_false,amM,List.getElem?_cons_zero,e1,show decide (1<=(y::r).length)=true from anv (by simp only[amQ];omega),List.drop_one,List.tail_cons];exact ES (λf acc hb=>yX N K n [] r f acc (by simp only[amZ];omega) hb) rfl (by simp only[amZ];omega) e3
 |n+1,x::l,y::r,f,acc,h,hb=>by
  simp only[amQ]at h hb;rw[mQ,eE];have p1:∀(z:bf)(l:anD bf),decide (((z::l).length:Int)>0)=true:=λz l=>anv (by simp only[amQ];omega);have p2:∀(z:bf)(l:anD bf),(((z::l).length:Int)==0)=false:=λz l=>beq_eq_false_iff_ne.2 (by simp only[amQ];omega);have p3:∀(z:bf)(l:anD bf),decide (1<=(z::l).length)=true:=λz l=>anv (by simp only[amQ];omega);simp only[p1,p2,cond_true,cond_false,amM,List.getElem?_cons_zero,show Op.bytesLess (bL x.aO) (bL y.aO)=lt x.aO y.aO from rfl,show Op.bytesLess (bL y.aO) (bL x.aO)=lt y.aO x.aO from rfl];cases hxy:lt x.aO y.aO with
  |true=>
   obtain⟨L,e1,e2,e3⟩:=Dj N x.aO x.cA 0 f K acc (by omega);simp only[cond_true,e1,amM,p3,List.drop_one,List.tail_cons,if_true];exact ES (λf acc hb=>yX N K n l (y::r) f acc (by simp only[amQ];omega) hb) rfl (by simp only[amQ];omega) e3
  |false=>
   simp only[cond_false,Bool.false_eq_true,if_false];cases hyx:lt y.aO x.aO with
   |true=>
    obtain⟨L,e1,e2,e3⟩:=Dj N y.aO 0 y.cA f K acc (by omega);simp only[cond_true,e1,amM,p3,List.drop_one,List.tail_cons,if_true];exact ES (λf acc hb=>yX N K n (x::l) r f acc (by simp only[amQ];omega) hb) rfl (by simp only[amQ];omega) e3
   |false=>
    obtain⟨L,e1,e2,e3⟩:=Dj N x.aO x.cA y.cA f K acc (by omega);simp only[cond_true,cond_false,e1,amM,p3,List.drop_one,List.tail_cons,Bool.false_eq_true,if_false];exact ES (λf acc hb=>yX N K n l r f acc (by omega) hb) rfl (by omega) e3
theorem Ii(a b:aP):n4 a b=bif dY a&&dY b then bif dU (a.xK.toInt+b.xK.toInt)&&(eE a.xL b.xL).all kZ then .ok ⟨a.xK+b.xK,(eE a.xL b.xL).filterMap gQ⟩else .error .range else .error .arg:=by
 unfold n4;rw[aaO,WX];cases dY a&&dY b<;>rfl
theorem V6(N:Nat)(hN:16<N)(a b:aP)(hl:a.xL.length+b.xL.length<=1000000000)(hf:a.xL.length+b.xL.length<N):wG N a b=some (AU dI (n4 a b)):=by
 unfold wG FU;have ha:tC a:=am5 (am5 (ant _ _) hl) (by decide);have hb:tC b:=am5 (am5 (Nat.le_add_left _ _) hl) (by decide);rw[Bd N hN a ha,Bd N hN b hb,amM,amM,Ym,amM,Ii];dsimp only;obtain⟨L,e1,e2⟩:=yX N (a.xK+b.xK) N a.xL b.xL (dU (a.xK.toInt+b.xK.toInt)) [] hf (by simp only[amZ];omega);rw[e1,amM];cases dY a with
 |false=>rfl
 |true=>
  cases dY b with
  |false=>rfl
  |true=>
   cases h1:dU (a.xK.toInt+b.xK.toInt)with
   |false=>rfl
   |true=>
    cases h2:(eE a.xL b.xL).all kZ with
    |false=>rfl
    |true=>rw[e2 h2];rfl
end Go.Proofs.YtfdhojiehjfghaaGreatDoor
