/-
  Part 9 of the proof: PQ1.
-/
import Derived.Test.YtmkmibahjanejaaGreatDoorPp8
namespace Go.Proofs.YtmkmibahjanejaaGreatDoor
open Go.RowKit
set_option maxRecDepth 100000
set_option maxHeartbeats 0
set_option linter.unusedVariables false
def Xo:j5:=⟨(0:Int64),(0:Int64)⟩
def eR:bz:=⟨(0:Int),(0:Int),(0:Int),(0:Int),(0:Int)⟩
def Zt:aI:=⟨(0:Int64),[]⟩
def dR(v:aB)(r:agK J):agK J:=(.d (.sl (bD v.aD)))::(.d (.sl (ft v.bX)))::(.d (.sl (gq v.aC)))::(.d (.sl (eI v.aw)))::(.d (.sl (bD v.cd)))::r
def FN(N:Nat):agK aI->Nat->agM Bool
 |[],_=>
  some false
 |v4::v5,v2=>
  bif (decide ((v4.xL.length:Int)>20))then
   some true
  else
   (FN N v5 (v2+1))
def HQ(N:Nat)(v1:agK aI):agM Bool:=
 FN N v1 0
theorem XC{N v1}:KO 17 [(.d (.sl (cV v1)))] aJ (HQ N v1):=
 fw Tryz.func17 (gA [[],[]] (gT j9 0 v1 λh2=>dc 1 [] [0,3] 0 (λv2=>⟨17,[(0,(.d (.sl (cV v1)))),(3,(an (v2:Int)))],[]⟩) (λv2 h3 f1=>gR [[(7,oL v1 dC)],[f0 (aU h3)],[]]) (λv2 v4 v5 h3 f1 aE=>gA [[(7,oL v1 dC)],[t0 (aV h3)],[(7,oE (kS (aL h3))),(16,oL v4.xL dO)]] (bJ λh4=>gb aE () [[f0 h4],[(5,oq (bk h3 rfl h2))]] h3))))
def tF(N:Nat)(v2:Int)(oW:ao->Int->agM Int):agK ao->Nat->Int->agM Int
 |[],_,v12=>
  some v12
 |v10::v11,v8,v12=>
  bif (decide (v12<=v2))then
   Option.bind (oW v10 (aN (v2-v12))) λbP=>
   (λig=>tF N v2 oW v11 (v8+1) ig) (aN (v12+bP))
  else
   some v12
def Gm(N:Nat)(lR:Int->agM Int)(v2:Int):agK aI->Nat->Int->agM Int
 |[],_,c6=>
  lR c6
 |cY::v17,cb,c6=>
  bif (decide (c6<=v2))then
   (λmG=>Gm N lR v2 v17 (cb+1) mG) (aN (c6+(cY.xL.length:Int)))
  else
   lR c6
def vh(N:Nat)(v2:Int)(oW:ao->Int->agM Int):agK ao->Nat->Int->agM Int
 |[],_,v23=>
  some v23
 |v21::v22,dT,v23=>
  bif (decide (v23<=v2))then
   Option.bind (oW v21 (aN (v2-v23))) λv24=>
   (λmv=>vh N v2 oW v22 (dT+1) mv) (aN (v23+v24))
  else
   some v23
def vc(N:Nat)(v2:Int)(oW:ao->Int->agM Int)(v1:ao):agK bl->Nat->Int->agM Int
 |[],_,v7=>
  tF N v2 oW v1.ba 0 v7
 |v5::v6,v3,v7=>
  bif (decide (v7<=v2))then
   Gm N (λbV=>vc N v2 oW v1 v6 (v3+1) bV) v2 v5.bK 0 (aN ((aN (v7+(v5.aP.xL.length:Int)))+(v5.bK.length:Int)))
  else
   vh N v2 oW v1.ba 0 v7
def qd(N:Nat):Nat->ao->Int->agM Int
 |0,_,_=>none
 |d+1,v1,v2=>
  vc N v2 (qd N d) v1 v1.xIdx 0 (aN ((aN ((1:Int)+(v1.aP.xL.length:Int)))+(v1.xIdx.length:Int)))
def IL(N:Nat)(v1:ao)(v2:Int):agM Int:=qd N N v1 v2
theorem UE(N:Nat):∀d:Nat,(∀{v1:ao}{v2:Int},KO 18 [(aO v1),(an v2)] an (qd N d v1 v2)):=by
 intro d
 induction d with
 |zero=>intro v1 v2 r U;rw[qd]at U;cases U
 |succ d ih=>
  have O5:= @ih;intro v1 v2;rw[qd];exact fw Tryz.func18 (gA [[],[(10,oL v1.aP.xL dO),(22,oL v1.xIdx ee)],[]] (gB jO 0 11 v1.xIdx λh2=>eY 1 [] [1,2,5,6] 1 (λv3(v7:Int)=>⟨101,[(1,(an v2)),(2,(.ptr 0 0)),(5,(an v7)),(6,(an (v3:Int)))],[.cells (aO v1).cells]⟩) (λv3 v7 h3 f1=>gA [[(10,oL v1.xIdx ee),(18,bF (aU h3)),(21,bF (aU h3)),(24,bF (aU h3)),(28,bF (aU h3))],[(0,bF rfl)],[]] (gB jM 0 12 v1.ba λh5=>eY 2 [] [1,2,5,8] 1 (λv8(v12:Int)=>⟨101,[(1,(an v2)),(2,(.ptr 0 0)),(5,(an v12)),(8,(an (v8:Int)))],[.cells (aO v1).cells]⟩) (λv8 v12 h6 f2=>gR [[(10,oL v1.ba eX),(18,bF (aU h6)),(21,bF (aU h6)),(24,bF (aU h6)),(28,bF (aU h6))],[(0,bF rfl)],[]]) (λv8 v10 v11 v12 h6 f2 de=>gA [[(10,oL v1.ba eX),(18,bT (aV h6)),(21,bT (aV h6)),(24,bT (aV h6)),(28,bT (aV h6))]] (kO λh7=>aq λbP h8=>gb de (aN (v12+bP)) [[(0,bT h7)],[(13,oE (j6 (aL h6))),(28,cK O5 h8)],[(5,oq (bk h6 rfl h5))]] h6)))) (λv3 v5 v6 v7 h3 f1 aE=>gA [[(10,oL v1.xIdx ee),(18,bT (aV h3)),(21,bT (aV h3)),(24,bT (aV h3)),(28,bT (aV h3))]] (au (λh9=>gA [[(0,bT h9)],[(13,oE (ff (aL h3))),(25,oL v5.aP.xL dO),(40,oE (ff (aL h3))),(49,oL v5.bK dC)],[]] (HC (λ_=>(Cu 0 11 (cE v1.xIdx) (by kernel_rfl) ·)) λbn=>have bo:=uF dC (Ij (j:=3) (d:= .sl (cV v5.bK)) bn (ff (aL h3)) rfl);eY 3 [] [1,2,5,6,7] 1 (λcb(c6:Int)=>⟨101,[(1,(an v2)),(2,(.ptr 0 0)),(5,(an c6)),(6,(an (v3:Int))),(7,(an (cb:Int)))],[.cells (aO v1).cells]⟩) (λcb c6 a8 f3=>gb aE c6 [[(13,oE (ff (aL h3))),(22,oL v5.bK dC),(30,bF (aU a8)),(33,bF (aU a8)),(36,bF (aU a8)),(40,bF (aU a8))],[(0,bF rfl)],[(5,oq (bk h3 rfl h2))]] h3) (λcb cY v17 c6 a8 f3 iV=>gA [[(13,oE (ff (aL h3))),(22,oL v5.bK dC),(30,bT (aV a8)),(33,bT (aV a8)),(36,bT (aV a8)),(40,bT (aV a8))]] (au (λcn=>gb iV (aN (c6+(cY.xL.length:Int))) [[(0,bT cn)],[(13,oE (ff (aL h3))),(25,oE (kS (aL a8))),(34,oL cY.xL dO)],[(5,oq (bk a8 rfl bo))]] a8) λcn=>gb aE c6 [[(0,bF cn)],[(5,oq (bk h3 rfl h2))]] h3)))) λh9=>gA [[(0,bF h9)],[]] (gB jM 0 12 v1.ba λbG=>eY 4 [] [1,2,5,8] 1 (λdT(v23:Int)=>⟨101,[(1,(an v2)),(2,(.ptr 0 0)),(5,(an v23)),(8,(an (dT:Int)))],[.cells (aO v1).cells]⟩) (λdT v23 cf f4=>gR [[(10,oL v1.ba eX),(18,bF (aU cf)),(21,bF (aU cf)),(24,bF (aU cf)),(28,bF (aU cf))],[(0,bF rfl)],[]]) (λdT v21 v22 v23 cf f4 jV=>gA [[(10,oL v1.ba eX),(18,bT (aV cf)),(21,bT (aV cf)),(24,bT (aV cf)),(28,bT (aV cf))]] (kO λcP=>aq λv24 fc=>gb jV (aN (v23+v24)) [[(0,bT cP)],[(13,oE (j6 (aL cf))),(28,cK O5 fc)],[(5,oq (bk cf rfl bG))]] cf)))))))
theorem ad3{N v1 v2}:KO 18 [(aO v1),(an v2)] an (IL N v1 v2):=(UE N N)
def y7(N:Nat)(cb:aT)(Po:agM Bool):Nat->Int->agM Bool
 |0,_=>none
 |c6+1,dT=>
  bif (decide (dT<(aN ((cb.aK.length:Int)+(cb.bx.length:Int)))))then
   bif (Nat.ble ((0+cb.aK.length)*48) 140737488355328)then
   bif (Nat.ble ((cb.aK.length+cb.bx.length)*48) 140737488355328)then
   bif (decide ((0:Int)<=dT))then
   Option.bind ((cb.aK++cb.bx)[(dT).toNat]?) λv20=>
   bif (decide ((v20.cU.xL.length:Int)>20))then
    some true
   else
    (λmv=>y7 N cb Po c6 mv) (aN (dT+(1:Int)))
   else none
   else none
   else none
  else
   Po
def Bg(N:Nat)(v2:Int):agK aT->Nat->agM Bool
 |[],_=>
  some false
 |cb::bI,v12=>
  Option.bind (bif (decide ((cb.aK.length:Int)>12))then some true else(bif (decide ((cb.bx.length:Int)>12))then some true else (IL N cb.bY v2).bind λcY=>
  some (decide (cY>v2)))) λv17=>
  bif v17 then
   some true
  else
   y7 N cb (Bg N v2 bI (v12+1)) N (0:Int)
def BF(N:Nat)(v2:Int)(v1:aB):agK ck->Nat->agM Bool
 |[],_=>
  Bg N v2 v1.aw 0
 |v10::v11,v8=>
  Option.bind (bif (decide ((v10.aK.length:Int)>12))then some true else (HQ N v10.aK).bind λv21=>
  some v21) λv22=>
  bif v22 then
   some true
  else
   (BF N v2 v1 v11 (v8+1))
def CL(N:Nat)(v2:Int)(v1:aB):agK cC->Nat->agM Bool
 |[],_=>
  BF N v2 v1 v1.aC 0
 |v6::v7,v4=>
  bif (decide ((v6.aP.xL.length:Int)>20))then
   some true
  else
   (CL N v2 v1 v7 (v4+1))
def yE(N:Nat)(v1:aB)(v2:Int):agM Bool:=
 Option.bind (bif (decide ((v1.aD.length:Int)>12))then some true else(bif (decide ((v1.bX.length:Int)>12))then some true else(bif (decide ((v1.aC.length:Int)>12))then some true else(bif (decide ((v1.aw.length:Int)>12))then some true else some (decide ((v1.cd.length:Int)>12)))))) λv3=>
 bif v3 then
  some true
 else
  CL N v2 v1 v1.bX 0
def rM(v1:aB)(l:agK aj):agK aj:= .cells (cH v1).cells::l
theorem X1{N v1 v2}:KO 6 [(cH v1),(an v2)] aJ (yE N v1 v2):=
 fw Tryz.func6 (gA [[]] (gG (λv3=>[(38,(aJ v3))]) (λ_=>(rM v1 [])) (bS (7,oL v1.aD dI) (au (λh1=>gE [(4,bT h1),(10,bT rfl),(16,bT rfl),(22,bT rfl)] []) λh1=>bt (4,bF h1) (bS (22,oL v1.bX jr) (au (λh2=>gE [(10,bT h2),(16,bT rfl),(22,bT rfl)] []) λh2=>bt (10,bF h2) (bS (40,oL v1.aC gv) (au (λh3=>gE [(16,bT h3),(22,bT rfl)] []) λh3=>bt (16,bF h3) (bS (58,oL v1.aw fF) (au (λh4=>gE [(22,bT h4)] []) λh4=>gE [(22,bF h4)] [(76,oL v1.cd dI)])))))))) λv3=>fW λ_=>gB rB 0 1 v1.bX λh8=>dc 1 [] [1,2,5] 1 (λv4=>⟨135,[(1,(an v2)),(2,(.ptr 0 0)),(5,(an (v4:Int)))],(rM v1 [])⟩) (λv4 h9 f1=>gA [[(10,oL v1.bX jr)],[f0 (aU h9)],[]] (gB lW 0 2 v1.aC λbo=>dc 2 [] [1,2,6] 1 (λv8=>⟨135,[(1,(an v2)),(2,(.ptr 0 0)),(6,(an (v8:Int)))],(rM v1 [])⟩) (λv8 a8 f2=>gA [[(10,oL v1.aC gv)],[f0 (aU a8)],[]] (gB lT 0 3 v1.aw λcg=>dc 3 [] [1,2,7] 1 (λv12=>⟨135,[(1,(an v2)),(2,(.ptr 0 0)),(7,(an (v12:Int)))],(rM v1 [])⟩) (λv12 bG f3=>gR [[(10,oL v1.aw fF)],[f0 (aU bG)],[]]) (λv12 cb bI bG f3 iV=>gA [[(10,oL v1.aw fF)],[t0 (aV bG)],[(10,oE (iA (aL bG)))]] (gG (λv17=>[(108,(aJ v17))]) (λ_=>(rM v1 [.cells (ej cb).cells])) (bS (7,oL cb.aK dW) (au (λcf=>gE [(4,bT cf),(10,bT rfl)] []) λcf=>bt (4,bF cf) (bS (22,oL cb.bx dW) (au (λcP=>gE [(10,bT cP)] []) λcP=>aq λcY fc=>gE [(10,bF cP)] [(43,cK ad3 fc)])))) λv17=>bJ λdu=>BY 4 [[f0 du],[]] [1,2,7,8,9] 2 (λ(dT:Int)=>⟨135,[(1,(an v2)),(2,(.ptr 0 0)),(7,(an (v12:Int))),(8,(.ptr 1 0)),(9,(an dT))],(rM v1 [.cells (ej cb).cells])⟩) (y7 N cb (Bg N v2 bI (v12+1))) (λc6 dT f4 jV=>gA [[(10,oL cb.aK dW),(19,oL cb.bx dW)]] (au (λeK=>gA [[t0 eK]] (bq λgh=>bq λeM=>bq λjB=>aq λv20 ie=>li (λ_=>(Rp 3 dG [(10,(.ptr 3 0))] (rM v1 [.cells (ej cb).cells, .front 72 3 (cb.aK++cb.bx).length, .cells (yZ v20).cells]) ⟨[(10,oZ ji cb.aK gh),(19,oA ji cb.aK cb.bx eM),(25,⟨_,_, .el (xs:=dD (cb.aK++cb.bx)) (i:=dT) (of_decide_eq_true jB) (iX ie)⟩)],by kernel_rfl⟩ ·)) (gA [[(10,oL v20.cU.xL dO)]] (bJ λib=>qn jV (aN (dT+(1:Int))) [[f0 ib],[]])))) λeK=>gb iV () [[f0 eK],[(5,oq (bk bG rfl cg))]] bG)))))) (λv8 v10 v11 a8 f2 de=>gA [[(10,oL v1.aC gv)],[t0 (aV a8)]] (gG (λv22=>[(78,(aJ v22))]) (λ_=>(rM v1 [])) (bS (10,oE (iz (aL a8))) (bS (19,oL v10.aK dC) (au (λjZ=>gE [(8,bT jZ)] []) λjZ=>aq λv21 nc=>gE [(8,bF jZ)] [(37,oE (iz (aL a8))),(46,cK XC nc)]))) λv22=>bJ λsA=>gb de () [[f0 sA],[(5,oq (bk a8 rfl bo))]] a8)))) (λv4 v6 v7 h9 f1 aE=>gA [[(10,oL v1.bX jr)],[t0 (aV h9)],[(10,oE (qR (aL h9))),(22,oL v6.aP.xL dO)]] (bJ λyG=>gb aE () [[f0 yG],[(5,oq (bk h9 rfl h8))]] h9))))
def F3(N:Nat)(v1:agL):agM aI:=
 some (⟨(0:Int64),[(⟨v1,(1:Int64)⟩:aR)]⟩:aI)
theorem GG{N v1}:KO 49 [(bu v1)] ca (F3 N v1):=
 fw Tryz.func49 (gR [[],[]])
def JB(N:Nat)(v1:agL)(v2:agL)(v3:agL)(v4:agL):agM aB:=
 (F3 N v4).bind λv5=>
 (F3 N v1).bind λv6=>
 (F3 N v1).bind λv7=>
 some (⟨[v1],[],[(⟨v2,(⟨(1:Int),(0:Int),(0:Int),(0:Int),(0:Int)⟩:bz),[v7]⟩:ck)],[(⟨v3,(⟨(1:Int),(0:Int),(0:Int),(0:Int),(0:Int)⟩:bz),[],[(⟨v4,v6⟩:bH)],(1:Int),(⟨(3:Int),v2,Xo,eR,Zt,[(⟨v5,(bs []),[]⟩:bl)],[]⟩:ao)⟩:aT)],[v3]⟩:aB)
theorem RN{N v1 v2 v3 v4}:KO 19 [(bu v1),(bu v2),(bu v3),(bu v4)] cH (JB N v1 v2 v3 v4):=
 fw Tryz.func19 (aq λv5 h1=>aq λv6 h2=>aq λv7 h3=>gR [[],[],[(7,cK GG h1)],[(13,cK GG h2)],[(16,cK GG h3)]])
def DV(N:Nat)(v1:aB):agM Bool:=
 Option.bind (bif (decide ((if(v1.cd.length:Int)>(if(v1.aw.length:Int)>(if(v1.aC.length:Int)>(v1.aD.length:Int)then(v1.aC.length:Int)else(v1.aD.length:Int))then(v1.aw.length:Int)else(if(v1.aC.length:Int)>(v1.aD.length:Int)then(v1.aC.length:Int)else(v1.aD.length:Int)))then(v1.cd.length:Int)else(if(v1.aw.length:Int)>(if(v1.aC.length:Int)>(v1.aD.length:Int)then(v1.aC.length:Int)else(v1.aD.length:Int))then(v1.aw.length:Int)else(if(v1.aC.length:Int)>(v1.aD.length:Int)then(v1.aC.length:Int)else(v1.aD.length:Int))))<=64))then some (decide ((v1.bX.length:Int)<=256))else some false) λv2=>
 some v2
theorem adC{N v1}:KO 36 [(cH v1)] aJ (DV N v1):=
 fw Tryz.func36 (gA [[]] (gG (λv2=>[(2,(aJ v2))]) (λ_=>[.cells (cH v1).cells]) (bS (7,oL v1.aD dI) (bS (16,oL v1.aC gv) (bS (25,oL v1.aw fF) (bS (34,oL v1.cd dI) (au (λh1=>gE [(14,bT h1)] [(52,oL v1.bX jr)]) λh1=>gE [(14,bF h1)] []))))) λv2=>gR []))
def AU(N:Nat)(v1:Int):agM Bool:=
 Option.bind (bif (decide (v1>=97))then some (decide (v1<=122))else some false) λv2=>
 some v2
theorem O4{N v1}:KO 118 [(.d (.v (.int .i32 v1)))] aJ (AU N v1):=
 fw Tryz.func118 (gA [[]] (gG (λv2=>[(2,(aJ v2))]) (λ_=>[]) (au (λh1=>gE [(2,bT h1)] []) λh1=>gE [(2,bF h1)] []) λv2=>gR []))
def Fi(N:Nat)(v1:Int):agM Bool:=
 Option.bind (bif (decide (v1>=48))then some (decide (v1<=57))else some false) λv2=>
 some v2
theorem WM{N v1}:KO 164 [(.d (.v (.int .i32 v1)))] aJ (Fi N v1):=
 fw Tryz.func164 (gA [[]] (gG (λv2=>[(2,(aJ v2))]) (λ_=>[]) (au (λh1=>gE [(2,bT h1)] []) λh1=>gE [(2,bF h1)] []) λv2=>gR []))
def Bv(N:Nat)(v1:Int):agM Bool:=
 (AU N v1).bind λv2=>
 Option.bind (bif v2 then some true else (Fi N v1).bind λv3=>
 (bif v3 then some true else some (v1==95))) λv4=>
 some v4
theorem WK{N v1}:KO 120 [(.d (.v (.int .i32 v1)))] aJ (Bv N v1):=
 fw Tryz.func120 (gA [[]] (aq λv2 h1=>gG (λv4=>[(2,(aJ v4))]) (λ_=>[]) (bS (4,cK O4 h1) (au (λh2=>gE [(2,bT h2),(6,bT rfl)] []) λh2=>aq λv3 h3=>bt (2,bF h2) (bS (13,cK WM h3) (au (λh4=>gE [(6,bT h4)] []) λh4=>gE [(6,bF h4)] [])))) λv4=>gR []))
def yX(N:Nat)(v1:agL):Nat->Int->agM Int
 |0,_=>none
 |v2+1,v3=>
  Option.bind (bif (decide (v3<(v1.size:Int)))then bif (decide ((0:Int)<=v3))then
  Option.bind (v1[(v3).toNat]?) λv4=>
  Option.bind (Bv N (IntKind.i32.wrap (v4.toNat:Int))) λv5=>
  some v5
  else none else some false) λv6=>
  bif v6 then
   (λbV=>yX N v1 v2 bV) (aN (v3+(1:Int)))
  else
   some v3
def C5(N:Nat)(v1:agL):agM Int:=
 yX N v1 N (0:Int)
theorem ZT{N v1}:KP 119 [(bu v1),(.fn 120 [])] [] an (λ_=>[]) (C5 N v1):=
 fh 0 Tryz.func119 (BY 1 [[],[]] [0,1,5] 0 (λ(v3:Int)=>⟨21,[(0,(bu v1)),(1,(.fn 120 [])),(5,(an v3))],[]⟩) (yX N v1) (λv2 v3 f1 aE=>gG (λv6=>[(17,(aJ v6))]) (λ_=>[]) (au (λh1=>bq λh3=>aq λv4 h2=>aq λv5 h4=>gE [(4,bT h1)] [(25,⟨_,_, .ch (i:=v3) (of_decide_eq_true h3) h2⟩),(31,cK WK h4)]) λh1=>gE [(4,bF h1)] []) λv6=>au (λh6=>qn aE (aN (v3+(1:Int))) [[t0 h6],[]]) λh6=>gH [[f0 h6],[]]))
def Hl(N:Nat):agM (agK agL):=some lz
theorem Zp{N r}(U:Hl N=some r):gj Tryz.prog 165 [] (·=(.d (.sl (bD r)))):=by
 cases U;exact abj
def Fm(N:Nat)(v2:agL):agK agL->Nat->agM Int
 |[],_=>
  some (-1:Int)
 |v5::v6,v3=>
  bif (bL v2==bL v5)then
   some (v3:Int)
  else
   (Fm N v2 v6 (v3+1))
def Ff(N:Nat)(v1:agK agL)(v2:agL):agM Int:=
 Fm N v2 v1 0
theorem Wy{N v1 v2}:KO 97 [(.d (.sl (bD v1))),(bu v2)] an (Ff N v1 v2):=
 fw Tryz.func97 (gA [[],[(4,oL v1 dI)]] (gT dU 0 v1 λh2=>dc 1 [] [0,1,7,8] 0 (λv3=>⟨19,[(0,(.d (.sl (bD v1)))),(1,(bu v2)),(7,(an (v1.length:Int))),(8,(an (v3:Int)))],[]⟩) (λv3 h3 f1=>gR [[],[f0 (aU h3)],[]]) (λv3 v5 v6 h3 f1 aE=>gA [[],[t0 (aV h3)],[],[(10,oE (ia (aL h3)))]] (bJ λh4=>gb aE () [[f0 h4],[(2,oq (bk h3 rfl h2))]] h3))))
def vQ(N:Nat)(v1:agK agL)(v2:agL):agM Bool:=
 (Ff N v1 v2).bind λv3=>
 some (decide (v3>=0))
theorem SO{N v1 v2}:KO 41 [(.d (.sl (bD v1))),(bu v2)] aJ (vQ N v1 v2):=
 fw Tryz.func41 (aq λv3 h1=>gR [[],[(7,cK Wy h1)]])
def Gc(N:Nat)(v1:agL):agM Bool:=
 (Hl N).bind λv2=>
 (vQ N v2 v1).bind λv3=>
 some v3
theorem abV{N v1}:KO 121 [(bu v1)] aJ (Gc N v1):=
 fw Tryz.func121 (aq λv2 h1=>aq λv3 h2=>gR [[],[(1,cL (Zp h1)),(7,cK SO h2)]])
def tb(N:Nat)(v1:agL):agM Bool:=
 Option.bind (bif (bL v1==bL (bs []))then some false else(bif (decide ((v1.size:Int)<=16))then Option.bind (v1[0]?) λv2=>
 Option.bind (AU N (IntKind.i32.wrap (v2.toNat:Int))) λv3=>
 (bif v3 then (C5 N v1).bind λv4=>
 (bif (v4==(v1.size:Int))then (Gc N v1).bind λv5=>
 some (!v5)else some false)else some false)else some false)) λv6=>
 some v6
theorem F9{N v1}:KO 72 [(bu v1)] aJ (tb N v1):=
 fw Tryz.func72 (gA [[]] (gG (λv6=>[(2,(aJ v6))]) (λ_=>[]) (au (λh1=>gE [(2,bF (b9 h1)),(7,bF rfl),(13,bF rfl),(20,bF rfl)] []) λh1=>bt (2,bT (dm h1)) (au (λh2=>aq λv2 h3=>aq λv3 h4=>bt (7,bT h2) (bS (28,⟨_,_, .ch (i:=0) (by decide) h3⟩) (bS (34,cK O4 h4) (au (λh5=>aq λv4 h6=>bt (13,bT h5) (bS (46,oQ [(bu v1),(.fn 120 [])] [] [] (ZT _ h6)) (au (λh7=>aq λv5 h8=>gE [(20,bT h7)] [(67,cK abV h8)]) λh7=>gE [(20,bF h7)] []))) λh5=>gE [(13,bF h5),(20,bF rfl)] [])))) λh2=>gE [(7,bF h2),(13,bF rfl),(20,bF rfl)] [])) λv6=>gR []))
def vH(N:Nat)(v1:agL)(v2:Int)(v3:aB)(v4:agK (agL×Int)):agM (Int×(agK (agL×Int))):=
 (tb N v1).bind λv5=>
 bif v5 then
  bif ((dv v4 v1 0) !=0)then
   some ((8:Int),v4)
  else
   bif (Nat.blt v4.length 9223372036854775807)then
   some ((0:Int),((v1,v2)::v4))
   else none
 else
  some ((7:Int),v4)
theorem Ja{N v1 v2 v3 v4}:KP 37 [(.ptr 0 0),(bu v1),(an v2)] [.cells (dR v3 [(.mp 1)]), .map (dz v4)] (λr=>an r.1) (λr=>[.cells (dR v3 [(.mp 1)]), .map (dz r.2)]) (vH N v1 v2 v3 v4):=
 fh 2 Tryz.func37 (aq λv5 h1=>gA [[],[(4,cK F9 h1)]] (au (λh2=>gA [[f0 (b9 h2)],[(17,⟨_,_, .eq (Bl false v4 v1)⟩)]] (au (λh3=>gH [[t0 h3],[]]) λh3=>bq λh4=>gH [[f0 h3],[(19,⟨_,_, .sd (o:= .none) (Ht h4)⟩)],[]])) λh2=>gH [[t0 (dm h2)],[]]))
def fG(N:Nat)(v2:Bool):agM Bool:=
 bif v2 then
  some true
 else
  some false
def Ga(N:Nat)(v1:agL):agM Bool:=
 bif (bL v1==bL (bs [115,105,122,101]))then
  fG N (bL v1==bL (bs [115,105,122,101]))
 else
  bif (bL v1==bL (bs [119,104,101,114,101]))then
   fG N (bL v1==bL (bs [119,104,101,114,101]))
  else
   bif (bL v1==bL (bs [105,110]))then
    fG N (bL v1==bL (bs [105,110]))
   else
    bif (bL v1==bL (bs [100,101,102]))then
     fG N (bL v1==bL (bs [100,101,102]))
    else
     bif (bL v1==bL (bs [111,117,116]))then
      fG N (bL v1==bL (bs [111,117,116]))
     else
      bif (bL v1==bL (bs [115,117,109]))then
       fG N (bL v1==bL (bs [115,117,109]))
      else
       bif (bL v1==bL (bs [112,114,111,100]))then
        fG N (bL v1==bL (bs [112,114,111,100]))
       else
        bif (bL v1==bL (bs [109,105,110]))then
         fG N (bL v1==bL (bs [109,105,110]))
        else
         bif (bL v1==bL (bs [109,97,120]))then
          fG N (bL v1==bL (bs [109,97,120]))
         else
          bif (bL v1==bL (bs [115,99,97,110]))then
           fG N (bL v1==bL (bs [115,99,97,110]))
          else
           bif (bL v1==bL (bs [111,118,101,114]))then
            fG N (bL v1==bL (bs [111,118,101,114]))
           else
            bif (bL v1==bL (bs [105,102]))then
             fG N (bL v1==bL (bs [105,102]))
            else
             bif (bL v1==bL (bs [99,97,115,116]))then
              fG N (bL v1==bL (bs [99,97,115,116]))
             else
              bif (bL v1==bL (bs [102,114,97,99]))then
               fG N (bL v1==bL (bs [102,114,97,99]))
              else
               bif (bL v1==bL (bs [105,110,116]))then
                fG N (bL v1==bL (bs [105,110,116]))
               else
                bif (bL v1==bL (bs [102,105,120]))then
                 fG N (bL v1==bL (bs [102,105,120]))
                else
                 bif (bL v1==bL (bs [99,101,105,108]))then
                  fG N (bL v1==bL (bs [99,101,105,108]))
                 else
                  bif (bL v1==bL (bs [102,108,111,111,114]))then
                   fG N (bL v1==bL (bs [102,108,111,111,114]))
                  else
                   bif (bL v1==bL (bs [122,101,114,111]))then
                    fG N (bL v1==bL (bs [122,101,114,111]))
                   else
                    bif (bL v1==bL (bs [101,118,101,110]))then
                     fG N (bL v1==bL (bs [101,118,101,110]))
                    else
                     bif (bL v1==bL (bs [115,97,116]))then
                      fG N (bL v1==bL (bs [115,97,116]))
                     else
                      fG N (bL v1==bL (bs [119,114,97,112]))
theorem Yf{N v1}:KO 193 [(bu v1)] aJ (Ga N v1):=
 fw Tryz.func193 (l7 1 [[],[],[]] [4] 0 (λ(v2:Bool)=>⟨27,[(4,(aJ v2))],[]⟩) (fG N) (λf1 aE=>au (λh2=>gm aE (bL v1==bL (bs [115,105,122,101])) [[t0 h2]]) λh2=>gA [[f0 h2],[]] (au (λh3=>gm aE (bL v1==bL (bs [119,104,101,114,101])) [[t0 h3]]) λh3=>gA [[f0 h3],[]] (au (λh4=>gm aE (bL v1==bL (bs [105,110])) [[t0 h4]]) λh4=>gA [[f0 h4],[]] (au (λh5=>gm aE (bL v1==bL (bs [100,101,102])) [[t0 h5]]) λh5=>gA [[f0 h5],[]] (au (λh6=>gm aE (bL v1==bL (bs [111,117,116])) [[t0 h6]]) λh6=>gA [[f0 h6],[]] (au (λh7=>gm aE (bL v1==bL (bs [115,117,109])) [[t0 h7]]) λh7=>gA [[f0 h7],[]] (au (λh8=>gm aE (bL v1==bL (bs [112,114,111,100])) [[t0 h8]]) λh8=>gA [[f0 h8],[]] (au (λh9=>gm aE (bL v1==bL (bs [109,105,110])) [[t0 h9]]) λh9=>gA [[f0 h9],[]] (au (λbn=>gm aE (bL v1==bL (bs [109,97,120])) [[t0 bn]]) λbn=>gA [[f0 bn],[]] (au (λbo=>gm aE (bL v1==bL (bs [115,99,97,110])) [[t0 bo]]) λbo=>gA [[f0 bo],[]] (au (λa8=>gm aE (bL v1==bL (bs [111,118,101,114])) [[t0 a8]]) λa8=>gA [[f0 a8],[]] (au (λcn=>gm aE (bL v1==bL (bs [105,102])) [[t0 cn]]) λcn=>gA [[f0 cn],[]] (au (λcg=>gm aE (bL v1==bL (bs [99,97,115,116])) [[t0 cg]]) λcg=>gA [[f0 cg],[]] (au (λbG=>gm aE (bL v1==bL (bs [102,114,97,99])) [[t0 bG]]) λbG=>gA [[f0 bG],[]] (au (λcf=>gm aE (bL v1==bL (bs [105,110,116])) [[t0 cf]]) λcf=>gA [[f0 cf],[]] (au (λcP=>gm aE (bL v1==bL (bs [102,105,120])) [[t0 cP]]) λcP=>gA [[f0 cP],[]] (au (λfc=>gm aE (bL v1==bL (bs [99,101,105,108])) [[t0 fc]]) λfc=>gA [[f0 fc],[]] (au (λgd=>gm aE (bL v1==bL (bs [102,108,111,111,114])) [[t0 gd]]) λgd=>gA [[f0 gd],[]] (au (λdu=>gm aE (bL v1==bL (bs [122,101,114,111])) [[t0 du]]) λdu=>gA [[f0 du],[]] (au (λeK=>gm aE (bL v1==bL (bs [101,118,101,110])) [[t0 eK]]) λeK=>gA [[f0 eK],[]] (au (λgh=>gm aE (bL v1==bL (bs [115,97,116])) [[t0 gh]]) λgh=>gm aE (bL v1==bL (bs [119,114,97,112])) [[f0 gh],[]]))))))))))))))))))))) (λv2=>bJ λh1=>gR [[f0 h1],[]]))
def vi(N:Nat)(v1:agL):Nat->Int->agM Bool
 |0,_=>none
 |v5+1,v6=>
  bif (decide (v6<(v1.size:Int)))then
   bif (decide ((0:Int)<=v6))then
   Option.bind (v1[(v6).toNat]?) λv7=>
   Option.bind (bif (decide ((v7.toNat:Int)<97))then(bif (decide ((v7.toNat:Int)<48))then some ((v7.toNat:Int) !=95)else(bif (decide ((v7.toNat:Int)>57))then some ((v7.toNat:Int) !=95)else some false))else(bif (decide ((v7.toNat:Int)>122))then(bif (decide ((v7.toNat:Int)<48))then some ((v7.toNat:Int) !=95)else(bif (decide ((v7.toNat:Int)>57))then some ((v7.toNat:Int) !=95)else some false))else some false)) λv8=>
   bif v8 then
    some false
   else
    (λbV=>vi N v1 v5 bV) (aN (v6+(1:Int)))
   else none
  else
   some true
def E0(N:Nat)(v1:agL):agM Bool:=
 Option.bind (bif (decide ((v1.size:Int)<1))then some true else(bif (decide ((v1.size:Int)>16))then some true else (Ga N v1).bind λv2=>
 (bif v2 then some true else Option.bind (v1[0]?) λv3=>
 (bif (decide ((v3.toNat:Int)<97))then some true else some (decide ((v3.toNat:Int)>122)))))) λv4=>
 bif v4 then
  some false
 else
  vi N v1 N (0:Int)
theorem abk{N v1}:KO 158 [(bu v1)] aJ (E0 N v1):=
 fw Tryz.func158 (gA [[]] (gG (λv4=>[(26,(aJ v4))]) (λ_=>[]) (au (λh1=>gE [(3,bT h1),(8,bT rfl),(12,bT rfl),(17,bT rfl)] []) λh1=>bt (3,bF h1) (au (λh2=>gE [(8,bT h2),(12,bT rfl),(17,bT rfl)] []) λh2=>aq λv2 h3=>bt (8,bF h2) (bS (31,cK Yf h3) (au (λh4=>gE [(12,bT h4),(17,bT rfl)] []) λh4=>aq λv3 h5=>bt (12,bF h4) (bS (43,⟨_,_, .ch (i:=0) (by decide) h5⟩) (au (λh6=>gE [(17,bT h6)] []) λh6=>gE [(17,bF h6)] [(58,⟨_,_, .ch (i:=0) (by decide) h5⟩)])))))) λv4=>bJ λh8=>BY 1 [[f0 h8],[]] [0,28,29] 0 (λ(v6:Int)=>⟨54,[(0,(bu v1)),(28,(an (v1.size:Int))),(29,(an v6))],[]⟩) (vi N v1) (λv5 v6 f1 aE=>gA [[]] (kO λh9=>bq λbo=>aq λv7 bn=>gA [[t0 h9],[],[(7,⟨_,_, .ch (i:=v6) (of_decide_eq_true bo) bn⟩)]] (gG (λv8=>[(52,(aJ v8))]) (λ_=>[]) (au (λa8=>bt (2,bT a8) (bt (6,bT rfl) (au (λcn=>gE [(9,bT cn),(14,bT rfl)] [(37,bT cn)]) λcn=>bt (9,bF cn) (bS (37,bF cn) (au (λcg=>gE [(14,bT cg)] []) λcg=>gE [(14,bF cg)] []))))) λa8=>bt (2,bF a8) (au (λbG=>bt (6,bT bG) (au (λcf=>gE [(9,bT cf),(14,bT rfl)] [(37,bT cf)]) λcf=>bt (9,bF cf) (bS (37,bF cf) (au (λcP=>gE [(14,bT cP)] []) λcP=>gE [(14,bF cP)] [])))) λbG=>gE [(6,bF bG),(9,uN),(14,bF rfl)] [])) λv8=>bJ λgd=>qn aE (aN (v6+(1:Int))) [[f0 gd],[]])))))
def Ds(N:Nat)(v1:aI):agK aR->Nat->agM Int
 |[],_=>
  some (0:Int)
 |v4::v5,v2=>
  (E0 N v4.ak).bind λv6=>
  Option.bind (bif v6 then(bif (v4.cO.toInt==0)then some true else(bif (decide ((v2:Int)>0))then bif (decide ((0:Int)<=(aN ((v2:Int)-(1:Int)))))then
  Option.bind (v1.xL[((aN ((v2:Int)-(1:Int)))).toNat]?) λv7=>
  some (!(Op.bytesLess (bL v7.ak) (bL v4.ak)))
  else none else some false))else some true) λv8=>
  bif v8 then
   some (1:Int)
  else
   (Ds N v1 v5 (v2+1))
def Ax(N:Nat)(v1:aI):agM Int:=
 Ds N v1 v1.xL 0
theorem Hq{N v1}:KO 115 [(ca v1)] an (Ax N v1):=
 fw Tryz.func115 (gA [[],[(7,oL v1.xL dO)]] (gT ku 6 v1.xL λh2=>dc 1 [] [1,6,7,8] 1 (λv2=>⟨39,[(1,(.ptr 0 0)),(6,(.d (.sl (cw v1.xL)))),(7,(an (v1.xL.length:Int))),(8,(an (v2:Int)))],[.cells (ca v1).cells]⟩) (λv2 h3 f1=>gR [[],[f0 (aU h3)],[]]) (λv2 v4 v5 h3 f1 aE=>gA [[],[t0 (aV h3)],[(4,oE (iY (aL h3)))]] (aq λv6 h4=>gG (λv8=>[(37,(aJ v8))]) (λ_=>[.cells (ca v1).cells, .cells (wD v4).cells]) (bS (7,cK abk h4) (au (λh5=>bt (4,bF (b9 h5)) (au (λh6=>gE [(9,bT h6),(12,uN)] []) λh6=>bt (9,bF h6) (au (λh7=>bq λh9=>aq λv7 h8=>gE [(12,bT h7)] [(52,⟨_,_, .el (xs:=cw v1.xL) (i:=(aN ((v2:Int)-(1:Int)))) (of_decide_eq_true h9) (iY h8)⟩),(70,bT h7)]) λh7=>gE [(12,bF h7)] [(70,bF h7)]))) λh5=>gE [(4,bT (dm h5)),(9,bT rfl),(12,uN)] [])) λv8=>bJ λbo=>gb aE () [[f0 bo],[(2,oq (bk h3 rfl h2))]] h3))))
def Kx(N:Nat)(v1:cC):agM Int:=
 (Ax N v1.aP).bind λv2=>
 some v2
theorem XI{N v1}:KO 69 [(nU v1)] an (Kx N v1):=
 fw Tryz.func69 (aq λv2 h1=>gR [[],[(7,cK Hq h1)]])
def DD(N:Nat)(v3:agK (agL×Int)):agK aR->Nat->agM Int
 |[],_=>
  some (0:Int)
 |v7::v8,v5=>
  bif ((dv v3 v7.ak 0) !=1)then
   some (9:Int)
  else
   (DD N v3 v8 (v5+1))
def uJ(N:Nat)(v1:aI)(v2:aB)(v3:agK (agL×Int)):agM Int:=
 (Ax N v1).bind λv4=>
 bif (v4 !=0)then
  some (1:Int)
 else
  DD N v3 v1.xL 0
theorem HP{N v1 v2 v3}:KP 92 [(.ptr 0 0),(ca v1)] [.cells (dR v2 [(.mp 1)]), .map (dz v3)] an (λ_=>[.cells (dR v2 [(.mp 1)]), .map (dz v3)]) (uJ N v1 v2 v3):=
 fh 2 Tryz.func92 (aq λv4 h1=>gA [[],[(4,cK Hq h1)]] (au (λh2=>gH [[t0 h2],[]]) λh2=>gA [[f0 h2],[(7,oL v1.xL dO)]] (gT ku 11 v1.xL λh4=>dc 1 [] [0,11,12,13] 3 (λv5=>⟨26,[(0,(.ptr 0 0)),(11,(.d (.sl (cw v1.xL)))),(12,(an (v1.xL.length:Int))),(13,(an (v5:Int)))],[.cells (dR v2 [(.mp 1)]), .map (dz v3), .cells (ca v1).cells]⟩) (λv5 h5 f1=>gH [[],[f0 (aU h5)],[]]) (λv5 v7 v8 h5 f1 aE=>gA [[],[t0 (aV h5)],[(1,oE (iY (aL h5)))],[(20,⟨_,_, .eq (Bl false v3 v7.ak)⟩)]] (au (λh6=>gH [[t0 h6],[]]) λh6=>gb aE () [[f0 h6],[(2,oq (bk h5 rfl h4))]] h5)))))
def Dp(N:Nat)(v1:cC)(v2:aB)(v3:agK (agL×Int)):agM Int:=
 (Kx N v1).bind λv4=>
 bif (v4 !=0)then
  some (1:Int)
 else
  (uJ N v1.aP v2 v3).bind λv5=>
  some v5
theorem XE{N v1 v2 v3}:KP 38 [(.ptr 0 0),(nU v1)] [.cells (dR v2 [(.mp 1)]), .map (dz v3)] an (λ_=>[.cells (dR v2 [(.mp 1)]), .map (dz v3)]) (Dp N v1 v2 v3):=
 fh 2 Tryz.func38 (aq λv4 h1=>gA [[],[(4,cK XI h1)]] (au (λh2=>gH [[t0 h2],[]]) λh2=>aq λv5 h3=>gH [[f0 h2],[(10,oQ [(.ptr 0 0),(ca v1.aP)] [.cells (dR v2 [(.mp 1)]), .map (dz v3), .cells (nU v1).cells] [0,1] (HP _ h3))]]))
def Jb(N:Nat)(v1:bz):agM Bool:=
 some ((v1.bO==v1.bO)&&((v1.bZ==0)&&((v1.cu==0)&&((v1.ct==0)&&((v1.cv==0)&&true)))))
theorem aeT{N v1}:KO 122 [(dP v1)] aJ (Jb N v1):=
 fw Tryz.func122 (gR [[],[]])
def Ak(N:Nat)(v1:bz):agM Int:=
 Option.bind (bif (decide (v1.ct>=1))then(bif (decide (v1.ct<=4))then(bif (v1.cv==1)then some true else some (v1.cv==2))else some false)else some false) λv2=>
 Option.bind (bif (v1.bO !=2)then some true else(bif (decide (v1.bZ<2))then some true else(bif (decide (v1.bZ>31))then some true else(bif (decide (v1.cu<0))then some true else(bif (decide (v1.cu>30))then some true else some (!v2)))))) λv3=>
 bif v3 then
  some (10:Int)
 else
  some (0:Int)
theorem Ol{N v1}:KO 123 [(dP v1)] an (Ak N v1):=
 fw Tryz.func123 (gA [[]] (gG (λv2=>[(3,(aJ v2))]) (λ_=>[.cells (dP v1).cells]) (au (λh1=>bt (3,bT h1) (au (λh2=>bt (8,bT h2) (au (λh3=>gE [(12,bT h3)] [(49,bT h3)]) λh3=>gE [(12,bF h3)] [(49,bF h3)])) λh2=>gE [(8,bF h2),(12,uN)] [])) λh1=>gE [(3,bF h1),(8,bF rfl),(12,uN)] []) λv2=>gG (λv3=>[(48,(aJ v3))]) (λ_=>[.cells (dP v1).cells]) (au (λh5=>gE [(3,bT h5),(8,bT rfl),(13,bT rfl),(18,bT rfl),(23,bT rfl)] []) λh5=>bt (3,bF h5) (au (λh6=>gE [(8,bT h6),(13,bT rfl),(18,bT rfl),(23,bT rfl)] []) λh6=>bt (8,bF h6) (au (λh7=>gE [(13,bT h7),(18,bT rfl),(23,bT rfl)] []) λh7=>bt (13,bF h7) (au (λh8=>gE [(18,bT h8),(23,bT rfl)] []) λh8=>bt (18,bF h8) (au (λh9=>gE [(23,bT h9)] []) λh9=>gE [(23,bF h9)] []))))) λv3=>bJ λbo=>gR [[f0 bo],[]]))
def Cn(N:Nat)(v1:bz)(v2:Bool):agM Int:=
 bif v2 then
  (Jb N v1).bind λv3=>
  bif v3 then
   some (0:Int)
  else
   some (10:Int)
 else
  bif (v1.bO==2)then
   (Ak N v1).bind λv4=>
   bif (v4==0)then
    some (0:Int)
   else
    some (10:Int)
  else
   some (10:Int)
def tg(N:Nat)(v1:bz):agM Int:=
 bif (v1.bO==1)then
  Cn N v1 (v1.bO==1)
 else
  Cn N v1 (v1.bO==3)
theorem CZ{N v1}:KO 73 [(dP v1)] an (tg N v1):=
 fw Tryz.func73 (l7 1 [[],[],[]] [1,4,5] 1 (λ(v2:Bool)=>⟨15,[(1,(.ptr 0 0)),(4,(an v1.bO)),(5,(aJ v2))],[.cells (dP v1).cells]⟩) (Cn N v1) (λf1 aE=>au (λh7=>gm aE (v1.bO==1) [[t0 h7]]) λh7=>gm aE (v1.bO==3) [[f0 h7],[]]) (λv2=>au (λh1=>aq λv3 h2=>gA [[t0 h1],[(4,cK aeT h2)]] (bJ λh3=>gR [[f0 h3],[]])) λh1=>gA [[f0 h1],[]] (kO λh4=>aq λv4 h5=>gA [[t0 h4],[(4,cK Ol h5)]] (bJ λh6=>gR [[f0 h6],[]]))))
def AN(N:Nat):agK Int->Nat->Int->agM Int
 |[],_,v7=>
  some v7
 |v5::v6,v3,v7=>
  (λig=>AN N v6 (v3+1) ig) (if v5>v7 then v5 else v7)
def Hu(N:Nat)(v1:agK Int):agM Int:=
 Option.bind (v1[0]?) λv2=>
 AN N (v1.drop 1) 1 v2
def An(N:Nat)(v1:agK Int):agM Int:=
 bif (decide ((v1.length:Int)<1))then
  none
 else
  Hu N v1
theorem aeC{N v1 r}(U:An N v1=some r):KF 140 [(.d (.sl (lP v1)))] (an r):=by
 rw[An]at U;refine FP Tryz.func140 ?_;refine wj0 dG r 1 [[],[(4,oL v1 E2)]] [0] 0 ⟨25,[(0,(.d (.sl (lP v1))))],[]⟩ (Hu N v1) ?_ ?_
 ·intro f1 aE;apply bc U<;>intro h5 U
  ·cases U
  exact S7 dG aE () [[(0,bF h5)]] U
 intro U;rw[Hu]at U;obtain⟨v2,h1,U⟩:=gL U;refine uh dG [[(4,oE (k:=0) (Nr h1))],[]] ?_;refine Cm acP 0 v1 λh3=> ?_;refine KT dG 2 [] [0,3,4] 0 (λ((v3,v4,v7):Nat×(agK Int)×Int)=>⟨25,[(0,(.d (.sl (lP v1)))),(3,(an v7)),(4,(an (v3:Int)))],[]⟩) (λ((v3,v4,v7):Nat×(agK Int)×Int)=>v1.drop v3=v4/\AN N v4 v3 v7=some r) (λ((v3,v4,v7):Nat×(agK Int)×Int)=>v4.length) (1,(v1.drop 1),v2) ⟨rfl,U⟩ ?_;rintro⟨v3,v4,v7⟩ ⟨h4,U⟩ f2 de;cases v4 with
 |nil=>
  rw[AN]at U;cases U;exact wr dG [[(7,oL v1 E2)],[(0,bF (aU h4))],[]]
 |cons v5 v6=>
  rw[AN]at U;exact Ku dG de (v3+1,v6,(if v5>v7 then v5 else v7)) [[(7,oL v1 E2)],[(0,bT (aV h4))],[(10,oE (Nr (aL h4)))],[(5,oq (bk h4 rfl h3))]] ⟨pL h4,U⟩
def tX(N:Nat)(v1:bz)(v2:agK Int):agM Int:=
 (tg N v1).bind λv3=>
 bif (v3 !=0)then
  some (10:Int)
 else
  (An N v2).bind λv4=>
  bif (decide (v4>6))then
   some (11:Int)
  else
   some (0:Int)
theorem L5{N v1 v2}:KO 93 [(dP v1),(.d (.sl (lP v2)))] an (tX N v1 v2):=
 fw Tryz.func93 (aq λv3 h1=>gA [[],[(4,cK CZ h1)]] (bJ λh2=>aq λv4 h3=>gA [[f0 h2],[(4,cL (aeC h3))]] (bJ λh4=>gR [[f0 h4],[]])))
def BW(N:Nat)(v4:Int×(agK (agL×Int)))(v2:aB):agK aI->Nat->agM (Int×(agK (agL×Int)))
 |[],_=>
  some ((0:Int),v4.2)
 |v8::v9,v6=>
  (uJ N v8 v2 v4.2).bind λv10=>
  bif (v10 !=0)then
   some (v10,v4.2)
  else
   (BW N v4 v2 v9 (v6+1))
def EO(N:Nat)(v1:ck)(v2:aB)(v3:agK (agL×Int)):agM (Int×(agK (agL×Int))):=
 Option.bind (vH N v1.ak (2:Int) v2 v3) λv4=>
 bif (v4.1 !=0)then
  some (v4.1,v4.2)
 else
  Option.bind (tX N v1.aH ([(v1.aK.length:Int)])) λv5=>
  bif (v5 !=0)then
   some (v5,v4.2)
  else
   BW N v4 v2 v1.aK 0
def wx(v2:aB)(l:agK aj):agK aj:= .cells (dR v2 [(.mp 1)])::l
theorem YJ{N v1 v2 v3}:KP 39 [(.ptr 0 0),(oB v1)] [.cells (dR v2 [(.mp 1)]), .map (dz v3)] (λr=>an r.1) (λr=>[.cells (dR v2 [(.mp 1)]), .map (dz r.2)]) (EO N v1 v2 v3):=
 fh 2 Tryz.func39 (aq λv4 h1=>gA [[],[(10,oR [(.ptr 0 0),(bu v1.ak),(an (2:Int))] (wx v2 [.map (dz v3), .cells (oB v1).cells]) [0,1] (Ja _ h1))],[]] (au (λh2=>gH [[t0 h2],[]]) λh2=>aq λv5 h3=>gA [[f0 h2],[(13,oL v1.aK dC),(19,cK L5 h3)],[]] (au (λh4=>gH [[t0 h4],[]]) λh4=>gA [[f0 h4],[(7,oL v1.aK dC)]] (gT j9 28 v1.aK λh6=>dc 1 [] [0,28,29,30] 3 (λv6=>⟨41,[(0,(.ptr 0 0)),(28,(.d (.sl (cV v1.aK)))),(29,(an (v1.aK.length:Int))),(30,(an (v6:Int)))],(wx v2 [.map (dz v4.2), .cells (oB v1).cells])⟩) (λv6 h7 f1=>gH [[],[f0 (aU h7)],[]]) (λv6 v8 v9 h7 f1 aE=>aq λv10 h8=>gA [[],[t0 (aV h7)],[(1,oE (kS (aL h7)))],[(7,oQ [(.ptr 0 0),(ca v8)] (wx v2 [.map (dz v4.2), .cells (oB v1).cells, .cells (ca v8).cells]) [0,1] (HP _ h8))],[]] (au (λh9=>gH [[t0 h9],[]]) λh9=>gb aE () [[f0 h9],[(2,oq (bk h7 rfl h6))]] h7))))))
def KC(N:Nat)(v1:Int):agM Unit:=bif decide ((0:Int)<=v1)&&Nat.ble (v1.toNat*48) 140737488355328 then some ()else none
theorem afp{N v1 r}(U:KC N v1=some r):b5 Tryz.prog 153 [.d (.v (.slice none 0 0)),(an v1)] [] λr1 h1=>r1= .own 0 []/\h1=[.front 72 3 0]:=by
 obtain⟨hb,_⟩:=di U;rw[afX]at hb;have e:Int.ofNat v1.toNat=v1:=Int.toNat_of_nonneg (of_decide_eq_true hb.1);have h:=ac9 hb.2;rw[e]at h;exact h
def sy(N:Nat):agK (agK bH)->Nat->(agK bH)->agM ((agK bH))
 |[],_,v12=>
  some v12
 |v10::v11,v8,v12=>
  bif (Nat.ble ((v12.length+v10.length)*48) 140737488355328)then
  (λig=>sy N v11 (v8+1) ig) (v12++v10)
  else none
def rL(N:Nat)(v1:agK (agK bH)):agK (agK bH)->Nat->Int->agM ((agK bH))
 |[],_,v6=>
  (KC N v6).bind λv7=>
  sy N v1 0 []
 |v4::v5,v2,v6=>
  bif (decide ((aN (v6+(v4.length:Int)))<0))then
   none
  else
   (λbV=>rL N v1 v5 (v2+1) bV) (aN (v6+(v4.length:Int)))
def wy(N:Nat)(v1:agK (agK bH)):agM ((agK bH)):=
 rL N v1 v1 0 (0:Int)
theorem NW{N v1 r}(U:wy N v1=some r):KF 104 [(.d (.sl (lX v1)))] (.d (.sl (dD r))):=by
 rw[wy]at U;refine FP Tryz.func104 ?_;refine uh dG [[],[],[(4,oL v1 J5)]] ?_;refine Cm OC 0 v1 λh2=> ?_;refine KB dG 1 [] [0,3,9,10,11] 0 v1 (λv2(v6:Int)=>⟨36,[(0,(.d (.sl (lX v1)))),(3,(an v6)),(9,(.d (.sl (lX v1)))),(10,(an (v1.length:Int))),(11,(an (v2:Int)))],[]⟩) (rL N v1) (0:Int) U ?_ ?_
 ·intro v2 v6 h3 U f1;rw[rL]at U;obtain⟨v7,h4,U⟩:=gL U;refine uh dG [[],[(0,bF (aU h3))],[(4,⟨_,_, .iq (afp h4)⟩)],[(4,oL v1 J5)]] ?_;refine Cm OC 0 v1 λh6=> ?_;refine KB dG 2 [] [6,25,26,27] 1 v1 (λv8(v12:agK bH)=>⟨36,[(6,(.own 0 (dD v12))),(25,(.d (.sl (lX v1)))),(26,(an (v1.length:Int))),(27,(an (v8:Int)))],[.front 72 3 v12.length]⟩) (sy N) [] U ?_ ?_
  ·intro v8 v12 h7 U f2;rw[sy]at U;cases U;exact wr dG [[],[(0,bF (aU h7))],[]]
  intro v8 v10 v11 v12 h7 U f2 de;rw[sy]at U;obtain⟨h8,U⟩:=wC U;exact wb dG de (v12++v10) [[],[(0,bT (aV h7))],[(1,oE (MV (aL h7)))],[(7,oA ji v12 v10 h8)],[(2,oq (bk h7 rfl h6))]] h7 U
 intro v2 v4 v5 v6 h3 U f1 aE;rw[rL]at U;refine uh dG [[],[(0,bT (aV h3))],[(1,oE (MV (aL h3)))],[(7,oL v4 dW)],[]] ?_;apply bc U<;>intro h9 U
 ·cases U
 exact wb dG aE (aN (v6+(v4.length:Int))) [[(0,bF h9)],[(2,oq (bk h3 rfl h2))]] h3 U
def Fy(N:Nat)(v3:agK (agL×Int))(v2:aB):agK bH->Nat->(agK (agL×Bool))->agM Int
 |[],_,_=>
  some (0:Int)
 |v7::v8,v5,v9=>
  (tb N v7.ak).bind λv10=>
  bif v10 then
   Option.bind (bif (dv v9 v7.ak false)then some true else some ((dv v3 v7.ak 0)==1)) λv11=>
   bif v11 then
    some (8:Int)
   else
    bif (Nat.blt v9.length 9223372036854775807)then
    (uJ N v7.cU v2 v3).bind λv12=>
    bif (v12 !=0)then
     some v12
    else
     (λbV=>Fy N v3 v2 v8 (v5+1) bV) ((v7.ak,true)::v9)
    else none
  else
   some (7:Int)
def E7(N:Nat)(v1:aT)(v2:aB)(v3:agK (agL×Int)):agM Int:=
 Option.bind (wy N ([v1.aK,v1.bx])) λv4=>
 Fy N v3 v2 v4 0 []
def pn(v2:aB)(v3:agK (agL×Int))(v1:aT)(l:agK aj):agK aj:= .cells (dR v2 [(.mp 1)]):: .map (dz v3):: .cells (ej v1).cells::l
theorem V0{N v1 v2 v3}:KP 94 [(.ptr 0 0),(ej v1)] [.cells (dR v2 [(.mp 1)]), .map (dz v3)] an (λ_=>[.cells (dR v2 [(.mp 1)]), .map (dz v3)]) (E7 N v1 v2 v3):=
 fh 2 Tryz.func94 (aq λv4 h1=>gA [[],[],[(16,cL (NW h1)),(19,oL v4 dW)]] (gT ji 15 v4 λh3=>eY 1 [] [0,5,15,16,17] 4 (λv5(v9:agK (agL×Bool))=>⟨52,[(0,(.ptr 0 0)),(5,(.mp 3)),(15,(.d (.sl (dD v4)))),(16,(an (v4.length:Int))),(17,(an (v5:Int)))],(pn v2 v3 v1 [.map (wN v9)])⟩) (λv5 v9 h4 f1=>gH [[],[f0 (aU h4)],[]]) (λv5 v7 v8 v9 h4 f1 aE=>aq λv10 h5=>gA [[],[t0 (aV h4)],[(1,oE (iX (aL h4)))],[(7,cK F9 h5)]] (au (λh6=>gA [[f0 (b9 h6)]] (gG (λv11=>[(26,(aJ v11))]) (λ_=>(pn v2 v3 v1 [.map (wN v9), .cells (yZ v7).cells])) (bS (11,⟨_,_, .eq (UA false v9 v7.ak)⟩) (au (λh7=>gE [(4,bT h7)] []) λh7=>gE [(4,bF h7)] [(35,⟨_,_, .eq (Bl false v3 v7.ak)⟩)])) λv11=>au (λh9=>gH [[t0 h9],[]]) λh9=>bq λbn=>aq λv12 bo=>gA [[f0 h9],[(10,⟨_,_, .sd (o:= .none) (Yt bn)⟩)],[(10,oQ [(.ptr 0 0),(ca v7.cU)] (pn v2 v3 v1 [.map (wN ((v7.ak,true)::v9)), .cells (yZ v7).cells]) [0,1] (HP _ bo))],[]] (au (λa8=>gH [[t0 a8],[]]) λa8=>gb aE ((v7.ak,true)::v9) [[f0 a8],[(2,oq (bk h4 rfl h3))]] h4))) λh6=>gH [[t0 (dm h6)],[]]))))
def vC(N:Nat)(v1:aT)(v2:Bool):agM Int:=
 bif v2 then
  bif ((v1.bx.length:Int)==0)then
   some (11:Int)
  else
   some (0:Int)
 else
  bif (v1.dd==5)then
   Option.bind (bif (decide ((v1.bx.length:Int)>0))then some true else some ((v1.aK.length:Int)==0)) λv3=>
   bif v3 then
    some (11:Int)
   else
    some (0:Int)
  else
   some (1:Int)
def FT(N:Nat)(v1:aT):agM Int:=
 bif (v1.dd==0)then
  bif (decide ((v1.bx.length:Int)>0))then
   some (11:Int)
  else
   some (0:Int)
 else
  bif (v1.dd==1)then
   vC N v1 (v1.dd==1)
  else
   bif (v1.dd==2)then
    vC N v1 (v1.dd==2)
   else
    bif (v1.dd==3)then
     vC N v1 (v1.dd==3)
    else
     vC N v1 (v1.dd==4)
theorem abm{N v1}:KO 95 [(ej v1)] an (FT N v1):=
 fw Tryz.func95 (gA [[],[],[]] (au (λh1=>gA [[t0 h1],[(7,oL v1.bx dW)]] (bJ λh2=>gR [[f0 h2],[]])) λh1=>l7 1 [[f0 h1],[]] [1,4,11] 1 (λ(v2:Bool)=>⟨32,[(1,(.ptr 0 0)),(4,(an v1.dd)),(11,(aJ v2))],[.cells (ej v1).cells]⟩) (vC N v1) (λf1 aE=>au (λh9=>gm aE (v1.dd==1) [[t0 h9]]) λh9=>gA [[f0 h9],[]] (au (λbn=>gm aE (v1.dd==2) [[t0 bn]]) λbn=>gA [[f0 bn],[]] (au (λbo=>gm aE (v1.dd==3) [[t0 bo]]) λbo=>gm aE (v1.dd==4) [[f0 bo],[]]))) (λv2=>au (λh3=>gA [[t0 h3],[(7,oL v1.bx dW)]] (bJ λh4=>gR [[f0 h4],[]])) λh3=>gA [[f0 h3],[]] (kO λh5=>gA [[t0 h5]] (gG (λv3=>[(31,(aJ v3))]) (λ_=>[.cells (ej v1).cells]) (bS (7,oL v1.bx dW) (au (λh6=>gE [(4,bT h6)] []) λh6=>gE [(4,bF h6)] [(22,oL v1.aK dW)])) λv3=>bJ λh8=>gR [[f0 h8],[]])))))
def w8(N:Nat):agK bH->Nat->(agK agL)->agM ((agK agL))
 |[],_,v7=>
  some v7
 |v5::v6,v3,v7=>
  bif (Nat.ble ((v7.length+1)*16) 140737488355328)then
  (λbV=>w8 N v6 (v3+1) bV) (v7++[v5.ak])
  else none
def AA(N:Nat)(v1:aT):agM ((agK agL)):=
 Option.bind (wy N ([v1.aK,v1.bx])) λv2=>
 w8 N v2 0 []
theorem QV{N v1}:KO 55 [(ej v1)] (λr=> .d (.sl (bD r))) (AA N v1):=
 fw Tryz.func55 (aq λv2 h1=>gA [[],[],[(16,cL (NW h1)),(19,oL v2 dW)]] (li (λ_=>(jw 3 9 1 [] (.inr (by kernel_rfl)) ·)) (gT ji 11 v2 λh3=>eY 1 [] [3,11,12,13] 2 (λv3(v7:agK agL)=>⟨24,[(3,(.own 1 (bD v7))),(11,(.d (.sl (dD v2)))),(12,(an (v2.length:Int))),(13,(an (v3:Int)))],[.cells (ej v1).cells, .front 9 1 v7.length]⟩) (λv3 v7 h4 f1=>gR [[],[f0 (aU h4)],[]]) (λv3 v5 v6 v7 h4 f1 aE=>bq λh5=>gb aE (v7++[v5.ak]) [[],[t0 (aV h4)],[(1,oE (iX (aL h4)))],[(13,oA dU v7 ([v5.ak]) h5)],[(2,oq (bk h4 rfl h3))]] h4))))
def Ey(N:Nat)(PE:ao->Int->agM Int)(v2:Int):agK ao->Nat->Int->agM Int
 |[],_,v7=>
  some v7
 |v5::v6,v3,v7=>
  Option.bind (PE v5 (aN (v2-(1:Int)))) λv8=>
  (λbV=>Ey N PE v2 v6 (v3+1) bV) (if(aN ((1:Int)+v8))>v7 then(aN ((1:Int)+v8))else v7)
def nt(N:Nat):Nat->ao->Int->agM Int
 |0,_,_=>none
 |d+1,v1,v2=>
  bif (decide (v2<=1))then
   some v2
  else
   Ey N (nt N d) v2 v1.ba 0 (1:Int)
def Kq(N:Nat)(v1:ao)(v2:Int):agM Int:=nt N N v1 v2
theorem TS(N:Nat):∀d:Nat,(∀{v1:ao}{v2:Int},KO 196 [(aO v1),(an v2)] an (nt N d v1 v2)):=by
 intro d
 induction d with
 |zero=>intro v1 v2 r U;rw[nt]at U;cases U
 |succ d ih=>
  have WD:= @ih;intro v1 v2;rw[nt];exact fw Tryz.func196 (gA [[],[]] (bJ λh1=>gA [[(0,bF h1)],[],[(7,oL v1.ba eX)]] (gT jM 12 v1.ba λh3=>eY 1 [] [1,5,12,13,14] 1 (λv3(v7:Int)=>⟨27,[(1,(an v2)),(5,(an v7)),(12,(.d (.sl (et v1.ba)))),(13,(an (v1.ba.length:Int))),(14,(an (v3:Int)))],[.cells (aO v1).cells]⟩) (λv3 v7 h4 f1=>gR [[],[(0,bF (aU h4))],[]]) (λv3 v5 v6 v7 h4 f1 aE=>aq λv8 h5=>gb aE (if(aN ((1:Int)+v8))>v7 then(aN ((1:Int)+v8))else v7) [[],[(0,bT (aV h4))],[(1,oE (j6 (aL h4)))],[(13,cK WD h5)],[(2,oq (bk h4 rfl h3))]] h4))))
theorem Xu{N v1 v2}:KO 196 [(aO v1),(an v2)] an (Kq N v1 v2):=(TS N N)
def KJ(N:Nat)(v1:ao):agM Int:=
 Option.bind (Kq N v1 (41:Int)) λv2=>
 some v2
theorem ad4{N v1}:KO 166 [(aO v1)] an (KJ N v1):=
 fw Tryz.func166 (aq λv2 h1=>gR [[],[(4,cK Xu h1)]])
def Du(N:Nat)(v1:ao):agM ao:=some v1
theorem Rk{N v1 r}(U:Du N v1=some r):gj Tryz.prog 168 [(aO v1)] (·=(.fn 197 [(.aY [dF r] 0 0)])):=by
 cases U;exact Xr v1
def q8(N:Nat):agK ao->Int->agM Int
 |[],v3=>
  some v3
 |_::v5,v3=>
  bif (decide ((aN (v3+(1:Int)))>2000))then
   some (aN (v3+(1:Int)))
  else
   (λbV=>q8 N v5 bV) (aN (v3+(1:Int)))
def xV(N:Nat)(v1:ao):agM Int:=
 (Du N v1).bind λv2=>
 q8 N (c9 v2) (0:Int)
def nM(v1:ao)(v3:Int)(l:agK aj):agK aj:= .cells (aO v1).cells:: .cells [(an (aN (v3+(1:Int))))]::l
def yz(v1:ao)(v3:Int)(l:agK aj):agK aj:= .cells (aO v1).cells:: .cells [(an v3)]::l
def Kh(v1:ao)(l:agK aj):agK aj:= .cells (aO v1).cells:: .cells [(an (0:Int))]::l
theorem VW{N v1 r}(U:xV N v1=some r):KF 167 [(aO v1)] (an r):=by
 rw[xV]at U;refine yR Tryz.func167 rfl (by kernel_rfl) ?_;refine jG [0] 0 (af6 _) (s':=⟨12,[(0,(aO v1))],[]⟩) (by kernel_rfl) ?_;refine bA ?_;refine rg [] [(1,(.ptr 0 0))] [.cells (aO v1).cells] (by kernel_rfl) ?_;refine bA ?_;refine rg [] [(3,(.ptr 1 0))] (Kh v1 []) (by kernel_rfl) ?_;refine bA ?_;refine bA ?_;obtain⟨v2,h1,U⟩:=gL U;refine rg [(4,cL (Rk h1))] [(5,(.fn 197 [(.aY [dF v2] 0 0)]))] (Kh v1 []) (by kernel_rfl) ?_;refine iS ?_;refine jG [3,5] 2 (af3 rfl) (s':=⟨12,[(3,(.ptr 1 0)),(5,(.fn 197 [(.aY [dF v2] 0 0)]))],(Kh v1 [])⟩) (by kernel_rfl) ?_;refine Jv (m:=2) (enc:=aO) (xs:=(c9 v2)) (by kernel_rfl) (Mv v2) (λ(v3:Int)=>(yz v1 v3 [])) (λ(v3:Int) l=>q8 N l v3=some r) (0:Int) (by kernel_rfl) U (by rintro v3;rfl) (by rintro v3;kernel_rfl) (by kernel_rfl) rfl ?_ ?_
 ·rintro v3 v4 v5 U h2 ij iw
  try dsimp only at U
  rw[q8]at U;refine jG [3] 3 (af6 _) (s':=⟨12,[(3,(.ptr 1 0))],(yz v1 v3 [.lp .ready 6 ij iw (dh 12 [(3,(.ptr 1 0)),(5,(.fn 197 [(.aY [dF v2] 0 0)]))])])⟩) (by kernel_rfl) ?_;refine gQ ?_;refine cT ?_;refine⟨(yz v1 v3 []),[],rfl,(by kernel_rfl),?_⟩;refine jG [3] 3 (af3 rfl) (s':=⟨12,[(3,(.ptr 1 0))],(yz v1 v3 [.lp .busy 6 ij iw (dh 12 [(3,(.ptr 1 0)),(5,(.fn 197 [(.aY [dF v2] 0 0)]))])])⟩) (by kernel_rfl) ?_;refine iS ?_;refine bA ?_;refine rg [] [] (nM v1 v3 [.lp .busy 6 ij iw (dh 12 [(3,(.ptr 1 0)),(5,(.fn 197 [(.aY [dF v2] 0 0)]))])]) (by kernel_rfl) ?_;refine bA ?_;refine rg [] [(10,(aJ (decide ((aN (v3+(1:Int)))>2000))))] (nM v1 v3 [.lp .busy 6 ij iw (dh 12 [(3,(.ptr 1 0)),(5,(.fn 197 [(.aY [dF v2] 0 0)]))])]) (by kernel_rfl) ?_;rcases my (decide ((aN (v3+(1:Int)))>2000))with h3|h3
  ·replace U:=(kx h3).symm.trans U;refine lO (t:=(decide ((aN (v3+(1:Int)))>2000))) (by kernel_rfl) h3 ?_;refine qQ (acd rfl ?_);refine adg (nM v1 v3 []) rfl (by kernel_rfl) (by kernel_rfl) ?_;refine(A3 rfl ?_);refine cT ?_;refine bA ?_;refine rg [] [(2,(an (aN (v3+(1:Int)))))] (nM v1 v3 [.gone]) (by kernel_rfl) ?_;refine e7 ?_;have hr:=age U;subst hr;exact jJ (by kernel_rfl)
  replace U:=(mW h3).symm.trans U;refine lk (t:=(decide ((aN (v3+(1:Int)))>2000))) (by kernel_rfl) h3 ?_;refine gQ ?_;refine mA ?_;refine H8 (nM v1 v3 []) rfl (by kernel_rfl) (by kernel_rfl) ?_;exact⟨(aN (v3+(1:Int))),(by kernel_rfl),U⟩
 rintro v3 U
 try dsimp only at U
 rw[q8]at U;refine mA ?_;refine cT ?_;refine bA ?_;refine rg [] [(2,(an v3))] (yz v1 v3 [.gone]) (by kernel_rfl) ?_;refine e7 ?_;have hr:=age U;subst hr;exact jJ (by kernel_rfl)
def zu(N:Nat)(v1:aI):agM Bool:=
 Option.bind (bif (v1.xK.toInt==0)then some ((v1.xL.length:Int)==0)else some false) λv2=>
 some v2
theorem M0{N v1}:KO 230 [(ca v1)] aJ (zu N v1):=
 fw Tryz.func230 (gA [[]] (gG (λv2=>[(2,(aJ v2))]) (λ_=>[.cells (ca v1).cells]) (au (λh1=>gE [(3,bT h1)] [(19,oL v1.xL dO)]) λh1=>gE [(3,bF h1)] []) λv2=>gR []))
def Ec(N:Nat)(v1:bl):agM Bool:=
 bif (bL v1.b7==bL (bs []))then
  some ((v1.bK.length:Int)==0)
 else
  (zu N v1.aP).bind λv2=>
  some v2
theorem acy{N v1}:KO 233 [(fP v1)] aJ (Ec N v1):=
 fw Tryz.func233 (gA [[],[]] (au (λh1=>gR [[t0 h1],[(7,oL v1.bK dC)]]) λh1=>aq λv2 h2=>gR [[f0 h1],[(7,cK M0 h2)]]))
def Kw(N:Nat)(v1:bl):agM Bool:=
 (Ec N v1).bind λv2=>
 some (!v2)
theorem Zg{N v1}:KO 232 [(fP v1)] aJ (Kw N v1):=
 fw Tryz.func232 (aq λv2 h1=>gR [[],[(4,cK acy h1)]])
def Ej(N:Nat):agK bl->Nat->agM Int
 |[],_=>
  some (-1:Int)
 |v4::v5,v2=>
  (Kw N v4).bind λv6=>
  bif v6 then
   some (v2:Int)
  else
   (Ej N v5 (v2+1))
def JS(N:Nat)(v1:agK bl):agM Int:=
 Ej N v1 0
theorem Vo{N v1}:KP 255 [(.d (.sl (cE v1))),(.fn 232 [])] [] an (λ_=>[]) (JS N v1):=
 fh 0 Tryz.func255 (gA [[],[(4,oL v1 ee)]] (gT jO 0 v1 λh2=>dc 1 [] [0,1,7,8] 0 (λv2=>⟨19,[(0,(.d (.sl (cE v1)))),(1,(.fn 232 [])),(7,(an (v1.length:Int))),(8,(an (v2:Int)))],[]⟩) (λv2 h3 f1=>gH [[],[f0 (aU h3)],[]]) (λv2 v4 v5 h3 f1 aE=>aq λv6 h4=>gA [[],[t0 (aV h3)],[],[(10,oE (ff (aL h3))),(16,cK Zg h4)]] (au (λh5=>gH [[t0 h5],[]]) λh5=>gb aE () [[f0 h5],[(2,oq (bk h3 rfl h2))]] h3))))
def Cb(N:Nat)(v1:agK bl):agM Bool:=
 (JS N v1).bind λv2=>
 some (decide (v2>=0))
theorem aaZ{N v1}:KP 231 [(.d (.sl (cE v1))),(.fn 232 [])] [] aJ (λ_=>[]) (Cb N v1):=
 fh 0 Tryz.func231 (aq λv2 h1=>gH [[],[(7,oQ [(.d (.sl (cE v1))),(.fn 232 [])] [] [] (Vo _ h1))]])
def BR(N:Nat)(v1:ao):agM Bool:=
 Option.bind (bif (v1.aM==1)then some true else some (v1.aM==12)) λv2=>
 Option.bind (bif (decide (v1.aM<1))then some true else some (decide (v1.aM>18))) λv3=>
 bif v3 then
  some false
 else
  Option.bind (bif (v1.aM==1)then some false else some (!((v1.dL.xN.toInt==(0:Int64).toInt)&&((v1.dL.xD.toInt==(0:Int64).toInt)&&true)))) λv4=>
  bif v4 then
   some false
  else
   Option.bind (bif v2 then some false else some (!((v1.aH.bO==0)&&((v1.aH.bZ==0)&&((v1.aH.cu==0)&&((v1.aH.ct==0)&&((v1.aH.cv==0)&&true))))))) λv5=>
   bif v5 then
    some false
   else
    Option.bind (bif (v1.aM==2)then some false else (zu N v1.aP).bind λv6=>
    some (!v6)) λv7=>
    bif v7 then
     some false
    else
     Option.bind (bif (v1.aM==3)then some false else(bif (bL v1.ak==bL (bs []))then some (decide ((v1.xIdx.length:Int)>0))else some true)) λv8=>
     bif v8 then
      some false
     else
      (Cb N v1.xIdx).bind λv9=>
      some (!v9)
def tf(v1:ao)(l:agK aj):agK aj:= .cells (aO v1).cells::l
theorem aaP{N v1}:KO 199 [(aO v1)] aJ (BR N v1):=
 fw Tryz.func199 (gA [[]] (gG (λv2=>[(3,(aJ (v1.aM==1))),(4,(aJ v2))]) (λ_=>(tf v1 [])) (au (λh1=>gE [(6,bT h1)] []) λh1=>gE [(6,bF h1)] []) λv2=>gA [[]] (gG (λv3=>[(24,(aJ v3))]) (λ_=>(tf v1 [])) (au (λh3=>gE [(3,bT h3)] []) λh3=>gE [(3,bF h3)] []) λv3=>bJ λh5=>gA [[f0 h5]] (gG (λv4=>[(33,(aJ v4))]) (λ_=>(tf v1 [])) (au (λh6=>gE [(2,bF (b9 h6))] []) λh6=>gE [(2,bT (dm h6))] []) λv4=>bJ λh8=>gA [[f0 h8]] (gG (λv5=>[(42,(aJ v5))]) (λ_=>(tf v1 [])) (au (λh9=>gE [(2,bF (b9 h9))] []) λh9=>gE [(2,bT (dm h9))] []) λv5=>bJ λbo=>gA [[f0 bo]] (gG (λv7=>[(51,(aJ v7))]) (λ_=>(tf v1 [])) (au (λa8=>gE [(2,bF (b9 a8))] []) λa8=>aq λv6 cn=>gE [(2,bT (dm a8))] [(16,cK M0 cn)]) λv7=>bJ λbG=>gA [[f0 bG]] (gG (λv8=>[(60,(aJ v8))]) (λ_=>(tf v1 [])) (au (λcf=>gE [(2,bF (b9 cf)),(6,uN)] []) λcf=>bt (2,bT (dm cf)) (au (λcP=>gE [(6,bF (b9 cP))] [(28,oL v1.xIdx ee),(34,bF (b9 cP))]) λcP=>gE [(6,bT (dm cP))] [(34,bT (dm cP))])) λv8=>bJ λgd=>aq λv9 du=>gR [[f0 gd],[(7,oQ [(.d (.sl (cE v1.xIdx))),(.fn 232 [])] (tf v1 []) [] (aaZ _ du))]])))))))
def EY(N:Nat)(v1:bl):agM Bool:=
 Option.bind (bif (bL v1.b7==bL (bs []))then some false else (tb N v1.b7).bind λv2=>
 some (!v2)) λv3=>
 some v3
theorem T5{N v1}:KO 234 [(fP v1)] aJ (EY N v1):=
 fw Tryz.func234 (gA [[]] (gG (λv3=>[(2,(aJ v3))]) (λ_=>[.cells (fP v1).cells]) (au (λh1=>gE [(3,bF (b9 h1))] []) λh1=>aq λv2 h2=>gE [(3,bT (dm h1))] [(19,cK F9 h2)]) λv3=>gR []))
def Ef(N:Nat):agK bl->Nat->agM Int
 |[],_=>
  some (-1:Int)
 |v4::v5,v2=>
  (EY N v4).bind λv6=>
  bif v6 then
   some (v2:Int)
  else
   (Ef N v5 (v2+1))
def Ki(N:Nat)(v1:agK bl):agM Int:=
 Ef N v1 0
theorem abd{N v1}:KP 255 [(.d (.sl (cE v1))),(.fn 234 [])] [] an (λ_=>[]) (Ki N v1):=
 fh 0 Tryz.func255 (gA [[],[(4,oL v1 ee)]] (gT jO 0 v1 λh2=>dc 1 [] [0,1,7,8] 0 (λv2=>⟨19,[(0,(.d (.sl (cE v1)))),(1,(.fn 234 [])),(7,(an (v1.length:Int))),(8,(an (v2:Int)))],[]⟩) (λv2 h3 f1=>gH [[],[f0 (aU h3)],[]]) (λv2 v4 v5 h3 f1 aE=>aq λv6 h4=>gA [[],[t0 (aV h3)],[],[(10,oE (ff (aL h3))),(16,cK T5 h4)]] (au (λh5=>gH [[t0 h5],[]]) λh5=>gb aE () [[f0 h5],[(2,oq (bk h3 rfl h2))]] h3))))
def JC(N:Nat)(v1:agK bl):agM Bool:=
 (Ki N v1).bind λv2=>
 some (decide (v2>=0))
theorem aaU{N v1}:KP 231 [(.d (.sl (cE v1))),(.fn 234 [])] [] aJ (λ_=>[]) (JC N v1):=
 fh 0 Tryz.func231 (aq λv2 h1=>gH [[],[(7,oQ [(.d (.sl (cE v1))),(.fn 234 [])] [] [] (abd _ h1))]])
def B6(N:Nat)(v1:ao):agM Bool:=
 Option.bind (bif (v1.aM==3)then (tb N v1.ak).bind λv2=>
 some (!v2)else some false) λv3=>
 bif v3 then
  some false
 else
  (JC N v1.xIdx).bind λv4=>
  some (!v4)
theorem acH{N v1}:KO 200 [(aO v1)] aJ (B6 N v1):=
 fw Tryz.func200 (gA [[]] (gG (λv3=>[(11,(aJ v3))]) (λ_=>[.cells (aO v1).cells]) (au (λh1=>aq λv2 h2=>gE [(3,bT h1)] [(19,cK F9 h2)]) λh1=>gE [(3,bF h1)] []) λv3=>bJ λh4=>aq λv4 h5=>gR [[f0 h4],[(7,oQ [(.d (.sl (cE v1.xIdx))),(.fn 234 [])] [.cells (aO v1).cells] [] (aaU _ h5))]]))
def As(N:Nat)(v1:Int)(v3:Bool):agM Int:=
 bif v3 then
  some (1:Int)
 else
  bif (v1==11)then
   some (3:Int)
  else
   some (2:Int)
def A5(N:Nat)(v1:Int)(v2:Bool):agM Int:=
 bif v2 then
  some (0:Int)
 else
  bif (v1==8)then
   As N v1 (v1==8)
  else
   bif (v1==12)then
    As N v1 (v1==12)
   else
    As N v1 (v1==18)
def FI(N:Nat)(v1:Int):agM Int:=
 bif (v1==1)then
  A5 N v1 (v1==1)
 else
  bif (v1==2)then
   A5 N v1 (v1==2)
  else
   A5 N v1 (v1==3)
theorem Xm{N v1}:KO 235 [(an v1)] an (FI N v1):=
 fw Tryz.func235 (l7 1 [[],[],[]] [3,4] 0 (λ(v2:Bool)=>⟨14,[(3,(an v1)),(4,(aJ v2))],[]⟩) (A5 N v1) (λf1 aE=>au (λh6=>gm aE (v1==1) [[t0 h6]]) λh6=>gA [[f0 h6],[]] (au (λh7=>gm aE (v1==2) [[t0 h7]]) λh7=>gm aE (v1==3) [[f0 h7],[]])) (λv2=>bJ λh1=>l7 2 [[f0 h1],[]] [3,8] 0 (λ(v3:Bool)=>⟨14,[(3,(an v1)),(8,(aJ v3))],[]⟩) (As N v1) (λf2 de=>au (λh4=>gm de (v1==8) [[t0 h4]]) λh4=>gA [[f0 h4],[]] (au (λh5=>gm de (v1==12) [[t0 h5]]) λh5=>gm de (v1==18) [[f0 h5],[]])) (λv3=>fW λ_=>bJ λh3=>gR [[f0 h3],[]])))
def Kk(N:Nat)(v1:bl):agM Bool:=
 some (decide ((v1.bK.length:Int)>6))
theorem adD{N v1}:KO 236 [(fP v1)] aJ (Kk N v1):=
 fw Tryz.func236 (gR [[],[(7,oL v1.bK dC)]])
def Fv(N:Nat):agK bl->Nat->agM Int
 |[],_=>
  some (-1:Int)
 |v4::v5,v2=>
  (Kk N v4).bind λv6=>
  bif v6 then
   some (v2:Int)
  else
   (Fv N v5 (v2+1))
def JH(N:Nat)(v1:agK bl):agM Int:=
 Fv N v1 0
theorem acz{N v1}:KP 255 [(.d (.sl (cE v1))),(.fn 236 [])] [] an (λ_=>[]) (JH N v1):=
 fh 0 Tryz.func255 (gA [[],[(4,oL v1 ee)]] (gT jO 0 v1 λh2=>dc 1 [] [0,1,7,8] 0 (λv2=>⟨19,[(0,(.d (.sl (cE v1)))),(1,(.fn 236 [])),(7,(an (v1.length:Int))),(8,(an (v2:Int)))],[]⟩) (λv2 h3 f1=>gH [[],[f0 (aU h3)],[]]) (λv2 v4 v5 h3 f1 aE=>aq λv6 h4=>gA [[],[t0 (aV h3)],[],[(10,oE (ff (aL h3))),(16,cK adD h4)]] (au (λh5=>gH [[t0 h5],[]]) λh5=>gb aE () [[f0 h5],[(2,oq (bk h3 rfl h2))]] h3))))
def JI(N:Nat)(v1:agK bl):agM Bool:=
 (JH N v1).bind λv2=>
 some (decide (v2>=0))
theorem acm{N v1}:KP 231 [(.d (.sl (cE v1))),(.fn 236 [])] [] aJ (λ_=>[]) (JI N v1):=
 fh 0 Tryz.func231 (aq λv2 h1=>gH [[],[(7,oQ [(.d (.sl (cE v1))),(.fn 236 [])] [] [] (acz _ h1))]])
def C3(N:Nat)(v1:ao):agM Bool:=
 (FI N v1.aM).bind λv2=>
 Option.bind (bif ((v1.ba.length:Int) !=v2)then some true else some (decide ((v1.xIdx.length:Int)>6))) λv3=>
 bif v3 then
  some false
 else
  (JI N v1.xIdx).bind λv4=>
  some (!v4)
theorem Ug{N v1}:KO 201 [(aO v1)] aJ (C3 N v1):=
 fw Tryz.func201 (gA [[]] (aq λv2 h1=>gG (λv3=>[(15,(aJ v3))]) (λ_=>[.cells (aO v1).cells]) (bS (7,oL v1.ba eX) (bS (16,cK Xm h1) (au (λh2=>gE [(7,bT h2)] []) λh2=>gE [(7,bF h2)] [(31,oL v1.xIdx ee)]))) λv3=>bJ λh4=>aq λv4 h5=>gR [[f0 h4],[(7,oQ [(.d (.sl (cE v1.xIdx))),(.fn 236 [])] [.cells (aO v1).cells] [] (acm _ h5))]]))
def yd(N:Nat)(v1:ao):agM Bool:=
 Option.bind (bif (decide ((13:Int)<=v1.aM))then some (decide (v1.aM<=18))else some false) λv2=>
 some v2
theorem R1{N v1}:KO 141 [(aO v1)] aJ (yd N v1):=
 fw Tryz.func141 (gA [[]] (gG (λv2=>[(2,(aJ v2))]) (λ_=>[.cells (aO v1).cells]) (au (λh1=>gE [(3,bT h1)] []) λh1=>gE [(3,bF h1)] []) λv2=>gR []))
def yS(N:Nat)(v1:Int)(v2:Int)(v3:Bool):agM Bool:=
 bif v3 then
  some true
 else
  Option.bind (bif (v1==11)then some (v2==0)else some false) λv4=>
  some v4
def EZ(N:Nat)(v1:Int)(v2:Int):agM Bool:=
 bif (v1==16)then
  yS N v1 v2 (v1==16)
 else
  bif (v1==17)then
   yS N v1 v2 (v1==17)
  else
   yS N v1 v2 (v1==18)
theorem Yy{N v1 v2}:KO 237 [(an v1),(an v2)] aJ (EZ N v1 v2):=
 fw Tryz.func237 (l7 1 [[],[],[]] [0,1,6] 0 (λ(v3:Bool)=>⟨16,[(0,(an v1)),(1,(an v2)),(6,(aJ v3))],[]⟩) (yS N v1 v2) (λf1 aE=>au (λh4=>gm aE (v1==16) [[t0 h4]]) λh4=>gA [[f0 h4],[]] (au (λh5=>gm aE (v1==17) [[t0 h5]]) λh5=>gm aE (v1==18) [[f0 h5],[]])) (λv3=>bJ λh1=>gA [[f0 h1]] (gG (λv4=>[(4,(aJ v4))]) (λ_=>[]) (au (λh2=>gE [(2,bT h2)] []) λh2=>gE [(2,bF h2)] []) λv4=>gR [])))
def ER(N:Nat)(v1:ao):agK ao->Nat->agM Bool
 |[],_=>
  some true
 |v7::v8,v5=>
  (yd N v7).bind λv9=>
  Option.bind (EZ N v1.aM (v5:Int)) λv10=>
  bif (v9==v10)then
   (ER N v1 v8 (v5+1))
  else
   some false
def DH(N:Nat)(v1:ao):agM Bool:=
 Option.bind (bif (v1.aM==1)then (tg N v1.aH).bind λv2=>
 some (v2 !=0)else(bif (v1.aM==12)then (tg N v1.aH).bind λv3=>
 some (v3 !=0)else some false)) λv4=>
 bif v4 then
  some false
 else
  ER N v1 v1.ba 0
theorem YD{N v1}:KO 202 [(aO v1)] aJ (DH N v1):=
 fw Tryz.func202 (gA [[]] (gG (λv4=>[(18,(aJ v4))]) (λ_=>[.cells (aO v1).cells]) (au (λh1=>aq λv2 h2=>gE [(3,bT h1),(8,bT rfl)] [(34,cK CZ h2)]) λh1=>bt (3,bF h1) (au (λh3=>aq λv3 h4=>gE [(8,bT h3)] [(34,cK CZ h4)]) λh3=>gE [(8,bF h3)] [])) λv4=>bJ λh6=>gA [[f0 h6],[(7,oL v1.ba eX)]] (gT jM 20 v1.ba λh8=>dc 1 [] [1,20,21,22] 1 (λv5=>⟨35,[(1,(.ptr 0 0)),(20,(.d (.sl (et v1.ba)))),(21,(an (v1.ba.length:Int))),(22,(an (v5:Int)))],[.cells (aO v1).cells]⟩) (λv5 h9 f1=>gR [[],[f0 (aU h9)],[]]) (λv5 v7 v8 h9 f1 aE=>aq λv9 bn=>aq λv10 bo=>gA [[],[t0 (aV h9)],[(4,oE (j6 (aL h9)))],[(4,cK R1 bn),(16,cK Yy bo)]] (eJ λa8=>gb aE () [[f0 (b9 a8)],[(2,oq (bk h9 rfl h8))]] h9)))))
def CC(N:Nat)(v1:Int):agM Bool:=
 Option.bind (bif (decide (v1>=2))then some (decide (v1<=31))else some false) λv2=>
 some v2
theorem Qm{N v1}:KO 271 [(an v1)] aJ (CC N v1):=
 fw Tryz.func271 (gA [[]] (gG (λv2=>[(2,(aJ v2))]) (λ_=>[]) (au (λh1=>gE [(2,bT h1)] []) λh1=>gE [(2,bF h1)] []) λv2=>gR []))
def Jo(N:Nat)(v1:Int):agM Int64:=
 (CC N v1).bind λv2=>
 bif v2 then
  bif (decide ((0:Int)<=(IntKind.u64.wrap (aN (v1-(1:Int))))))then
  some (-(Int64.ofInt ((1:Int)*2^(min ((IntKind.u64.wrap (aN (v1-(1:Int))))).toNat (IntKind.bits .i64)))))
  else none
 else
  some (0:Int64)
theorem Yj{N v1}:KO 256 [(an v1)] cD (Jo N v1):=
 fw Tryz.func256 (aq λv2 h1=>gA [[],[(4,cK Qm h1)]] (eJ λh2=>bq λh3=>gR [[f0 (b9 h2)],[(10,⟨_,_, .nn (b:=(IntKind.u64.wrap (aN (v1-(1:Int))))) (of_decide_eq_true h3)⟩),(11,⟨_,_, .eq (Eo ((1:Int)*2^(min ((IntKind.u64.wrap (aN (v1-(1:Int))))).toNat (IntKind.bits .i64))))⟩),(14,⟨_,_, .eq (Dk (Int64.ofInt ((1:Int)*2^(min ((IntKind.u64.wrap (aN (v1-(1:Int))))).toNat (IntKind.bits .i64)))))⟩)]]))
def LZ(N:Nat)(v1:Int):agM Int64:=
 (CC N v1).bind λv2=>
 bif v2 then
  bif (decide ((0:Int)<=(IntKind.u64.wrap (aN (v1-(1:Int))))))then
  some ((Int64.ofInt ((1:Int)*2^(min ((IntKind.u64.wrap (aN (v1-(1:Int))))).toNat (IntKind.bits .i64))))-(1:Int64))
  else none
 else
  some (0:Int64)
theorem Y9{N v1}:KO 257 [(an v1)] cD (LZ N v1):=
 fw Tryz.func257 (aq λv2 h1=>gA [[],[(4,cK Qm h1)]] (eJ λh2=>bq λh3=>gR [[f0 (b9 h2)],[(10,⟨_,_, .nn (b:=(IntKind.u64.wrap (aN (v1-(1:Int))))) (of_decide_eq_true h3)⟩),(11,⟨_,_, .eq (Eo ((1:Int)*2^(min ((IntKind.u64.wrap (aN (v1-(1:Int))))).toNat (IntKind.bits .i64))))⟩),(14,⟨_,_, .eq (aes (Int64.ofInt ((1:Int)*2^(min ((IntKind.u64.wrap (aN (v1-(1:Int))))).toNat (IntKind.bits .i64)))) (1:Int64))⟩)]]))
def DF(N:Nat)(v1:bz)(v2:j5):agM Bool:=
 (Ak N v1).bind λv3=>
 Option.bind (bif (v3==0)then(bif (v2.xD.toInt==1)then (Jo N v1.bZ).bind λv4=>
 (bif (decide (v2.xN.toInt>=v4.toInt))then (LZ N v1.bZ).bind λv5=>
 some (decide (v2.xN.toInt<=v5.toInt))else some false)else some false)else some false) λv6=>
 some v6
theorem TR{N v1 v2}:KO 238 [(dP v1),(oX v2)] aJ (DF N v1 v2):=
 fw Tryz.func238 (gA [[]] (aq λv3 h1=>gG (λv6=>[(4,(aJ v6))]) (λ_=>[.cells (dP v1).cells, .cells (oX v2).cells]) (bS (4,cK Ol h1) (au (λh2=>bt (3,bT h2) (au (λh3=>aq λv4 h4=>bt (8,bT h3) (bS (40,cK Yj h4) (au (λh5=>aq λv5 h6=>gE [(16,bT h5)] [(64,cK Y9 h6)]) λh5=>gE [(16,bF h5)] []))) λh3=>gE [(8,bF h3),(16,bF rfl)] [])) λh2=>gE [(3,bF h2),(8,bF rfl),(16,bF rfl)] [])) λv6=>gR []))
def Je(N:Nat)(v1:Int64):agM Bool:=
 Option.bind (bif (decide (v1.toInt>=(-2147483647:Int)))then some (decide (v1.toInt<=2147483647))else some false) λv2=>
 some v2
theorem YO{N v1}:KO 239 [(cD v1)] aJ (Je N v1):=
 fw Tryz.func239 (gA [[]] (gG (λv2=>[(2,(aJ v2))]) (λ_=>[]) (au (λh1=>gE [(2,bT h1)] []) λh1=>gE [(2,bF h1)] []) λv2=>gR []))
def Kf(N:Nat)(v1:Int64):agM Bool:=
 Option.bind (bif (decide (v1.toInt>=(-2147483647:Int)))then some (decide (v1.toInt<=2147483647))else some false) λv2=>
 some v2
theorem aaR{N v1}:KO 258 [(cD v1)] aJ (Kf N v1):=
 fw Tryz.func258 (gA [[]] (gG (λv2=>[(2,(aJ v2))]) (λ_=>[]) (au (λh1=>gE [(2,bT h1)] []) λh1=>gE [(2,bF h1)] []) λv2=>gR []))
def DN(N:Nat)(v1:Int64):agM Int:=
 bif (decide (v1.toInt<0))then
  some (IntKind.u64.wrap (0-(IntKind.u64.wrap v1.toInt)))
 else
  some (IntKind.u64.wrap v1.toInt)
theorem XN{N v1}:KO 260 [(cD v1)] (λr=> .d (.v (.int .u64 r))) (DN N v1):=
 fw Tryz.func260 (gA [[],[]] (bJ λh1=>gR [[f0 h1],[]]))
def xE(N:Nat):Nat->Int->Int->agM Int
 |0,_,_=>none
 |v3+1,v4,v5=>
  bif (v5 !=0)then
   (λbV mj=>xE N v3 bV mj) v5 ((v4).tmod v5)
  else
   some v4
def Kc(N:Nat)(v1:Int)(v2:Int):agM Int:=
 xE N N v1 v2
theorem Xt{N v1 v2}:KO 259 [(.d (.v (.int .u64 v1))),(.d (.v (.int .u64 v2)))] (λr=> .d (.v (.int .u64 r))) (Kc N v1 v2):=
 fw Tryz.func259 (DS 1 [[]] [0,1] 0 (λ(v4:Int)(v5:Int)=>⟨12,[(0,(.d (.v (.int .u64 v4)))),(1,(.d (.v (.int .u64 v5))))],[]⟩) (xE N) (λv3 v4 v5 f1 aE=>gA [[]] (kO λh1=>qn aE (v5,((v4).tmod v5)) [[t0 h1],[(10,⟨_,_, .nz (b:=v5) (bne_iff_ne.1 h1)⟩)]])))
def Jx(N:Nat)(v1:j5):agM Bool:=
 Option.bind (bif (decide (v1.xD.toInt>=1))then(bif (decide (v1.xD.toInt<=2147483647))then (Kf N v1.xN).bind λv2=>
 (bif v2 then (DN N v1.xN).bind λv3=>
 Option.bind (Kc N v3 (IntKind.u64.wrap v1.xD.toInt)) λv4=>
 some (v4==1)else some false)else some false)else some false) λv5=>
 some v5
theorem abP{N v1}:KO 240 [(oX v1)] aJ (Jx N v1):=
 fw Tryz.func240 (gA [[]] (gG (λv5=>[(2,(aJ v5))]) (λ_=>[.cells (oX v1).cells]) (au (λh1=>bt (3,bT h1) (au (λh2=>aq λv2 h3=>bt (8,bT h2) (bS (34,cK aaR h3) (au (λh4=>aq λv3 h5=>aq λv4 h6=>gE [(13,bT h4)] [(49,cK XN h5),(61,cK Xt h6)]) λh4=>gE [(13,bF h4)] []))) λh2=>gE [(8,bF h2),(13,bF rfl)] [])) λh1=>gE [(3,bF h1),(8,bF rfl),(13,bF rfl)] []) λv5=>gR []))
def EN(N:Nat)(v1:bz)(v2:j5):agM Bool:=
 (tg N v1).bind λv3=>
 bif (v3 !=0)then
  some false
 else
  bif (v1.bO==2)then
   (DF N v1 v2).bind λv4=>
   some v4
  else
   bif (v1.bO==3)then
    Option.bind (bif (v2.xD.toInt==1)then (Je N v2.xN).bind λv5=>
    some v5 else some false) λv6=>
    some v6
   else
    (Jx N v2).bind λv7=>
    some v7
theorem aah{N v1 v2}:KO 203 [(dP v1),(oX v2)] aJ (EN N v1 v2):=
 fw Tryz.func203 (aq λv3 h1=>gA [[],[(4,cK CZ h1)]] (bJ λh2=>gA [[f0 h2],[],[]] (au (λh3=>aq λv4 h4=>gR [[t0 h3],[(7,cK TR h4)]]) λh3=>gA [[f0 h3],[]] (au (λh5=>gA [[t0 h5]] (gG (λv6=>[(4,(aJ v6))]) (λ_=>[.cells (dP v1).cells, .cells (oX v2).cells]) (au (λh6=>aq λv5 h7=>gE [(3,bT h6)] [(19,cK YO h7)]) λh6=>gE [(3,bF h6)] []) λv6=>gR [])) λh5=>aq λv7 h9=>gR [[f0 h5],[(4,cK abP h9)]]))))
def JO(N:Nat)(v1:ao):agM ao:=some v1
theorem acQ{N v1 r}(U:JO N v1=some r):gj Tryz.prog 204 [(aO v1)] (·=(.fn 241 [(.aY [dF r] 0 0)])):=by
 cases U;exact Xi v1
def rz(N:Nat):agK aI->agM Int
 |[]=>
  some (0:Int)
 |v9::v10=>
  (Ax N v9).bind λv11=>
  bif (v11 !=0)then
   some (1:Int)
  else
   (rz N v10)
def xw(N:Nat)(v1:ao):agM Int:=
 (BR N v1).bind λv2=>
 bif v2 then
  (B6 N v1).bind λv3=>
  bif v3 then
   (C3 N v1).bind λv4=>
   bif v4 then
    (DH N v1).bind λv5=>
    bif v5 then
     Option.bind (bif (v1.aM==1)then (EN N v1.aH v1.dL).bind λv6=>
     some (!v6)else some false) λv7=>
     bif v7 then
      some (1:Int)
     else
      (JO N v1).bind λv8=>
      rz N (lh v8)
    else
     some (10:Int)
   else
    some (11:Int)
  else
   some (7:Int)
 else
  some (5:Int)
def jj(v1:ao)(l:agK aj):agK aj:= .cells (aO v1).cells:: .cells [(an (0:Int))]::l
def sq(v1:ao)(l:agK aj):agK aj:= .cells (aO v1).cells::l
theorem aax{N v1 r}(U:xw N v1=some r):KF 169 [(aO v1)] (an r):=by
 rw[xw]at U;refine yR Tryz.func169 rfl (by kernel_rfl) ?_;refine jG [0] 0 (af6 _) (s':=⟨38,[(0,(aO v1))],[]⟩) (by kernel_rfl) ?_;refine bA ?_;refine rg [] [(1,(.ptr 0 0)),(2,(.ptr 1 0))] (jj v1 []) (by kernel_rfl) ?_;refine bA ?_;refine iS ?_;refine bA ?_;obtain⟨v2,h1,U⟩:=gL U;refine rg [(4,cK aaP h1)] [(4,(aJ (!v2)))] (jj v1 []) (by kernel_rfl) ?_;rcases my v2 with h2|h2
 ·replace U:=(kx h2).symm.trans U;refine lk (t:=(!v2)) (by kernel_rfl) (b9 h2) ?_;refine bA ?_;obtain⟨v3,h3,U⟩:=gL U;refine rg [(4,cK acH h3)] [(8,(aJ (!v3)))] (jj v1 []) (by kernel_rfl) ?_;rcases my v3 with h4|h4
  ·replace U:=(kx h4).symm.trans U;refine lk (t:=(!v3)) (by kernel_rfl) (b9 h4) ?_;refine bA ?_;obtain⟨v4,h5,U⟩:=gL U;refine rg [(4,cK Ug h5)] [(12,(aJ (!v4)))] (jj v1 []) (by kernel_rfl) ?_;rcases my v4 with h6|h6
   ·replace U:=(kx h6).symm.trans U;refine lk (t:=(!v4)) (by kernel_rfl) (b9 h6) ?_;refine bA ?_;obtain⟨v5,h7,U⟩:=gL U;refine rg [(4,cK YD h7)] [(16,(aJ (!v5)))] (jj v1 []) (by kernel_rfl) ?_;rcases my v5 with h8|h8
    ·replace U:=(kx h8).symm.trans U;refine lk (t:=(!v5)) (by kernel_rfl) (b9 h8) ?_;refine bA ?_;obtain⟨v7,bo,U⟩:=gL U;refine VY [(20,(aJ v7))] (jj v1 []) ?_ ?_
     ·rcases my (v1.aM==1)with h9|h9
      ·replace bo:=(kx h9).symm.trans bo;obtain⟨v6,bn,bo⟩:=gL bo;have he:=age bo;subst he;exact⟨[(12,bT h9),(15,bT h9),(18,bT h9),(21,bT h9),(24,bT h9),(25,cK aah bn),(27,bT h9),(31,bT h9)],by kernel_rfl⟩
      replace bo:=(mW h9).symm.trans bo;have he:=age bo;subst he;exact⟨[(12,bF h9),(15,bF h9),(18,bF h9),(21,bF h9),(24,bF h9),(27,bF h9),(31,bF h9)],by kernel_rfl⟩
     rcases my v7 with a8|a8
     ·replace U:=(kx a8).symm.trans U;refine lO (t:=v7) (by kernel_rfl) a8 ?_;refine bA ?_;refine rg [] [] (sq v1 [.cells [(an (1:Int))]]) (by kernel_rfl) ?_;refine e7 (je (hY ?_));have hr:=age U;subst hr;exact jJ (by kernel_rfl)
     replace U:=(mW a8).symm.trans U;refine lk (t:=v7) (by kernel_rfl) a8 ?_;refine gQ ?_;refine mA ?_;refine cT ?_;refine bA ?_;refine bA ?_;obtain⟨v8,cn,U⟩:=gL U;refine rg [(4,cL (acQ cn))] [(33,(.fn 241 [(.aY [dF v8] 0 0)]))] (jj v1 []) (by kernel_rfl) ?_;refine iS ?_;refine jG [2,33] 2 (af3 rfl) (s':=⟨38,[(2,(.ptr 1 0)),(33,(.fn 241 [(.aY [dF v8] 0 0)]))],(jj v1 [])⟩) (by kernel_rfl) ?_;refine Jv (m:=2) (enc:=ca) (xs:=(lh v8)) (by kernel_rfl) (Zl v8) (λ(_:Unit)=>(jj v1 [])) (λ(_:Unit) l=>rz N l=some r) () (by kernel_rfl) U (by rintro _;rfl) (by rintro _;kernel_rfl) (by kernel_rfl) rfl ?_ ?_
     ·rintro _ v9 v10 U cg ij iw
      try dsimp only at U
      rw[rz]at U;refine jG [2,34] 3 (af6 _) (s':=⟨38,[(2,(.ptr 1 0)),(34,(ca v9))],(jj v1 [.lp .ready 34 ij iw (dh 38 [(2,(.ptr 1 0)),(33,(.fn 241 [(.aY [dF v8] 0 0)]))])])⟩) (by kernel_rfl) ?_;refine re [] [(3,(.ptr 3 0))] (jj v1 [.lp .ready 34 ij iw (dh 38 [(2,(.ptr 1 0)),(33,(.fn 241 [(.aY [dF v8] 0 0)]))]), .cells (ca v9).cells]) (by kernel_rfl) ?_;refine cT ?_;refine⟨(jj v1 []),[.cells (ca v9).cells],rfl,(by kernel_rfl),?_⟩;refine jG [2,3] 4 (af3 rfl) (s':=⟨38,[(2,(.ptr 1 0)),(3,(.ptr 3 0))],(jj v1 [.lp .busy 34 ij iw (dh 38 [(2,(.ptr 1 0)),(33,(.fn 241 [(.aY [dF v8] 0 0)]))]), .cells (ca v9).cells])⟩) (by kernel_rfl) ?_;refine iS ?_;refine bA ?_;obtain⟨v11,bG,U⟩:=gL U;refine rg [(4,cK Hq bG)] [(37,(aJ (v11 !=0)))] (jj v1 [.lp .busy 34 ij iw (dh 38 [(2,(.ptr 1 0)),(33,(.fn 241 [(.aY [dF v8] 0 0)]))]), .cells (ca v9).cells]) (by kernel_rfl) ?_;rcases my (v11 !=0)with cf|cf
      ·replace U:=(kx cf).symm.trans U;refine lO (t:=(v11 !=0)) (by kernel_rfl) cf ?_;refine bA ?_;refine rg [] [] (sq v1 [.cells [(an (1:Int))], .lp .busy 34 ij iw (dh 38 [(2,(.ptr 1 0)),(33,(.fn 241 [(.aY [dF v8] 0 0)]))]), .cells (ca v9).cells]) (by kernel_rfl) ?_;refine e7 (je ?_);refine Tg (sq v1 [.cells [(an (1:Int))]]) rfl (by kernel_rfl) (by kernel_rfl) ?_;refine(je (hY ?_));have hr:=age U;subst hr;exact jJ (by kernel_rfl)
      replace U:=(mW cf).symm.trans U;refine lk (t:=(v11 !=0)) (by kernel_rfl) cf ?_;refine gQ ?_;refine mA ?_;refine H8 (jj v1 []) rfl (by kernel_rfl) (by kernel_rfl) ?_;exact⟨(),(by kernel_rfl),U⟩
     rintro _ U
     try dsimp only at U
     rw[rz]at U;refine mA ?_;refine cT ?_;refine bA ?_;refine rg [] [] (jj v1 [.gone]) (by kernel_rfl) ?_;refine e7 ?_;have hr:=age U;subst hr;exact jJ (by kernel_rfl)
    replace U:=(mW h8).symm.trans U;refine lO (t:=(!v5)) (by kernel_rfl) (dm h8) ?_;refine bA ?_;refine rg [] [] (sq v1 [.cells [(an (10:Int))]]) (by kernel_rfl) ?_;refine e7 (je (hY ?_));have hr:=age U;subst hr;exact jJ (by kernel_rfl)
   replace U:=(mW h6).symm.trans U;refine lO (t:=(!v4)) (by kernel_rfl) (dm h6) ?_;refine bA ?_;refine rg [] [] (sq v1 [.cells [(an (11:Int))]]) (by kernel_rfl) ?_;refine e7 (je (hY ?_));have hr:=age U;subst hr;exact jJ (by kernel_rfl)
  replace U:=(mW h4).symm.trans U;refine lO (t:=(!v3)) (by kernel_rfl) (dm h4) ?_;refine bA ?_;refine rg [] [] (sq v1 [.cells [(an (7:Int))]]) (by kernel_rfl) ?_;refine e7 (je (hY ?_));have hr:=age U;subst hr;exact jJ (by kernel_rfl)
 replace U:=(mW h2).symm.trans U;refine lO (t:=(!v2)) (by kernel_rfl) (dm h2) ?_;refine bA ?_;refine rg [] [] (sq v1 [.cells [(an (5:Int))]]) (by kernel_rfl) ?_;refine e7 (je (hY ?_));have hr:=age U;subst hr;exact jJ (by kernel_rfl)
end Go.Proofs.YtmkmibahjanejaaGreatDoor
