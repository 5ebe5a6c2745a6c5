/-
  Part 10 of the proof: PQ2.
-/
import Derived.Test.YtmkmibahjanejaaGreatDoorPp9
namespace Go.Proofs.YtmkmibahjanejaaGreatDoor
open Go.RowKit
set_option maxRecDepth 100000
set_option maxHeartbeats 0
set_option linter.unusedVariables false
theorem vm{α β:Type}{P:α->β->Prop}(a:α)(b:β)(h:P a b:=by kernel_rfl):∃a b,P a b:=⟨a,b,h⟩
def Ic:aB:=⟨[],[],[],[],[]⟩
def ni:agK J:=[(an (0:Int)),(an (0:Int)),(an (0:Int)),(an (0:Int)),(an (0:Int))]
def LO:agK J:=[(cD (0:Int64)),(.d (.v (.slice none 0 0)))]
def Gg:agK J:=[(an (0:Int)),(bu (bs [])),(cD (0:Int64)),(cD (0:Int64)),(an (0:Int)),(an (0:Int)),(an (0:Int)),(an (0:Int)),(an (0:Int)),(cD (0:Int64)),(.d (.v (.slice none 0 0))),(.d (.v (.slice none 0 0))),(.d (.v (.slice none 0 0)))]
def Pu:agK J:=[(.d (.v (.slice none 0 0))),(.d (.v (.slice none 0 0))),(.d (.v (.slice none 0 0))),(.d (.v (.slice none 0 0))),(.d (.v (.slice none 0 0)))]
def Qe(v:ao)(r:agK J):agK J:=(cD v.dL.xN)::(cD v.dL.xD)::(an v.aH.bO)::(an v.aH.bZ)::(an v.aH.cu)::(an v.aH.ct)::(an v.aH.cv)::r
def cf2(v:ao)(r:agK J):agK J:=(an v.aM)::(bu v.ak)::(cD v.dL.xN)::(cD v.dL.xD)::(an v.aH.bO)::(an v.aH.bZ)::(an v.aH.cu)::(an v.aH.ct)::(an v.aH.cv)::r
def sD(N:Nat):agK ao->agM Int
 |[]=>
  some (0:Int)
 |v5::v6=>
  (xw N v5).bind λv7=>
  bif (v7 !=0)then
   some v7
  else
   (sD N v6)
def zF(N:Nat)(v1:ao):agM Int:=
 (KJ N v1).bind λv2=>
 bif (decide (v2>40))then
  some (13:Int)
 else
  (xV N v1).bind λv3=>
  bif (decide (v3>2000))then
   some (2:Int)
  else
   (Du N v1).bind λv4=>
   sD N (c9 v4)
def l0(v1:ao)(l:agK aj):agK aj:= .cells (aO v1).cells:: .cells [(an (0:Int))]::l
def KY(v1:ao)(ij:Code)(iw:Code)(v4:ao)(v5:ao)(l:agK aj):agK aj:=l0 v1 (.lp .busy 13 ij iw (dh 19 [(2,(.ptr 1 0)),(12,(.fn 197 [(.aY [dF v4] 0 0)]))]):: .cells (aO v5).cells::l)
def xh(v1:ao)(l:agK aj):agK aj:= .cells (aO v1).cells::l
theorem UD{N v1 r}(hF:zF N v1=some r):KF 126 [(aO v1)] (an r):=by
 rw[zF]at hF;refine yR Tryz.func126 rfl (by kernel_rfl) ?_;refine jG [0] 0 (af6 _) (s':=⟨19,[(0,(aO v1))],[]⟩) (by kernel_rfl) ?_;refine bA ?_;refine rg [] [(1,(.ptr 0 0)),(2,(.ptr 1 0))] (l0 v1 []) (by kernel_rfl) ?_;refine bA ?_;refine bA ?_;obtain⟨v2,h1,hF⟩:=gL hF;refine rg [(4,cK ad4 h1)] [(7,(aJ (decide (v2>40))))] (l0 v1 []) (by kernel_rfl) ?_;rcases my (decide (v2>40))with h2|h2
 ·replace hF:=(kx h2).symm.trans hF;refine lO (t:=(decide (v2>40))) (by kernel_rfl) h2 ?_;refine bA ?_;refine rg [] [] (xh v1 [.cells [(an (13:Int))]]) (by kernel_rfl) ?_;refine e7 (hY ?_);have hr:=age hF;subst hr;exact jJ (by kernel_rfl)
 replace hF:=(mW h2).symm.trans hF;refine lk (t:=(decide (v2>40))) (by kernel_rfl) h2 ?_;refine gQ ?_;refine cT ?_;refine bA ?_;refine bA ?_;obtain⟨v3,h3,hF⟩:=gL hF;refine rg [(4,cL (VW h3))] [(10,(aJ (decide (v3>2000))))] (l0 v1 []) (by kernel_rfl) ?_;rcases my (decide (v3>2000))with h4|h4
 ·replace hF:=(kx h4).symm.trans hF;refine lO (t:=(decide (v3>2000))) (by kernel_rfl) h4 ?_;refine bA ?_;refine rg [] [] (xh v1 [.cells [(an (2:Int))]]) (by kernel_rfl) ?_;refine e7 (hY ?_);have hr:=age hF;subst hr;exact jJ (by kernel_rfl)
 replace hF:=(mW h4).symm.trans hF;refine lk (t:=(decide (v3>2000))) (by kernel_rfl) h4 ?_;refine gQ ?_;refine cT ?_;refine bA ?_;refine bA ?_;obtain⟨v4,h5,hF⟩:=gL hF;refine rg [(4,cL (Rk h5))] [(12,(.fn 197 [(.aY [dF v4] 0 0)]))] (l0 v1 []) (by kernel_rfl) ?_;refine iS ?_;refine jG [2,12] 2 (af3 rfl) (s':=⟨19,[(2,(.ptr 1 0)),(12,(.fn 197 [(.aY [dF v4] 0 0)]))],(l0 v1 [])⟩) (by kernel_rfl) ?_;refine Jv (m:=2) (enc:=aO) (xs:=(c9 v4)) (by kernel_rfl) (Mv v4) (λ(_:Unit)=>(l0 v1 [])) (λ(_:Unit) l=>sD N l=some r) () (by kernel_rfl) hF (by rintro _;rfl) (by rintro _;kernel_rfl) (by kernel_rfl) rfl ?_ ?_
 ·rintro _ v5 v6 hF h6 ij iw
  try dsimp only at hF
  rw[sD]at hF;refine jG [2,13] 3 (af6 _) (s':=⟨19,[(2,(.ptr 1 0)),(13,(aO v5))],(l0 v1 [.lp .ready 13 ij iw (dh 19 [(2,(.ptr 1 0)),(12,(.fn 197 [(.aY [dF v4] 0 0)]))])])⟩) (by kernel_rfl) ?_;refine re [] [(3,(.ptr 3 0))] (l0 v1 [.lp .ready 13 ij iw (dh 19 [(2,(.ptr 1 0)),(12,(.fn 197 [(.aY [dF v4] 0 0)]))]), .cells (aO v5).cells]) (by kernel_rfl) ?_;refine cT ?_;refine⟨(l0 v1 []),(xh v5 []),rfl,(by kernel_rfl),?_⟩;refine jG [2,3] 4 (af3 rfl) (s':=⟨19,[(2,(.ptr 1 0)),(3,(.ptr 3 0))],(KY v1 ij iw v4 v5 [])⟩) (by kernel_rfl) ?_;refine iS ?_;refine bA ?_;obtain⟨v7,h7,hF⟩:=gL hF;refine rg [(4,cL (aax h7))] [(4,(an v7))] (KY v1 ij iw v4 v5 []) (by kernel_rfl) ?_;refine bA ?_;refine rg [] [(17,(aJ (v7 !=0)))] (KY v1 ij iw v4 v5 []) (by kernel_rfl) ?_;rcases my (v7 !=0)with h8|h8
  ·replace hF:=(kx h8).symm.trans hF;refine lO (t:=(v7 !=0)) (by kernel_rfl) h8 ?_;refine bA ?_;refine rg [] [] (xh v1 [.cells [(an v7)], .lp .busy 13 ij iw (dh 19 [(2,(.ptr 1 0)),(12,(.fn 197 [(.aY [dF v4] 0 0)]))]), .cells (aO v5).cells]) (by kernel_rfl) ?_;refine e7 (je ?_);refine Tg (xh v1 [.cells [(an v7)]]) rfl (by kernel_rfl) (by kernel_rfl) ?_;refine(je (hY ?_));have hr:=age hF;subst hr;exact jJ (by kernel_rfl)
  replace hF:=(mW h8).symm.trans hF;refine lk (t:=(v7 !=0)) (by kernel_rfl) h8 ?_;refine gQ ?_;refine mA ?_;refine H8 (l0 v1 []) rfl (by kernel_rfl) (by kernel_rfl) ?_;exact⟨(),(by kernel_rfl),hF⟩
 rintro _ hF
 try dsimp only at hF
 rw[sD]at hF;refine mA ?_;refine cT ?_;refine bA ?_;refine rg [] [] (l0 v1 [.gone]) (by kernel_rfl) ?_;refine e7 ?_;have hr:=age hF;subst hr;exact jJ (by kernel_rfl)
def Dd(N:Nat)(v3:agK (agL×Int)):agK aR->Nat->agM Int
 |[],_=>
  some (0:Int)
 |v6::v7,v4=>
  bif ((dv v3 v6.ak 0)==0)then
   some (9:Int)
  else
   (Dd N v3 v7 (v4+1))
def AL(N:Nat)(v1:aI)(v2:aB)(v3:agK (agL×Int)):agM Int:=
 Dd N v3 v1.xL 0
theorem HI{N v1 v2 v3}:KP 181 [(.ptr 0 0),(ca v1)] [.cells (dR v2 [(.mp 1)]), .map (dz v3)] an (λ_=>[.cells (dR v2 [(.mp 1)]), .map (dz v3)]) (AL N v1 v2 v3):=
 fh 2 Tryz.func181 (gA [[],[(7,oL v1.xL dO)]] (gT ku 8 v1.xL λh2=>dc 1 [] [0,8,9,10] 3 (λv4=>⟨23,[(0,(.ptr 0 0)),(8,(.d (.sl (cw v1.xL)))),(9,(an (v1.xL.length:Int))),(10,(an (v4:Int)))],[.cells (dR v2 [(.mp 1)]), .map (dz v3), .cells (ca v1).cells]⟩) (λv4 h3 f1=>gH [[],[f0 (aU h3)],[]]) (λv4 v6 v7 h3 f1 aE=>gA [[],[t0 (aV h3)],[(1,oE (iY (aL h3)))],[(20,⟨_,_, .eq (Bl false v3 v6.ak)⟩)]] (au (λh4=>gH [[t0 h4],[]]) λh4=>gb aE () [[f0 h4],[(2,oq (bk h3 rfl h2))]] h3))))
def J7(N:Nat)(v1:agK aR):agM (agK aR):=bif Nat.ble (v1.length*24) 140737488355328 then some v1 else none
theorem aaB{N v1 r}(hF:J7 N v1=some r):gj Tryz.prog 267 [(.d (.sl (cw v1)))] (·=(.d (.sl (cw r)))):=by
 obtain⟨hb,rfl⟩:=di hF;have hc:=CG hb (by decide);exact abN rD (by rw[dO];exact hc.1) (by rw[dO];exact hc.2)
def zP(N:Nat)(v1:aI):agM aI:=
 (J7 N v1.xL).bind λv2=>
 some (⟨v1.xK,v2⟩:aI)
theorem Ow{N v1}:KO 250 [(ca v1)] ca (zP N v1):=
 fw Tryz.func250 (aq λv2 h1=>gR [[],[(13,cL (aaB h1))]])
def zR(N:Nat):agK aI->Nat->(agK aI)->agM ((agK aI))
 |[],_,v6=>
  some v6
 |v4::v5,v2,v6=>
  (zP N v4).bind λv7=>
  bif (Nat.ble ((v6.length+1)*32) 140737488355328)then
  (λbV=>zR N v5 (v2+1) bV) (v6++[v7])
  else none
def CV(N:Nat)(v1:agK aI):agM ((agK aI)):=
 zR N v1 0 []
theorem YT{N v1}:KO 248 [(.d (.sl (cV v1)))] (λr=> .d (.sl (cV r))) (CV N v1):=
 fw Tryz.func248 (gA [[],[],[(4,oL v1 dC)]] (li (λ_=>(jw 3 52 2 [] (.inr (by kernel_rfl)) ·)) (gT j9 0 v1 λh2=>eY 1 [] [3,6,7,8] 1 (λv2(v6:agK aI)=>⟨19,[(3,(.own 0 (cV v6))),(6,(.d (.sl (cV v1)))),(7,(an (v1.length:Int))),(8,(an (v2:Int)))],[.front 52 2 v6.length]⟩) (λv2 v6 h3 f1=>gR [[],[f0 (aU h3)],[]]) (λv2 v4 v5 v6 h3 f1 aE=>aq λv7 h4=>bq λh5=>gb aE (v6++[v7]) [[],[t0 (aV h3)],[(1,oE (kS (aL h3)))],[(7,cK Ow h4),(13,oA j9 v6 ([v7]) h5)],[(2,oq (bk h3 rfl h2))]] h3))))
def Hv(N:Nat)(v1:aT)(v2:agL):agM Bool:=
 some (bL v1.ak==bL v2)
theorem WL{N v1 v2}:KP 266 [(ej v1),(.ptr 0 0)] [.cells [(bu v2)]] aJ (λ_=>[.cells [(bu v2)]]) (Hv N v1 v2):=
 fh 1 Tryz.func266 (gH [[],[]])
def BZ(N:Nat)(v2:agL):agK aT->Nat->agM Int
 |[],_=>
  some (-1:Int)
 |v5::v6,v3=>
  (Hv N v5 v2).bind λv7=>
  bif v7 then
   some (v3:Int)
  else
   (BZ N v2 v6 (v3+1))
def GM(N:Nat)(v1:agK aT)(v2:agL):agM Int:=
 BZ N v2 v1 0
theorem adO{N v1 v2}:KP 265 [(.d (.sl (eI v1))),(.fn 266 [(.ptr 0 0)])] [.cells [(bu v2)]] an (λ_=>[.cells [(bu v2)]]) (GM N v1 v2):=
 fh 1 Tryz.func265 (gA [[],[(4,oL v1 fF)]] (gT lT 0 v1 λh2=>dc 1 [] [0,1,7,8] 1 (λv3=>⟨19,[(0,(.d (.sl (eI v1)))),(1,(.fn 266 [(.ptr 0 0)])),(7,(an (v1.length:Int))),(8,(an (v3:Int)))],[.cells [(bu v2)]]⟩) (λv3 h3 f1=>gH [[],[f0 (aU h3)],[]]) (λv3 v5 v6 h3 f1 aE=>aq λv7 h4=>gA [[],[t0 (aV h3)],[],[(10,oE (iA (aL h3))),(16,oQ [(ej v5),(.ptr 0 0)] [.cells [(bu v2)]] [0] (WL _ h4))]] (au (λh5=>gH [[t0 h5],[]]) λh5=>gb aE () [[f0 h5],[(2,oq (bk h3 rfl h2))]] h3))))
def Ck(N:Nat)(v1:aB)(v2:agL):agM Int:=
 (GM N v1.aw v2).bind λv3=>
 some v3
theorem Ww{N v1 v2}:KO 249 [(cH v1),(bu v2)] an (Ck N v1 v2):=
 fw Tryz.func249 (aq λv3 h1=>gR [[],[(10,oQ [(.d (.sl (eI v1.aw))),(.fn 266 [(.ptr 1 0)])] [.cells (cH v1).cells, .cells [(bu v2)]] [1] (adO _ h1))]])
def Aj(N:Nat)(v8:aT):agK bH->Nat->(agK aI)->agM (bz×(agK aI)×Bool)
 |[],_,bP=>
  some (v8.aH,bP,true)
 |v11::v12,v9,bP=>
  (zP N v11.cU).bind λcb=>
  bif (Nat.ble ((bP.length+1)*32) 140737488355328)then
  (λig=>Aj N v8 v12 (v9+1) ig) (bP++[cb])
  else none
def AE(N:Nat)(v1:aB)(v2:agL):agK ck->Nat->agM (bz×(agK aI)×Bool)
 |[],_=>
  (Ck N v1 v2).bind λv7=>
  bif (decide (v7>=0))then
   bif (decide ((0:Int)<=v7))then
   Option.bind (v1.aw[(v7).toNat]?) λv8=>
   Aj N v8 v8.aK 0 []
   else none
  else
   some (eR,[],false)
 |v5::v6,v3=>
  bif (bL v5.ak==bL v2)then
   (CV N v5.aK).bind λbI=>
   some (v5.aH,bI,true)
  else
   (AE N v1 v2 v6 (v3+1))
def Ev(N:Nat)(v1:aB)(v2:agL):agM (bz×(agK aI)×Bool):=
 AE N v1 v2 v1.aC 0
theorem S6{N v1 v2}:KO 218 [(cH v1),(bu v2)] (λr=> .bp [(dP r.1),(.d (.sl (cV r.2.1))),(aJ r.2.2)]) (Ev N v1 v2):=
 fw Tryz.func218 (gA [[],[(7,oL v1.aC gv)]] (gT lW 14 v1.aC λh2=>dc 1 [] [1,2,4,14,15,16] 2 (λv3=>⟨61,[(1,(bu v2)),(2,(.ptr 0 0)),(4,(.ptr 1 0)),(14,(.d (.sl (gq v1.aC)))),(15,(an (v1.aC.length:Int))),(16,(an (v3:Int)))],[.cells (cH v1).cells, .cells ni]⟩) (λv3 h3 f1=>aq λv7 h4=>gA [[],[f0 (aU h3)],[(7,cK Ww h4)],[]] (kO λh5=>bq λh7=>aq λv8 h6=>gA [[t0 h5],[],[(10,⟨_,_, .el (xs:=eI v1.aw) (i:=v7) (of_decide_eq_true h7) (iA h6)⟩),(19,oL v8.aK dW)]] (li (λ_=>(jw 10 52 2 [] (.inr (by kernel_rfl)) ·)) (gT ji 40 v8.aK λh9=>eY 2 [] [2,4,9,10,40,41,42] 3 (λv9(bP:agK aI)=>⟨61,[(2,(.ptr 0 0)),(4,(.ptr 1 0)),(9,(an v7)),(10,(.own 2 (cV bP))),(40,(.d (.sl (dD v8.aK)))),(41,(an (v8.aK.length:Int))),(42,(an (v9:Int)))],[.cells (cH v1).cells, .cells ni, .front 52 2 bP.length]⟩) (λv9 bP bn f2=>gR [[],[f0 (aU bn)],[(10,⟨_,_, .el (xs:=eI v1.aw) (i:=v7) (of_decide_eq_true h7) (iA h6)⟩)]]) (λv9 v11 v12 bP bn f2 de=>aq λcb bo=>bq λa8=>gb de (bP++[cb]) [[],[t0 (aV bn)],[(1,oE (iX (aL bn)))],[(10,cK Ow bo),(16,oA j9 bP ([cb]) a8)],[(2,oq (bk bn rfl h9))]] bn))))) (λv3 v5 v6 h3 f1 aE=>gA [[],[t0 (aV h3)],[(1,oE (iz (aL h3)))],[]] (au (λcn=>aq λbI cg=>gR [[t0 cn],[(13,cK YT cg)]]) λcn=>gb aE () [[f0 cn],[(2,oq (bk h3 rfl h2))]] h3))))
def Bz(N:Nat)(v2:aB)(v3:agK (agL×Int)):agK aI->Nat->agM Int
 |[],_=>
  some (0:Int)
 |v8::v9,v6=>
  (AL N v8 v2 v3).bind λv10=>
  bif (v10 !=0)then
   some v10
  else
   (Bz N v2 v3 v9 (v6+1))
def ET(N:Nat)(v1:bl)(v2:aB)(v3:agK (agL×Int)):agM Int:=
 bif (bL v1.b7==bL (bs []))then
  (AL N v1.aP v2 v3).bind λv4=>
  some v4
 else
  (Ev N v2 v1.b7).bind λv5=>
  bif v5.2.2 then
   bif (v5.1.bO !=3)then
    some (10:Int)
   else
    bif ((v1.bK.length:Int) !=(v5.2.1.length:Int))then
     some (11:Int)
    else
     Bz N v2 v3 v1.bK 0
  else
   some (9:Int)
def K8(v2:aB)(v3:agK (agL×Int))(v1:bl)(l:agK aj):agK aj:= .cells (dR v2 [(.mp 1)]):: .map (dz v3):: .cells (fP v1).cells::l
theorem abR{N v1 v2 v3}:KP 219 [(.ptr 0 0),(fP v1)] [.cells (dR v2 [(.mp 1)]), .map (dz v3)] an (λ_=>[.cells (dR v2 [(.mp 1)]), .map (dz v3)]) (ET N v1 v2 v3):=
 fh 2 Tryz.func219 (gA [[],[]] (au (λh1=>aq λv4 h2=>gH [[t0 h1],[(10,oQ [(.ptr 0 0),(ca v1.aP)] (K8 v2 v3 v1 []) [0,1] (HI _ h2))]]) λh1=>aq λv5 h3=>gA [[f0 h1],[(19,cK S6 h3)],[]] (au (λh4=>gA [[f0 (b9 h4)],[]] (au (λh5=>gH [[t0 h5],[]]) λh5=>gA [[f0 h5],[(7,oL v1.bK dC),(13,oL v5.2.1 dC)]] (au (λh6=>gH [[t0 h6],[]]) λh6=>gA [[f0 h6],[(7,oL v1.bK dC)]] (gT j9 44 v1.bK λh8=>dc 1 [] [0,44,45,46] 4 (λv6=>⟨57,[(0,(.ptr 0 0)),(44,(.d (.sl (cV v1.bK)))),(45,(an (v1.bK.length:Int))),(46,(an (v6:Int)))],(K8 v2 v3 v1 [.cells (dP v5.1).cells])⟩) (λv6 h9 f1=>gH [[],[f0 (aU h9)],[]]) (λv6 v8 v9 h9 f1 aE=>aq λv10 bn=>gA [[],[t0 (aV h9)],[(1,oE (kS (aL h9)))],[(7,oQ [(.ptr 0 0),(ca v8)] (K8 v2 v3 v1 [.cells (dP v5.1).cells, .cells (ca v8).cells]) [0,1] (HI _ bn))],[]] (au (λbo=>gH [[t0 bo],[]]) λbo=>gb aE () [[f0 bo],[(2,oq (bk h9 rfl h8))]] h9)))))) λh4=>gH [[t0 (dm h4)],[]])))
def EF(N:Nat)(v4:bz×(agK aI)×Bool)(v2:aB)(v3:agK (agL×Int)):agK bl->Nat->agM (bz×Int)
 |[],_=>
  some (v4.1,(0:Int))
 |v7::v8,v5=>
  (ET N v7 v2 v3).bind λv9=>
  bif (v9 !=0)then
   some (eR,v9)
  else
   (EF N v4 v2 v3 v8 (v5+1))
def Fw(N:Nat)(v1:ao)(v2:aB)(v3:agK (agL×Int)):agM (bz×Int):=
 (Ev N v2 v1.ak).bind λv4=>
 bif v4.2.2 then
  bif ((v1.xIdx.length:Int) !=(v4.2.1.length:Int))then
   some (eR,(11:Int))
  else
   EF N v4 v2 v3 v1.xIdx 0
 else
  some (eR,(9:Int))
theorem UW{N v1 v2 v3}:KP 182 [(.ptr 0 0),(aO v1)] [.cells (dR v2 [(.mp 1)]), .map (dz v3)] (λr=> .bp [(dP r.1),(an r.2)]) (λ_=>[.cells (dR v2 [(.mp 1)]), .map (dz v3)]) (Fw N v1 v2 v3):=
 fh 2 Tryz.func182 (aq λv4 h1=>gA [[],[(19,cK S6 h1)],[]] (au (λh2=>gA [[f0 (b9 h2)],[(7,oL v1.xIdx ee),(13,oL v4.2.1 dC)]] (au (λh3=>gH [[t0 h3],[]]) λh3=>gA [[f0 h3],[(7,oL v1.xIdx ee)]] (gT jO 34 v1.xIdx λh5=>dc 1 [] [0,4,6,34,35,36] 5 (λv5=>⟨49,[(0,(.ptr 0 0)),(4,(.ptr 3 0)),(6,(.ptr 4 0)),(34,(.d (.sl (cE v1.xIdx)))),(35,(an (v1.xIdx.length:Int))),(36,(an (v5:Int)))],[.cells (dR v2 [(.mp 1)]), .map (dz v3), .cells (aO v1).cells, .cells ni, .cells (dP v4.1).cells]⟩) (λv5 h6 f1=>gH [[],[f0 (aU h6)],[]]) (λv5 v7 v8 h6 f1 aE=>aq λv9 h7=>gA [[],[t0 (aV h6)],[(1,oE (ff (aL h6)))],[(7,oQ [(.ptr 0 0),(fP v7)] [.cells (dR v2 [(.mp 1)]), .map (dz v3), .cells (aO v1).cells, .cells ni, .cells (dP v4.1).cells, .cells (fP v7).cells] [0,1] (abR _ h7))],[]] (au (λh8=>gH [[t0 h8],[]]) λh8=>gb aE () [[f0 h8],[(2,oq (bk h6 rfl h5))]] h6))))) λh2=>gH [[t0 (dm h2)],[]]))
def Az(N:Nat)(v1:bz)(v2:bz):agM Int:=
 bif ((v1.bO==v2.bO)&&((v1.bZ==v2.bZ)&&((v1.cu==v2.cu)&&((v1.ct==v2.ct)&&((v1.cv==v2.cv)&&true)))))then
  some (0:Int)
 else
  some (10:Int)
theorem G7{N v1 v2}:KO 180 [(dP v1),(dP v2)] an (Az N v1 v2):=
 fw Tryz.func180 (gA [[],[]] (Jf λh1=>gR [[t0 (dm h1)],[]]))
def yw(N:Nat)(v8:agK bz)(v17:Bool):agM (bz×Int):=
 bif v17 then
  Option.bind (v8[0]?) λc6=>
  Option.bind (v8[1]?) λdT=>
  (Az N c6 dT).bind λv20=>
  some (eR,v20)
 else
  Option.bind (v8[0]?) λv21=>
  Option.bind (v8[1]?) λv22=>
  (Az N v21 v22).bind λv23=>
  some (v21,v23)
def zd(N:Nat)(v1:ao)(v8:agK bz)(cY:Bool):agM (bz×Int):=
 bif cY then
  some (eR,(0:Int))
 else
  bif (v1.aM==13)then
   yw N v8 (v1.aM==13)
  else
   bif (v1.aM==14)then
    yw N v8 (v1.aM==14)
   else
    yw N v8 (v1.aM==15)
def BQ(N:Nat)(v1:ao)(v2:aB)(v3:agK (agL×Int))(v8:agK bz)(v9:Bool):agM (bz×Int):=
 bif v9 then
  some (v1.aH,(0:Int))
 else
  bif (v1.aM==2)then
   (AL N v1.aP v2 v3).bind λv10=>
   some ((⟨(3:Int),(0:Int),(0:Int),(0:Int),(0:Int)⟩:bz),v10)
  else
   bif (v1.aM==3)then
    (Fw N v1 v2 v3).bind λv11=>
    some (v11.1,v11.2)
   else
    bif (v1.aM==8)then
     Option.bind (v8[0]?) λv12=>
     some (v12,(0:Int))
    else
     bif (v1.aM==11)then
      Option.bind (v8[1]?) λbP=>
      Option.bind (v8[2]?) λcb=>
      (Az N bP cb).bind λbI=>
      some (bP,bI)
     else
      bif (v1.aM==16)then
       zd N v1 v8 (v1.aM==16)
      else
       bif (v1.aM==17)then
        zd N v1 v8 (v1.aM==17)
       else
        zd N v1 v8 (v1.aM==18)
def sJ(N:Nat)(v1:ao)(v2:aB)(v3:agK (agL×Int))(OO:ao->aB->(agK (agL×Int))->agM (bz×Int)):agK ao->Nat->(agK bz)->agM (bz×Int)
 |[],_,v8=>
  bif (v1.aM==1)then
   BQ N v1 v2 v3 v8 (v1.aM==1)
  else
   BQ N v1 v2 v3 v8 (v1.aM==12)
 |v6::v7,v4,v8=>
  (OO v6 v2 v3).bind λv24=>
  bif (v24.2 !=0)then
   some (eR,v24.2)
  else
   bif (Nat.ble ((v8.length+1)*40) 140737488355328)then
   (λbV=>sJ N v1 v2 v3 OO v7 (v4+1) bV) (v8++[v24.1])
   else none
def tw(N:Nat):Nat->ao->aB->(agK (agL×Int))->agM (bz×Int)
 |0,_,_,_=>none
 |d+1,v1,v2,v3=>
  sJ N v1 v2 v3 (tw N d) v1.ba 0 []
def LX(N:Nat)(v1:ao)(v2:aB)(v3:agK (agL×Int)):agM (bz×Int):=tw N N v1 v2 v3
def sZ(v2:aB)(v3:agK (agL×Int))(v1:ao)(v8:agK bz)(l:agK aj):agK aj:= .cells (dR v2 [(.mp 1)]):: .map (dz v3):: .cells (aO v1).cells:: .cells ni:: .front 56 5 v8.length::l
theorem UH(N:Nat):∀d:Nat,(∀{v1:ao}{v2:aB}{v3:agK (agL×Int)},KP 142 [(.ptr 0 0),(aO v1)] [.cells (dR v2 [(.mp 1)]), .map (dz v3)] (λr=> .bp [(dP r.1),(an r.2)]) (λ_=>[.cells (dR v2 [(.mp 1)]), .map (dz v3)]) (tw N d v1 v2 v3)):=by
 intro d
 induction d with
 |zero=>intro v1 v2 v3 r hF;rw[tw]at hF;cases hF
 |succ d ih=>
  have aeY:= @ih;intro v1 v2 v3;rw[tw];exact fh 2 Tryz.func142 (gA [[],[],[(7,oL v1.ba eX)]] (li (λ_=>(jw 6 56 5 [] (.inr (by kernel_rfl)) ·)) (gT jM 13 v1.ba λh2=>eY 1 [] [0,3,4,6,13,14,15] 5 (λv4(v8:agK bz)=>⟨102,[(0,(.ptr 0 0)),(3,(.ptr 2 0)),(4,(.ptr 3 0)),(6,(.own 4 (kX v8))),(13,(.d (.sl (et v1.ba)))),(14,(an (v1.ba.length:Int))),(15,(an (v4:Int)))],(sZ v2 v3 v1 v8 [])⟩) (λv4 v8 h3 f1=>l7 2 [[],[(0,bF (aU h3))],[],[],[]] [0,3,4,6,11,35,36] 5 (λ(v9:Bool)=>⟨102,[(0,(.ptr 0 0)),(3,(.ptr 2 0)),(4,(.ptr 3 0)),(6,(.own 4 (kX v8))),(11,(.fn 180 [])),(35,(an v1.aM)),(36,(aJ v9))],(sZ v2 v3 v1 v8 [])⟩) (BQ N v1 v2 v3 v8) (λf2 de=>au (λjZ=>gm de (v1.aM==1) [[(0,bT jZ)]]) λjZ=>gm de (v1.aM==12) [[(0,bF jZ)],[]]) (λv9=>au (λh4=>gH [[(0,bT h4)],[]]) λh4=>gA [[(0,bF h4)],[]] (au (λh5=>aq λv10 h6=>gH [[(0,bT h5)],[(13,oQ [(.ptr 0 0),(ca v1.aP)] (sZ v2 v3 v1 v8 []) [0,1] (HI _ h6))]]) λh5=>gA [[(0,bF h5)],[]] (au (λh7=>aq λv11 h8=>gH [[(0,bT h7)],[(7,oQ [(.ptr 0 0),(aO v1)] (sZ v2 v3 v1 v8 []) [0,1] (UW _ h8))]]) λh7=>gA [[(0,bF h7)],[]] (au (λh9=>aq λv12 bn=>gH [[(0,bT h9)],[(4,oE (k:=0) (ju bn))]]) λh9=>gA [[(0,bF h9)],[]] (au (λbo=>aq λbP a8=>aq λcb cn=>aq λbI cg=>gH [[(0,bT bo)],[(4,oE (k:=1) (ju a8)),(16,oE (k:=1) (ju a8)),(25,oE (k:=2) (ju cn)),(31,cK G7 cg)]]) λbo=>l7 3 [[(0,bF bo)],[]] [4,6,11,35,73] 5 (λ(cY:Bool)=>⟨102,[(4,(.ptr 3 0)),(6,(.own 4 (kX v8))),(11,(.fn 180 [])),(35,(an v1.aM)),(73,(aJ cY))],(sZ v2 v3 v1 v8 [])⟩) (zd N v1 v8) (λf3 iV=>au (λjB=>gm iV (v1.aM==16) [[(0,bT jB)]]) λjB=>gA [[(0,bF jB)],[]] (au (λib=>gm iV (v1.aM==17) [[(0,bT ib)]]) λib=>gm iV (v1.aM==18) [[(0,bF ib)],[]])) (λcY=>au (λbG=>gH [[(0,bT bG)],[]]) λbG=>l7 4 [[(0,bF bG)],[]] [4,6,11,78] 5 (λ(v17:Bool)=>⟨102,[(4,(.ptr 3 0)),(6,(.own 4 (kX v8))),(11,(.fn 180 [])),(78,(aJ v17))],(sZ v2 v3 v1 v8 [])⟩) (yw N v8) (λf4 jV=>au (λeM=>gm jV (v1.aM==13) [[(0,bT eM)]]) λeM=>gA [[(0,bF eM)],[]] (au (λie=>gm jV (v1.aM==14) [[(0,bT ie)]]) λie=>gm jV (v1.aM==15) [[(0,bF ie)],[]])) (λv17=>au (λcf=>aq λc6 cP=>aq λdT fc=>aq λv20 gd=>gH [[(0,bT cf)],[(10,oE (k:=0) (ju cP)),(19,oE (k:=1) (ju fc)),(25,cK G7 gd)]]) λcf=>aq λv21 du=>aq λv22 eK=>aq λv23 gh=>gH [[(0,bF cf)],[(4,oE (k:=0) (ju du)),(16,oE (k:=0) (ju du)),(25,oE (k:=1) (ju eK)),(31,cK G7 gh)]])))))))) (λv4 v6 v7 v8 h3 f1 aE=>aq λv24 nc=>gA [[],[(0,bT (aV h3))],[(1,oE (j6 (aL h3)))],[(7,oQ [(.ptr 0 0),(aO v6)] (sZ v2 v3 v1 v8 [.cells (aO v6).cells]) [0,1] (aeY _ nc))],[]] (au (λph=>gH [[(0,bT ph)],[]]) λph=>bq λsA=>gb aE (v8++[v24.1]) [[(0,bF ph)],[(10,oA R8 v8 ([v24.1]) sA)],[(2,oq (bk h3 rfl h2))]] h3)))))
theorem Yd{N v1 v2 v3}:KP 142 [(.ptr 0 0),(aO v1)] [.cells (dR v2 [(.mp 1)]), .map (dz v3)] (λr=> .bp [(dP r.1),(an r.2)]) (λ_=>[.cells (dR v2 [(.mp 1)]), .map (dz v3)]) (LX N v1 v2 v3):=(UH N N)
def tQ(N:Nat)(v3:ao)(v1:aB):agK agL->Nat->(agK (agL×Int))->agM (bz×Int)
 |[],_,bI=>
  (LX N v3 v1 bI).bind λcY=>
  bif (cY.2 !=0)then
   some (eR,cY.2)
  else
   some (cY.1,(0:Int))
 |bP::cb,v11,bI=>
  bif (Nat.blt bI.length 9223372036854775807)then
  (λig=>tQ N v3 v1 cb (v11+1) ig) ((bP,(3:Int))::bI)
  else none
def Ch(N:Nat)(v3:ao)(v1:aB)(v2:agK agL):agK agL->Nat->(agK (agL×Int))->agM (bz×Int)
 |[],_,v10=>
  tQ N v3 v1 v2 0 v10
 |v8::v9,v6,v10=>
  bif (Nat.blt v10.length 9223372036854775807)then
  (λbV=>Ch N v3 v1 v2 v9 (v6+1) bV) ((v8,(1:Int))::v10)
  else none
def CI(N:Nat)(v1:aB)(v2:agK agL)(v3:ao):agM (bz×Int):=
 (zF N v3).bind λv4=>
 bif (v4 !=0)then
  some (eR,v4)
 else
  (yd N v3).bind λv5=>
  bif v5 then
   some (eR,(10:Int))
  else
   Ch N v3 v1 v2 v1.aD 0 []
def Jc(v1:aB)(v3:ao)(v10:agK (agL×Int))(l:agK aj):agK aj:= .cells (cH v1).cells:: .cells (aO v3).cells:: .cells ni:: .map (dz v10):: .cells (dR v1 [(.mp 3)])::l
theorem X7{N v1 v2 v3}:KO 96 [(cH v1),(.d (.sl (bD v2))),(aO v3)] (λr=> .bp [(dP r.1),(an r.2)]) (CI N v1 v2 v3):=
 fw Tryz.func96 (aq λv4 h1=>gA [[],[(4,cL (UD h1))],[]] (bJ λh2=>aq λv5 h3=>gA [[f0 h2],[(4,cK R1 h3)]] (bJ λh4=>gA [[f0 h4],[],[(7,oL v1.aD dI)]] (gT dU 30 v1.aD λh6=>eY 1 [] [1,5,6,9,30,31,32] 5 (λv6(v10:agK (agL×Int))=>⟨65,[(1,(.d (.sl (bD v2)))),(5,(.ptr 1 0)),(6,(.ptr 2 0)),(9,(.ptr 4 0)),(30,(.d (.sl (bD v1.aD)))),(31,(an (v1.aD.length:Int))),(32,(an (v6:Int)))],(Jc v1 v3 v10 [])⟩) (λv6 v10 h7 f1=>gA [[],[f0 (aU h7)],[(4,oL v2 dI)]] (gT dU 1 v2 λh9=>eY 2 [] [5,6,9,42,43,44] 5 (λv11(bI:agK (agL×Int))=>⟨65,[(5,(.ptr 1 0)),(6,(.ptr 2 0)),(9,(.ptr 4 0)),(42,(.d (.sl (bD v2)))),(43,(an (v2.length:Int))),(44,(an (v11:Int)))],(Jc v1 v3 bI [])⟩) (λv11 bI bn f2=>aq λcY bo=>gA [[],[f0 (aU bn)],[(7,oQ [(.ptr 4 0),(aO v3)] (Jc v1 v3 bI []) [4,3] (Yd _ bo))],[]] (bJ λa8=>gR [[f0 a8],[]])) (λv11 bP cb bI bn f2 de=>bq λcn=>gb de ((bP,(3:Int))::bI) [[],[t0 (aV bn)],[(1,oE (ia (aL bn)))],[(16,⟨_,_, .sd (o:= .none) (Ht cn)⟩)],[(2,oq (bk bn rfl h9))]] bn))) (λv6 v8 v9 v10 h7 f1 aE=>bq λcg=>gb aE ((v8,(1:Int))::v10) [[],[t0 (aV h7)],[(1,oE (ia (aL h7)))],[(16,⟨_,_, .sd (o:= .none) (Ht cg)⟩)],[(2,oq (bk h7 rfl h6))]] h7)))))
def DQ(N:Nat)(v1:Int)(v2:aB)(v3:agK (agL×Int)):agM (Int×(agK (agL×Int))):=
 bif (decide ((0:Int)<=v1))then
 Option.bind (v2.aw[(v1).toNat]?) λv4=>
 Option.bind (vH N v4.ak (2:Int) v2 v3) λv5=>
 bif (v5.1 !=0)then
  some (v5.1,v5.2)
 else
  Option.bind (tX N v4.aH ([(v4.aK.length:Int),(v4.bx.length:Int)])) λv6=>
  bif (v6 !=0)then
   some (v6,v5.2)
  else
   (E7 N v4 v2 v5.2).bind λv7=>
   bif (v7 !=0)then
    some (v7,v5.2)
   else
    (FT N v4).bind λv8=>
    bif (v8 !=0)then
     some (v8,v5.2)
    else
     bif (decide ((v1).toNat<=v2.aw.length))then
     (AA N v4).bind λv9=>
     Option.bind (CI N (⟨v2.aD,v2.bX,v2.aC,((v2.aw.take (v1).toNat).drop 0),v2.cd⟩:aB) v9 v4.bY) λv10=>
     bif (v10.2 !=0)then
      some (v10.2,v5.2)
     else
      bif ((v10.1.bO==v4.aH.bO)&&((v10.1.bZ==v4.aH.bZ)&&((v10.1.cu==v4.aH.cu)&&((v10.1.ct==v4.aH.ct)&&((v10.1.cv==v4.aH.cv)&&true)))))then
       some ((0:Int),v5.2)
      else
       some ((10:Int),v5.2)
     else none
 else none
theorem aeZ{N v1 v2 v3}:KP 40 [(.ptr 0 0),(an v1)] [.cells (dR v2 [(.mp 1)]), .map (dz v3)] (λr=>an r.1) (λr=>[.cells (dR v2 [(.mp 1)]), .map (dz r.2)]) (DQ N v1 v2 v3):=
 fh 2 Tryz.func40 (bq λh2=>aq λv4 h1=>aq λv5 h3=>gA [[],[(19,⟨_,_, .el (xs:=eI v2.aw) (i:=v1) (of_decide_eq_true h2) (iA h1)⟩)],[(10,oR [(.ptr 0 0),(bu v4.ak),(an (2:Int))] [.cells (dR v2 [(.mp 1)]), .map (dz v3), .cells (ej v4).cells] [0,1] (Ja _ h3))],[]] (au (λh4=>gH [[t0 h4],[]]) λh4=>aq λv6 h5=>gA [[f0 h4],[(13,oL v4.aK dW),(22,oL v4.bx dW),(28,cK L5 h5)],[]] (au (λh6=>gH [[t0 h6],[]]) λh6=>aq λv7 h7=>gA [[f0 h6],[(7,oQ [(.ptr 0 0),(ej v4)] [.cells (dR v2 [(.mp 1)]), .map (dz v5.2), .cells (ej v4).cells] [0,1] (V0 _ h7))],[]] (au (λh8=>gH [[t0 h8],[]]) λh8=>aq λv8 h9=>gA [[f0 h8],[(4,cK abm h9)],[]] (au (λbn=>gH [[t0 bn],[]]) λbn=>bq λbo=>aq λv9 a8=>aq λv10 cn=>gA [[f0 bn],[],[(19,⟨_,_, .sub (xs:=eI v2.aw) (lo:=0) (hi:=v1) (by decide) (Nat.zero_le _) (of_decide_eq_true h2) (by rw[fF];exact(of_decide_eq_true bo)) H3 RT⟩)],[(7,cK QV a8),(16,cK X7 cn)],[]] (au (λcg=>gH [[t0 cg],[]]) λcg=>gA [[f0 cg],[]] (au (λbG=>gH [[f0 (b9 bG)],[]]) λbG=>gH [[t0 (dm bG)],[]])))))))
def xY(N:Nat)(v23:agK (agL×Int))(v1:aB):agK agL->Nat->Int->agM (Int×Int)
 |[],_,_=>
  some ((0:Int),(0:Int))
 |v26::dp,v24,v28=>
  bif ((dv v23 v26 0) !=2)then
   some (v28,(9:Int))
  else
   bif (decide (((v24:Int)).toNat<=v1.cd.length))then
   Option.bind (vQ N ((v1.cd.take ((v24:Int)).toNat).drop 0) v26) λzl=>
   bif zl then
    some (v28,(8:Int))
   else
    (λAT=>xY N v23 v1 dp (v24+1) AT) (aN (v28+(1:Int)))
   else none
def vJ(N:Nat)(v1:aB):agK aT->Nat->Int->(agK (agL×Int))->agM (Int×Int)
 |[],_,v22,v23=>
  xY N v23 v1 v1.cd 0 v22
 |_::v21,c6,v22,v23=>
  Option.bind (DQ N (c6:Int) v1 v23) λv30=>
  bif (v30.1 !=0)then
   some (v22,v30.1)
  else
   (λmv ae0=>vJ N v1 v21 (c6+1) mv ae0) (aN (v22+(1:Int))) v30.2
def wH(N:Nat)(v1:aB):agK ck->Nat->Int->(agK (agL×Int))->agM (Int×Int)
 |[],_,cY,v17=>
  vJ N v1 v1.aw 0 cY v17
 |cb::bI,v12,cY,v17=>
  (EO N cb v1 v17).bind λv31=>
  bif (v31.1 !=0)then
   some (cY,v31.1)
  else
   (λmG GI=>wH N v1 bI (v12+1) mG GI) (aN (cY+(1:Int))) v31.2
def A9(N:Nat)(v1:aB)(v7:agK (agL×Int)):agK cC->Nat->agM (Int×Int)
 |[],_=>
  wH N v1 v1.aC 0 (2:Int) v7
 |v10::v11,v8=>
  (Dp N v10 v1 v7).bind λv32=>
  bif (v32 !=0)then
   some ((1:Int),v32)
  else
   (A9 N v1 v7 v11 (v8+1))
def CD(N:Nat)(v1:aB):agK agL->Nat->(agK (agL×Int))->agM (Int×Int)
 |[],_,v7=>
  A9 N v1 v7 v1.bX 0
 |v5::v6,v3,v7=>
  Option.bind (vH N v5 (1:Int) v1 v7) λv33=>
  bif (v33.1 !=0)then
   some ((0:Int),v33.1)
  else
   (λbV=>CD N v1 v6 (v3+1) bV) v33.2
def DI(N:Nat)(v1:aB):agM (Int×Int):=
 (DV N v1).bind λv2=>
 bif v2 then
  CD N v1 v1.aD 0 []
 else
  some ((0:Int),(2:Int))
def pf(v1:aB)(v7:agK (agL×Int))(l:agK aj):agK aj:= .cells (cH v1).cells:: .map (dz v7):: .cells (dR v1 [(.mp 1)])::l
theorem Z0{N v1}:KO 13 [(cH v1)] (λr=> .bp [(an r.1),(an r.2)]) (DI N v1):=
 fw Tryz.func13 (aq λv2 h1=>gA [[],[(4,cK adC h1)]] (eJ λh2=>gA [[f0 (b9 h2)],[],[(7,oL v1.aD dI)]] (gT dU 27 v1.aD λh4=>eY 1 [] [1,4,27,28,29] 3 (λv3(v7:agK (agL×Int))=>⟨115,[(1,(.ptr 0 0)),(4,(.ptr 2 0)),(27,(.d (.sl (bD v1.aD)))),(28,(an (v1.aD.length:Int))),(29,(an (v3:Int)))],(pf v1 v7 [])⟩) (λv3 v7 h5 f1=>gA [[],[f0 (aU h5)],[(7,oL v1.bX jr)]] (gT rB 41 v1.bX λh7=>dc 2 [] [1,4,41,42,43] 3 (λv8=>⟨115,[(1,(.ptr 0 0)),(4,(.ptr 2 0)),(41,(.d (.sl (ft v1.bX)))),(42,(an (v1.bX.length:Int))),(43,(an (v8:Int)))],(pf v1 v7 [])⟩) (λv8 h8 f2=>gA [[],[f0 (aU h8)],[],[(7,oL v1.aC gv)]] (gT lW 55 v1.aC λbn=>FQ 3 [] [1,4,11,55,56,57] 3 (λv12(cY:Int)(v17:agK (agL×Int))=>⟨115,[(1,(.ptr 0 0)),(4,(.ptr 2 0)),(11,(an cY)),(55,(.d (.sl (gq v1.aC)))),(56,(an (v1.aC.length:Int))),(57,(an (v12:Int)))],(pf v1 v17 [])⟩) (λv12 cY v17 bo f3=>gA [[],[f0 (aU bo)],[(7,oL v1.aw fF)]] (gB lT 0 3 v1.aw λcn=>FQ 4 [] [1,4,11,73,74] 3 (λc6(v22:Int)(v23:agK (agL×Int))=>⟨115,[(1,(.ptr 0 0)),(4,(.ptr 2 0)),(11,(an v22)),(73,(an (v1.aw.length:Int))),(74,(an (c6:Int)))],(pf v1 v23 [])⟩) (λc6 v22 v23 cg f4=>gA [[],[f0 (aU cg)],[(7,oL v1.cd dI)]] (gT dU 88 v1.cd λcf=>eY 5 [] [1,4,11,88,89,90] 3 (λv24(v28:Int)=>⟨115,[(1,(.ptr 0 0)),(4,(.ptr 2 0)),(11,(an v28)),(88,(.d (.sl (bD v1.cd)))),(89,(an (v1.cd.length:Int))),(90,(an (v24:Int)))],(pf v1 v23 [])⟩) (λv24 v28 cP f5=>gR [[],[f0 (aU cP)],[]]) (λv24 v26 dp v28 cP f5 xz=>gA [[],[t0 (aV cP)],[(4,oE (ia (aL cP)))],[(17,⟨_,_, .eq (Bl false v23 v26)⟩)]] (bJ λfc=>bq λgd=>aq λzl du=>gA [[f0 fc],[(10,⟨_,_, .sub (xs:=bD v1.cd) (lo:=0) (hi:=(v24:Int)) (by decide) (Nat.zero_le _) (of_decide_eq_true (agD (Int.natCast_nonneg _))) (by rw[dI];exact(of_decide_eq_true gd)) D9 Hg⟩),(16,cK SO du)]] (bJ λeK=>gb xz (aN (v28+(1:Int))) [[f0 eK],[],[(2,oq (bk cP rfl cf))]] cP))))) (λc6 v20 v21 v22 v23 cg f4 jV=>aq λv30 gh=>gA [[],[t0 (aV cg)],[],[(7,oR [(.ptr 2 0),(an (c6:Int))] (pf v1 v23 []) [2,1] (aeZ _ gh))],[]] (bJ λeM=>gb jV ((aN (v22+(1:Int))),v30.2) [[f0 eM],[],[(2,oq (bk cg rfl cn))]] cg)))) (λv12 cb bI cY v17 bo f3 iV=>aq λv31 ie=>gA [[],[t0 (aV bo)],[(1,oE (iz (aL bo)))],[(7,oR [(.ptr 2 0),(oB cb)] (pf v1 v17 [.cells (oB cb).cells]) [2,1] (YJ _ ie))],[]] (bJ λjB=>gb iV ((aN (cY+(1:Int))),v31.2) [[f0 jB],[],[(2,oq (bk bo rfl bn))]] bo)))) (λv8 v10 v11 h8 f2 de=>aq λv32 ib=>gA [[],[t0 (aV h8)],[(1,oE (qR (aL h8)))],[(7,oQ [(.ptr 2 0),(nU v10)] (pf v1 v7 [.cells (nU v10).cells]) [2,1] (XE _ ib))],[]] (bJ λjZ=>gb de () [[f0 jZ],[(2,oq (bk h8 rfl h7))]] h8)))) (λv3 v5 v6 v7 h5 f1 aE=>aq λv33 nc=>gA [[],[t0 (aV h5)],[(1,oE (ia (aL h5)))],[(7,oR [(.ptr 2 0),(bu v5),(an (1:Int))] (pf v1 v7 []) [2,1] (Ja _ nc))],[]] (bJ λph=>gb aE v33.2 [[f0 ph],[(2,oq (bk h5 rfl h4))]] h5)))))
def M6(N:Nat)(v1:Int):agM agL:=
 bif (decide (v1<10))then
  bif (decide ((0:Int)<=v1))then
  bif (decide ((0:Int)<=(aN (v1+(1:Int)))))then
  bif (decide ((v1).toNat<=((aN (v1+(1:Int)))).toNat))then
  bif (decide (((aN (v1+(1:Int)))).toNat<=(bs [48,49,50,51,52,53,54,55,56,57,97,98,99,100,101,102,103,104,105,106,107,108,109,110,111,112,113,114,115,116,117,118,119,120,121,122]).size))then
  some ((bs [48,49,50,51,52,53,54,55,56,57,97,98,99,100,101,102,103,104,105,106,107,108,109,110,111,112,113,114,115,116,117,118,119,120,121,122]).extract (v1).toNat ((aN (v1+(1:Int)))).toNat)
  else none
  else none
  else none
  else none
 else
  bif (decide ((0:Int)<=(aN (v1*(2:Int)))))then
  bif (decide ((0:Int)<=(aN ((aN (v1*(2:Int)))+(2:Int)))))then
  bif (decide (((aN (v1*(2:Int)))).toNat<=((aN ((aN (v1*(2:Int)))+(2:Int)))).toNat))then
  bif (decide (((aN ((aN (v1*(2:Int)))+(2:Int)))).toNat<=(bs [48,48,48,49,48,50,48,51,48,52,48,53,48,54,48,55,48,56,48,57,49,48,49,49,49,50,49,51,49,52,49,53,49,54,49,55,49,56,49,57,50,48,50,49,50,50,50,51,50,52,50,53,50,54,50,55,50,56,50,57,51,48,51,49,51,50,51,51,51,52,51,53,51,54,51,55,51,56,51,57,52,48,52,49,52,50,52,51,52,52,52,53,52,54,52,55,52,56,52,57,53,48,53,49,53,50,53,51,53,52,53,53,53,54,53,55,53,56,53,57,54,48,54,49,54,50,54,51,54,52,54,53,54,54,54,55,54,56,54,57,55,48,55,49,55,50,55,51,55,52,55,53,55,54,55,55,55,56,55,57,56,48,56,49,56,50,56,51,56,52,56,53,56,54,56,55,56,56,56,57,57,48,57,49,57,50,57,51,57,52,57,53,57,54,57,55,57,56,57,57]).size))then
  some ((bs [48,48,48,49,48,50,48,51,48,52,48,53,48,54,48,55,48,56,48,57,49,48,49,49,49,50,49,51,49,52,49,53,49,54,49,55,49,56,49,57,50,48,50,49,50,50,50,51,50,52,50,53,50,54,50,55,50,56,50,57,51,48,51,49,51,50,51,51,51,52,51,53,51,54,51,55,51,56,51,57,52,48,52,49,52,50,52,51,52,52,52,53,52,54,52,55,52,56,52,57,53,48,53,49,53,50,53,51,53,52,53,53,53,54,53,55,53,56,53,57,54,48,54,49,54,50,54,51,54,52,54,53,54,54,54,55,54,56,54,57,55,48,55,49,55,50,55,51,55,52,55,53,55,54,55,55,55,56,55,57,56,48,56,49,56,50,56,51,56,52,56,53,56,54,56,55,56,56,56,57,57,48,57,49,57,50,57,51,57,52,57,53,57,54,57,55,57,56,57,57]).extract ((aN (v1*(2:Int)))).toNat ((aN ((aN (v1*(2:Int)))+(2:Int)))).toNat)
  else none
  else none
  else none
  else none
theorem UJ{N v1}:KO 130 [(an v1)] bu (M6 N v1):=
 fw Tryz.func130 (gA [[],[]] (au (λh1=>bq λh2=>bq λh3=>bq λh4=>bq λh5=>gR [[t0 h1],[(10,⟨_,_, .str (b:=(bs [48,49,50,51,52,53,54,55,56,57,97,98,99,100,101,102,103,104,105,106,107,108,109,110,111,112,113,114,115,116,117,118,119,120,121,122])) (lo:=v1) (hi:=(aN (v1+(1:Int)))) (of_decide_eq_true h2) (of_decide_eq_true h4) (of_decide_eq_true h3) (of_decide_eq_true h5)⟩)]]) λh1=>bq λh6=>bq λh7=>bq λh8=>bq λh9=>gR [[f0 h1],[(16,⟨_,_, .str (b:=(bs [48,48,48,49,48,50,48,51,48,52,48,53,48,54,48,55,48,56,48,57,49,48,49,49,49,50,49,51,49,52,49,53,49,54,49,55,49,56,49,57,50,48,50,49,50,50,50,51,50,52,50,53,50,54,50,55,50,56,50,57,51,48,51,49,51,50,51,51,51,52,51,53,51,54,51,55,51,56,51,57,52,48,52,49,52,50,52,51,52,52,52,53,52,54,52,55,52,56,52,57,53,48,53,49,53,50,53,51,53,52,53,53,53,54,53,55,53,56,53,57,54,48,54,49,54,50,54,51,54,52,54,53,54,54,54,55,54,56,54,57,55,48,55,49,55,50,55,51,55,52,55,53,55,54,55,55,55,56,55,57,56,48,56,49,56,50,56,51,56,52,56,53,56,54,56,55,56,56,56,57,57,48,57,49,57,50,57,51,57,52,57,53,57,54,57,55,57,56,57,57])) (lo:=(aN (v1*(2:Int)))) (hi:=(aN ((aN (v1*(2:Int)))+(2:Int)))) (of_decide_eq_true h6) (of_decide_eq_true h8) (of_decide_eq_true h7) (of_decide_eq_true h9)⟩)]]))
def Iu(N:Nat)(v1:Int64)(v2:Int):agM agL:=
 bif (v2==10)then
  Option.bind (bif (decide ((0:Int)<=v1.toInt))then some (decide (v1.toInt<100))else some false) λv3=>
  bif v3 then
   (M6 N v1.toInt).bind λv4=>
   some v4
  else
   none
 else
  none
theorem V2{N v1 v2 r}(hF:Iu N v1 v2=some r):KF 80 [(cD v1),(an v2)] (bu r):=by
 rw[Iu]at hF;refine FP Tryz.func80 ?_;refine uh dG [[],[]] ?_;apply bc hF<;>intro h1 hF
 ·refine uh dG [[(0,bT h1)]] ?_;obtain⟨v3,h3,hF⟩:=gL hF;refine MD dG [(17,(aJ v3))] [] ?_ ?_
  ·apply bc h3<;>intro h2 h3
   ·cases h3;exact vm [(2,bT h2)] []
   cases h3;exact vm [(2,bF h2)] []
  apply bc hF<;>intro h4 hF
  ·obtain⟨v4,h5,hF⟩:=gL hF;cases hF;exact wr dG [[(0,bT h4)],[(4,cK UJ h5)]]
  cases hF
 cases hF
def Qy(N:Nat)(v1:Int):agM agL:=
 bif (aN v1==v1)then
 Option.bind (Iu N (Int64.ofInt v1) (10:Int)) λv2=>
 some v2
 else none
theorem adz{N v1}:KO 100 [(an v1)] bu (Qy N v1):=
 fw Tryz.func100 (bq λh1=>aq λv2 h2=>gR [[],[(2,⟨_,_, .eq (GU (beq_iff_eq.1 h1))⟩),(4,cL (V2 h2))]])
def J8(N:Nat)(v1:Int):agM agL:=
 (Qy N v1).bind λv2=>
 some v2
theorem abH{N v1}:KO 50 [(an v1)] bu (J8 N v1):=
 fw Tryz.func50 (aq λv2 h1=>gR [[],[(4,cK adz h1)]])
def tO(N:Nat)(v1:agL)(v2:Int):agM agL:=
 (J8 N v2).bind λv3=>
 bif (Nat.ble (v1.size+v3.size) 9223372036854775807)then
 some (v1++v3)
 else none
theorem C2{N v1 v2}:KO 21 [(bu v1),(an v2)] bu (tO N v1 v2):=
 fw Tryz.func21 (aq λv3 h1=>bq λh2=>gR [[],[(7,cK abH h1),(10,⟨_,_, .cat (n:=v1.size+v3.size) (yV h2)⟩)]])
def qX(N:Nat)(v1:agL)(v2:agK (agL×agL)):agM agL:=
 bif (l9 v2 v1)then
  some (dv v2 v1 (bs []))
 else
  some v1
theorem xn{N v1 v2}:KP 51 [(.mp 0),(bu v1)] [.map (aZ v2)] bu (λ_=>[.map (aZ v2)]) (qX N v1 v2):=
 fh 1 Tryz.func51 (gA [[],[(8,⟨_,_, .eq (E5 true v2 v1)⟩)],[]] (au (λh1=>gH [[t0 h1],[]]) λh1=>gH [[f0 h1],[]]))
def JT(N:Nat)(v1:agK aR)(v3:Nat):agM (agK aR):=bif Nat.beq v1.length v3&&(Nat.blt v3 4611686018427387904&&o0 (gW v1))then some (gW v1)else none
theorem ZU{N v1 v3 r}(hF:JT N v1 v3=some r):b5 Tryz.prog 52 [(.vec 0 0 v3 v3 2),(.fn 53 [])] [.vec 115 2 (bW (v1.map gO))] λr1 h1=>r1=(.bp [])/\h1=[.vec 115 2 (bW (r.map gO))]:=by
 obtain⟨hb,rfl⟩:=di hF;rw[afX,afX]at hb;exact adj (af9 hb.1) (by have:=hb.2.1;rw[Nat.blt_eq]at this;exact this) hb.2.2
def ru(N:Nat)(v1:aI)(v2:agK (agL×agL)):agK aR->Nat->Nat->(agK aR)->agM aI
 |[],_,v8,v9=>
  (JT N v9 v8).bind λv10=>
  bif (Nat.beq v10.length v8)then
  some (⟨v1.xK,v10⟩:aI)
  else none
 |v6::v7,v4,v8,v9=>
  (qX N v6.ak v2).bind λv11=>
  bif (Nat.beq v9.length v8)then
  bif (Nat.ble ((v8+1)*24) 140737488355328)then
  (λbV mj=>ru N v1 v2 v7 (v4+1) bV mj) (v8+1) (v9++[(⟨v11,v6.cO⟩:aR)])
  else none
  else none
def ou(N:Nat)(v1:aI)(v2:agK (agL×agL))(v3:agK (agL×agL)):agM aI:=
 ru N v1 v2 v1.xL 0 0 []
def u9(v2:agK (agL×agL))(v3:agK (agL×agL))(v1:aI)(l:agK aj):agK aj:= .map (aZ v2):: .map (aZ v3):: .cells [(.mp 0),(.mp 1)]:: .cells (ca v1).cells:: .cells LO::l
def ry(v2:agK (agL×agL))(v3:agK (agL×agL))(v1:aI)(v8:Nat)(v9:agK aR)(l:agK aj):agK aj:=u9 v2 v3 v1 (.cells [(cD v1.xK),(.vec 6 0 v8 v8 2)]:: .vec 115 2 (bW (v9.map gO))::l)
def Ps(v2:agK (agL×agL))(v3:agK (agL×agL))(v1:aI)(v10:agK aR)(l:agK aj):agK aj:= .map (aZ v2):: .map (aZ v3):: .cells [(.mp 0),(.mp 1)]:: .cells (ca v1).cells:: .cells [(cD v1.xK),(.d (.sl (cw v10)))]:: .cells [(cD v1.xK),(.d (.sl (cw v10)))]::l
theorem xJ{N v1 v2 v3 r}(hF:ou N v1 v2 v3=some r):KH 22 [(.agg [(.mp 0),(.mp 1)]),(ca v1)] ([.map (aZ v2), .map (aZ v3)]) (ca r) ([.map (aZ v2), .map (aZ v3)]):=by
 rw[ou]at hF;refine Ap 2 Tryz.func22 rfl (by kernel_rfl) (af3 rfl) ?_;refine xI (s':=⟨36,[(0,(.agg [(.mp 0),(.mp 1)])),(1,(ca v1))],[.map (aZ v2), .map (aZ v3)]⟩) (by kernel_rfl) ?_;refine bA ?_;refine rg [] [(2,(.ptr 2 0)),(3,(.ptr 3 0)),(4,(.ptr 4 0))] (u9 v2 v3 v1 []) (by kernel_rfl) ?_;refine bA ?_;refine rg [] [(5,(.ptr 5 0))] (u9 v2 v3 v1 [.cells [(cD v1.xK),(.d (.v (.slice none 0 0)))]]) (by kernel_rfl) ?_;refine bA ?_;refine bA ?_;refine rg [(7,oL v1.xL dO)] [(12,(.d (.sl (cw v1.xL)))),(13,(an (v1.xL.length:Int))),(14,(an (0:Int)))] (u9 v2 v3 v1 [.cells [(cD v1.xK),(.d (.v (.slice none 0 0)))]]) (by kernel_rfl) ?_;refine iS ?_;refine V3 5 1 115 2 rfl rfl ?_;refine yr 12 (cw v1.xL) (by kernel_rfl) λh1=> ?_;have h2:=uF dO h1;refine RB [2,4,5,12,13,14] 7 [] [(4,1)] (λ((v4,v5,v8,v9):Nat×(agK aR)×Nat×(agK aR))=>⟨36,[(2,(.ptr 2 0)),(4,(.ptr 4 0)),(5,(.ptr 5 0)),(12,(.d (.sl (cw v1.xL)))),(13,(an (v1.xL.length:Int))),(14,(an (v4:Int)))],(ry v2 v3 v1 v8 v9 [])⟩) (λ((v4,v5,v8,v9):Nat×(agK aR)×Nat×(agK aR))=>v1.xL.drop v4=v5/\ru N v1 v2 v5 v4 v8 v9=some r) (λ((v4,v5,v8,v9):Nat×(agK aR)×Nat×(agK aR))=>v5.length) (0,v1.xL,0,[]) (af3 rfl) ⟨(lJ trivial (lJ trivial (lJ trivial (lJ trivial (lJ trivial (lJ trivial (PB (xs:=(([]:agK aR).map gO)) Kt))))))),by kernel_rfl⟩ ⟨rfl,hF⟩ ?_
 rintro⟨v4,v5,v8,v9⟩ ⟨h3,hF⟩;cases v5 with
 |nil=>
  rw[ru]at hF;refine bA ?_;refine rg [] [(15,(aJ (decide ((v4:Int)<(v1.xL.length:Int)))))] (ry v2 v3 v1 v8 v9 []) (by kernel_rfl) ?_;refine bA ?_;refine lk (t:=(decide ((v4:Int)<(v1.xL.length:Int)))) (by kernel_rfl) (aU h3) ?_;refine qQ (q7 (q7 (A3 rfl ?_)));refine cT ?_;refine bA ?_;obtain⟨v10,h4,hF⟩:=gL hF;refine rg [(7,⟨_,_, .Q8 (Sa (xs:=(v9.map gO)) RO) (Sa (xs:=(v10.map gO)) RO) (lg:=[(.vec 6 0 v8 v8 2),(.fn 53 [])]) (h:=(ry v2 v3 v1 v8 v9 [])) (l:=[6]) (by kernel_rfl) (by kernel_rfl) (by kernel_rfl) (by kernel_rfl) (ZU h4)⟩)] [] (ry v2 v3 v1 v8 v10 []) (by kernel_rfl) ?_;refine bA ?_;refine rg [] [] [.map (aZ v2), .map (aZ v3), .cells [(.mp 0),(.mp 1)], .cells (ca v1).cells, .cells [(cD v1.xK),(.vec 6 0 v8 v8 2)], .cells [(cD v1.xK),(.vec 6 0 v8 v8 2)], .vec 115 2 (bW (v10.map gO))] (by kernel_rfl) ?_;have h5:=G6 hF;replace hF:=(kx h5).symm.trans hF;refine YX [4] 6 (v10.map gO) (cw v10) (L:=v8) (Ps v2 v3 v1 v10 [.vec 115 2 (bW (v10.map gO))]) 0 rfl (ae3 (λ_=>rfl) _) (V8 (af9 h5)) (kC _) (by kernel_rfl) (.map (.map (.cells 0 rfl (by kernel_rfl) (.cells 0 rfl (by kernel_rfl) (.cells 1 (by kernel_rfl) (by kernel_rfl) (.cells 1 (by kernel_rfl) (by kernel_rfl) (.Fx .nil))))))) ?_;refine xI (s':=⟨36,[(4,(.ptr 4 0))],(Ps v2 v3 v1 v10 [.gone])⟩) (by kernel_rfl) ?_
  refine e7 ?_;have hr:=age hF;subst hr;exact zW (by kernel_rfl)
 |cons v6 v7=>
  rw[ru]at hF;refine bA ?_;refine rg [] [(15,(aJ (decide ((v4:Int)<(v1.xL.length:Int)))))] (ry v2 v3 v1 v8 v9 []) (by kernel_rfl) ?_;refine bA ?_;refine lO (t:=(decide ((v4:Int)<(v1.xL.length:Int)))) (by kernel_rfl) (aV h3) ?_;refine gQ ?_;refine cT ?_;refine bA ?_;refine iS ?_;refine bA ?_;refine rg [(1,oE (iY (aL h3)))] [(7,(.ptr 7 0))] (ry v2 v3 v1 v8 v9 [.cells (wD v6).cells]) (by kernel_rfl) ?_;obtain⟨v11,h6,hF⟩:=gL hF;have h7:=G6 hF;replace hF:=(kx h7).symm.trans hF;have h8:=G6 hF;replace hF:=(kx h8).symm.trans hF;refine XM dG (by kernel_rfl) [(19,oQ [(.mp 0),(bu v6.ak)] (ry v2 v3 v1 v8 v9 [.cells (wD v6).cells]) [0] (xn _ h6)),(34,⟨_,_, .pr (.ap (bW ((v9++[(⟨v11,v6.cO⟩:aR)]).map gO)) (bW (([(⟨v11,v6.cO⟩:aR)]).map gO)) (v8+1) (v8+1)) (Xl (f:=gO) (h:=(ry v2 v3 v1 v8 v9 [.cells (wD v6).cells])) (y:=(.full (cw [(⟨v11,v6.cO⟩:aR)]))) (k:=2) (af9 h7) rfl (λc hc=>rD c (by rw[kC];exact hc)) rfl rfl (CG h8 (by decide)).1 (CG h8 (by decide)).2)⟩)] [(30,(.ptr 5 1)),(29,(.vec 6 0 (v8+1) (v8+1) 2)),(28,(.full (cw [(⟨v11,v6.cO⟩:aR)]))),(27,(.agg [(bu v11),(cD v6.cO)])),(26,(cD v6.cO)),(25,(.ptr 7 1)),(24,(bu v11)),(23,(bu v6.ak)),(22,(.ptr 7 0)),(21,(.mp 0)),(20,(.ptr 2 0)),(19,(.vec 6 0 v8 v8 2)),(18,(.ptr 5 1))] (u9 v2 v3 v1 [.cells [(cD v1.xK),(.vec 6 0 (v8+1) (v8+1) 2)], .vec 115 2 (bW ((v9++[(⟨v11,v6.cO⟩:aR)]).map gO)), .cells (wD v6).cells]) ⟨by kernel_rfl,by kernel_rfl⟩ ?_
  refine mA ?_;refine cT ?_;refine re [(2,oq (bk h3 rfl h2))] [(14,(an ((v4+1:Nat):Int))),(31,(an ((v4+1:Nat):Int)))] (u9 v2 v3 v1 [.cells [(cD v1.xK),(.vec 6 0 (v8+1) (v8+1) 2)], .vec 115 2 (bW ((v9++[(⟨v11,v6.cO⟩:aR)]).map gO)), .cells (wD v6).cells]) (by kernel_rfl) ?_;refine cT ?_;exact⟨(v4+1,v7,(v8+1),(v9++[(⟨v11,v6.cO⟩:aR)])),⟨(lJ trivial (lJ trivial (lJ trivial (lJ trivial (lJ trivial (lJ trivial (PB (xs:=((v9++[(⟨v11,v6.cO⟩:aR)]).map gO)) Kt))))))),by kernel_rfl⟩,⟨pL h3,hF⟩,agI _⟩
def Bf(N:Nat)(v2:agK (agL×agL))(v3:agK (agL×agL)):agK aI->Nat->(agK aI)->agM ((agK aI))
 |[],_,v8=>
  some v8
 |v6::v7,v4,v8=>
  (ou N v6 v2 v3).bind λv9=>
  bif (Nat.ble ((v8.length+1)*32) 140737488355328)then
  (λbV=>Bf N v2 v3 v7 (v4+1) bV) (v8++[v9])
  else none
def zt(N:Nat)(v1:agK aI)(v2:agK (agL×agL))(v3:agK (agL×agL)):agM ((agK aI)):=
 Bf N v2 v3 v1 0 []
theorem SM{N v1 v2 v3}:KP 23 [(.agg [(.mp 0),(.mp 1)]),(.d (.sl (cV v1)))] [.map (aZ v2), .map (aZ v3)] (λr=> .d (.sl (cV r))) (λ_=>[.map (aZ v2), .map (aZ v3)]) (zt N v1 v2 v3):=
 fh 2 Tryz.func23 (gA [[],[],[(4,oL v1 dC)]] (li (λ_=>(jw 5 52 2 [] (.inr (by kernel_rfl)) ·)) (gT j9 1 v1 λh2=>eY 1 [] [2,5,8,9,10] 4 (λv4(v8:agK aI)=>⟨22,[(2,(.ptr 2 0)),(5,(.own 3 (cV v8))),(8,(.d (.sl (cV v1)))),(9,(an (v1.length:Int))),(10,(an (v4:Int)))],[.map (aZ v2), .map (aZ v3), .cells [(.mp 0),(.mp 1)], .front 52 2 v8.length]⟩) (λv4 v8 h3 f1=>gH [[],[f0 (aU h3)],[]]) (λv4 v6 v7 v8 h3 f1 aE=>aq λv9 h4=>bq λh5=>gb aE (v8++[v9]) [[],[t0 (aV h3)],[(1,oE (kS (aL h3)))],[(10,oQ [(.agg [(.mp 0),(.mp 1)]),(ca v6)] [.map (aZ v2), .map (aZ v3), .cells [(.mp 0),(.mp 1)], .front 52 2 v8.length, .cells (ca v6).cells] [0,1] (xJ h4)),(16,oA j9 v8 ([v9]) h5)],[(2,oq (bk h3 rfl h2))]] h3))))
def x9(N:Nat)(v2:agK (agL×agL))(v3:agK (agL×agL)):agK bH->Nat->(agK bH)->agM ((agK bH))
 |[],_,v8=>
  some v8
 |v6::v7,v4,v8=>
  (qX N v6.ak v2).bind λv9=>
  (ou N v6.cU v2 v3).bind λv10=>
  bif (Nat.ble ((v8.length+1)*48) 140737488355328)then
  (λbV=>x9 N v2 v3 v7 (v4+1) bV) (v8++[(⟨v9,v10⟩:bH)])
  else none
def xe(N:Nat)(v1:agK bH)(v2:agK (agL×agL))(v3:agK (agL×agL)):agM ((agK bH)):=
 x9 N v2 v3 v1 0 []
theorem QX{N v1 v2 v3}:KP 56 [(.agg [(.mp 0),(.mp 1)]),(.d (.sl (dD v1)))] [.map (aZ v2), .map (aZ v3)] (λr=> .d (.sl (dD r))) (λ_=>[.map (aZ v2), .map (aZ v3)]) (xe N v1 v2 v3):=
 fh 2 Tryz.func56 (gA [[],[],[(4,oL v1 dW)]] (li (λ_=>(jw 5 72 3 [] (.inr (by kernel_rfl)) ·)) (gT ji 1 v1 λh2=>eY 1 [] [2,5,8,9,10] 4 (λv4(v8:agK bH)=>⟨29,[(2,(.ptr 2 0)),(5,(.own 3 (dD v8))),(8,(.d (.sl (dD v1)))),(9,(an (v1.length:Int))),(10,(an (v4:Int)))],[.map (aZ v2), .map (aZ v3), .cells [(.mp 0),(.mp 1)], .front 72 3 v8.length]⟩) (λv4 v8 h3 f1=>gH [[],[f0 (aU h3)],[]]) (λv4 v6 v7 v8 h3 f1 aE=>aq λv9 h4=>aq λv10 h5=>bq λh6=>gb aE (v8++[(⟨v9,v10⟩:bH)]) [[],[t0 (aV h3)],[(1,oE (iX (aL h3)))],[(16,oQ [(.mp 0),(bu v6.ak)] [.map (aZ v2), .map (aZ v3), .cells [(.mp 0),(.mp 1)], .front 72 3 v8.length, .cells (yZ v6).cells] [0] (xn _ h4)),(28,oQ [(.agg [(.mp 0),(.mp 1)]),(ca v6.cU)] [.map (aZ v2), .map (aZ v3), .cells [(.mp 0),(.mp 1)], .front 72 3 v8.length, .cells (yZ v6).cells] [0,1] (xJ h5)),(37,oA ji v8 ([(⟨v9,v10⟩:bH)]) h6)],[(2,oq (bk h3 rfl h2))]] h3))))
def yu(N:Nat)(v8:agK bl)(lR:(agK bl)->agM ((agK bl)))(v9:aI)(v10:(agK aI))(v11:agL):agM ((agK bl)):=
 bif (Nat.ble ((v8.length+1)*72) 140737488355328)then
 lR (v8++[(⟨v9,v11,v10⟩:bl)])
 else none
def tW(N:Nat)(v2:agK (agL×agL))(v3:agK (agL×agL)):agK bl->Nat->(agK bl)->agM ((agK bl))
 |[],_,v8=>
  some v8
 |v6::v7,v4,v8=>
  (ou N v6.aP v2 v3).bind λv9=>
  (zt N v6.bK v2 v3).bind λv10=>
  bif (bL v6.b7==bL (bs []))then
   yu N v8 (λbV=>tW N v2 v3 v7 (v4+1) bV) v9 v10 (bs [])
  else
   (qX N v6.b7 v3).bind λv12=>
   yu N v8 (λbV=>tW N v2 v3 v7 (v4+1) bV) v9 v10 v12
def H9(N:Nat)(v1:agK bl)(v2:agK (agL×agL))(v3:agK (agL×agL)):agM ((agK bl)):=
 tW N v2 v3 v1 0 []
def zw(v2:agK (agL×agL))(v3:agK (agL×agL))(v8:agK bl)(l:agK aj):agK aj:= .map (aZ v2):: .map (aZ v3):: .cells [(.mp 0),(.mp 1)]:: .front 111 4 v8.length::l
theorem ack{N v1 v2 v3}:KP 105 [(.agg [(.mp 0),(.mp 1)]),(.d (.sl (cE v1)))] [.map (aZ v2), .map (aZ v3)] (λr=> .d (.sl (cE r))) (λ_=>[.map (aZ v2), .map (aZ v3)]) (H9 N v1 v2 v3):=
 fh 2 Tryz.func105 (gA [[],[],[(4,oL v1 ee)]] (li (λ_=>(jw 5 111 4 [] (.inr (by kernel_rfl)) ·)) (gT jO 1 v1 λh2=>eY 1 [] [2,5,9,10,11] 4 (λv4(v8:agK bl)=>⟨39,[(2,(.ptr 2 0)),(5,(.own 3 (cE v8))),(9,(.d (.sl (cE v1)))),(10,(an (v1.length:Int))),(11,(an (v4:Int)))],(zw v2 v3 v8 [])⟩) (λv4 v8 h3 f1=>gH [[],[f0 (aU h3)],[]]) (λv4 v6 v7 v8 h3 f1 aE=>aq λv9 h4=>aq λv10 h5=>l7 2 [[],[t0 (aV h3)],[(1,oE (ff (aL h3)))],[(10,oQ [(.agg [(.mp 0),(.mp 1)]),(ca v6.aP)] (zw v2 v3 v8 [.cells (fP v6).cells]) [0,1] (xJ h4)),(22,oQ [(.agg [(.mp 0),(.mp 1)]),(.d (.sl (cV v6.bK)))] (zw v2 v3 v8 [.cells (fP v6).cells]) [0,1] (SM _ h5))],[]] [2,5,8,9,10,11] 6 (λ(v11:agL)=>⟨39,[(2,(.ptr 2 0)),(5,(.own 3 (cE v8))),(8,(.ptr 5 0)),(9,(.d (.sl (cE v1)))),(10,(an (v1.length:Int))),(11,(an (v4:Int)))],(zw v2 v3 v8 [.cells (fP v6).cells, .cells [(cD v9.xK),(.d (.sl (cw v9.xL))),(bu v11),(.d (.sl (cV v10)))]])⟩) (yu N v8 (λbV=>tW N v2 v3 v7 (v4+1) bV) v9 v10) (λf2 de=>au (λh7=>gm de (bs []) [[f0 (b9 h7)]]) λh7=>aq λv12 h8=>gm de v12 [[t0 (dm h7)],[(13,oQ [(.mp 1),(bu v6.b7)] (zw v2 v3 v8 [.cells (fP v6).cells, .cells [(cD v9.xK),(.d (.sl (cw v9.xL))),(bu (bs [])),(.d (.sl (cV v10)))]]) [1] (xn _ h8))]]) (λv11=>bq λh6=>gb aE (v8++[(⟨v9,v11,v10⟩:bl)]) [[(10,oA jO v8 ([(⟨v9,v11,v10⟩:bl)]) h6)],[(2,oq (bk h3 rfl h2))]] h3)))))
def Ar(N:Nat)(v1:ao)(v6:agL)(v4:aI)(v5:(agK bl))(BP:ao->(agK (agL×agL))->(agK (agL×agL))->agM ao)(v2:agK (agL×agL))(v3:agK (agL×agL)):agK ao->Nat->(agK ao)->agM ao
 |[],_,v11=>
  some (⟨v1.aM,v6,v1.dL,v1.aH,v4,v5,v11⟩:ao)
 |v9::v10,v7,v11=>
  (BP v9 v2 v3).bind λv12=>
  bif (Nat.ble ((v11.length+1)*160) 140737488355328)then
  (λig=>Ar N v1 v6 v4 v5 BP v2 v3 v10 (v7+1) ig) (v11++[v12])
  else none
def Aa(N:Nat)(v1:ao)(v4:aI)(v5:(agK bl))(BP:ao->(agK (agL×agL))->(agK (agL×agL))->agM ao)(v2:agK (agL×agL))(v3:agK (agL×agL))(v6:agL):agM ao:=
 Ar N v1 v6 v4 v5 BP v2 v3 v1.ba 0 []
def mK(N:Nat):Nat->ao->(agK (agL×agL))->(agK (agL×agL))->agM ao
 |0,_,_,_=>none
 |d+1,v1,v2,v3=>
  (ou N v1.aP v2 v3).bind λv4=>
  (H9 N v1.xIdx v2 v3).bind λv5=>
  bif (v1.aM==3)then
   (qX N v1.ak v3).bind λbP=>
   Aa N v1 v4 v5 (mK N d) v2 v3 bP
  else
   Aa N v1 v4 v5 (mK N d) v2 v3 v1.ak
def Ia(N:Nat)(v1:ao)(v2:agK (agL×agL))(v3:agK (agL×agL)):agM ao:=mK N N v1 v2 v3
def Lb(v2:agK (agL×agL))(v3:agK (agL×agL))(v1:ao)(v6:agL)(v4:aI)(v5:(agK bl))(l:agK aj):agK aj:= .map (aZ v2):: .map (aZ v3):: .cells [(.mp 0),(.mp 1)]:: .cells ((an v1.aM)::(bu v6)::Qe v1 [(cD v4.xK),(.d (.sl (cw v4.xL))),(.d (.sl (cE v5))),(.d (.sl (et v1.ba)))]):: .cells Gg::l
def Ox(v2:agK (agL×agL))(v3:agK (agL×agL))(v1:ao)(l:agK aj):agK aj:= .map (aZ v2):: .map (aZ v3):: .cells [(.mp 0),(.mp 1)]:: .cells (aO v1).cells:: .cells Gg::l
theorem TN(N:Nat):∀d:Nat,(∀{v1:ao}{v2:agK (agL×agL)}{v3:agK (agL×agL)},KP 57 [(.agg [(.mp 0),(.mp 1)]),(aO v1)] [.map (aZ v2), .map (aZ v3)] aO (λ_=>[.map (aZ v2), .map (aZ v3)]) (mK N d v1 v2 v3)):=by
 intro d
 induction d with
 |zero=>intro v1 v2 v3 r hF;rw[mK]at hF;cases hF
 |succ d ih=>
  have VB:= @ih;intro v1 v2 v3;rw[mK];exact fh 2 Tryz.func57 (aq λv4 h1=>aq λv5 h2=>YF 1 [[],[(10,oQ [(.agg [(.mp 0),(.mp 1)]),(ca v1.aP)] (Ox v2 v3 v1 []) [0,1] (xJ h1)),(22,oQ [(.agg [(.mp 0),(.mp 1)]),(.d (.sl (cE v1.xIdx)))] (Ox v2 v3 v1 []) [0,1] (ack _ h2))],[]] [2,3,4] 5 [] [(4,10),(4,11),(4,12)] (λ(v6:agL)=>⟨44,[(2,(.ptr 2 0)),(3,(.ptr 3 0)),(4,(.ptr 4 0))],(Lb v2 v3 v1 v6 v4 v5 [])⟩) (Aa N v1 v4 v5 (mK N d) v2 v3) (λf1 aE=>au (λh8=>aq λbP h9=>MC aE bP [[(0,bT h8)],[(13,oQ [(.mp 1),(bu v1.ak)] [.map (aZ v2), .map (aZ v3), .cells [(.mp 0),(.mp 1)], .cells (cf2 v1 [(cD v4.xK),(.d (.sl (cw v4.xL))),(.d (.sl (cE v5))),(.d (.sl (et v1.ba)))]), .cells Gg] [1] (xn _ h9))]]) λh8=>MC aE v1.ak [[(0,bF h8)]]) (λv6=>gA [[],[(7,oL v1.ba eX)]] (li (λ_=>(jw 5 67 13 [] (.inr (by kernel_rfl)) ·)) (gT jM 28 v1.ba λh4=>hJ 2 [] [2,3,4,5,28,29,30] 6 [] [(4,10),(4,11),(4,12)] (λv7(v11:(agK ao))=>⟨44,[(2,(.ptr 2 0)),(3,(.ptr 3 0)),(4,(.ptr 4 0)),(5,(.own 5 (et v11))),(28,(.d (.sl (et v1.ba)))),(29,(an (v1.ba.length:Int))),(30,(an (v7:Int)))],(Lb v2 v3 v1 v6 v4 v5 [.front 67 13 v11.length])⟩) (λv7 v11 h5 f2=>gH [[],[(0,bF (aU h5))],[],[]]) (λv7 v9 v10 v11 h5 f2 de=>aq λv12 h6=>bq λh7=>gS de (v11++[v12]) [[],[(0,bT (aV h5))],[(1,oE (j6 (aL h5)))],[(10,oQ [(.agg [(.mp 0),(.mp 1)]),(aO v9)] (Lb v2 v3 v1 v6 v4 v5 [.front 67 13 v11.length, .cells (aO v9).cells]) [0,1] (VB _ h6)),(14,⟨_,_, .eq (congrArg J.full (nD [v12]).symm)⟩),(16,oA jM v11 ([v12]) h7)],[(2,oq (bk h5 rfl h4))]] h5)))))
theorem aeB{N v1 v2 v3}:KP 57 [(.agg [(.mp 0),(.mp 1)]),(aO v1)] [.map (aZ v2), .map (aZ v3)] aO (λ_=>[.map (aZ v2), .map (aZ v3)]) (Ia N v1 v2 v3):=(TN N N)
def rK(N:Nat)(v1:aT)(v3:agK (agL×agL)):agK agL->Nat->(agK (agL×agL))->agM aT
 |[],_,v9=>
  (qX N v1.ak v3).bind λv10=>
  (xe N v1.aK v9 v3).bind λv11=>
  (xe N v1.bx v9 v3).bind λv12=>
  (Ia N v1.bY v9 v3).bind λbP=>
  some (⟨v10,v1.aH,v11,v12,v1.dd,bP⟩:aT)
 |v7::v8,v5,v9=>
  Option.bind (tO N (bs [105]) (v5:Int)) λcb=>
  bif (Nat.blt v9.length 9223372036854775807)then
  (λbV=>rK N v1 v3 v8 (v5+1) bV) ((v7,cb)::v9)
  else none
def CO(N:Nat)(v1:aT)(v2:agK (agL×agL))(v3:agK (agL×agL)):agM aT:=
 (AA N v1).bind λv4=>
 rK N v1 v3 v4 0 v2
def xb(v2:agK (agL×agL))(v3:agK (agL×agL))(v1:aT)(v9:agK (agL×agL))(l:agK aj):agK aj:= .map (aZ v2):: .map (aZ v3):: .cells (ej v1).cells:: .cells [(.mp 0),(.mp 1)]:: .cells [(bu (bs [])),(an (0:Int)),(an (0:Int)),(an (0:Int)),(an (0:Int)),(an (0:Int)),(.d (.sl (dD []))),(.d (.sl (dD []))),(an (0:Int)),(an (0:Int)),(bu (bs [])),(cD (0:Int64)),(cD (0:Int64)),(an (0:Int)),(an (0:Int)),(an (0:Int)),(an (0:Int)),(an (0:Int)),(cD (0:Int64)),(.d (.sl (cw []))),(.d (.sl (cE []))),(.d (.sl (et [])))]:: .map (aZ v9):: .cells [(.mp 5),(.mp 1)]::l
theorem Ua{N v1 v2 v3}:KP 24 [(ej v1),(.agg [(.mp 0),(.mp 1)])] [.map (aZ v2), .map (aZ v3)] ej (λ_=>[.map (aZ v2), .map (aZ v3)]) (CO N v1 v2 v3):=
 fh 2 Tryz.func24 (gA [[],[]] (li (λ_=>(adt v1 v2 v3 ·)) (aq λv4 h1=>gA [[(4,cK QV h1),(7,oL v4 dI)]] (gT dU 27 v4 λh3=>eY 1 [] [2,4,5,27,28,29] 7 (λv5(v9:agK (agL×agL))=>⟨62,[(2,(.ptr 2 0)),(4,(.ptr 4 0)),(5,(.ptr 6 0)),(27,(.d (.sl (bD v4)))),(28,(an (v4.length:Int))),(29,(an (v5:Int)))],(xb v2 v3 v1 v9 [])⟩) (λv5 v9 h4 f1=>aq λv10 h5=>aq λv11 h6=>aq λv12 h7=>aq λbP h8=>gH [[],[f0 (aU h4)],[(13,oQ [(.mp 1),(bu v1.ak)] (xb v2 v3 v1 v9 []) [1] (xn _ h5)),(31,oQ [(.agg [(.mp 5),(.mp 1)]),(.d (.sl (dD v1.aK)))] (xb v2 v3 v1 v9 []) [5,1] (QX _ h6)),(43,oQ [(.agg [(.mp 5),(.mp 1)]),(.d (.sl (dD v1.bx)))] (xb v2 v3 v1 v9 []) [5,1] (QX _ h7)),(61,oQ [(.agg [(.mp 5),(.mp 1)]),(aO v1.bY)] (xb v2 v3 v1 v9 []) [5,1] (aeB _ h8))]]) (λv5 v7 v8 v9 h4 f1 aE=>aq λcb h9=>bq λbn=>gb aE ((v7,cb)::v9) [[],[t0 (aV h4)],[(4,oE (ia (aL h4)))],[(13,cK C2 h9),(16,⟨_,_, .sd (o:= .none) (Dz bn)⟩)],[(2,oq (bk h4 rfl h3))]] h4)))))
def uQ(N:Nat)(v22:agK agL)(dp:agK cC)(v32:agK ck)(v37:agK aT)(v17:agK (agL×agL)):agK agL->Nat->(agK agL)->agM (aB×Int)
 |[],_,ko=>
  some ((⟨v22,dp,v32,v37,ko⟩:aB),(0:Int))
 |v40::v41,ql,ko=>
  bif (Nat.ble ((ko.length+1)*16) 140737488355328)then
  (λacN=>uQ N v22 dp v32 v37 v17 v41 (ql+1) acN) (ko++[(dv v17 v40 (bs []))])
  else none
def wR(N:Nat)(v22:agK agL)(dp:agK cC)(v32:agK ck)(v17:agK (agL×agL))(v1:aB)(v7:agK (agL×agL)):agK aT->Nat->(agK aT)->agM (aB×Int)
 |[],_,v37=>
  uQ N v22 dp v32 v37 v17 v1.cd 0 []
 |v35::qK,v33,v37=>
  (CO N v35 v7 v17).bind λpk=>
  bif (Nat.ble ((v37.length+1)*272) 140737488355328)then
  (λHb=>wR N v22 dp v32 v17 v1 v7 qK (v33+1) Hb) (v37++[pk])
  else none
def vz(N:Nat)(v22:agK agL)(dp:agK cC)(v17:agK (agL×agL))(v1:aB)(v7:agK (agL×agL)):agK ck->Nat->(agK ck)->agM (aB×Int)
 |[],_,v32=>
  wR N v22 dp v32 v17 v1 v7 v1.aw 0 []
 |v30::v31,v28,v32=>
  (zt N v30.aK v7 v17).bind λv44=>
  bif (Nat.ble ((v32.length+1)*80) 140737488355328)then
  (λHS=>vz N v22 dp v17 v1 v7 v31 (v28+1) HS) (v32++[(⟨(dv v17 v30.ak (bs [])),v30.aH,v44⟩:ck)])
  else none
def wj(N:Nat)(v22:agK agL)(v17:agK (agL×agL))(v1:aB)(v7:agK (agL×agL)):agK cC->Nat->(agK cC)->agM (aB×Int)
 |[],_,dp=>
  vz N v22 dp v17 v1 v7 v1.aC 0 []
 |v25::v26,v23,dp=>
  (ou N v25.aP v7 v17).bind λv45=>
  bif (Nat.ble ((dp.length+1)*40) 140737488355328)then
  (λAT=>wj N v22 v17 v1 v7 v26 (v23+1) AT) (dp++[(⟨v45,v25.jA⟩:cC)])
  else none
def pQ(N:Nat)(v17:agK (agL×agL))(v1:aB)(v7:agK (agL×agL)):agK agL->Nat->(agK agL)->agM (aB×Int)
 |[],_,v22=>
  wj N v22 v17 v1 v7 v1.bX 0 []
 |v20::v21,c6,v22=>
  bif (Nat.ble ((v22.length+1)*16) 140737488355328)then
  (λmv=>pQ N v17 v1 v7 v21 (c6+1) mv) (v22++[(dv v7 v20 (bs []))])
  else none
def Bj(N:Nat)(v1:aB)(v7:agK (agL×agL)):agK aT->Nat->(agK (agL×agL))->agM (aB×Int)
 |[],_,v17=>
  pQ N v17 v1 v7 v1.aD 0 []
 |bI::cY,bP,v17=>
  Option.bind (tO N (bs [100]) (bP:Int)) λv46=>
  bif (Nat.blt v17.length 9223372036854775807)then
  (λmG=>Bj N v1 v7 cY (bP+1) mG) ((bI.ak,v46)::v17)
  else none
def zq(N:Nat)(v1:aB)(v7:agK (agL×agL)):agK ck->Nat->(agK (agL×agL))->agM (aB×Int)
 |[],_,v12=>
  Bj N v1 v7 v1.aw 0 v12
 |v10::v11,v8,v12=>
  Option.bind (tO N (bs [112]) (v8:Int)) λrV=>
  bif (Nat.blt v12.length 9223372036854775807)then
  (λig=>zq N v1 v7 v11 (v8+1) ig) ((v10.ak,rV)::v12)
  else none
def vD(N:Nat)(v1:aB):agK agL->Nat->(agK (agL×agL))->agM (aB×Int)
 |[],_,v7=>
  zq N v1 v7 v1.aC 0 []
 |v5::v6,v3,v7=>
  Option.bind (tO N (bs [115]) (v3:Int)) λqh=>
  bif (Nat.blt v7.length 9223372036854775807)then
  (λbV=>vD N v1 v6 (v3+1) bV) ((v5,qh)::v7)
  else none
def EW(N:Nat)(v1:aB):agM (aB×Int):=
 (DI N v1).bind λv2=>
 bif (v2.2 !=0)then
  some (Ic,v2.2)
 else
  vD N v1 v1.aD 0 []
def qp(v1:aB)(v7:agK (agL×agL))(l:agK aj):agK aj:= .cells (cH v1).cells:: .cells Pu:: .map (aZ v7)::l
def OX(v1:aB)(v7:agK (agL×agL))(v17:agK (agL×agL))(v22:agK agL)(dp:agK cC)(l:agK aj):agK aj:=qp v1 v7 (.map (aZ v17):: .cells [(.own 6 (bD v22)),(.own 7 (ft dp)),(.d (.v (.slice none 0 0))),(.d (.v (.slice none 0 0))),(.d (.v (.slice none 0 0)))]:: .cells [(.mp 2),(.mp 3)]:: .front 9 1 v22.length:: .front 54 3 dp.length::l)
def SE(v1:aB)(v7:agK (agL×agL))(v17:agK (agL×agL))(v22:agK agL)(dp:agK cC)(v32:agK ck)(l:agK aj):agK aj:=qp v1 v7 (.map (aZ v17):: .cells [(.own 6 (bD v22)),(.own 7 (ft dp)),(.own 8 (gq v32)),(.d (.v (.slice none 0 0))),(.d (.v (.slice none 0 0)))]:: .cells [(.mp 2),(.mp 3)]:: .front 9 1 v22.length:: .front 54 3 dp.length:: .front 59 7 v32.length::l)
def SK(v1:aB)(v7:agK (agL×agL))(v17:agK (agL×agL))(v22:agK agL)(dp:agK cC)(v32:agK ck)(v37:agK aT)(l:agK aj):agK aj:=qp v1 v7 (.map (aZ v17):: .cells [(.own 6 (bD v22)),(.own 7 (ft dp)),(.own 8 (gq v32)),(.own 9 (eI v37)),(.d (.v (.slice none 0 0)))]:: .cells [(.mp 2),(.mp 3)]:: .front 9 1 v22.length:: .front 54 3 dp.length:: .front 59 7 v32.length:: .front 69 22 v37.length::l)
theorem SD{N v1}:KO 8 [(cH v1)] (λr=> .bp [(cH r.1),(an r.2)]) (EW N v1):=
 fw Tryz.func8 (aq λv2 h1=>gA [[],[(4,cK Z0 h1)],[]] (bJ λh2=>gA [[f0 h2],[],[(7,oL v1.aD dI)]] (gT dU 38 v1.aD λh4=>hJ 1 [] [1,2,6,7,38,39,40] 4 [] [(1,0),(1,1),(1,2),(1,3),(1,4)] (λv3(v7:(agK (agL×agL)))=>⟨174,[(1,(.ptr 0 0)),(2,(.ptr 1 0)),(6,(.mp 2)),(7,(.mp 3)),(38,(.d (.sl (bD v1.aD)))),(39,(an (v1.aD.length:Int))),(40,(an (v3:Int)))],(qp v1 v7 [.map (aZ [])])⟩) (λv3 v7 h5 f1=>gA [[],[f0 (aU h5)],[(7,oL v1.aC gv)]] (gT lW 51 v1.aC λh7=>hJ 2 [] [1,2,6,7,51,52,53] 4 [] [(1,0),(1,1),(1,2),(1,3),(1,4)] (λv8(v12:(agK (agL×agL)))=>⟨174,[(1,(.ptr 0 0)),(2,(.ptr 1 0)),(6,(.mp 2)),(7,(.mp 3)),(51,(.d (.sl (gq v1.aC)))),(52,(an (v1.aC.length:Int))),(53,(an (v8:Int)))],(qp v1 v7 [.map (aZ v12)])⟩) (λv8 v12 h8 f2=>gA [[],[f0 (aU h8)],[(7,oL v1.aw fF)]] (gT lT 65 v1.aw λbn=>hJ 3 [] [1,2,6,7,65,66,67] 4 [] [(1,0),(1,1),(1,2),(1,3),(1,4)] (λbP(v17:(agK (agL×agL)))=>⟨174,[(1,(.ptr 0 0)),(2,(.ptr 1 0)),(6,(.mp 2)),(7,(.mp 3)),(65,(.d (.sl (eI v1.aw)))),(66,(an (v1.aw.length:Int))),(67,(an (bP:Int)))],(qp v1 v7 [.map (aZ v17)])⟩) (λbP v17 bo f3=>gA [[],[f0 (aU bo)],[],[],[(7,oL v1.aD dI)]] (li (λ_=>(kg 4 0 9 1 [] (.inr (by kernel_rfl)) ·)) (gT dU 82 v1.aD λcn=>hJ 4 [] [1,2,6,7,14,15,82,83,84] 7 [] [(1,0),(1,1),(1,2),(1,3),(1,4),(4,1),(4,2),(4,3),(4,4)] (λc6(v22:(agK agL))=>⟨174,[(1,(.ptr 0 0)),(2,(.ptr 1 0)),(6,(.mp 2)),(7,(.mp 3)),(14,(.ptr 4 0)),(15,(.ptr 5 0)),(82,(.d (.sl (bD v1.aD)))),(83,(an (v1.aD.length:Int))),(84,(an (c6:Int)))],(qp v1 v7 [.map (aZ v17), .cells [(.own 6 (bD v22)),(.d (.v (.slice none 0 0))),(.d (.v (.slice none 0 0))),(.d (.v (.slice none 0 0))),(.d (.v (.slice none 0 0)))], .cells [(.mp 2),(.mp 3)], .front 9 1 v22.length])⟩) (λc6 v22 cg f4=>gA [[],[f0 (aU cg)],[(7,oL v1.bX jr)]] (li (λ_=>(kg 4 1 54 3 [] (.inr (by kernel_rfl)) ·)) (gT rB 98 v1.bX λcf=>hJ 5 [] [1,2,7,14,15,98,99,100] 8 [] [(1,0),(1,1),(1,2),(1,3),(1,4),(4,2),(4,3),(4,4)] (λv23(dp:(agK cC))=>⟨174,[(1,(.ptr 0 0)),(2,(.ptr 1 0)),(7,(.mp 3)),(14,(.ptr 4 0)),(15,(.ptr 5 0)),(98,(.d (.sl (ft v1.bX)))),(99,(an (v1.bX.length:Int))),(100,(an (v23:Int)))],(OX v1 v7 v17 v22 dp [])⟩) (λv23 dp cP f5=>gA [[],[f0 (aU cP)],[(7,oL v1.aC gv)]] (li (λ_=>(kg 4 2 59 7 [] (.inr (by kernel_rfl)) ·)) (gT lW 118 v1.aC λgd=>hJ 6 [] [1,2,7,14,15,118,119,120] 9 [] [(1,0),(1,1),(1,2),(1,3),(1,4),(4,3),(4,4)] (λv28(v32:(agK ck))=>⟨174,[(1,(.ptr 0 0)),(2,(.ptr 1 0)),(7,(.mp 3)),(14,(.ptr 4 0)),(15,(.ptr 5 0)),(118,(.d (.sl (gq v1.aC)))),(119,(an (v1.aC.length:Int))),(120,(an (v28:Int)))],(SE v1 v7 v17 v22 dp v32 [])⟩) (λv28 v32 du f6=>gA [[],[f0 (aU du)],[(7,oL v1.aw fF)]] (li (λ_=>(kg 4 3 69 22 [] (.inr (by kernel_rfl)) ·)) (gT lT 142 v1.aw λgh=>hJ 7 [] [1,2,7,14,15,142,143,144] 10 [] [(1,0),(1,1),(1,2),(1,3),(1,4),(4,4)] (λv33(v37:(agK aT))=>⟨174,[(1,(.ptr 0 0)),(2,(.ptr 1 0)),(7,(.mp 3)),(14,(.ptr 4 0)),(15,(.ptr 5 0)),(142,(.d (.sl (eI v1.aw)))),(143,(an (v1.aw.length:Int))),(144,(an (v33:Int)))],(SK v1 v7 v17 v22 dp v32 v37 [])⟩) (λv33 v37 eM f7=>gA [[],[f0 (aU eM)],[(7,oL v1.cd dI)]] (li (λ_=>(kg 4 4 9 1 [] (.inr (by kernel_rfl)) ·)) (gT dU 158 v1.cd λjB=>hJ 8 [] [2,7,14,158,159,160] 11 [] [(1,0),(1,1),(1,2),(1,3),(1,4)] (λql(ko:(agK agL))=>⟨174,[(2,(.ptr 1 0)),(7,(.mp 3)),(14,(.ptr 4 0)),(158,(.d (.sl (bD v1.cd)))),(159,(an (v1.cd.length:Int))),(160,(an (ql:Int)))],(qp v1 v7 [.map (aZ v17), .cells [(.own 6 (bD v22)),(.own 7 (ft dp)),(.own 8 (gq v32)),(.own 9 (eI v37)),(.own 10 (bD ko))], .cells [(.mp 2),(.mp 3)], .front 9 1 v22.length, .front 54 3 dp.length, .front 59 7 v32.length, .front 69 22 v37.length, .front 9 1 ko.length])⟩) (λql ko ib f8=>gR [[],[f0 (aU ib)],[]]) (λql v40 v41 ko ib f8 TO=>bq λjZ=>gS TO (ko++[(dv v17 v40 (bs []))]) [[],[t0 (aV ib)],[(1,oE (ia (aL ib)))],[(14,⟨_,_, .eq (E5 false v17 v40)⟩),(19,oA dU ko ([(dv v17 v40 (bs []))]) jZ)],[(2,oq (bk ib rfl jB))]] ib)))) (λv33 v35 qK v37 eM f7 Lp=>aq λpk nc=>bq λph=>gS Lp (v37++[pk]) [[],[t0 (aV eM)],[(1,oE (iA (aL eM)))],[(13,oQ [(ej v35),(.agg [(.mp 2),(.mp 3)])] (SK v1 v7 v17 v22 dp v32 v37 [.cells (ej v35).cells]) [2,3] (Ua _ nc)),(19,oA lT v37 ([pk]) ph)],[(2,oq (bk eM rfl gh))]] eM)))) (λv28 v30 v31 v32 du f6 Ln=>aq λv44 sA=>bq λyG=>gS Ln (v32++[(⟨(dv v17 v30.ak (bs [])),v30.aH,v44⟩:ck)]) [[],[t0 (aV du)],[(1,oE (iz (aL du)))],[(17,⟨_,_, .eq (E5 false v17 v30.ak)⟩),(34,oQ [(.agg [(.mp 2),(.mp 3)]),(.d (.sl (cV v30.aK)))] (SE v1 v7 v17 v22 dp v32 [.cells (oB v30).cells]) [2,3] (SM _ sA)),(43,oA lW v32 ([(⟨(dv v17 v30.ak (bs [])),v30.aH,v44⟩:ck)]) yG)],[(2,oq (bk du rfl gd))]] du)))) (λv23 v25 v26 dp cP f5 xz=>aq λv45 KR=>bq λLa=>gS xz (dp++[(⟨v45,v25.jA⟩:cC)]) [[],[t0 (aV cP)],[(1,oE (qR (aL cP)))],[(16,oQ [(.agg [(.mp 2),(.mp 3)]),(ca v25.aP)] (OX v1 v7 v17 v22 dp [.cells (nU v25).cells]) [2,3] (xJ KR)),(31,oA rB dp ([(⟨v45,v25.jA⟩:cC)]) La)],[(2,oq (bk cP rfl cf))]] cP)))) (λc6 v20 v21 v22 cg f4 jV=>bq λG8=>gS jV (v22++[(dv v7 v20 (bs []))]) [[],[t0 (aV cg)],[(1,oE (ia (aL cg)))],[(14,⟨_,_, .eq (E5 false v7 v20)⟩),(19,oA dU v22 ([(dv v7 v20 (bs []))]) G8)],[(2,oq (bk cg rfl cn))]] cg)))) (λbP bI cY v17 bo f3 iV=>aq λv46 GN=>bq λGY=>gS iV ((bI.ak,v46)::v17) [[],[t0 (aV bo)],[(4,oE (iA (aL bo)))],[(13,cK C2 GN),(16,⟨_,_, .sd (o:= .none) (Dz GY)⟩)],[(2,oq (bk bo rfl bn))]] bo))) (λv8 v10 v11 v12 h8 f2 de=>aq λrV Ii=>bq λLj=>gS de ((v10.ak,rV)::v12) [[],[t0 (aV h8)],[(4,oE (iz (aL h8)))],[(13,cK C2 Ii),(16,⟨_,_, .sd (o:= .none) (Dz Lj)⟩)],[(2,oq (bk h8 rfl h7))]] h8))) (λv3 v5 v6 v7 h5 f1 aE=>aq λqh Jd=>bq λLr=>gS aE ((v5,qh)::v7) [[],[t0 (aV h5)],[(4,oE (ia (aL h5)))],[(10,cK C2 Jd),(13,⟨_,_, .sd (o:= .none) (Dz Lr)⟩)],[(2,oq (bk h5 rfl h4))]] h5))))
def F8(N:Nat)(v2:agK agL):agK agL->Nat->agM Bool
 |[],_=>
  some true
 |v5::v6,v3=>
  Option.bind (v2[((v3:Int)).toNat]?) λv7=>
  bif (bL v5==bL v7)then
   (F8 N v2 v6 (v3+1))
  else
   some false
def A8(N:Nat)(v1:agK agL)(v2:agK agL):agM Bool:=
 bif ((v1.length:Int) !=(v2.length:Int))then
  some false
 else
  F8 N v2 v1 0
theorem QP{N v1 v2}:KO 26 [(.d (.sl (bD v1))),(.d (.sl (bD v2)))] aJ (A8 N v1 v2):=
 fw Tryz.func26 (gA [[],[(4,oL v1 dI),(10,oL v2 dI)]] (fW λ_=>gT dU 0 v1 λh3=>dc 1 [] [0,1,5] 0 (λv3=>⟨26,[(0,(.d (.sl (bD v1)))),(1,(.d (.sl (bD v2)))),(5,(an (v3:Int)))],[]⟩) (λv3 h4 f1=>gR [[(7,oL v1 dI)],[f0 (aU h4)],[]]) (λv3 v5 v6 h4 f1 aE=>aq λv7 h5=>gA [[(7,oL v1 dI)],[t0 (aV h4)],[(7,oE (ia (aL h4))),(19,oE (ia h5))]] (eJ λh7=>gb aE () [[f0 (b9 h7)],[(5,oq (bk h4 rfl h3))]] h4))))
def BN(N:Nat)(v2:aI):agK aR->Nat->agM Bool
 |[],_=>
  some true
 |v6::v7,v4=>
  Option.bind (v2.xL[((v4:Int)).toNat]?) λv8=>
  bif ((bL v6.ak==bL v8.ak)&&((v6.cO.toInt==v8.cO.toInt)&&true))then
   (BN N v2 v7 (v4+1))
  else
   some false
def qS(N:Nat)(v1:aI)(v2:aI):agM Bool:=
 Option.bind (bif (v1.xK.toInt !=v2.xK.toInt)then some true else some ((v1.xL.length:Int) !=(v2.xL.length:Int))) λv3=>
 bif v3 then
  some false
 else
  BN N v2 v1.xL 0
theorem zL{N v1 v2}:KO 64 [(ca v1),(ca v2)] aJ (qS N v1 v2):=
 fw Tryz.func64 (gA [[]] (gG (λv3=>[(19,(aJ v3))]) (λ_=>[.cells (ca v1).cells, .cells (ca v2).cells]) (au (λh1=>gE [(5,bT h1)] []) λh1=>gE [(5,bF h1)] [(25,oL v1.xL dO),(34,oL v2.xL dO)]) λv3=>fW λ_=>gB ku 0 1 v1.xL λh5=>dc 1 [] [2,3,5] 2 (λv4=>⟨38,[(2,(.ptr 0 0)),(3,(.ptr 1 0)),(5,(an (v4:Int)))],[.cells (ca v1).cells, .cells (ca v2).cells]⟩) (λv4 h6 f1=>gR [[(10,oL v1.xL dO)],[f0 (aU h6)],[]]) (λv4 v6 v7 h6 f1 aE=>aq λv8 h7=>gA [[(10,oL v1.xL dO)],[t0 (aV h6)],[(10,oE (iY (aL h6))),(25,oE (iY h7))]] (eJ λh9=>gb aE () [[f0 (b9 h9)],[(5,oq (bk h6 rfl h5))]] h6))))
def Fu(N:Nat)(v1:cC)(v2:cC):agM Bool:=
 Option.bind (bif (v1.jA==v2.jA)then (qS N v1.aP v2.aP).bind λv3=>
 some v3 else some false) λv4=>
 some v4
theorem ad0{N v1 v2}:KO 63 [(nU v1),(nU v2)] aJ (Fu N v1 v2):=
 fw Tryz.func63 (gA [[]] (gG (λv4=>[(4,(aJ v4))]) (λ_=>[.cells (nU v1).cells, .cells (nU v2).cells]) (au (λh1=>aq λv3 h2=>gE [(5,bT h1)] [(31,cK zL h2)]) λh1=>gE [(5,bF h1)] []) λv4=>gR []))
def DR(N:Nat)(v2:agK cC):agK cC->Nat->agM Bool
 |[],_=>
  some true
 |v5::v6,v3=>
  Option.bind (v2[((v3:Int)).toNat]?) λv7=>
  (Fu N v5 v7).bind λv8=>
  bif v8 then
   (DR N v2 v6 (v3+1))
  else
   some false
def BJ(N:Nat)(v1:agK cC)(v2:agK cC):agM Bool:=
 bif ((v1.length:Int) !=(v2.length:Int))then
  some false
 else
  DR N v2 v1 0
theorem aeH{N v1 v2}:KO 27 [(.d (.sl (ft v1))),(.d (.sl (ft v2)))] aJ (BJ N v1 v2):=
 fw Tryz.func27 (gA [[],[(4,oL v1 jr),(10,oL v2 jr)]] (fW λ_=>gT rB 0 v1 λh3=>dc 1 [] [0,1,5] 0 (λv3=>⟨27,[(0,(.d (.sl (ft v1)))),(1,(.d (.sl (ft v2)))),(5,(an (v3:Int)))],[]⟩) (λv3 h4 f1=>gR [[(7,oL v1 jr)],[f0 (aU h4)],[]]) (λv3 v5 v6 h4 f1 aE=>aq λv7 h5=>aq λv8 h7=>gA [[(7,oL v1 jr)],[t0 (aV h4)],[(7,oE (qR (aL h4))),(19,oE (qR h5)),(25,cK ad0 h7)]] (eJ λh8=>gb aE () [[f0 (b9 h8)],[(5,oq (bk h4 rfl h3))]] h4))))
def CW(N:Nat)(v2:agK aI):agK aI->Nat->agM Bool
 |[],_=>
  some true
 |v5::v6,v3=>
  Option.bind (v2[((v3:Int)).toNat]?) λv7=>
  (qS N v5 v7).bind λv8=>
  bif v8 then
   (CW N v2 v6 (v3+1))
  else
   some false
def yM(N:Nat)(v1:agK aI)(v2:agK aI):agM Bool:=
 bif ((v1.length:Int) !=(v2.length:Int))then
  some false
 else
  CW N v2 v1 0
theorem Q7{N v1 v2}:KO 28 [(.d (.sl (cV v1))),(.d (.sl (cV v2)))] aJ (yM N v1 v2):=
 fw Tryz.func28 (gA [[],[(4,oL v1 dC),(10,oL v2 dC)]] (fW λ_=>gT j9 0 v1 λh3=>dc 1 [] [0,1,5] 0 (λv3=>⟨27,[(0,(.d (.sl (cV v1)))),(1,(.d (.sl (cV v2)))),(5,(an (v3:Int)))],[]⟩) (λv3 h4 f1=>gR [[(7,oL v1 dC)],[f0 (aU h4)],[]]) (λv3 v5 v6 h4 f1 aE=>aq λv7 h5=>aq λv8 h7=>gA [[(7,oL v1 dC)],[t0 (aV h4)],[(7,oE (kS (aL h4))),(19,oE (kS h5)),(25,cK zL h7)]] (eJ λh8=>gb aE () [[f0 (b9 h8)],[(5,oq (bk h4 rfl h3))]] h4))))
def Gk(N:Nat)(v2:agK bH):agK bH->Nat->agM Bool
 |[],_=>
  some true
 |v5::v6,v3=>
  Option.bind (v2[((v3:Int)).toNat]?) λv7=>
  Option.bind (bif (bL v5.ak==bL v7.ak)then (qS N v5.cU v7.cU).bind λv8=>
  some (!v8)else some true) λv9=>
  bif v9 then
   some false
  else
   (Gk N v2 v6 (v3+1))
def Au(N:Nat)(v1:agK bH)(v2:agK bH):agM Bool:=
 bif ((v1.length:Int) !=(v2.length:Int))then
  some false
 else
  Gk N v2 v1 0
theorem Q3{N v1 v2}:KO 65 [(.d (.sl (dD v1))),(.d (.sl (dD v2)))] aJ (Au N v1 v2):=
 fw Tryz.func65 (gA [[],[(4,oL v1 dW),(10,oL v2 dW)]] (fW λ_=>gT ji 0 v1 λh3=>dc 1 [] [0,1,5] 0 (λv3=>⟨42,[(0,(.d (.sl (dD v1)))),(1,(.d (.sl (dD v2)))),(5,(an (v3:Int)))],[]⟩) (λv3 h4 f1=>gR [[(7,oL v1 dW)],[f0 (aU h4)],[]]) (λv3 v5 v6 h4 f1 aE=>gA [[(7,oL v1 dW)],[t0 (aV h4)]] (aq λv7 h5=>gG (λv9=>[(41,(aJ v9))]) (λ_=>[]) (bS (7,oE (iX (aL h4))) (bS (22,oE (iX h5)) (au (λh7=>aq λv8 h8=>gE [(11,bF (b9 h7))] [(43,oE (iX (aL h4))),(58,oE (iX h5)),(67,cK zL h8)]) λh7=>gE [(11,bT (dm h7))] []))) λv9=>bJ λbn=>gb aE () [[f0 bn],[(5,oq (bk h4 rfl h3))]] h4))))
def FW(N:Nat)(v1:bl)(v2:bl):agM Bool:=
 Option.bind (bif (bL v1.b7==bL v2.b7)then (qS N v1.aP v2.aP).bind λv3=>
 (bif v3 then (yM N v1.bK v2.bK).bind λv4=>
 some v4 else some false)else some false) λv5=>
 some v5
theorem acX{N v1 v2}:KO 157 [(fP v1),(fP v2)] aJ (FW N v1 v2):=
 fw Tryz.func157 (gA [[]] (gG (λv5=>[(4,(aJ v5))]) (λ_=>[.cells (fP v1).cells, .cells (fP v2).cells]) (au (λh1=>aq λv3 h2=>bt (5,bT h1) (bS (31,cK zL h2) (au (λh3=>aq λv4 h4=>gE [(12,bT h3)] [(52,cK Q7 h4)]) λh3=>gE [(12,bF h3)] []))) λh1=>gE [(5,bF h1),(12,bF rfl)] []) λv5=>gR []))
end Go.Proofs.YtmkmibahjanejaaGreatDoor
