/-
  Part 10 of the proof: PK2, PK3, PK4.
-/
import Derived.Test.YtmkmibahjanejaaGreatDoorPr9
namespace Go.Proofs.YtmkmibahjanejaaGreatDoor
open Go.RowKit
set_option maxRecDepth 100000
set_option maxHeartbeats 0
set_option linter.unusedVariables false
theorem k00{α β γ:Type}{a:Option α}{b:α->Option β}{f:α->β->Option γ}{r:γ}(h:Option.bind a (λx=>Option.bind (b x) (f x))=some r):∃x,a=some x/\∃y,b x=some y/\f x y=some r:=have⟨x,p,h⟩:=dv h;have⟨y,q,h⟩:=dv h;⟨x,p,y,q,h⟩
theorem zo{α β:Type}{P:α->β->Prop}(a:α)(b:β)(h:P a b:=by kernel_rfl):∃a b,P a b:=⟨a,b,h⟩
def aeC:aG:=⟨[],[],[],[],[]⟩
def BC:apH AV:=[(aq (0:Int)),(aq (0:Int)),(aq (0:Int)),(aq (0:Int)),(aq (0:Int))]
def Q5:apH AV:=[(de (0:Int64)),(.d (.v (.slice none 0 0)))]
def GY:apH AV:=[(aq (0:Int)),(aL (bs [])),(de (0:Int64)),(de (0:Int64)),(aq (0:Int)),(aq (0:Int)),(aq (0:Int)),(aq (0:Int)),(aq (0:Int)),(de (0:Int64)),(.d (.v (.slice none 0 0))),(.d (.v (.slice none 0 0))),(.d (.v (.slice none 0 0)))]
def Va:apH AV:=[(.d (.v (.slice none 0 0))),(.d (.v (.slice none 0 0))),(.d (.v (.slice none 0 0))),(.d (.v (.slice none 0 0))),(.d (.v (.slice none 0 0)))]
def UP(v:ar)(r:apH AV):apH AV:=(de v.dK.xN)::(de v.dK.xD)::(aq v.aM.bS)::(aq v.aM.cb)::(aq v.aM.ca)::(aq v.aM.cJ)::(aq v.aM.cH)::r
def cf2(v:ar)(r:apH AV):apH AV:=(aq v.aJ)::(aL v.ao)::(de v.dK.xN)::(de v.dK.xD)::(aq v.aM.bS)::(aq v.aM.cb)::(aq v.aM.ca)::(aq v.aM.cJ)::(aq v.aM.cH)::r
def xG(N:Nat):apH ar->apJ Int
 |[]=>
  some (0:Int)
 |v5::v6=>
  (EP N v5).bind λv7=>
  bif (v7 !=0)then
   some v7
  else
   (xG N v6)
def wu(N:Nat)(v1:ar):apJ Int:=
 (SI N v1).bind λv2=>
 bif (decide (v2>40))then
  some (13:Int)
 else
  (EJ N v1).bind λv3=>
  bif (decide (v3>2000))then
   some (2:Int)
  else
   (I7 N v1).bind λv4=>
   xG N (cy v4)
def oC(v1:ar)(l:apH an):apH an:= .cells (aW v1).cells:: .cells [(aq (0:Int))]::l
def Sx(v1:ar)(kh:Code)(ko:Code)(v4:ar)(v5:ar)(l:apH an):apH an:=oC v1 (.lp .busy 13 kh ko (er 19 [(2,(.ptr 1 0)),(12,(.fn 197 [(.bz [eI v4] 0 0)]))]):: .cells (aW v5).cells::l)
def CJ(v1:ar)(l:apH an):apH an:= .cells (aW v1).cells::l
theorem MJ{N v1 r}(J:wu N v1=some r):KF 126 [(aW v1)] (aq r):=by
 rw[wu]at J;refine ER Tryz.func126 rfl (by kernel_rfl) ?_;refine mc [0] 0 (ao3 _) (s':=⟨19,[(0,(aW v1))],[]⟩) (by kernel_rfl) ?_;refine bP ?_;refine rg [] [(1,(.ptr 0 0)),(2,(.ptr 1 0))] (oC v1 []) (by kernel_rfl) ?_;refine bP ?_;refine bP ?_;obtain⟨v2,h1,J⟩:=dv J;refine rg [(4,cK aew h1)] [(7,(aZ (decide (v2>40))))] (oC v1 []) (by kernel_rfl) ?_;rcases jK (decide (v2>40))with h2|h2
 ·replace J:=(fJ h2).symm.trans J;refine jA (t:=(decide (v2>40))) (by kernel_rfl) h2 ?_;refine bP ?_;refine rg [] [] (CJ v1 [.cells [(aq (13:Int))]]) (by kernel_rfl) ?_;refine gM (jU ?_);have hr:=apb J;subst hr;exact mj (by kernel_rfl)
 replace J:=(jI h2).symm.trans J;refine jg (t:=(decide (v2>40))) (by kernel_rfl) h2 ?_;refine jG ?_;refine dJ ?_;refine bP ?_;refine bP ?_;obtain⟨v3,h3,J⟩:=dv J;refine rg [(4,cL (ans h3))] [(10,(aZ (decide (v3>2000))))] (oC v1 []) (by kernel_rfl) ?_;rcases jK (decide (v3>2000))with h4|h4
 ·replace J:=(fJ h4).symm.trans J;refine jA (t:=(decide (v3>2000))) (by kernel_rfl) h4 ?_;refine bP ?_;refine rg [] [] (CJ v1 [.cells [(aq (2:Int))]]) (by kernel_rfl) ?_;refine gM (jU ?_);have hr:=apb J;subst hr;exact mj (by kernel_rfl)
 replace J:=(jI h4).symm.trans J;refine jg (t:=(decide (v3>2000))) (by kernel_rfl) h4 ?_;refine jG ?_;refine dJ ?_;refine bP ?_;refine bP ?_;obtain⟨v4,h5,J⟩:=dv J;refine rg [(4,cL (YY h5))] [(12,(.fn 197 [(.bz [eI v4] 0 0)]))] (oC v1 []) (by kernel_rfl) ?_;refine kf ?_;refine mc [2,12] 2 (ao0 rfl) (s':=⟨19,[(2,(.ptr 1 0)),(12,(.fn 197 [(.bz [eI v4] 0 0)]))],(oC v1 [])⟩) (by kernel_rfl) ?_;refine Qb (m:=2) (enc:=aW) (xs:=(cy v4)) (by kernel_rfl) (Zf v4) (λ(_:Unit)=>(oC v1 [])) (λ(_:Unit) l=>xG N l=some r) () (by kernel_rfl) J (by rintro _;rfl) (by rintro _;kernel_rfl) (by kernel_rfl) rfl ?_ ?_
 ·rintro _ v5 v6 J h6 kh ko
  try dsimp only at J
  rw[xG]at J;refine mc [2,13] 3 (ao3 _) (s':=⟨19,[(2,(.ptr 1 0)),(13,(aW v5))],(oC v1 [.lp .ready 13 kh ko (er 19 [(2,(.ptr 1 0)),(12,(.fn 197 [(.bz [eI v4] 0 0)]))])])⟩) (by kernel_rfl) ?_;refine re [] [(3,(.ptr 3 0))] (oC v1 [.lp .ready 13 kh ko (er 19 [(2,(.ptr 1 0)),(12,(.fn 197 [(.bz [eI v4] 0 0)]))]), .cells (aW v5).cells]) (by kernel_rfl) ?_;refine dJ ?_;refine⟨(oC v1 []),(CJ v5 []),rfl,(by kernel_rfl),?_⟩;refine mc [2,3] 4 (ao0 rfl) (s':=⟨19,[(2,(.ptr 1 0)),(3,(.ptr 3 0))],(Sx v1 kh ko v4 v5 [])⟩) (by kernel_rfl) ?_;refine kf ?_;refine bP ?_;obtain⟨v7,h7,J⟩:=dv J;refine rg [(4,cL (adV h7))] [(4,(aq v7))] (Sx v1 kh ko v4 v5 []) (by kernel_rfl) ?_;refine bP ?_;refine rg [] [(17,(aZ (v7 !=0)))] (Sx v1 kh ko v4 v5 []) (by kernel_rfl) ?_;rcases jK (v7 !=0)with h8|h8
  ·replace J:=(fJ h8).symm.trans J;refine jA (t:=(v7 !=0)) (by kernel_rfl) h8 ?_;refine bP ?_;refine rg [] [] (CJ v1 [.cells [(aq v7)], .lp .busy 13 kh ko (er 19 [(2,(.ptr 1 0)),(12,(.fn 197 [(.bz [eI v4] 0 0)]))]), .cells (aW v5).cells]) (by kernel_rfl) ?_;refine gM (lz ?_);refine XL (CJ v1 [.cells [(aq v7)]]) rfl (by kernel_rfl) (by kernel_rfl) ?_;refine(lz (jU ?_));have hr:=apb J;subst hr;exact mj (by kernel_rfl)
  replace J:=(jI h8).symm.trans J;refine jg (t:=(v7 !=0)) (by kernel_rfl) h8 ?_;refine jG ?_;refine jz ?_;refine P4 (oC v1 []) rfl (by kernel_rfl) (by kernel_rfl) ?_;exact⟨(),(by kernel_rfl),J⟩
 rintro _ J
 try dsimp only at J
 rw[xG]at J;refine jz ?_;refine dJ ?_;refine bP ?_;refine rg [] [] (oC v1 [.gone]) (by kernel_rfl) ?_;refine gM ?_;have hr:=apb J;subst hr;exact mj (by kernel_rfl)
def J6(N:Nat)(v3:apH (apI×Int)):apH bf->Nat->apJ Int
 |[],_=>
  some (0:Int)
 |v6::v7,v4=>
  bif ((eQ v3 v6.ao 0)==0)then
   some (9:Int)
  else
   (J6 N v3 v7 (v4+1))
def Fh(N:Nat)(v1:aN)(v2:aG)(v3:apH (apI×Int)):apJ Int:=
 J6 N v3 v1.xL 0
theorem NQ{N v1 v2 v3}:KP 181 [(.ptr 0 0),(cP v1)] [.cells (fx v2 [(.mp 1)]), .map (eR v3)] aq (λ_=>[.cells (fx v2 [(.mp 1)]), .map (eR v3)]) (Fh N v1 v2 v3):=
 fh 2 Tryz.func181 (gA [[],[(7,oL v1.xL fG)]] (gT nU 8 v1.xL λh2=>fu 1 [] [0,8,9,10] 3 (λv4=>⟨23,[(0,(.ptr 0 0)),(8,(.d (.sl (c9 v1.xL)))),(9,(aq (v1.xL.length:Int))),(10,(aq (v4:Int)))],[.cells (fx v2 [(.mp 1)]), .map (eR v3), .cells (cP v1).cells]⟩) (λv4 h3 f1=>gH [[],[f0 (bK h3)],[]]) (λv4 v6 v7 h3 f1 aR=>gA [[],[t0 (bI h3)],[(1,oE (o0 (bt h3)))],[(20,⟨_,_, .eq (F3 false v3 v6.ao)⟩)]] (aC (λh4=>gH [[t0 h4],[]]) λh4=>gb aR () [[f0 h4],[(2,oq (b5 h3 rfl h2))]] h3))))
def Rt(N:Nat)(v1:apH bf):apJ (apH bf):=bif Nat.ble (v1.length*24) 140737488355328 then some v1 else none
theorem alc{N v1 r}(J:Rt N v1=some r):ic Tryz.prog 267 [(.d (.sl (c9 v1)))] (·=(.d (.sl (c9 r)))):=by
 obtain⟨hb,rfl⟩:=eu J;have hc:=HJ hb (by decide);exact agO u4 (by rw[fG];exact hc.1) (by rw[fG];exact hc.2)
def DN(N:Nat)(v1:aN):apJ aN:=
 (Rt N v1.xL).bind λv2=>
 some (⟨v1.xK,v2⟩:aN)
theorem aah{N v1}:KO 250 [(cP v1)] cP (DN N v1):=
 fw Tryz.func250 (au λv2 h1=>gR [[],[(13,cL (alc h1))]])
def DX(N:Nat):apH aN->Nat->(apH aN)->apJ ((apH aN))
 |[],_,v6=>
  some v6
 |v4::v5,v2,v6=>
  (DN N v4).bind λv7=>
  bif (Nat.ble ((v6.length+1)*32) 140737488355328)then
  (λbm=>DX N v5 (v2+1) bm) (v6++[v7])
  else none
def Im(N:Nat)(v1:apH aN):apJ ((apH aN)):=
 DX N v1 0 []
theorem ahk{N v1}:KO 248 [(.d (.sl (dE v1)))] (λr=> .d (.sl (dE r))) (Im N v1):=
 fw Tryz.func248 (gA [[],[],[(4,oL v1 gj)]] (li (λ_=>(l0 3 52 2 [] (.inr (by kernel_rfl)) ·)) (gT pv 0 v1 λh2=>gn 1 [] [3,6,7,8] 1 (λv2(v6:apH aN)=>⟨19,[(3,(.own 0 (dE v6))),(6,(.d (.sl (dE v1)))),(7,(aq (v1.length:Int))),(8,(aq (v2:Int)))],[.front 52 2 v6.length]⟩) (λv2 v6 h3 f1=>gR [[],[f0 (bK h3)],[]]) (λv2 v4 v5 v6 h3 f1 aR=>au λv7 h4=>bl λh5=>gb aR (v6++[v7]) [[],[t0 (bI h3)],[(1,oE (oJ (bt h3)))],[(7,cK aah h4),(13,oA pv v6 ([v7]) h5)],[(2,oq (b5 h3 rfl h2))]] h3))))
def RT(N:Nat)(v1:aX)(v2:apI):apJ Bool:=
 some (bL v1.ao==bL v2)
theorem adR{N v1 v2}:KP 266 [(fm v1),(.ptr 0 0)] [.cells [(aL v2)]] aZ (λ_=>[.cells [(aL v2)]]) (RT N v1 v2):=
 fh 1 Tryz.func266 (gH [[],[]])
def Hn(N:Nat)(v2:apI):apH aX->Nat->apJ Int
 |[],_=>
  some (-1:Int)
 |v5::v6,v3=>
  (RT N v5 v2).bind λv7=>
  bif v7 then
   some (v3:Int)
  else
   (Hn N v2 v6 (v3+1))
def OP(N:Nat)(v1:apH aX)(v2:apI):apJ Int:=
 Hn N v2 v1 0
theorem aoq{N v1 v2}:KP 265 [(.d (.sl (gK v1))),(.fn 266 [(.ptr 0 0)])] [.cells [(aL v2)]] aq (λ_=>[.cells [(aL v2)]]) (OP N v1 v2):=
 fh 1 Tryz.func265 (gA [[],[(4,oL v1 kp)]] (gT qa 0 v1 λh2=>fu 1 [] [0,1,7,8] 1 (λv3=>⟨19,[(0,(.d (.sl (gK v1)))),(1,(.fn 266 [(.ptr 0 0)])),(7,(aq (v1.length:Int))),(8,(aq (v3:Int)))],[.cells [(aL v2)]]⟩) (λv3 h3 f1=>gH [[],[f0 (bK h3)],[]]) (λv3 v5 v6 h3 f1 aR=>au λv7 h4=>gA [[],[t0 (bI h3)],[],[(10,oE (oY (bt h3))),(16,oQ [(fm v5),(.ptr 0 0)] [.cells [(aL v2)]] [0] (adR _ h4))]] (aC (λh5=>gH [[t0 h5],[]]) λh5=>gb aR () [[f0 h5],[(2,oq (b5 h3 rfl h2))]] h3))))
def Lv(N:Nat)(v1:aG)(v2:apI):apJ Int:=
 (OP N v1.aw v2).bind λv3=>
 some v3
theorem akT{N v1 v2}:KO 249 [(eB v1),(aL v2)] aq (Lv N v1 v2):=
 fw Tryz.func249 (au λv3 h1=>gR [[],[(10,oQ [(.d (.sl (gK v1.aw))),(.fn 266 [(.ptr 1 0)])] [.cells (eB v1).cells, .cells [(aL v2)]] [1] (aoq _ h1))]])
def CG(N:Nat)(v8:aX):apH bV->Nat->(apH aN)->apJ (bq×(apH aN)×Bool)
 |[],_,ba=>
  some (v8.aM,ba,true)
 |v11::v12,v9,ba=>
  (DN N v11.cg).bind λbX=>
  bif (Nat.ble ((ba.length+1)*32) 140737488355328)then
  (λiP=>CG N v8 v12 (v9+1) iP) (ba++[bX])
  else none
def B6(N:Nat)(v1:aG)(v2:apI):apH cf->Nat->apJ (bq×(apH aN)×Bool)
 |[],_=>
  (Lv N v1 v2).bind λv7=>
  bif (decide (v7>=0))then
   bif (decide ((0:Int)<=v7))then
   Option.bind (v1.aw[(v7).toNat]?) λv8=>
   CG N v8 v8.aO 0 []
   else none
  else
   some (gr,[],false)
 |v5::v6,v3=>
  bif (bL v5.ao==bL v2)then
   (Im N v5.aO).bind λbC=>
   some (v5.aM,bC,true)
  else
   (B6 N v1 v2 v6 (v3+1))
def Mn(N:Nat)(v1:aG)(v2:apI):apJ (bq×(apH aN)×Bool):=
 B6 N v1 v2 v1.aE 0
theorem VU{N v1 v2}:KO 218 [(eB v1),(aL v2)] (λr=> .bA [(fV r.1),(.d (.sl (dE r.2.1))),(aZ r.2.2)]) (Mn N v1 v2):=
 fw Tryz.func218 (gA [[],[(7,oL v1.aE ky)]] (gT pV 14 v1.aE λh2=>fu 1 [] [1,2,4,14,15,16] 2 (λv3=>⟨61,[(1,(aL v2)),(2,(.ptr 0 0)),(4,(.ptr 1 0)),(14,(.d (.sl (iR v1.aE)))),(15,(aq (v1.aE.length:Int))),(16,(aq (v3:Int)))],[.cells (eB v1).cells, .cells BC]⟩) (λv3 h3 f1=>au λv7 h4=>gA [[],[f0 (bK h3)],[(7,cK akT h4)],[]] (rH λh5=>bl λh7=>au λv8 h6=>gA [[t0 h5],[],[(10,⟨_,_, .el (xs:=gK v1.aw) (i:=v7) (of_decide_eq_true h7) (oY h6)⟩),(19,oL v8.aO eG)]] (li (λ_=>(l0 10 52 2 [] (.inr (by kernel_rfl)) ·)) (gT mO 40 v8.aO λh9=>gn 2 [] [2,4,9,10,40,41,42] 3 (λv9(ba:apH aN)=>⟨61,[(2,(.ptr 0 0)),(4,(.ptr 1 0)),(9,(aq v7)),(10,(.own 2 (dE ba))),(40,(.d (.sl (dL v8.aO)))),(41,(aq (v8.aO.length:Int))),(42,(aq (v9:Int)))],[.cells (eB v1).cells, .cells BC, .front 52 2 ba.length]⟩) (λv9 ba bM f2=>gR [[],[f0 (bK bM)],[(10,⟨_,_, .el (xs:=gK v1.aw) (i:=v7) (of_decide_eq_true h7) (oY h6)⟩)]]) (λv9 v11 v12 ba bM f2 cM=>au λbX bY=>bl λbU=>gb cM (ba++[bX]) [[],[t0 (bI bM)],[(1,oE (lR (bt bM)))],[(10,cK aah bY),(16,oA pv ba ([bX]) bU)],[(2,oq (b5 bM rfl h9))]] bM))))) (λv3 v5 v6 h3 f1 aR=>gA [[],[t0 (bI h3)],[(1,oE (mC (bt h3)))],[]] (aC (λdp=>au λbC dt=>gR [[t0 dp],[(13,cK ahk dt)]]) λdp=>gb aR () [[f0 dp],[(2,oq (b5 h3 rfl h2))]] h3))))
def HM(N:Nat)(v2:aG)(v3:apH (apI×Int)):apH aN->Nat->apJ Int
 |[],_=>
  some (0:Int)
 |v8::v9,v6=>
  (Fh N v8 v2 v3).bind λv10=>
  bif (v10 !=0)then
   some v10
  else
   (HM N v2 v3 v9 (v6+1))
def Kr(N:Nat)(v1:bu)(v2:aG)(v3:apH (apI×Int)):apJ Int:=
 bif (bL v1.bH==bL (bs []))then
  (Fh N v1.aQ v2 v3).bind λv4=>
  some v4
 else
  (Mn N v2 v1.bH).bind λv5=>
  bif v5.2.2 then
   bif (v5.1.bS !=3)then
    some (10:Int)
   else
    bif ((v1.bG.length:Int) !=(v5.2.1.length:Int))then
     some (11:Int)
    else
     HM N v2 v3 v1.bG 0
  else
   some (9:Int)
def QY(v2:aG)(v3:apH (apI×Int))(v1:bu)(l:apH an):apH an:= .cells (fx v2 [(.mp 1)]):: .map (eR v3):: .cells (gN v1).cells::l
theorem agb{N v1 v2 v3}:KP 219 [(.ptr 0 0),(gN v1)] [.cells (fx v2 [(.mp 1)]), .map (eR v3)] aq (λ_=>[.cells (fx v2 [(.mp 1)]), .map (eR v3)]) (Kr N v1 v2 v3):=
 fh 2 Tryz.func219 (gA [[],[]] (aC (λh1=>au λv4 h2=>gH [[t0 h1],[(10,oQ [(.ptr 0 0),(cP v1.aQ)] (QY v2 v3 v1 []) [0,1] (NQ _ h2))]]) λh1=>au λv5 h3=>gA [[f0 h1],[(19,cK VU h3)],[]] (aC (λh4=>gA [[f0 (dw h4)],[]] (aC (λh5=>gH [[t0 h5],[]]) λh5=>gA [[f0 h5],[(7,oL v1.bG gj),(13,oL v5.2.1 gj)]] (aC (λh6=>gH [[t0 h6],[]]) λh6=>gA [[f0 h6],[(7,oL v1.bG gj)]] (gT pv 44 v1.bG λh8=>fu 1 [] [0,44,45,46] 4 (λv6=>⟨57,[(0,(.ptr 0 0)),(44,(.d (.sl (dE v1.bG)))),(45,(aq (v1.bG.length:Int))),(46,(aq (v6:Int)))],(QY v2 v3 v1 [.cells (fV v5.1).cells])⟩) (λv6 h9 f1=>gH [[],[f0 (bK h9)],[]]) (λv6 v8 v9 h9 f1 aR=>au λv10 bM=>gA [[],[t0 (bI h9)],[(1,oE (oJ (bt h9)))],[(7,oQ [(.ptr 0 0),(cP v8)] (QY v2 v3 v1 [.cells (fV v5.1).cells, .cells (cP v8).cells]) [0,1] (NQ _ bM))],[]] (aC (λbY=>gH [[t0 bY],[]]) λbY=>gb aR () [[f0 bY],[(2,oq (b5 h9 rfl h8))]] h9)))))) λh4=>gH [[t0 (eC h4)],[]])))
def J7(N:Nat)(v4:bq×(apH aN)×Bool)(v2:aG)(v3:apH (apI×Int)):apH bu->Nat->apJ (bq×Int)
 |[],_=>
  some (v4.1,(0:Int))
 |v7::v8,v5=>
  (Kr N v7 v2 v3).bind λv9=>
  bif (v9 !=0)then
   some (gr,v9)
  else
   (J7 N v4 v2 v3 v8 (v5+1))
def IM(N:Nat)(v1:ar)(v2:aG)(v3:apH (apI×Int)):apJ (bq×Int):=
 (Mn N v2 v1.ao).bind λv4=>
 bif v4.2.2 then
  bif ((v1.xIdx.length:Int) !=(v4.2.1.length:Int))then
   some (gr,(11:Int))
  else
   J7 N v4 v2 v3 v1.xIdx 0
 else
  some (gr,(9:Int))
theorem aiN{N v1 v2 v3}:KP 182 [(.ptr 0 0),(aW v1)] [.cells (fx v2 [(.mp 1)]), .map (eR v3)] (λr=> .bA [(fV r.1),(aq r.2)]) (λ_=>[.cells (fx v2 [(.mp 1)]), .map (eR v3)]) (IM N v1 v2 v3):=
 fh 2 Tryz.func182 (au λv4 h1=>gA [[],[(19,cK VU h1)],[]] (aC (λh2=>gA [[f0 (dw h2)],[(7,oL v1.xIdx jD),(13,oL v4.2.1 gj)]] (aC (λh3=>gH [[t0 h3],[]]) λh3=>gA [[f0 h3],[(7,oL v1.xIdx jD)]] (gT rW 34 v1.xIdx λh5=>fu 1 [] [0,4,6,34,35,36] 5 (λv5=>⟨49,[(0,(.ptr 0 0)),(4,(.ptr 3 0)),(6,(.ptr 4 0)),(34,(.d (.sl (cQ v1.xIdx)))),(35,(aq (v1.xIdx.length:Int))),(36,(aq (v5:Int)))],[.cells (fx v2 [(.mp 1)]), .map (eR v3), .cells (aW v1).cells, .cells BC, .cells (fV v4.1).cells]⟩) (λv5 h6 f1=>gH [[],[f0 (bK h6)],[]]) (λv5 v7 v8 h6 f1 aR=>au λv9 h7=>gA [[],[t0 (bI h6)],[(1,oE (kO (bt h6)))],[(7,oQ [(.ptr 0 0),(gN v7)] [.cells (fx v2 [(.mp 1)]), .map (eR v3), .cells (aW v1).cells, .cells BC, .cells (fV v4.1).cells, .cells (gN v7).cells] [0,1] (agb _ h7))],[]] (aC (λh8=>gH [[t0 h8],[]]) λh8=>gb aR () [[f0 h8],[(2,oq (b5 h6 rfl h5))]] h6))))) λh2=>gH [[t0 (eC h2)],[]]))
def Gs(N:Nat)(v1:bq)(v2:bq):apJ Int:=
 bif ((v1.bS==v2.bS)&&((v1.cb==v2.cb)&&((v1.ca==v2.ca)&&((v1.cJ==v2.cJ)&&((v1.cH==v2.cH)&&true)))))then
  some (0:Int)
 else
  some (10:Int)
theorem S6{N v1 v2}:KO 180 [(fV v1),(fV v2)] aq (Gs N v1 v2):=
 fw Tryz.func180 (gA [[],[]] (gyN λh1=>gR [[t0 (eC h1)],[]]))
def EB(N:Nat)(v8:apH bq)(v17:Bool):apJ (bq×Int):=
 bif v17 then
  Option.bind (v8[0]?) λcB=>
  Option.bind (v8[1]?) λdA=>
  (Gs N cB dA).bind λv20=>
  some (gr,v20)
 else
  Option.bind (v8[0]?) λv21=>
  Option.bind (v8[1]?) λv22=>
  (Gs N v21 v22).bind λv23=>
  some (v21,v23)
def FV(N:Nat)(v1:ar)(v8:apH bq)(ct:Bool):apJ (bq×Int):=
 bif ct then
  some (gr,(0:Int))
 else
  bif (v1.aJ==13)then
   EB N v8 (v1.aJ==13)
  else
   bif (v1.aJ==14)then
    EB N v8 (v1.aJ==14)
   else
    EB N v8 (v1.aJ==15)
def Kp(N:Nat)(v1:ar)(v2:aG)(v3:apH (apI×Int))(v8:apH bq)(v9:Bool):apJ (bq×Int):=
 bif v9 then
  some (v1.aM,(0:Int))
 else
  bif (v1.aJ==2)then
   (Fh N v1.aQ v2 v3).bind λv10=>
   some ((⟨(3:Int),(0:Int),(0:Int),(0:Int),(0:Int)⟩:bq),v10)
  else
   bif (v1.aJ==3)then
    (IM N v1 v2 v3).bind λv11=>
    some (v11.1,v11.2)
   else
    bif (v1.aJ==8)then
     Option.bind (v8[0]?) λv12=>
     some (v12,(0:Int))
    else
     bif (v1.aJ==11)then
      Option.bind (v8[1]?) λba=>
      Option.bind (v8[2]?) λbX=>
      (Gs N ba bX).bind λbC=>
      some (ba,bC)
     else
      bif (v1.aJ==16)then
       FV N v1 v8 (v1.aJ==16)
      else
       bif (v1.aJ==17)then
        FV N v1 v8 (v1.aJ==17)
       else
        FV N v1 v8 (v1.aJ==18)
def xM(N:Nat)(v1:ar)(v2:aG)(v3:apH (apI×Int))(WJ:ar->aG->(apH (apI×Int))->apJ (bq×Int)):apH ar->Nat->(apH bq)->apJ (bq×Int)
 |[],_,v8=>
  bif (v1.aJ==1)then
   Kp N v1 v2 v3 v8 (v1.aJ==1)
  else
   Kp N v1 v2 v3 v8 (v1.aJ==12)
 |v6::v7,v4,v8=>
  (WJ v6 v2 v3).bind λv24=>
  bif (v24.2 !=0)then
   some (gr,v24.2)
  else
   bif (Nat.ble ((v8.length+1)*40) 140737488355328)then
   (λbm=>xM N v1 v2 v3 WJ v7 (v4+1) bm) (v8++[v24.1])
   else none
def wY(N:Nat):Nat->ar->aG->(apH (apI×Int))->apJ (bq×Int)
 |0,_,_,_=>none
 |d+1,v1,v2,v3=>
  xM N v1 v2 v3 (wY N d) v1.bk 0 []
def Rm(N:Nat)(v1:ar)(v2:aG)(v3:apH (apI×Int)):apJ (bq×Int):=wY N N v1 v2 v3
def xv(v2:aG)(v3:apH (apI×Int))(v1:ar)(v8:apH bq)(l:apH an):apH an:= .cells (fx v2 [(.mp 1)]):: .map (eR v3):: .cells (aW v1).cells:: .cells BC:: .front 56 5 v8.length::l
theorem agf(N:Nat):∀d:Nat,(∀{v1:ar}{v2:aG}{v3:apH (apI×Int)},KP 142 [(.ptr 0 0),(aW v1)] [.cells (fx v2 [(.mp 1)]), .map (eR v3)] (λr=> .bA [(fV r.1),(aq r.2)]) (λ_=>[.cells (fx v2 [(.mp 1)]), .map (eR v3)]) (wY N d v1 v2 v3)):=by
 intro d
 induction d with
 |zero=>intro v1 v2 v3 r J;rw[wY]at J;cases J
 |succ d ih=>
  have acP:= @ih;intro v1 v2 v3;rw[wY];exact fh 2 Tryz.func142 (gA [[],[],[(7,oL v1.bk j0)]] (li (λ_=>(l0 6 56 5 [] (.inr (by kernel_rfl)) ·)) (gT pD 13 v1.bk λh2=>gn 1 [] [0,3,4,6,13,14,15] 5 (λv4(v8:apH bq)=>⟨102,[(0,(.ptr 0 0)),(3,(.ptr 2 0)),(4,(.ptr 3 0)),(6,(.own 4 (o7 v8))),(13,(.d (.sl (dU v1.bk)))),(14,(aq (v1.bk.length:Int))),(15,(aq (v4:Int)))],(xv v2 v3 v1 v8 [])⟩) (λv4 v8 h3 f1=>gv 2 [[],[(0,bF (bK h3))],[],[],[]] [0,3,4,6,11,35,36] 5 (λ(v9:Bool)=>⟨102,[(0,(.ptr 0 0)),(3,(.ptr 2 0)),(4,(.ptr 3 0)),(6,(.own 4 (o7 v8))),(11,(.fn 180 [])),(35,(aq v1.aJ)),(36,(aZ v9))],(xv v2 v3 v1 v8 [])⟩) (Kp N v1 v2 v3 v8) (λf2 cM=>aC (λik=>gm cM (v1.aJ==1) [[(0,bT ik)]]) λik=>gm cM (v1.aJ==12) [[(0,bF ik)],[]]) (λv9=>aC (λh4=>gH [[(0,bT h4)],[]]) λh4=>gA [[(0,bF h4)],[]] (aC (λh5=>au λv10 h6=>gH [[(0,bT h5)],[(13,oQ [(.ptr 0 0),(cP v1.aQ)] (xv v2 v3 v1 v8 []) [0,1] (NQ _ h6))]]) λh5=>gA [[(0,bF h5)],[]] (aC (λh7=>au λv11 h8=>gH [[(0,bT h7)],[(7,oQ [(.ptr 0 0),(aW v1)] (xv v2 v3 v1 v8 []) [0,1] (aiN _ h8))]]) λh7=>gA [[(0,bF h7)],[]] (aC (λh9=>au λv12 bM=>gH [[(0,bT h9)],[(4,oE (k:=0) (tA bM))]]) λh9=>gA [[(0,bF h9)],[]] (aC (λbY=>au λba bU=>au λbX dp=>au λbC dt=>gH [[(0,bT bY)],[(4,oE (k:=1) (tA bU)),(16,oE (k:=1) (tA bU)),(25,oE (k:=2) (tA dp)),(31,cK S6 dt)]]) λbY=>gv 3 [[(0,bF bY)],[]] [4,6,11,35,73] 5 (λ(ct:Bool)=>⟨102,[(4,(.ptr 3 0)),(6,(.own 4 (o7 v8))),(11,(.fn 180 [])),(35,(aq v1.aJ)),(73,(aZ ct))],(xv v2 v3 v1 v8 [])⟩) (FV N v1 v8) (λf3 ie=>aC (λir=>gm ie (v1.aJ==16) [[(0,bT ir)]]) λir=>gA [[(0,bF ir)],[]] (aC (λgg=>gm ie (v1.aJ==17) [[(0,bT gg)]]) λgg=>gm ie (v1.aJ==18) [[(0,bF gg)],[]])) (λct=>aC (λcN=>gH [[(0,bT cN)],[]]) λcN=>gv 4 [[(0,bF cN)],[]] [4,6,11,78] 5 (λ(v17:Bool)=>⟨102,[(4,(.ptr 3 0)),(6,(.own 4 (o7 v8))),(11,(.fn 180 [])),(78,(aZ v17))],(xv v2 v3 v1 v8 [])⟩) (EB N v8) (λf4 jY=>aC (λfP=>gm jY (v1.aJ==13) [[(0,bT fP)]]) λfP=>gA [[(0,bF fP)],[]] (aC (λfz=>gm jY (v1.aJ==14) [[(0,bT fz)]]) λfz=>gm jY (v1.aJ==15) [[(0,bF fz)],[]])) (λv17=>aC (λb9=>au λcB dG=>au λdA eM=>au λv20 fE=>gH [[(0,bT b9)],[(10,oE (k:=0) (tA dG)),(19,oE (k:=1) (tA eM)),(25,cK S6 fE)]]) λb9=>au λv21 dx=>au λv22 fB=>au λv23 gY=>gH [[(0,bF b9)],[(4,oE (k:=0) (tA dx)),(16,oE (k:=0) (tA dx)),(25,oE (k:=1) (tA fB)),(31,cK S6 gY)]])))))))) (λv4 v6 v7 v8 h3 f1 aR=>au λv24 fM=>gA [[],[(0,bT (bI h3))],[(1,oE (ma (bt h3)))],[(7,oQ [(.ptr 0 0),(aW v6)] (xv v2 v3 v1 v8 [.cells (aW v6).cells]) [0,1] (acP _ fM))],[]] (aC (λjt=>gH [[(0,bT jt)],[]]) λjt=>bl λiv=>gb aR (v8++[v24.1]) [[(0,bF jt)],[(10,oA ajO v8 ([v24.1]) iv)],[(2,oq (b5 h3 rfl h2))]] h3)))))
theorem akk{N v1 v2 v3}:KP 142 [(.ptr 0 0),(aW v1)] [.cells (fx v2 [(.mp 1)]), .map (eR v3)] (λr=> .bA [(fV r.1),(aq r.2)]) (λ_=>[.cells (fx v2 [(.mp 1)]), .map (eR v3)]) (Rm N v1 v2 v3):=(agf N N)
def xF(N:Nat)(v3:ar)(v1:aG):apH apI->Nat->(apH (apI×Int))->apJ (bq×Int)
 |[],_,bC=>
  (Rm N v3 v1 bC).bind λct=>
  bif (ct.2 !=0)then
   some (gr,ct.2)
  else
   some (ct.1,(0:Int))
 |ba::bX,v11,bC=>
  bif (Nat.blt bC.length 9223372036854775807)then
  (λiP=>xF N v3 v1 bX (v11+1) iP) ((ba,(3:Int))::bC)
  else none
def Mj(N:Nat)(v3:ar)(v1:aG)(v2:apH apI):apH apI->Nat->(apH (apI×Int))->apJ (bq×Int)
 |[],_,v10=>
  xF N v3 v1 v2 0 v10
 |v8::v9,v6,v10=>
  bif (Nat.blt v10.length 9223372036854775807)then
  (λbm=>Mj N v3 v1 v2 v9 (v6+1) bm) ((v8,(1:Int))::v10)
  else none
def Ly(N:Nat)(v1:aG)(v2:apH apI)(v3:ar):apJ (bq×Int):=
 (wu N v3).bind λv4=>
 bif (v4 !=0)then
  some (gr,v4)
 else
  (CA N v3).bind λv5=>
  bif v5 then
   some (gr,(10:Int))
  else
   Mj N v3 v1 v2 v1.az 0 []
def MZ(v1:aG)(v3:ar)(v10:apH (apI×Int))(l:apH an):apH an:= .cells (eB v1).cells:: .cells (aW v3).cells:: .cells BC:: .map (eR v10):: .cells (fx v1 [(.mp 3)])::l
theorem afF{N v1 v2 v3}:KO 96 [(eB v1),(.d (.sl (cw v2))),(aW v3)] (λr=> .bA [(fV r.1),(aq r.2)]) (Ly N v1 v2 v3):=
 fw Tryz.func96 (au λv4 h1=>gA [[],[(4,cL (MJ h1))],[]] (cF λh2=>au λv5 h3=>gA [[f0 h2],[(4,cK Wn h3)]] (cF λh4=>gA [[f0 h4],[],[(7,oL v1.az fK)]] (gT gi 30 v1.az λh6=>gn 1 [] [1,5,6,9,30,31,32] 5 (λv6(v10:apH (apI×Int))=>⟨65,[(1,(.d (.sl (cw v2)))),(5,(.ptr 1 0)),(6,(.ptr 2 0)),(9,(.ptr 4 0)),(30,(.d (.sl (cw v1.az)))),(31,(aq (v1.az.length:Int))),(32,(aq (v6:Int)))],(MZ v1 v3 v10 [])⟩) (λv6 v10 h7 f1=>gA [[],[f0 (bK h7)],[(4,oL v2 fK)]] (gT gi 1 v2 λh9=>gn 2 [] [5,6,9,42,43,44] 5 (λv11(bC:apH (apI×Int))=>⟨65,[(5,(.ptr 1 0)),(6,(.ptr 2 0)),(9,(.ptr 4 0)),(42,(.d (.sl (cw v2)))),(43,(aq (v2.length:Int))),(44,(aq (v11:Int)))],(MZ v1 v3 bC [])⟩) (λv11 bC bM f2=>au λct bY=>gA [[],[f0 (bK bM)],[(7,oQ [(.ptr 4 0),(aW v3)] (MZ v1 v3 bC []) [4,3] (akk _ bY))],[]] (cF λbU=>gR [[f0 bU],[]])) (λv11 ba bX bC bM f2 cM=>bl λdp=>gb cM ((ba,(3:Int))::bC) [[],[t0 (bI bM)],[(1,oE (jR (bt bM)))],[(16,⟨_,_, .sd (o:= .none) (RY dp)⟩)],[(2,oq (b5 bM rfl h9))]] bM))) (λv6 v8 v9 v10 h7 f1 aR=>bl λdt=>gb aR ((v8,(1:Int))::v10) [[],[t0 (bI h7)],[(1,oE (jR (bt h7)))],[(16,⟨_,_, .sd (o:= .none) (RY dt)⟩)],[(2,oq (b5 h7 rfl h6))]] h7)))))
def Hg(N:Nat)(v1:Int)(v2:aG)(v3:apH (apI×Int)):apJ (Int×(apH (apI×Int))):=
 bif (decide ((0:Int)<=v1))then
 Option.bind (v2.aw[(v1).toNat]?) λv4=>
 Option.bind (BG N v4.ao (2:Int) v2 v3) λv5=>
 bif (v5.1 !=0)then
  some (v5.1,v5.2)
 else
  Option.bind (yZ N v4.aM ([(v4.aO.length:Int),(v4.aU.length:Int)])) λv6=>
  bif (v6 !=0)then
   some (v6,v5.2)
  else
   (JJ N v4 v2 v5.2).bind λv7=>
   bif (v7 !=0)then
    some (v7,v5.2)
   else
    (Iq N v4).bind λv8=>
    bif (v8 !=0)then
     some (v8,v5.2)
    else
     bif (decide ((v1).toNat<=v2.aw.length))then
     (CV N v4).bind λv9=>
     Option.bind (Ly N (⟨v2.az,v2.cd,v2.aE,((v2.aw.take (v1).toNat).drop 0),v2.bW⟩:aG) v9 v4.bR) λv10=>
     bif (v10.2 !=0)then
      some (v10.2,v5.2)
     else
      bif ((v10.1.bS==v4.aM.bS)&&((v10.1.cb==v4.aM.cb)&&((v10.1.ca==v4.aM.ca)&&((v10.1.cJ==v4.aM.cJ)&&((v10.1.cH==v4.aM.cH)&&true)))))then
       some ((0:Int),v5.2)
      else
       some ((10:Int),v5.2)
     else none
 else none
theorem aei{N v1 v2 v3}:KP 40 [(.ptr 0 0),(aq v1)] [.cells (fx v2 [(.mp 1)]), .map (eR v3)] (λr=>aq r.1) (λr=>[.cells (fx v2 [(.mp 1)]), .map (eR r.2)]) (Hg N v1 v2 v3):=
 fh 2 Tryz.func40 (bl λh2=>au λv4 h1=>au λv5 h3=>gA [[],[(19,⟨_,_, .el (xs:=gK v2.aw) (i:=v1) (of_decide_eq_true h2) (oY h1)⟩)],[(10,oR [(.ptr 0 0),(aL v4.ao),(aq (2:Int))] [.cells (fx v2 [(.mp 1)]), .map (eR v3), .cells (fm v4).cells] [0,1] (OZ _ h3))],[]] (aC (λh4=>gH [[t0 h4],[]]) λh4=>au λv6 h5=>gA [[f0 h4],[(13,oL v4.aO eG),(22,oL v4.aU eG),(28,cK ZV h5)],[]] (aC (λh6=>gH [[t0 h6],[]]) λh6=>au λv7 h7=>gA [[f0 h6],[(7,oQ [(.ptr 0 0),(fm v4)] [.cells (fx v2 [(.mp 1)]), .map (eR v5.2), .cells (fm v4).cells] [0,1] (anj _ h7))],[]] (aC (λh8=>gH [[t0 h8],[]]) λh8=>au λv8 h9=>gA [[f0 h8],[(4,cK alU h9)],[]] (aC (λbM=>gH [[t0 bM],[]]) λbM=>bl λbY=>au λv9 bU=>au λv10 dp=>gA [[f0 bM],[],[(19,⟨_,_, .sub (xs:=gK v2.aw) (lo:=0) (hi:=v1) (by decide) (Nat.zero_le _) (of_decide_eq_true h2) (by rw[kp];exact(of_decide_eq_true bY)) Vs ait⟩)],[(7,cK Um bU),(16,cK afF dp)],[]] (aC (λdt=>gH [[t0 dt],[]]) λdt=>gA [[f0 dt],[]] (aC (λcN=>gH [[f0 (dw cN)],[]]) λcN=>gH [[t0 (eC cN)],[]])))))))
def Gr(N:Nat)(v23:apH (apI×Int))(v1:aG):apH apI->Nat->Int->apJ (Int×Int)
 |[],_,_=>
  some ((0:Int),(0:Int))
 |v26::cW,v24,v28=>
  bif ((eQ v23 v26 0) !=2)then
   some (v28,(9:Int))
  else
   bif (decide (((v24:Int)).toNat<=v1.bW.length))then
   Option.bind (zg N ((v1.bW.take ((v24:Int)).toNat).drop 0) v26) λiB=>
   bif iB then
    some (v28,(8:Int))
   else
    (λF2=>Gr N v23 v1 cW (v24+1) F2) (bh (v28+(1:Int)))
   else none
def Ag(N:Nat)(v1:aG):apH aX->Nat->Int->(apH (apI×Int))->apJ (Int×Int)
 |[],_,v22,v23=>
  Gr N v23 v1 v1.bW 0 v22
 |_::v21,cB,v22,v23=>
  Option.bind (Hg N (cB:Int) v1 v23) λv30=>
  bif (v30.1 !=0)then
   some (v22,v30.1)
  else
   (λnA an7=>Ag N v1 v21 (cB+1) nA an7) (bh (v22+(1:Int))) v30.2
def BL(N:Nat)(v1:aG):apH cf->Nat->Int->(apH (apI×Int))->apJ (Int×Int)
 |[],_,ct,v17=>
  Ag N v1 v1.aw 0 ct v17
 |bX::bC,v12,ct,v17=>
  (IJ N bX v1 v17).bind λv31=>
  bif (v31.1 !=0)then
   some (ct,v31.1)
  else
   (λme O8=>BL N v1 bC (v12+1) me O8) (bh (ct+(1:Int))) v31.2
def Gm(N:Nat)(v1:aG)(v7:apH (apI×Int)):apH cz->Nat->apJ (Int×Int)
 |[],_=>
  BL N v1 v1.aE 0 (2:Int) v7
 |v10::v11,v8=>
  (II N v10 v1 v7).bind λv32=>
  bif (v32 !=0)then
   some ((1:Int),v32)
  else
   (Gm N v1 v7 v11 (v8+1))
def IK(N:Nat)(v1:aG):apH apI->Nat->(apH (apI×Int))->apJ (Int×Int)
 |[],_,v7=>
  Gm N v1 v7 v1.cd 0
 |v5::v6,v3,v7=>
  Option.bind (BG N v5 (1:Int) v1 v7) λv33=>
  bif (v33.1 !=0)then
   some ((0:Int),v33.1)
  else
   (λbm=>IK N v1 v6 (v3+1) bm) v33.2
def pg(N:Nat)(v1:aG):apJ (Int×Int):=
 (Jc N v1).bind λv2=>
 bif v2 then
  IK N v1 v1.az 0 []
 else
  some ((0:Int),(2:Int))
def tT(v1:aG)(v7:apH (apI×Int))(l:apH an):apH an:= .cells (eB v1).cells:: .map (eR v7):: .cells (fx v1 [(.mp 1)])::l
theorem QJ{N v1}:KO 13 [(eB v1)] (λr=> .bA [(aq r.1),(aq r.2)]) (pg N v1):=
 fw Tryz.func13 (au λv2 h1=>gA [[],[(4,cK aet h1)]] (mm λh2=>gA [[f0 (dw h2)],[],[(7,oL v1.az fK)]] (gT gi 27 v1.az λh4=>gn 1 [] [1,4,27,28,29] 3 (λv3(v7:apH (apI×Int))=>⟨115,[(1,(.ptr 0 0)),(4,(.ptr 2 0)),(27,(.d (.sl (cw v1.az)))),(28,(aq (v1.az.length:Int))),(29,(aq (v3:Int)))],(tT v1 v7 [])⟩) (λv3 v7 h5 f1=>gA [[],[f0 (bK h5)],[(7,oL v1.cd mH)]] (gT wP 41 v1.cd λh7=>fu 2 [] [1,4,41,42,43] 3 (λv8=>⟨115,[(1,(.ptr 0 0)),(4,(.ptr 2 0)),(41,(.d (.sl (gU v1.cd)))),(42,(aq (v1.cd.length:Int))),(43,(aq (v8:Int)))],(tT v1 v7 [])⟩) (λv8 h8 f2=>gA [[],[f0 (bK h8)],[],[(7,oL v1.aE ky)]] (gT pV 55 v1.aE λbM=>Wu 3 [] [1,4,11,55,56,57] 3 (λv12(ct:Int)(v17:apH (apI×Int))=>⟨115,[(1,(.ptr 0 0)),(4,(.ptr 2 0)),(11,(aq ct)),(55,(.d (.sl (iR v1.aE)))),(56,(aq (v1.aE.length:Int))),(57,(aq (v12:Int)))],(tT v1 v17 [])⟩) (λv12 ct v17 bY f3=>gA [[],[f0 (bK bY)],[(7,oL v1.aw kp)]] (gB qa 0 3 v1.aw λdp=>Wu 4 [] [1,4,11,73,74] 3 (λcB(v22:Int)(v23:apH (apI×Int))=>⟨115,[(1,(.ptr 0 0)),(4,(.ptr 2 0)),(11,(aq v22)),(73,(aq (v1.aw.length:Int))),(74,(aq (cB:Int)))],(tT v1 v23 [])⟩) (λcB v22 v23 dt f4=>gA [[],[f0 (bK dt)],[(7,oL v1.bW fK)]] (gT gi 88 v1.bW λb9=>gn 5 [] [1,4,11,88,89,90] 3 (λv24(v28:Int)=>⟨115,[(1,(.ptr 0 0)),(4,(.ptr 2 0)),(11,(aq v28)),(88,(.d (.sl (cw v1.bW)))),(89,(aq (v1.bW.length:Int))),(90,(aq (v24:Int)))],(tT v1 v23 [])⟩) (λv24 v28 dG f5=>gR [[],[f0 (bK dG)],[]]) (λv24 v26 cW v28 dG f5 uM=>gA [[],[t0 (bI dG)],[(4,oE (jR (bt dG)))],[(17,⟨_,_, .eq (F3 false v23 v26)⟩)]] (cF λeM=>bl λfE=>au λiB dx=>gA [[f0 eM],[(10,⟨_,_, .sub (xs:=cw v1.bW) (lo:=0) (hi:=(v24:Int)) (by decide) (Nat.zero_le _) (of_decide_eq_true (apA (Int.natCast_nonneg _))) (by rw[fK];exact(of_decide_eq_true fE)) Ut ah3⟩),(16,cK VO dx)]] (cF λfB=>gb uM (bh (v28+(1:Int))) [[f0 fB],[],[(2,oq (b5 dG rfl b9))]] dG))))) (λcB v20 v21 v22 v23 dt f4 jY=>au λv30 gY=>gA [[],[t0 (bI dt)],[],[(7,oR [(.ptr 2 0),(aq (cB:Int))] (tT v1 v23 []) [2,1] (aei _ gY))],[]] (cF λfP=>gb jY ((bh (v22+(1:Int))),v30.2) [[f0 fP],[],[(2,oq (b5 dt rfl dp))]] dt)))) (λv12 bX bC ct v17 bY f3 ie=>au λv31 fz=>gA [[],[t0 (bI bY)],[(1,oE (mC (bt bY)))],[(7,oR [(.ptr 2 0),(pK bX)] (tT v1 v17 [.cells (pK bX).cells]) [2,1] (aks _ fz))],[]] (cF λir=>gb ie ((bh (ct+(1:Int))),v31.2) [[f0 ir],[],[(2,oq (b5 bY rfl bM))]] bY)))) (λv8 v10 v11 h8 f2 cM=>au λv32 gg=>gA [[],[t0 (bI h8)],[(1,oE (uL (bt h8)))],[(7,oQ [(.ptr 2 0),(pf v10)] (tT v1 v7 [.cells (pf v10).cells]) [2,1] (acI _ gg))],[]] (cF λik=>gb cM () [[f0 ik],[(2,oq (b5 h8 rfl h7))]] h8)))) (λv3 v5 v6 v7 h5 f1 aR=>au λv33 fM=>gA [[],[t0 (bI h5)],[(1,oE (jR (bt h5)))],[(7,oR [(.ptr 2 0),(aL v5),(aq (1:Int))] (tT v1 v7 []) [2,1] (OZ _ fM))],[]] (cF λjt=>gb aR v33.2 [[f0 jt],[(2,oq (b5 h5 rfl h4))]] h5)))))
def NT(N:Nat)(v1:Int64)(v2:Int):apJ apI:=Pl v1 v2
theorem aav{N v1 v2}:KO 80 [(de v1),(aq v2)] aL (NT N v1 v2):=ajP
def Qc(N:Nat)(v1:Int):apJ apI:=
 bif (bh v1==v1)then
 Option.bind (NT N (Int64.ofInt v1) (10:Int)) λv2=>
 some v2
 else none
theorem al1{N v1}:KO 100 [(aq v1)] aL (Qc N v1):=
 fw Tryz.func100 (bl λh1=>au λv2 h2=>gR [[],[(2,⟨_,_, .eq (U6 (beq_iff_eq.1 h1))⟩),(4,cK aav h2)]])
def y0(N:Nat)(v1:Int):apJ apI:=
 (Qc N v1).bind λv2=>
 some v2
theorem Q2{N v1}:KO 50 [(aq v1)] aL (y0 N v1):=
 fw Tryz.func50 (au λv2 h1=>gR [[],[(4,cK al1 h1)]])
def xB(N:Nat)(v1:apI)(v2:Int):apJ apI:=
 (y0 N v2).bind λv3=>
 bif (Nat.ble (v1.size+v3.size) 9223372036854775807)then
 some (v1++v3)
 else none
theorem K9{N v1 v2}:KO 21 [(aL v1),(aq v2)] aL (xB N v1 v2):=
 fw Tryz.func21 (au λv3 h1=>bl λh2=>gR [[],[(7,cK Q2 h1),(10,⟨_,_, .cat (n:=v1.size+v3.size) (cC h2)⟩)]])
def wL(N:Nat)(v1:apI)(v2:apH (apI×apI)):apJ apI:=
 bif (pa v2 v1)then
  some (eQ v2 v1 (bs []))
 else
  some v1
theorem Dz{N v1 v2}:KP 51 [(.mp 0),(aL v1)] [.map (bD v2)] aL (λ_=>[.map (bD v2)]) (wL N v1 v2):=
 fh 1 Tryz.func51 (gA [[],[(8,⟨_,_, .eq (IL true v2 v1)⟩)],[]] (aC (λh1=>gH [[t0 h1],[]]) λh1=>gH [[f0 h1],[]]))
def RH(N:Nat)(v1:apH bf)(v3:Nat):apJ (apH bf):=bif Nat.beq v1.length v3&&(Nat.blt v3 4611686018427387904&&tJ (ib v1))then some (ib v1)else none
theorem ac8{N v1 v3 r}(J:RH N v1 v3=some r):cx Tryz.prog 52 [(.vec 0 0 v3 v3 2),(.fn 53 [])] [.vec 115 2 (cD (v1.map jk))] λr1 h1=>r1=(.bA [])/\h1=[.vec 115 2 (cD (r.map jk))]:=by
 obtain⟨hb,rfl⟩:=eu J;rw[aoU,aoU]at hb;exact alT (ao6 hb.1) (by have:=hb.2.1;rw[Nat.blt_eq]at this;exact this) hb.2.2
def vN(N:Nat)(v1:aN)(v2:apH (apI×apI)):apH bf->Nat->Nat->(apH bf)->apJ aN
 |[],_,v8,v9=>
  (RH N v9 v8).bind λv10=>
  bif (Nat.beq v10.length v8)then
  some (⟨v1.xK,v10⟩:aN)
  else none
 |v6::v7,v4,v8,v9=>
  (wL N v6.ao v2).bind λv11=>
  bif (Nat.beq v9.length v8)then
  bif (Nat.ble ((v8+1)*24) 140737488355328)then
  (λbm eY=>vN N v1 v2 v7 (v4+1) bm eY) (v8+1) (v9++[(⟨v11,v6.ck⟩:bf)])
  else none
  else none
def tN(N:Nat)(v1:aN)(v2:apH (apI×apI))(v3:apH (apI×apI)):apJ aN:=
 vN N v1 v2 v1.xL 0 0 []
def Bn(v2:apH (apI×apI))(v3:apH (apI×apI))(v1:aN)(l:apH an):apH an:= .map (bD v2):: .map (bD v3):: .cells [(.mp 0),(.mp 1)]:: .cells (cP v1).cells:: .cells Q5::l
def vY(v2:apH (apI×apI))(v3:apH (apI×apI))(v1:aN)(v8:Nat)(v9:apH bf)(l:apH an):apH an:=Bn v2 v3 v1 (.cells [(de v1.xK),(.vec 6 0 v8 v8 2)]:: .vec 115 2 (cD (v9.map jk))::l)
def Wz(v2:apH (apI×apI))(v3:apH (apI×apI))(v1:aN)(v10:apH bf)(l:apH an):apH an:= .map (bD v2):: .map (bD v3):: .cells [(.mp 0),(.mp 1)]:: .cells (cP v1).cells:: .cells [(de v1.xK),(.d (.sl (c9 v10)))]:: .cells [(de v1.xK),(.d (.sl (c9 v10)))]::l
theorem Fm{N v1 v2 v3 r}(J:tN N v1 v2 v3=some r):KH 22 [(.agg [(.mp 0),(.mp 1)]),(cP v1)] ([.map (bD v2), .map (bD v3)]) (cP r) ([.map (bD v2), .map (bD v3)]):=by
 rw[tN]at J;refine BJ 2 Tryz.func22 rfl (by kernel_rfl) (ao0 rfl) ?_;refine zf (s':=⟨36,[(0,(.agg [(.mp 0),(.mp 1)])),(1,(cP v1))],[.map (bD v2), .map (bD v3)]⟩) (by kernel_rfl) ?_;refine bP ?_;refine rg [] [(2,(.ptr 2 0)),(3,(.ptr 3 0)),(4,(.ptr 4 0))] (Bn v2 v3 v1 []) (by kernel_rfl) ?_;refine bP ?_;refine rg [] [(5,(.ptr 5 0))] (Bn v2 v3 v1 [.cells [(de v1.xK),(.d (.v (.slice none 0 0)))]]) (by kernel_rfl) ?_;refine bP ?_;refine bP ?_;refine rg [(7,oL v1.xL fG)] [(12,(.d (.sl (c9 v1.xL)))),(13,(aq (v1.xL.length:Int))),(14,(aq (0:Int)))] (Bn v2 v3 v1 [.cells [(de v1.xK),(.d (.v (.slice none 0 0)))]]) (by kernel_rfl) ?_;refine kf ?_;refine aok 5 1 115 2 rfl rfl ?_;refine DY 12 (c9 v1.xL) (by kernel_rfl) λh1=> ?_;have h2:=Ls fG h1;refine Tr [2,4,5,12,13,14] 7 [] [(4,1)] (λ((v4,v5,v8,v9):Nat×(apH bf)×Nat×(apH bf))=>⟨36,[(2,(.ptr 2 0)),(4,(.ptr 4 0)),(5,(.ptr 5 0)),(12,(.d (.sl (c9 v1.xL)))),(13,(aq (v1.xL.length:Int))),(14,(aq (v4:Int)))],(vY v2 v3 v1 v8 v9 [])⟩) (λ((v4,v5,v8,v9):Nat×(apH bf)×Nat×(apH bf))=>v1.xL.drop v4=v5/\vN N v1 v2 v5 v4 v8 v9=some r) (λ((v4,v5,v8,v9):Nat×(apH bf)×Nat×(apH bf))=>v5.length) (0,v1.xL,0,[]) (ao0 rfl) ⟨(oz trivial (oz trivial (oz trivial (oz trivial (oz trivial (oz trivial (vmV (xs:=(([]:apH bf).map jk)) SR))))))),by kernel_rfl⟩ ⟨rfl,J⟩ ?_
 rintro⟨v4,v5,v8,v9⟩ ⟨h3,J⟩;cases v5 with
 |nil=>
  rw[vN]at J;refine bP ?_;refine rg [] [(15,(aZ (decide ((v4:Int)<(v1.xL.length:Int)))))] (vY v2 v3 v1 v8 v9 []) (by kernel_rfl) ?_;refine bP ?_;refine jg (t:=(decide ((v4:Int)<(v1.xL.length:Int)))) (by kernel_rfl) (bK h3) ?_;refine uC (vP (vP (Cf rfl ?_)));refine dJ ?_;refine bP ?_;obtain⟨v10,h4,J⟩:=dv J;refine rg [(7,⟨_,_, .acz (TX (xs:=(v9.map jk)) Yg) (TX (xs:=(v10.map jk)) Yg) (n9:=[(.vec 6 0 v8 v8 2),(.fn 53 [])]) (h:=(vY v2 v3 v1 v8 v9 [])) (l:=[6]) (by kernel_rfl) (by kernel_rfl) (by kernel_rfl) (by kernel_rfl) (ac8 h4)⟩)] [] (vY v2 v3 v1 v8 v10 []) (by kernel_rfl) ?_;refine bP ?_;refine rg [] [] [.map (bD v2), .map (bD v3), .cells [(.mp 0),(.mp 1)], .cells (cP v1).cells, .cells [(de v1.xK),(.vec 6 0 v8 v8 2)], .cells [(de v1.xK),(.vec 6 0 v8 v8 2)], .vec 115 2 (cD (v10.map jk))] (by kernel_rfl) ?_;have h5:=oa J;replace J:=(fJ h5).symm.trans J;refine akb [4] 6 (v10.map jk) (c9 v10) (L:=v8) (Wz v2 v3 v1 v10 [.vec 115 2 (cD (v10.map jk))]) 0 rfl (aeg (λ_=>rfl) _) (ahl (ao6 h5)) (nf _) (by kernel_rfl) (.map (.map (.cells 0 rfl (by kernel_rfl) (.cells 0 rfl (by kernel_rfl) (.cells 1 (by kernel_rfl) (by kernel_rfl) (.cells 1 (by kernel_rfl) (by kernel_rfl) (.Mp .nil))))))) ?_;refine zf (s':=⟨36,[(4,(.ptr 4 0))],(Wz v2 v3 v1 v10 [.gone])⟩) (by kernel_rfl) ?_
  refine gM ?_;have hr:=apb J;subst hr;exact Cj (by kernel_rfl)
 |cons v6 v7=>
  rw[vN]at J;refine bP ?_;refine rg [] [(15,(aZ (decide ((v4:Int)<(v1.xL.length:Int)))))] (vY v2 v3 v1 v8 v9 []) (by kernel_rfl) ?_;refine bP ?_;refine jA (t:=(decide ((v4:Int)<(v1.xL.length:Int)))) (by kernel_rfl) (bI h3) ?_;refine jG ?_;refine dJ ?_;refine bP ?_;refine kf ?_;refine bP ?_;refine rg [(1,oE (o0 (bt h3)))] [(7,(.ptr 7 0))] (vY v2 v3 v1 v8 v9 [.cells (xW v6).cells]) (by kernel_rfl) ?_;obtain⟨v11,h6,J⟩:=dv J;have h7:=oa J;replace J:=(fJ h7).symm.trans J;have h8:=oa J;replace J:=(fJ h8).symm.trans J;refine DR dO (by kernel_rfl) [(19,oQ [(.mp 0),(aL v6.ao)] (vY v2 v3 v1 v8 v9 [.cells (xW v6).cells]) [0] (Dz _ h6)),(34,⟨_,_, .pr (.ap (cD ((v9++[(⟨v11,v6.ck⟩:bf)]).map jk)) (cD (([(⟨v11,v6.ck⟩:bf)]).map jk)) (v8+1) (v8+1)) (ahz (f:=jk) (h:=(vY v2 v3 v1 v8 v9 [.cells (xW v6).cells])) (y:=(.full (c9 [(⟨v11,v6.ck⟩:bf)]))) (k:=2) (ao6 h7) rfl (λc hc=>u4 c (by rw[nf];exact hc)) rfl rfl (HJ h8 (by decide)).1 (HJ h8 (by decide)).2)⟩)] [(30,(.ptr 5 1)),(29,(.vec 6 0 (v8+1) (v8+1) 2)),(28,(.full (c9 [(⟨v11,v6.ck⟩:bf)]))),(27,(.agg [(aL v11),(de v6.ck)])),(26,(de v6.ck)),(25,(.ptr 7 1)),(24,(aL v11)),(23,(aL v6.ao)),(22,(.ptr 7 0)),(21,(.mp 0)),(20,(.ptr 2 0)),(19,(.vec 6 0 v8 v8 2)),(18,(.ptr 5 1))] (Bn v2 v3 v1 [.cells [(de v1.xK),(.vec 6 0 (v8+1) (v8+1) 2)], .vec 115 2 (cD ((v9++[(⟨v11,v6.ck⟩:bf)]).map jk)), .cells (xW v6).cells]) ⟨by kernel_rfl,by kernel_rfl⟩ ?_
  refine jz ?_;refine dJ ?_;refine re [(2,oq (b5 h3 rfl h2))] [(14,(aq ((v4+1:Nat):Int))),(31,(aq ((v4+1:Nat):Int)))] (Bn v2 v3 v1 [.cells [(de v1.xK),(.vec 6 0 (v8+1) (v8+1) 2)], .vec 115 2 (cD ((v9++[(⟨v11,v6.ck⟩:bf)]).map jk)), .cells (xW v6).cells]) (by kernel_rfl) ?_;refine dJ ?_;exact⟨(v4+1,v7,(v8+1),(v9++[(⟨v11,v6.ck⟩:bf)])),⟨(oz trivial (oz trivial (oz trivial (oz trivial (oz trivial (oz trivial (vmV (xs:=((v9++[(⟨v11,v6.ck⟩:bf)]).map jk)) SR))))))),by kernel_rfl⟩,⟨sf h3,J⟩,apF _⟩
def Du(N:Nat)(v2:apH (apI×apI))(v3:apH (apI×apI)):apH aN->Nat->(apH aN)->apJ ((apH aN))
 |[],_,v8=>
  some v8
 |v6::v7,v4,v8=>
  (tN N v6 v2 v3).bind λv9=>
  bif (Nat.ble ((v8.length+1)*32) 140737488355328)then
  (λbm=>Du N v2 v3 v7 (v4+1) bm) (v8++[v9])
  else none
def EL(N:Nat)(v1:apH aN)(v2:apH (apI×apI))(v3:apH (apI×apI)):apJ ((apH aN)):=
 Du N v2 v3 v1 0 []
theorem Ze{N v1 v2 v3}:KP 23 [(.agg [(.mp 0),(.mp 1)]),(.d (.sl (dE v1)))] [.map (bD v2), .map (bD v3)] (λr=> .d (.sl (dE r))) (λ_=>[.map (bD v2), .map (bD v3)]) (EL N v1 v2 v3):=
 fh 2 Tryz.func23 (gA [[],[],[(4,oL v1 gj)]] (li (λ_=>(l0 5 52 2 [] (.inr (by kernel_rfl)) ·)) (gT pv 1 v1 λh2=>gn 1 [] [2,5,8,9,10] 4 (λv4(v8:apH aN)=>⟨22,[(2,(.ptr 2 0)),(5,(.own 3 (dE v8))),(8,(.d (.sl (dE v1)))),(9,(aq (v1.length:Int))),(10,(aq (v4:Int)))],[.map (bD v2), .map (bD v3), .cells [(.mp 0),(.mp 1)], .front 52 2 v8.length]⟩) (λv4 v8 h3 f1=>gH [[],[f0 (bK h3)],[]]) (λv4 v6 v7 v8 h3 f1 aR=>au λv9 h4=>bl λh5=>gb aR (v8++[v9]) [[],[t0 (bI h3)],[(1,oE (oJ (bt h3)))],[(10,oQ [(.agg [(.mp 0),(.mp 1)]),(cP v6)] [.map (bD v2), .map (bD v3), .cells [(.mp 0),(.mp 1)], .front 52 2 v8.length, .cells (cP v6).cells] [0,1] (Fm h4)),(16,oA pv v8 ([v9]) h5)],[(2,oq (b5 h3 rfl h2))]] h3))))
def C8(N:Nat)(v2:apH (apI×apI))(v3:apH (apI×apI)):apH bV->Nat->(apH bV)->apJ ((apH bV))
 |[],_,v8=>
  some v8
 |v6::v7,v4,v8=>
  (wL N v6.ao v2).bind λv9=>
  (tN N v6.cg v2 v3).bind λv10=>
  bif (Nat.ble ((v8.length+1)*48) 140737488355328)then
  (λbm=>C8 N v2 v3 v7 (v4+1) bm) (v8++[(⟨v9,v10⟩:bV)])
  else none
def FJ(N:Nat)(v1:apH bV)(v2:apH (apI×apI))(v3:apH (apI×apI)):apJ ((apH bV)):=
 C8 N v2 v3 v1 0 []
theorem Yn{N v1 v2 v3}:KP 56 [(.agg [(.mp 0),(.mp 1)]),(.d (.sl (dL v1)))] [.map (bD v2), .map (bD v3)] (λr=> .d (.sl (dL r))) (λ_=>[.map (bD v2), .map (bD v3)]) (FJ N v1 v2 v3):=
 fh 2 Tryz.func56 (gA [[],[],[(4,oL v1 eG)]] (li (λ_=>(l0 5 72 3 [] (.inr (by kernel_rfl)) ·)) (gT mO 1 v1 λh2=>gn 1 [] [2,5,8,9,10] 4 (λv4(v8:apH bV)=>⟨29,[(2,(.ptr 2 0)),(5,(.own 3 (dL v8))),(8,(.d (.sl (dL v1)))),(9,(aq (v1.length:Int))),(10,(aq (v4:Int)))],[.map (bD v2), .map (bD v3), .cells [(.mp 0),(.mp 1)], .front 72 3 v8.length]⟩) (λv4 v8 h3 f1=>gH [[],[f0 (bK h3)],[]]) (λv4 v6 v7 v8 h3 f1 aR=>au λv9 h4=>au λv10 h5=>bl λh6=>gb aR (v8++[(⟨v9,v10⟩:bV)]) [[],[t0 (bI h3)],[(1,oE (lR (bt h3)))],[(16,oQ [(.mp 0),(aL v6.ao)] [.map (bD v2), .map (bD v3), .cells [(.mp 0),(.mp 1)], .front 72 3 v8.length, .cells (zi v6).cells] [0] (Dz _ h4)),(28,oQ [(.agg [(.mp 0),(.mp 1)]),(cP v6.cg)] [.map (bD v2), .map (bD v3), .cells [(.mp 0),(.mp 1)], .front 72 3 v8.length, .cells (zi v6).cells] [0,1] (Fm h5)),(37,oA mO v8 ([(⟨v9,v10⟩:bV)]) h6)],[(2,oq (b5 h3 rfl h2))]] h3))))
def D6(N:Nat)(v8:apH bu)(fk:(apH bu)->apJ ((apH bu)))(v9:aN)(v10:(apH aN))(v11:apI):apJ ((apH bu)):=
 bif (Nat.ble ((v8.length+1)*72) 140737488355328)then
 fk (v8++[(⟨v9,v11,v10⟩:bu)])
 else none
def yq(N:Nat)(v2:apH (apI×apI))(v3:apH (apI×apI)):apH bu->Nat->(apH bu)->apJ ((apH bu))
 |[],_,v8=>
  some v8
 |v6::v7,v4,v8=>
  (tN N v6.aQ v2 v3).bind λv9=>
  (EL N v6.bG v2 v3).bind λv10=>
  bif (bL v6.bH==bL (bs []))then
   D6 N v8 (λbm=>yq N v2 v3 v7 (v4+1) bm) v9 v10 (bs [])
  else
   (wL N v6.bH v3).bind λv12=>
   D6 N v8 (λbm=>yq N v2 v3 v7 (v4+1) bm) v9 v10 v12
def RP(N:Nat)(v1:apH bu)(v2:apH (apI×apI))(v3:apH (apI×apI)):apJ ((apH bu)):=
 yq N v2 v3 v1 0 []
def CM(v2:apH (apI×apI))(v3:apH (apI×apI))(v8:apH bu)(l:apH an):apH an:= .map (bD v2):: .map (bD v3):: .cells [(.mp 0),(.mp 1)]:: .front 111 4 v8.length::l
theorem anz{N v1 v2 v3}:KP 105 [(.agg [(.mp 0),(.mp 1)]),(.d (.sl (cQ v1)))] [.map (bD v2), .map (bD v3)] (λr=> .d (.sl (cQ r))) (λ_=>[.map (bD v2), .map (bD v3)]) (RP N v1 v2 v3):=
 fh 2 Tryz.func105 (gA [[],[],[(4,oL v1 jD)]] (li (λ_=>(l0 5 111 4 [] (.inr (by kernel_rfl)) ·)) (gT rW 1 v1 λh2=>gn 1 [] [2,5,9,10,11] 4 (λv4(v8:apH bu)=>⟨39,[(2,(.ptr 2 0)),(5,(.own 3 (cQ v8))),(9,(.d (.sl (cQ v1)))),(10,(aq (v1.length:Int))),(11,(aq (v4:Int)))],(CM v2 v3 v8 [])⟩) (λv4 v8 h3 f1=>gH [[],[f0 (bK h3)],[]]) (λv4 v6 v7 v8 h3 f1 aR=>au λv9 h4=>au λv10 h5=>gv 2 [[],[t0 (bI h3)],[(1,oE (kO (bt h3)))],[(10,oQ [(.agg [(.mp 0),(.mp 1)]),(cP v6.aQ)] (CM v2 v3 v8 [.cells (gN v6).cells]) [0,1] (Fm h4)),(22,oQ [(.agg [(.mp 0),(.mp 1)]),(.d (.sl (dE v6.bG)))] (CM v2 v3 v8 [.cells (gN v6).cells]) [0,1] (Ze _ h5))],[]] [2,5,8,9,10,11] 6 (λ(v11:apI)=>⟨39,[(2,(.ptr 2 0)),(5,(.own 3 (cQ v8))),(8,(.ptr 5 0)),(9,(.d (.sl (cQ v1)))),(10,(aq (v1.length:Int))),(11,(aq (v4:Int)))],(CM v2 v3 v8 [.cells (gN v6).cells, .cells [(de v9.xK),(.d (.sl (c9 v9.xL))),(aL v11),(.d (.sl (dE v10)))]])⟩) (D6 N v8 (λbm=>yq N v2 v3 v7 (v4+1) bm) v9 v10) (λf2 cM=>aC (λh7=>gm cM (bs []) [[f0 (dw h7)]]) λh7=>au λv12 h8=>gm cM v12 [[t0 (eC h7)],[(13,oQ [(.mp 1),(aL v6.bH)] (CM v2 v3 v8 [.cells (gN v6).cells, .cells [(de v9.xK),(.d (.sl (c9 v9.xL))),(aL (bs [])),(.d (.sl (dE v10)))]]) [1] (Dz _ h8))]]) (λv11=>bl λh6=>gb aR (v8++[(⟨v9,v11,v10⟩:bu)]) [[(10,oA rW v8 ([(⟨v9,v11,v10⟩:bu)]) h6)],[(2,oq (b5 h3 rfl h2))]] h3)))))
def Cy(N:Nat)(v1:ar)(v6:apI)(v4:aN)(v5:(apH bu))(Ih:ar->(apH (apI×apI))->(apH (apI×apI))->apJ ar)(v2:apH (apI×apI))(v3:apH (apI×apI)):apH ar->Nat->(apH ar)->apJ ar
 |[],_,v11=>
  some (⟨v1.aJ,v6,v1.dK,v1.aM,v4,v5,v11⟩:ar)
 |v9::v10,v7,v11=>
  (Ih v9 v2 v3).bind λv12=>
  bif (Nat.ble ((v11.length+1)*160) 140737488355328)then
  (λiP=>Cy N v1 v6 v4 v5 Ih v2 v3 v10 (v7+1) iP) (v11++[v12])
  else none
def Eg(N:Nat)(v1:ar)(v4:aN)(v5:(apH bu))(Ih:ar->(apH (apI×apI))->(apH (apI×apI))->apJ ar)(v2:apH (apI×apI))(v3:apH (apI×apI))(v6:apI):apJ ar:=
 Cy N v1 v6 v4 v5 Ih v2 v3 v1.bk 0 []
def qk(N:Nat):Nat->ar->(apH (apI×apI))->(apH (apI×apI))->apJ ar
 |0,_,_,_=>none
 |d+1,v1,v2,v3=>
  (tN N v1.aQ v2 v3).bind λv4=>
  (RP N v1.xIdx v2 v3).bind λv5=>
  bif (v1.aJ==3)then
   (wL N v1.ao v3).bind λba=>
   Eg N v1 v4 v5 (qk N d) v2 v3 ba
  else
   Eg N v1 v4 v5 (qk N d) v2 v3 v1.ao
def Sg(N:Nat)(v1:ar)(v2:apH (apI×apI))(v3:apH (apI×apI)):apJ ar:=qk N N v1 v2 v3
def RX(v2:apH (apI×apI))(v3:apH (apI×apI))(v1:ar)(v6:apI)(v4:aN)(v5:(apH bu))(l:apH an):apH an:= .map (bD v2):: .map (bD v3):: .cells [(.mp 0),(.mp 1)]:: .cells ((aq v1.aJ)::(aL v6)::UP v1 [(de v4.xK),(.d (.sl (c9 v4.xL))),(.d (.sl (cQ v5))),(.d (.sl (dU v1.bk)))]):: .cells GY::l
def Wx(v2:apH (apI×apI))(v3:apH (apI×apI))(v1:ar)(l:apH an):apH an:= .map (bD v2):: .map (bD v3):: .cells [(.mp 0),(.mp 1)]:: .cells (aW v1).cells:: .cells GY::l
theorem ais(N:Nat):∀d:Nat,(∀{v1:ar}{v2:apH (apI×apI)}{v3:apH (apI×apI)},KP 57 [(.agg [(.mp 0),(.mp 1)]),(aW v1)] [.map (bD v2), .map (bD v3)] aW (λ_=>[.map (bD v2), .map (bD v3)]) (qk N d v1 v2 v3)):=by
 intro d
 induction d with
 |zero=>intro v1 v2 v3 r J;rw[qk]at J;cases J
 |succ d ih=>
  have afQ:= @ih;intro v1 v2 v3;rw[qk];exact fh 2 Tryz.func57 (au λv4 h1=>au λv5 h2=>adA 1 [[],[(10,oQ [(.agg [(.mp 0),(.mp 1)]),(cP v1.aQ)] (Wx v2 v3 v1 []) [0,1] (Fm h1)),(22,oQ [(.agg [(.mp 0),(.mp 1)]),(.d (.sl (cQ v1.xIdx)))] (Wx v2 v3 v1 []) [0,1] (anz _ h2))],[]] [2,3,4] 5 [] [(4,10),(4,11),(4,12)] (λ(v6:apI)=>⟨44,[(2,(.ptr 2 0)),(3,(.ptr 3 0)),(4,(.ptr 4 0))],(RX v2 v3 v1 v6 v4 v5 [])⟩) (Eg N v1 v4 v5 (qk N d) v2 v3) (λf1 aR=>aC (λh8=>au λba h9=>Wc aR ba [[(0,bT h8)],[(13,oQ [(.mp 1),(aL v1.ao)] [.map (bD v2), .map (bD v3), .cells [(.mp 0),(.mp 1)], .cells (cf2 v1 [(de v4.xK),(.d (.sl (c9 v4.xL))),(.d (.sl (cQ v5))),(.d (.sl (dU v1.bk)))]), .cells GY] [1] (Dz _ h9))]]) λh8=>Wc aR v1.ao [[(0,bF h8)]]) (λv6=>gA [[],[(7,oL v1.bk j0)]] (li (λ_=>(l0 5 67 13 [] (.inr (by kernel_rfl)) ·)) (gT pD 28 v1.bk λh4=>jH 2 [] [2,3,4,5,28,29,30] 6 [] [(4,10),(4,11),(4,12)] (λv7(v11:(apH ar))=>⟨44,[(2,(.ptr 2 0)),(3,(.ptr 3 0)),(4,(.ptr 4 0)),(5,(.own 5 (dU v11))),(28,(.d (.sl (dU v1.bk)))),(29,(aq (v1.bk.length:Int))),(30,(aq (v7:Int)))],(RX v2 v3 v1 v6 v4 v5 [.front 67 13 v11.length])⟩) (λv7 v11 h5 f2=>gH [[],[(0,bF (bK h5))],[],[]]) (λv7 v9 v10 v11 h5 f2 cM=>au λv12 h6=>bl λh7=>jm cM (v11++[v12]) [[],[(0,bT (bI h5))],[(1,oE (ma (bt h5)))],[(10,oQ [(.agg [(.mp 0),(.mp 1)]),(aW v9)] (RX v2 v3 v1 v6 v4 v5 [.front 67 13 v11.length, .cells (aW v9).cells]) [0,1] (afQ _ h6)),(14,⟨_,_, .eq (congrArg AV.full (rY [v12]).symm)⟩),(16,oA pD v11 ([v12]) h7)],[(2,oq (b5 h5 rfl h4))]] h5)))))
theorem am9{N v1 v2 v3}:KP 57 [(.agg [(.mp 0),(.mp 1)]),(aW v1)] [.map (bD v2), .map (bD v3)] aW (λ_=>[.map (bD v2), .map (bD v3)]) (Sg N v1 v2 v3):=(ais N N)
def vQ(N:Nat)(v1:aX)(v3:apH (apI×apI)):apH apI->Nat->(apH (apI×apI))->apJ aX
 |[],_,v9=>
  (wL N v1.ao v3).bind λv10=>
  (FJ N v1.aO v9 v3).bind λv11=>
  (FJ N v1.aU v9 v3).bind λv12=>
  (Sg N v1.bR v9 v3).bind λba=>
  some (⟨v10,v1.aM,v11,v12,v1.cr,ba⟩:aX)
 |v7::v8,v5,v9=>
  Option.bind (xB N (bs [105]) (v5:Int)) λbX=>
  bif (Nat.blt v9.length 9223372036854775807)then
  (λbm=>vQ N v1 v3 v8 (v5+1) bm) ((v7,bX)::v9)
  else none
def KC(N:Nat)(v1:aX)(v2:apH (apI×apI))(v3:apH (apI×apI)):apJ aX:=
 (CV N v1).bind λv4=>
 vQ N v1 v3 v4 0 v2
def Fq(v2:apH (apI×apI))(v3:apH (apI×apI))(v1:aX)(v9:apH (apI×apI))(l:apH an):apH an:= .map (bD v2):: .map (bD v3):: .cells (fm v1).cells:: .cells [(.mp 0),(.mp 1)]:: .cells [(aL (bs [])),(aq (0:Int)),(aq (0:Int)),(aq (0:Int)),(aq (0:Int)),(aq (0:Int)),(.d (.sl (dL []))),(.d (.sl (dL []))),(aq (0:Int)),(aq (0:Int)),(aL (bs [])),(de (0:Int64)),(de (0:Int64)),(aq (0:Int)),(aq (0:Int)),(aq (0:Int)),(aq (0:Int)),(aq (0:Int)),(de (0:Int64)),(.d (.sl (c9 []))),(.d (.sl (cQ []))),(.d (.sl (dU [])))]:: .map (bD v9):: .cells [(.mp 5),(.mp 1)]::l
theorem adB{N v1 v2 v3}:KP 24 [(fm v1),(.agg [(.mp 0),(.mp 1)])] [.map (bD v2), .map (bD v3)] fm (λ_=>[.map (bD v2), .map (bD v3)]) (KC N v1 v2 v3):=
 fh 2 Tryz.func24 (gA [[],[]] (li (λ_=>(aj7 v1 v2 v3 ·)) (au λv4 h1=>gA [[(4,cK Um h1),(7,oL v4 fK)]] (gT gi 27 v4 λh3=>gn 1 [] [2,4,5,27,28,29] 7 (λv5(v9:apH (apI×apI))=>⟨62,[(2,(.ptr 2 0)),(4,(.ptr 4 0)),(5,(.ptr 6 0)),(27,(.d (.sl (cw v4)))),(28,(aq (v4.length:Int))),(29,(aq (v5:Int)))],(Fq v2 v3 v1 v9 [])⟩) (λv5 v9 h4 f1=>au λv10 h5=>au λv11 h6=>au λv12 h7=>au λba h8=>gH [[],[f0 (bK h4)],[(13,oQ [(.mp 1),(aL v1.ao)] (Fq v2 v3 v1 v9 []) [1] (Dz _ h5)),(31,oQ [(.agg [(.mp 5),(.mp 1)]),(.d (.sl (dL v1.aO)))] (Fq v2 v3 v1 v9 []) [5,1] (Yn _ h6)),(43,oQ [(.agg [(.mp 5),(.mp 1)]),(.d (.sl (dL v1.aU)))] (Fq v2 v3 v1 v9 []) [5,1] (Yn _ h7)),(61,oQ [(.agg [(.mp 5),(.mp 1)]),(aW v1.bR)] (Fq v2 v3 v1 v9 []) [5,1] (am9 _ h8))]]) (λv5 v7 v8 v9 h4 f1 aR=>au λbX h9=>bl λbM=>gb aR ((v7,bX)::v9) [[],[t0 (bI h4)],[(4,oE (jR (bt h4)))],[(13,cK K9 h9),(16,⟨_,_, .sd (o:= .none) (LW bM)⟩)],[(2,oq (b5 h4 rfl h3))]] h4)))))
def Af(N:Nat)(v22:apH apI)(cW:apH cz)(v32:apH cf)(v37:apH aX)(v17:apH (apI×apI)):apH apI->Nat->(apH apI)->apJ (aG×Int)
 |[],_,mK=>
  some ((⟨v22,cW,v32,v37,mK⟩:aG),(0:Int))
 |v40::v41,kT,mK=>
  bif (Nat.ble ((mK.length+1)*16) 140737488355328)then
  (λamw=>Af N v22 cW v32 v37 v17 v41 (kT+1) amw) (mK++[(eQ v17 v40 (bs []))])
  else none
def A1(N:Nat)(v22:apH apI)(cW:apH cz)(v32:apH cf)(v17:apH (apI×apI))(v1:aG)(v7:apH (apI×apI)):apH aX->Nat->(apH aX)->apJ (aG×Int)
 |[],_,v37=>
  Af N v22 cW v32 v37 v17 v1.bW 0 []
 |v35::mi,v33,v37=>
  (KC N v35 v7 v17).bind λsI=>
  bif (Nat.ble ((v37.length+1)*272) 140737488355328)then
  (λN6=>A1 N v22 cW v32 v17 v1 v7 mi (v33+1) N6) (v37++[sI])
  else none
def Az(N:Nat)(v22:apH apI)(cW:apH cz)(v17:apH (apI×apI))(v1:aG)(v7:apH (apI×apI)):apH cf->Nat->(apH cf)->apJ (aG×Int)
 |[],_,v32=>
  A1 N v22 cW v32 v17 v1 v7 v1.aw 0 []
 |v30::v31,v28,v32=>
  (EL N v30.aO v7 v17).bind λv44=>
  bif (Nat.ble ((v32.length+1)*80) 140737488355328)then
  (λRB=>Az N v22 cW v17 v1 v7 v31 (v28+1) RB) (v32++[(⟨(eQ v17 v30.ao (bs [])),v30.aM,v44⟩:cf)])
  else none
def zQ(N:Nat)(v22:apH apI)(v17:apH (apI×apI))(v1:aG)(v7:apH (apI×apI)):apH cz->Nat->(apH cz)->apJ (aG×Int)
 |[],_,cW=>
  Az N v22 cW v17 v1 v7 v1.aE 0 []
 |v25::v26,v23,cW=>
  (tN N v25.aQ v7 v17).bind λv45=>
  bif (Nat.ble ((cW.length+1)*40) 140737488355328)then
  (λF2=>zQ N v22 v17 v1 v7 v26 (v23+1) F2) (cW++[(⟨v45,v25.hY⟩:cz)])
  else none
def uv(N:Nat)(v17:apH (apI×apI))(v1:aG)(v7:apH (apI×apI)):apH apI->Nat->(apH apI)->apJ (aG×Int)
 |[],_,v22=>
  zQ N v22 v17 v1 v7 v1.cd 0 []
 |v20::v21,cB,v22=>
  bif (Nat.ble ((v22.length+1)*16) 140737488355328)then
  (λnA=>uv N v17 v1 v7 v21 (cB+1) nA) (v22++[(eQ v7 v20 (bs []))])
  else none
def Cc(N:Nat)(v1:aG)(v7:apH (apI×apI)):apH aX->Nat->(apH (apI×apI))->apJ (aG×Int)
 |[],_,v17=>
  uv N v17 v1 v7 v1.az 0 []
 |bC::ct,ba,v17=>
  Option.bind (xB N (bs [100]) (ba:Int)) λv46=>
  bif (Nat.blt v17.length 9223372036854775807)then
  (λme=>Cc N v1 v7 ct (ba+1) me) ((bC.ao,v46)::v17)
  else none
def E1(N:Nat)(v1:aG)(v7:apH (apI×apI)):apH cf->Nat->(apH (apI×apI))->apJ (aG×Int)
 |[],_,v12=>
  Cc N v1 v7 v1.aw 0 v12
 |v10::v11,v8,v12=>
  Option.bind (xB N (bs [112]) (v8:Int)) λwE=>
  bif (Nat.blt v12.length 9223372036854775807)then
  (λiP=>E1 N v1 v7 v11 (v8+1) iP) ((v10.ao,wE)::v12)
  else none
def zM(N:Nat)(v1:aG):apH apI->Nat->(apH (apI×apI))->apJ (aG×Int)
 |[],_,v7=>
  E1 N v1 v7 v1.aE 0 []
 |v5::v6,v3,v7=>
  Option.bind (xB N (bs [115]) (v3:Int)) λwj=>
  bif (Nat.blt v7.length 9223372036854775807)then
  (λbm=>zM N v1 v6 (v3+1) bm) ((v5,wj)::v7)
  else none
def pE(N:Nat)(v1:aG):apJ (aG×Int):=
 (pg N v1).bind λv2=>
 bif (v2.2 !=0)then
  some (aeC,v2.2)
 else
  zM N v1 v1.az 0 []
def vI(v1:aG)(v7:apH (apI×apI))(l:apH an):apH an:= .cells (eB v1).cells:: .cells Va:: .map (bD v7)::l
def Xs(v1:aG)(v7:apH (apI×apI))(v17:apH (apI×apI))(v22:apH apI)(cW:apH cz)(l:apH an):apH an:=vI v1 v7 (.map (bD v17):: .cells [(.own 6 (cw v22)),(.own 7 (gU cW)),(.d (.v (.slice none 0 0))),(.d (.v (.slice none 0 0))),(.d (.v (.slice none 0 0)))]:: .cells [(.mp 2),(.mp 3)]:: .front 9 1 v22.length:: .front 54 3 cW.length::l)
def acA(v1:aG)(v7:apH (apI×apI))(v17:apH (apI×apI))(v22:apH apI)(cW:apH cz)(v32:apH cf)(l:apH an):apH an:=vI v1 v7 (.map (bD v17):: .cells [(.own 6 (cw v22)),(.own 7 (gU cW)),(.own 8 (iR v32)),(.d (.v (.slice none 0 0))),(.d (.v (.slice none 0 0)))]:: .cells [(.mp 2),(.mp 3)]:: .front 9 1 v22.length:: .front 54 3 cW.length:: .front 59 7 v32.length::l)
def aam(v1:aG)(v7:apH (apI×apI))(v17:apH (apI×apI))(v22:apH apI)(cW:apH cz)(v32:apH cf)(v37:apH aX)(l:apH an):apH an:=vI v1 v7 (.map (bD v17):: .cells [(.own 6 (cw v22)),(.own 7 (gU cW)),(.own 8 (iR v32)),(.own 9 (gK v37)),(.d (.v (.slice none 0 0)))]:: .cells [(.mp 2),(.mp 3)]:: .front 9 1 v22.length:: .front 54 3 cW.length:: .front 59 7 v32.length:: .front 69 22 v37.length::l)
theorem Da{N v1}:KO 8 [(eB v1)] (λr=> .bA [(eB r.1),(aq r.2)]) (pE N v1):=
 fw Tryz.func8 (au λv2 h1=>gA [[],[(4,cK QJ h1)],[]] (cF λh2=>gA [[f0 h2],[],[(7,oL v1.az fK)]] (gT gi 38 v1.az λh4=>jH 1 [] [1,2,6,7,38,39,40] 4 [] [(1,0),(1,1),(1,2),(1,3),(1,4)] (λv3(v7:(apH (apI×apI)))=>⟨174,[(1,(.ptr 0 0)),(2,(.ptr 1 0)),(6,(.mp 2)),(7,(.mp 3)),(38,(.d (.sl (cw v1.az)))),(39,(aq (v1.az.length:Int))),(40,(aq (v3:Int)))],(vI v1 v7 [.map (bD [])])⟩) (λv3 v7 h5 f1=>gA [[],[f0 (bK h5)],[(7,oL v1.aE ky)]] (gT pV 51 v1.aE λh7=>jH 2 [] [1,2,6,7,51,52,53] 4 [] [(1,0),(1,1),(1,2),(1,3),(1,4)] (λv8(v12:(apH (apI×apI)))=>⟨174,[(1,(.ptr 0 0)),(2,(.ptr 1 0)),(6,(.mp 2)),(7,(.mp 3)),(51,(.d (.sl (iR v1.aE)))),(52,(aq (v1.aE.length:Int))),(53,(aq (v8:Int)))],(vI v1 v7 [.map (bD v12)])⟩) (λv8 v12 h8 f2=>gA [[],[f0 (bK h8)],[(7,oL v1.aw kp)]] (gT qa 65 v1.aw λbM=>jH 3 [] [1,2,6,7,65,66,67] 4 [] [(1,0),(1,1),(1,2),(1,3),(1,4)] (λba(v17:(apH (apI×apI)))=>⟨174,[(1,(.ptr 0 0)),(2,(.ptr 1 0)),(6,(.mp 2)),(7,(.mp 3)),(65,(.d (.sl (gK v1.aw)))),(66,(aq (v1.aw.length:Int))),(67,(aq (ba:Int)))],(vI v1 v7 [.map (bD v17)])⟩) (λba v17 bY f3=>gA [[],[f0 (bK bY)],[],[],[(7,oL v1.az fK)]] (li (λ_=>(mL 4 0 9 1 [] (.inr (by kernel_rfl)) ·)) (gT gi 82 v1.az λdp=>jH 4 [] [1,2,6,7,14,15,82,83,84] 7 [] [(1,0),(1,1),(1,2),(1,3),(1,4),(4,1),(4,2),(4,3),(4,4)] (λcB(v22:(apH apI))=>⟨174,[(1,(.ptr 0 0)),(2,(.ptr 1 0)),(6,(.mp 2)),(7,(.mp 3)),(14,(.ptr 4 0)),(15,(.ptr 5 0)),(82,(.d (.sl (cw v1.az)))),(83,(aq (v1.az.length:Int))),(84,(aq (cB:Int)))],(vI v1 v7 [.map (bD v17), .cells [(.own 6 (cw v22)),(.d (.v (.slice none 0 0))),(.d (.v (.slice none 0 0))),(.d (.v (.slice none 0 0))),(.d (.v (.slice none 0 0)))], .cells [(.mp 2),(.mp 3)], .front 9 1 v22.length])⟩) (λcB v22 dt f4=>gA [[],[f0 (bK dt)],[(7,oL v1.cd mH)]] (li (λ_=>(mL 4 1 54 3 [] (.inr (by kernel_rfl)) ·)) (gT wP 98 v1.cd λb9=>jH 5 [] [1,2,7,14,15,98,99,100] 8 [] [(1,0),(1,1),(1,2),(1,3),(1,4),(4,2),(4,3),(4,4)] (λv23(cW:(apH cz))=>⟨174,[(1,(.ptr 0 0)),(2,(.ptr 1 0)),(7,(.mp 3)),(14,(.ptr 4 0)),(15,(.ptr 5 0)),(98,(.d (.sl (gU v1.cd)))),(99,(aq (v1.cd.length:Int))),(100,(aq (v23:Int)))],(Xs v1 v7 v17 v22 cW [])⟩) (λv23 cW dG f5=>gA [[],[f0 (bK dG)],[(7,oL v1.aE ky)]] (li (λ_=>(mL 4 2 59 7 [] (.inr (by kernel_rfl)) ·)) (gT pV 118 v1.aE λfE=>jH 6 [] [1,2,7,14,15,118,119,120] 9 [] [(1,0),(1,1),(1,2),(1,3),(1,4),(4,3),(4,4)] (λv28(v32:(apH cf))=>⟨174,[(1,(.ptr 0 0)),(2,(.ptr 1 0)),(7,(.mp 3)),(14,(.ptr 4 0)),(15,(.ptr 5 0)),(118,(.d (.sl (iR v1.aE)))),(119,(aq (v1.aE.length:Int))),(120,(aq (v28:Int)))],(acA v1 v7 v17 v22 cW v32 [])⟩) (λv28 v32 dx f6=>gA [[],[f0 (bK dx)],[(7,oL v1.aw kp)]] (li (λ_=>(mL 4 3 69 22 [] (.inr (by kernel_rfl)) ·)) (gT qa 142 v1.aw λgY=>jH 7 [] [1,2,7,14,15,142,143,144] 10 [] [(1,0),(1,1),(1,2),(1,3),(1,4),(4,4)] (λv33(v37:(apH aX))=>⟨174,[(1,(.ptr 0 0)),(2,(.ptr 1 0)),(7,(.mp 3)),(14,(.ptr 4 0)),(15,(.ptr 5 0)),(142,(.d (.sl (gK v1.aw)))),(143,(aq (v1.aw.length:Int))),(144,(aq (v33:Int)))],(aam v1 v7 v17 v22 cW v32 v37 [])⟩) (λv33 v37 fP f7=>gA [[],[f0 (bK fP)],[(7,oL v1.bW fK)]] (li (λ_=>(mL 4 4 9 1 [] (.inr (by kernel_rfl)) ·)) (gT gi 158 v1.bW λir=>jH 8 [] [2,7,14,158,159,160] 11 [] [(1,0),(1,1),(1,2),(1,3),(1,4)] (λkT(mK:(apH apI))=>⟨174,[(2,(.ptr 1 0)),(7,(.mp 3)),(14,(.ptr 4 0)),(158,(.d (.sl (cw v1.bW)))),(159,(aq (v1.bW.length:Int))),(160,(aq (kT:Int)))],(vI v1 v7 [.map (bD v17), .cells [(.own 6 (cw v22)),(.own 7 (gU cW)),(.own 8 (iR v32)),(.own 9 (gK v37)),(.own 10 (cw mK))], .cells [(.mp 2),(.mp 3)], .front 9 1 v22.length, .front 54 3 cW.length, .front 59 7 v32.length, .front 69 22 v37.length, .front 9 1 mK.length])⟩) (λkT mK gg f8=>gR [[],[f0 (bK gg)],[]]) (λkT v40 v41 mK gg f8 hf8=>bl λik=>jm hf8 (mK++[(eQ v17 v40 (bs []))]) [[],[t0 (bI gg)],[(1,oE (jR (bt gg)))],[(14,⟨_,_, .eq (IL false v17 v40)⟩),(19,oA gi mK ([(eQ v17 v40 (bs []))]) ik)],[(2,oq (b5 gg rfl ir))]] gg)))) (λv33 v35 mi v37 fP f7 MO=>au λsI fM=>bl λjt=>jm MO (v37++[sI]) [[],[t0 (bI fP)],[(1,oE (oY (bt fP)))],[(13,oQ [(fm v35),(.agg [(.mp 2),(.mp 3)])] (aam v1 v7 v17 v22 cW v32 v37 [.cells (fm v35).cells]) [2,3] (adB _ fM)),(19,oA qa v37 ([sI]) jt)],[(2,oq (b5 fP rfl gY))]] fP)))) (λv28 v30 v31 v32 dx f6 AK=>au λv44 iv=>bl λlD=>jm AK (v32++[(⟨(eQ v17 v30.ao (bs [])),v30.aM,v44⟩:cf)]) [[],[t0 (bI dx)],[(1,oE (mC (bt dx)))],[(17,⟨_,_, .eq (IL false v17 v30.ao)⟩),(34,oQ [(.agg [(.mp 2),(.mp 3)]),(.d (.sl (dE v30.aO)))] (acA v1 v7 v17 v22 cW v32 [.cells (pK v30).cells]) [2,3] (Ze _ iv)),(43,oA pV v32 ([(⟨(eQ v17 v30.ao (bs [])),v30.aM,v44⟩:cf)]) lD)],[(2,oq (b5 dx rfl fE))]] dx)))) (λv23 v25 v26 cW dG f5 uM=>au λv45 kr=>bl λk9=>jm uM (cW++[(⟨v45,v25.hY⟩:cz)]) [[],[t0 (bI dG)],[(1,oE (uL (bt dG)))],[(16,oQ [(.agg [(.mp 2),(.mp 3)]),(cP v25.aQ)] (Xs v1 v7 v17 v22 cW [.cells (pf v25).cells]) [2,3] (Fm kr)),(31,oA wP cW ([(⟨v45,v25.hY⟩:cz)]) k9)],[(2,oq (b5 dG rfl b9))]] dG)))) (λcB v20 v21 v22 dt f4 jY=>bl λnD=>jm jY (v22++[(eQ v7 v20 (bs []))]) [[],[t0 (bI dt)],[(1,oE (jR (bt dt)))],[(14,⟨_,_, .eq (IL false v7 v20)⟩),(19,oA gi v22 ([(eQ v7 v20 (bs []))]) nD)],[(2,oq (b5 dt rfl dp))]] dt)))) (λba bC ct v17 bY f3 ie=>au λv46 nP=>bl λlf=>jm ie ((bC.ao,v46)::v17) [[],[t0 (bI bY)],[(4,oE (oY (bt bY)))],[(13,cK K9 nP),(16,⟨_,_, .sd (o:= .none) (LW lf)⟩)],[(2,oq (b5 bY rfl bM))]] bY))) (λv8 v10 v11 v12 h8 f2 cM=>au λwE qn=>bl λsD=>jm cM ((v10.ao,wE)::v12) [[],[t0 (bI h8)],[(4,oE (mC (bt h8)))],[(13,cK K9 qn),(16,⟨_,_, .sd (o:= .none) (LW sD)⟩)],[(2,oq (b5 h8 rfl h7))]] h8))) (λv3 v5 v6 v7 h5 f1 aR=>au λwj qz=>bl λrK=>jm aR ((v5,wj)::v7) [[],[t0 (bI h5)],[(4,oE (jR (bt h5)))],[(10,cK K9 qz),(13,⟨_,_, .sd (o:= .none) (LW rK)⟩)],[(2,oq (b5 h5 rfl h4))]] h5))))
def Ij(N:Nat)(v2:apH apI):apH apI->Nat->apJ Bool
 |[],_=>
  some true
 |v5::v6,v3=>
  Option.bind (v2[((v3:Int)).toNat]?) λv7=>
  bif (bL v5==bL v7)then
   (Ij N v2 v6 (v3+1))
  else
   some false
def Gz(N:Nat)(v1:apH apI)(v2:apH apI):apJ Bool:=
 bif ((v1.length:Int) !=(v2.length:Int))then
  some false
 else
  Ij N v2 v1 0
theorem abo{N v1 v2}:KO 26 [(.d (.sl (cw v1))),(.d (.sl (cw v2)))] aZ (Gz N v1 v2):=
 fw Tryz.func26 (gA [[],[(4,oL v1 fK),(10,oL v2 fK)]] (gJ λ_=>gT gi 0 v1 λh3=>fu 1 [] [0,1,5] 0 (λv3=>⟨26,[(0,(.d (.sl (cw v1)))),(1,(.d (.sl (cw v2)))),(5,(aq (v3:Int)))],[]⟩) (λv3 h4 f1=>gR [[(7,oL v1 fK)],[f0 (bK h4)],[]]) (λv3 v5 v6 h4 f1 aR=>au λv7 h5=>gA [[(7,oL v1 fK)],[t0 (bI h4)],[(7,oE (jR (bt h4))),(19,oE (jR h5))]] (mm λh7=>gb aR () [[f0 (dw h7)],[(5,oq (b5 h4 rfl h3))]] h4))))
def I9(N:Nat)(v2:aN):apH bf->Nat->apJ Bool
 |[],_=>
  some true
 |v6::v7,v4=>
  Option.bind (v2.xL[((v4:Int)).toNat]?) λv8=>
  bif ((bL v6.ao==bL v8.ao)&&((v6.ck.toInt==v8.ck.toInt)&&true))then
   (I9 N v2 v7 (v4+1))
  else
   some false
def vJ(N:Nat)(v1:aN)(v2:aN):apJ Bool:=
 Option.bind (bif (v1.xK.toInt !=v2.xK.toInt)then some true else some ((v1.xL.length:Int) !=(v2.xL.length:Int))) λv3=>
 bif v3 then
  some false
 else
  I9 N v2 v1.xL 0
theorem DC{N v1 v2}:KO 64 [(cP v1),(cP v2)] aZ (vJ N v1 v2):=
 fw Tryz.func64 (gA [[]] (gG (λv3=>[(19,(aZ v3))]) (λ_=>[.cells (cP v1).cells, .cells (cP v2).cells]) (aC (λh1=>gE [(5,bT h1)] []) λh1=>gE [(5,bF h1)] [(25,oL v1.xL fG),(34,oL v2.xL fG)]) λv3=>gJ λ_=>gB nU 0 1 v1.xL λh5=>fu 1 [] [2,3,5] 2 (λv4=>⟨38,[(2,(.ptr 0 0)),(3,(.ptr 1 0)),(5,(aq (v4:Int)))],[.cells (cP v1).cells, .cells (cP v2).cells]⟩) (λv4 h6 f1=>gR [[(10,oL v1.xL fG)],[f0 (bK h6)],[]]) (λv4 v6 v7 h6 f1 aR=>au λv8 h7=>gA [[(10,oL v1.xL fG)],[t0 (bI h6)],[(10,oE (o0 (bt h6))),(25,oE (o0 h7))]] (mm λh9=>gb aR () [[f0 (dw h9)],[(5,oq (b5 h6 rfl h5))]] h6))))
def Ik(N:Nat)(v1:cz)(v2:cz):apJ Bool:=
 Option.bind (bif (v1.hY==v2.hY)then (vJ N v1.aQ v2.aQ).bind λv3=>
 some v3 else some false) λv4=>
 some v4
theorem alw{N v1 v2}:KO 63 [(pf v1),(pf v2)] aZ (Ik N v1 v2):=
 fw Tryz.func63 (gA [[]] (gG (λv4=>[(4,(aZ v4))]) (λ_=>[.cells (pf v1).cells, .cells (pf v2).cells]) (aC (λh1=>au λv3 h2=>gE [(5,bT h1)] [(31,cK DC h2)]) λh1=>gE [(5,bF h1)] []) λv4=>gR []))
def JH(N:Nat)(v2:apH cz):apH cz->Nat->apJ Bool
 |[],_=>
  some true
 |v5::v6,v3=>
  Option.bind (v2[((v3:Int)).toNat]?) λv7=>
  (Ik N v5 v7).bind λv8=>
  bif v8 then
   (JH N v2 v6 (v3+1))
  else
   some false
def Mi(N:Nat)(v1:apH cz)(v2:apH cz):apJ Bool:=
 bif ((v1.length:Int) !=(v2.length:Int))then
  some false
 else
  JH N v2 v1 0
theorem acN{N v1 v2}:KO 27 [(.d (.sl (gU v1))),(.d (.sl (gU v2)))] aZ (Mi N v1 v2):=
 fw Tryz.func27 (gA [[],[(4,oL v1 mH),(10,oL v2 mH)]] (gJ λ_=>gT wP 0 v1 λh3=>fu 1 [] [0,1,5] 0 (λv3=>⟨27,[(0,(.d (.sl (gU v1)))),(1,(.d (.sl (gU v2)))),(5,(aq (v3:Int)))],[]⟩) (λv3 h4 f1=>gR [[(7,oL v1 mH)],[f0 (bK h4)],[]]) (λv3 v5 v6 h4 f1 aR=>au λv7 h5=>au λv8 h7=>gA [[(7,oL v1 mH)],[t0 (bI h4)],[(7,oE (uL (bt h4))),(19,oE (uL h5)),(25,cK alw h7)]] (mm λh8=>gb aR () [[f0 (dw h8)],[(5,oq (b5 h4 rfl h3))]] h4))))
def KG(N:Nat)(v2:apH aN):apH aN->Nat->apJ Bool
 |[],_=>
  some true
 |v5::v6,v3=>
  Option.bind (v2[((v3:Int)).toNat]?) λv7=>
  (vJ N v5 v7).bind λv8=>
  bif v8 then
   (KG N v2 v6 (v3+1))
  else
   some false
def F1(N:Nat)(v1:apH aN)(v2:apH aN):apJ Bool:=
 bif ((v1.length:Int) !=(v2.length:Int))then
  some false
 else
  KG N v2 v1 0
theorem abD{N v1 v2}:KO 28 [(.d (.sl (dE v1))),(.d (.sl (dE v2)))] aZ (F1 N v1 v2):=
 fw Tryz.func28 (gA [[],[(4,oL v1 gj),(10,oL v2 gj)]] (gJ λ_=>gT pv 0 v1 λh3=>fu 1 [] [0,1,5] 0 (λv3=>⟨27,[(0,(.d (.sl (dE v1)))),(1,(.d (.sl (dE v2)))),(5,(aq (v3:Int)))],[]⟩) (λv3 h4 f1=>gR [[(7,oL v1 gj)],[f0 (bK h4)],[]]) (λv3 v5 v6 h4 f1 aR=>au λv7 h5=>au λv8 h7=>gA [[(7,oL v1 gj)],[t0 (bI h4)],[(7,oE (oJ (bt h4))),(19,oE (oJ h5)),(25,cK DC h7)]] (mm λh8=>gb aR () [[f0 (dw h8)],[(5,oq (b5 h4 rfl h3))]] h4))))
def IW(N:Nat)(v2:apH bV):apH bV->Nat->apJ Bool
 |[],_=>
  some true
 |v5::v6,v3=>
  Option.bind (v2[((v3:Int)).toNat]?) λv7=>
  Option.bind (bif (bL v5.ao==bL v7.ao)then (vJ N v5.cg v7.cg).bind λv8=>
  some (!v8)else some true) λv9=>
  bif v9 then
   some false
  else
   (IW N v2 v6 (v3+1))
def EO(N:Nat)(v1:apH bV)(v2:apH bV):apJ Bool:=
 bif ((v1.length:Int) !=(v2.length:Int))then
  some false
 else
  IW N v2 v1 0
theorem abj{N v1 v2}:KO 65 [(.d (.sl (dL v1))),(.d (.sl (dL v2)))] aZ (EO N v1 v2):=
 fw Tryz.func65 (gA [[],[(4,oL v1 eG),(10,oL v2 eG)]] (gJ λ_=>gT mO 0 v1 λh3=>fu 1 [] [0,1,5] 0 (λv3=>⟨42,[(0,(.d (.sl (dL v1)))),(1,(.d (.sl (dL v2)))),(5,(aq (v3:Int)))],[]⟩) (λv3 h4 f1=>gR [[(7,oL v1 eG)],[f0 (bK h4)],[]]) (λv3 v5 v6 h4 f1 aR=>gA [[(7,oL v1 eG)],[t0 (bI h4)]] (au λv7 h5=>gG (λv9=>[(41,(aZ v9))]) (λ_=>[]) (c8 (7,oE (lR (bt h4))) (c8 (22,oE (lR h5)) (aC (λh7=>au λv8 h8=>gE [(11,bF (dw h7))] [(43,oE (lR (bt h4))),(58,oE (lR h5)),(67,cK DC h8)]) λh7=>gE [(11,bT (eC h7))] []))) λv9=>cF λbM=>gb aR () [[f0 bM],[(5,oq (b5 h4 rfl h3))]] h4))))
def KX(N:Nat)(v1:bu)(v2:bu):apJ Bool:=
 Option.bind (bif (bL v1.bH==bL v2.bH)then (vJ N v1.aQ v2.aQ).bind λv3=>
 (bif v3 then (F1 N v1.bG v2.bG).bind λv4=>
 some v4 else some false)else some false) λv5=>
 some v5
theorem agB{N v1 v2}:KO 157 [(gN v1),(gN v2)] aZ (KX N v1 v2):=
 fw Tryz.func157 (gA [[]] (gG (λv5=>[(4,(aZ v5))]) (λ_=>[.cells (gN v1).cells, .cells (gN v2).cells]) (aC (λh1=>au λv3 h2=>dn (5,bT h1) (c8 (31,cK DC h2) (aC (λh3=>au λv4 h4=>gE [(12,bT h3)] [(52,cK abD h4)]) λh3=>gE [(12,bF h3)] []))) λh1=>gE [(5,bF h1),(12,bF rfl)] []) λv5=>gR []))
def HK(N:Nat)(v2:apH bu):apH bu->Nat->apJ Bool
 |[],_=>
  some true
 |v5::v6,v3=>
  Option.bind (v2[((v3:Int)).toNat]?) λv7=>
  (KX N v5 v7).bind λv8=>
  bif v8 then
   (HK N v2 v6 (v3+1))
  else
   some false
def G6(N:Nat)(v1:apH bu)(v2:apH bu):apJ Bool:=
 bif ((v1.length:Int) !=(v2.length:Int))then
  some false
 else
  HK N v2 v1 0
theorem anR{N v1 v2}:KO 112 [(.d (.sl (cQ v1))),(.d (.sl (cQ v2)))] aZ (G6 N v1 v2):=
 fw Tryz.func112 (gA [[],[(4,oL v1 jD),(10,oL v2 jD)]] (gJ λ_=>gT rW 0 v1 λh3=>fu 1 [] [0,1,5] 0 (λv3=>⟨27,[(0,(.d (.sl (cQ v1)))),(1,(.d (.sl (cQ v2)))),(5,(aq (v3:Int)))],[]⟩) (λv3 h4 f1=>gR [[(7,oL v1 jD)],[f0 (bK h4)],[]]) (λv3 v5 v6 h4 f1 aR=>au λv7 h5=>au λv8 h7=>gA [[(7,oL v1 jD)],[t0 (bI h4)],[(7,oE (kO (bt h4))),(19,oE (kO h5)),(25,cK agB h7)]] (mm λh8=>gb aR () [[f0 (dw h8)],[(5,oq (b5 h4 rfl h3))]] h4))))
def zc4:apH AV:=[(de (0:Int64)),(de (0:Int64))]
def Mt(N:Nat)(v2:apH ar)(ZK:ar->ar->apJ Bool):apH ar->Nat->apJ Bool
 |[],_=>
  some true
 |v5::v6,v3=>
  Option.bind (v2[((v3:Int)).toNat]?) λv7=>
  (ZK v5 v7).bind λv8=>
  bif v8 then
   (Mt N v2 ZK v6 (v3+1))
  else
   some false
mutual
def xk(N:Nat):Nat->ar->ar->apJ Bool
 |0,_,_=>none
 |d+1,v1,v2=>
  Option.bind (bif (v1.aJ==v2.aJ)then(bif (bL v1.ao==bL v2.ao)then(bif ((v1.dK.xN.toInt==v2.dK.xN.toInt)&&((v1.dK.xD.toInt==v2.dK.xD.toInt)&&true))then(bif ((v1.aM.bS==v2.aM.bS)&&((v1.aM.cb==v2.aM.cb)&&((v1.aM.ca==v2.aM.ca)&&((v1.aM.cJ==v2.aM.cJ)&&((v1.aM.cH==v2.aM.cH)&&true)))))then (vJ N v1.aQ v2.aQ).bind λv3=>
  (bif v3 then (G6 N v1.xIdx v2.xIdx).bind λv4=>
  (bif v4 then Option.bind ((CO N d) v1.bk v2.bk) λv5=>
  some v5 else some false)else some false)else some false)else some false)else some false)else some false) λv6=>
  some v6
def CO(N:Nat):Nat->(apH ar)->(apH ar)->apJ Bool
 |0,_,_=>none
 |d+1,v1,v2=>
  bif ((v1.length:Int) !=(v2.length:Int))then
   some false
  else
   Mt N v2 (xk N d) v1 0
end
def QT(N:Nat)(v1:ar)(v2:ar):apJ Bool:=xk N N v1 v2
theorem ame(N:Nat):∀d:Nat,(∀{v1:ar}{v2:ar},KO 66 [(aW v1),(aW v2)] aZ (xk N d v1 v2))/\(∀{v1:apH ar}{v2:apH ar},KO 113 [(.d (.sl (dU v1))),(.d (.sl (dU v2)))] aZ (CO N d v1 v2)):=by
 intro d
 induction d with
 |zero=>exact⟨(by intro v1 v2 r J;rw[xk]at J;cases J),(by intro v1 v2 r J;rw[CO]at J;cases J)⟩
 |succ d ih=>
  have ad0:= @ih.1;have afI:= @ih.2;refine⟨?_,?_⟩
  ·intro v1 v2;rw[xk];exact fw Tryz.func66 (gA [[]] (gG (λv6=>[(4,(aZ v6))]) (λ_=>[.cells (aW v1).cells, .cells (aW v2).cells]) (aC (λh1=>dn (5,bT h1) (aC (λh2=>dn (12,bT h2) (aC (λh3=>dn (19,bT h3) (aC (λh4=>au λv3 h5=>dn (26,bT h4) (c8 (94,cK DC h5) (aC (λh6=>au λv4 h7=>dn (33,bT h6) (c8 (115,cK anR h7) (aC (λh8=>au λv5 h9=>gE [(40,bT h8)] [(136,cK afI h9)]) λh8=>gE [(40,bF h8)] []))) λh6=>gE [(33,bF h6),(40,bF rfl)] []))) λh4=>gE [(26,bF h4),(33,bF rfl),(40,bF rfl)] [])) λh3=>gE [(19,bF h3),(26,bF rfl),(33,bF rfl),(40,bF rfl)] [])) λh2=>gE [(12,bF h2),(19,bF rfl),(26,bF rfl),(33,bF rfl),(40,bF rfl)] [])) λh1=>gE [(5,bF h1),(12,bF rfl),(19,bF rfl),(26,bF rfl),(33,bF rfl),(40,bF rfl)] []) λv6=>gR []))
  intro v1 v2;rw[CO];exact fw Tryz.func113 (gA [[],[(4,oL v1 j0),(10,oL v2 j0)]] (gJ λ_=>gT pD 0 v1 λh3=>fu 1 [] [0,1,5] 0 (λv3=>⟨27,[(0,(.d (.sl (dU v1)))),(1,(.d (.sl (dU v2)))),(5,(aq (v3:Int)))],[]⟩) (λv3 h4 f1=>gR [[(7,oL v1 j0)],[(0,bF (bK h4))],[]]) (λv3 v5 v6 h4 f1 aR=>au λv7 h5=>au λv8 h7=>gA [[(7,oL v1 j0)],[(0,bT (bI h4))],[(7,oE (ma (bt h4))),(19,oE (ma h5)),(25,cK ad0 h7)]] (mm λh8=>gb aR () [[(0,bF (dw h8))],[(5,oq (b5 h4 rfl h3))]] h4))))
theorem agE{N v1 v2}:KO 66 [(aW v1),(aW v2)] aZ (QT N v1 v2):=(ame N N).1
def IF(N:Nat)(v1:aX)(v2:aX):apJ Bool:=
 Option.bind (bif (bL v1.ao==bL v2.ao)then(bif ((v1.aM.bS==v2.aM.bS)&&((v1.aM.cb==v2.aM.cb)&&((v1.aM.ca==v2.aM.ca)&&((v1.aM.cJ==v2.aM.cJ)&&((v1.aM.cH==v2.aM.cH)&&true)))))then(bif (v1.cr==v2.cr)then (EO N v1.aO v2.aO).bind λv3=>
 (bif v3 then (EO N v1.aU v2.aU).bind λv4=>
 (bif v4 then (QT N v1.bR v2.bR).bind λv5=>
 some v5 else some false)else some false)else some false)else some false)else some false) λv6=>
 some v6
theorem alf{N v1 v2}:KO 29 [(fm v1),(fm v2)] aZ (IF N v1 v2):=
 fw Tryz.func29 (gA [[]] (gG (λv6=>[(4,(aZ v6))]) (λ_=>[.cells (fm v1).cells, .cells (fm v2).cells]) (aC (λh1=>dn (5,bT h1) (aC (λh2=>dn (12,bT h2) (aC (λh3=>au λv3 h4=>dn (19,bT h3) (c8 (73,cK abj h4) (aC (λh5=>au λv4 h6=>dn (26,bT h5) (c8 (94,cK abj h6) (aC (λh7=>au λv5 h8=>gE [(33,bT h7)] [(115,cK agE h8)]) λh7=>gE [(33,bF h7)] []))) λh5=>gE [(26,bF h5),(33,bF rfl)] []))) λh3=>gE [(19,bF h3),(26,bF rfl),(33,bF rfl)] [])) λh2=>gE [(12,bF h2),(19,bF rfl),(26,bF rfl),(33,bF rfl)] [])) λh1=>gE [(5,bF h1),(12,bF rfl),(19,bF rfl),(26,bF rfl),(33,bF rfl)] []) λv6=>gR []))
def Jf(N:Nat)(v2:aG):apH aX->Nat->apJ Bool
 |[],_=>
  some true
 |ba::bX,v11=>
  Option.bind (v2.aw[((v11:Int)).toNat]?) λbC=>
  (IF N ba bC).bind λct=>
  bif ct then
   (Jf N v2 bX (v11+1))
  else
   some false
def Kg(N:Nat)(v2:aG)(v1:aG):apH cf->Nat->apJ Bool
 |[],_=>
  Jf N v2 v1.aw 0
 |v9::v10,v7=>
  Option.bind (v2.aE[((v7:Int)).toNat]?) λv17=>
  Option.bind (bif (bL v9.ao==bL v17.ao)then(bif ((v9.aM.bS==v17.aM.bS)&&((v9.aM.cb==v17.aM.cb)&&((v9.aM.ca==v17.aM.ca)&&((v9.aM.cJ==v17.aM.cJ)&&((v9.aM.cH==v17.aM.cH)&&true)))))then (F1 N v9.aO v17.aO).bind λcB=>
  some (!cB)else some true)else some true) λdA=>
  bif dA then
   some false
  else
   (Kg N v2 v1 v10 (v7+1))
def tc(N:Nat)(v1:aG)(v2:aG):apJ Bool:=
 (Gz N v1.az v2.az).bind λv3=>
 Option.bind (bif v3 then (Mi N v1.cd v2.cd).bind λv4=>
 (bif v4 then (Gz N v1.bW v2.bW).bind λv5=>
 (bif v5 then(bif ((v1.aE.length:Int) !=(v2.aE.length:Int))then some true else some ((v1.aw.length:Int) !=(v2.aw.length:Int)))else some true)else some true)else some true) λv6=>
 bif v6 then
  some false
 else
  Kg N v2 v1 v1.aE 0
def JI(v1:aG)(v2:aG)(l:apH an):apH an:= .cells (eB v1).cells:: .cells (eB v2).cells::l
theorem RF{N v1 v2}:KO 10 [(eB v1),(eB v2)] aZ (tc N v1 v2):=
 fw Tryz.func10 (gA [[]] (au λv3 h1=>gG (λv6=>[(46,(aZ v6))]) (λ_=>(JI v1 v2 [])) (c8 (13,cK abo h1) (aC (λh2=>au λv4 h3=>dn (6,bF (dw h2)) (c8 (34,cK acN h3) (aC (λh4=>au λv5 h5=>dn (14,bF (dw h4)) (c8 (58,cK abo h5) (aC (λh6=>dn (22,bF (dw h6)) (c8 (76,oL v1.aE ky) (c8 (85,oL v2.aE ky) (aC (λh7=>gE [(31,bT h7)] []) λh7=>gE [(31,bF h7)] [(103,oL v1.aw kp),(112,oL v2.aw kp)])))) λh6=>gE [(22,bT (eC h6)),(31,bT rfl)] []))) λh4=>gE [(14,bT (eC h4)),(22,bT rfl),(31,bT rfl)] []))) λh2=>gE [(6,bT (eC h2)),(14,bT rfl),(22,bT rfl),(31,bT rfl)] [])) λv6=>gJ λ_=>gB pV 0 2 v1.aE λbY=>fu 1 [] [2,3,5] 2 (λv7=>⟨117,[(2,(.ptr 0 0)),(3,(.ptr 1 0)),(5,(aq (v7:Int)))],(JI v1 v2 [])⟩) (λv7 bU f1=>gA [[(10,oL v1.aE ky)],[f0 (bK bU)],[]] (gB qa 0 3 v1.aw λdt=>fu 2 [] [2,3,6] 2 (λv11=>⟨117,[(2,(.ptr 0 0)),(3,(.ptr 1 0)),(6,(aq (v11:Int)))],(JI v1 v2 [])⟩) (λv11 cN f2=>gR [[(10,oL v1.aw kp)],[f0 (bK cN)],[]]) (λv11 ba bX cN f2 cM=>au λbC b9=>au λct eM=>gA [[(10,oL v1.aw kp)],[t0 (bI cN)],[(10,oE (oY (bt cN))),(25,oE (oY b9)),(31,cK alf eM)]] (mm λfE=>gb cM () [[f0 (dw fE)],[(5,oq (b5 cN rfl dt))]] cN)))) (λv7 v9 v10 bU f1 aR=>gA [[(10,oL v1.aE ky)],[t0 (bI bU)]] (au λv17 dx=>gG (λdA=>[(97,(aZ dA))]) (λ_=>(JI v1 v2 [])) (c8 (10,oE (mC (bt bU))) (c8 (28,oE (mC dx)) (aC (λgY=>dn (13,bF (dw gY)) (c8 (52,oE (mC (bt bU))) (c8 (70,oE (mC dx)) (aC (λfP=>au λcB fz=>gE [(28,bF (dw fP))] [(97,oE (mC (bt bU))),(115,oE (mC dx)),(124,cK abD fz)]) λfP=>gE [(28,bT (eC fP))] [])))) λgY=>gE [(13,bT (eC gY)),(28,bT rfl)] []))) λdA=>cF λgg=>gb aR () [[f0 gg],[(5,oq (b5 bU rfl bY))]] bU))))
def Sp(N:Nat)(v1:apI):Nat->Int->Int->apJ Int
 |0,_,_=>none
 |v2+1,v3,v4=>
  bif (decide (v4<(v1.size:Int)))then
   bif (decide ((0:Int)<=v4))then
   Option.bind (v1[(v4).toNat]?) λv5=>
   (λbm eY=>Sp N v1 v2 bm eY) (IntKind.u64.wrap ((IntKind.u64.wrap ((BitVec.ofInt (IntKind.bits .u64) v3^^^BitVec.ofInt (IntKind.bits .u64) (IntKind.u64.wrap (v5.toNat:Int))).toNat:Int))*(1099511628211:Int))) (bh (v4+(1:Int)))
   else none
  else
   some v3
def N5(N:Nat)(v1:apI):apJ Int:=
 Sp N v1 N (14695981039346656037:Int) (0:Int)
theorem aar{N v1}:KO 20 [(aL v1)] (λr=> .d (.v (.int .u64 r))) (N5 N v1):=
 fw Tryz.func20 (yO 1 [[],[],[]] [0,3,6,7] 0 (λ(v3:Int)(v4:Int)=>⟨19,[(0,(aL v1)),(3,(.d (.v (.int .u64 v3)))),(6,(aq (v1.size:Int))),(7,(aq v4))],[]⟩) (Sp N v1) (λv2 v3 v4 f1 aR=>gA [[]] (rH λh1=>bl λh3=>au λv5 h2=>qO aR ((IntKind.u64.wrap ((IntKind.u64.wrap ((BitVec.ofInt (IntKind.bits .u64) v3^^^BitVec.ofInt (IntKind.bits .u64) (IntKind.u64.wrap (v5.toNat:Int))).toNat:Int))*(1099511628211:Int))),(bh (v4+(1:Int)))) [[t0 h1],[],[(10,⟨_,_, .ch (i:=v4) (of_decide_eq_true h3) h2⟩)],[]])))
def tu(N:Nat):apJ Bool:=
 Option.bind (PT N (bs [110]) (bs [97]) (bs [115]) (bs [107])) λv1=>
 (pE N v1).bind λv2=>
 Option.bind (bif (v2.2==0)then Option.bind (PT N (bs [115,48]) (bs [112,48]) (bs [100,48]) (bs [105,48])) λv3=>
 (tc N v2.1 v3).bind λv4=>
 (bif v4 then Option.bind (N5 N (bs [])) λv5=>
 (bif (v5==14695981039346656037)then Option.bind (N5 N (bs [97])) λv6=>
 some (v6==12638187200555641996)else some false)else some false)else some false) λv7=>
 some v7
theorem KA{N}:KO 7 [] aZ (tu N):=
 fw Tryz.func7 (au λv1 h1=>au λv2 h2=>gA [[],[(1,cK aag h1),(4,cK Da h2)]] (gG (λv7=>[(0,(aZ v7))]) (λ_=>[.cells (eB v2.1).cells]) (aC (λh3=>au λv3 h4=>au λv4 h5=>dn (2,bT h3) (c8 (13,cK aag h4) (c8 (16,cK RF h5) (aC (λh6=>au λv5 h7=>dn (7,bT h6) (c8 (25,cK aar h7) (aC (λh8=>au λv6 h9=>gE [(11,bT h8)] [(37,cK aar h9)]) λh8=>gE [(11,bF h8)] []))) λh6=>gE [(7,bF h6),(11,bF rfl)] [])))) λh3=>gE [(2,bF h3),(7,bF rfl),(11,bF rfl)] []) λv7=>gR []))
def Hv(N:Nat):apH apI->Nat->apJ Bool
 |[],_=>
  some true
 |v4::v5,v2=>
  (pj N v4).bind λv6=>
  bif v6 then
   (Hv N v5 (v2+1))
  else
   some false
def Rq(N:Nat)(v1:apH apI):apJ Bool:=
 Hv N v1 0
theorem X3{N v1}:KO 67 [(.d (.sl (cw v1)))] aZ (Rq N v1):=
 fw Tryz.func67 (gA [[],[(4,oL v1 fK)]] (gT gi 0 v1 λh2=>fu 1 [] [5,6,7] 0 (λv2=>⟨15,[(5,(.d (.sl (cw v1)))),(6,(aq (v1.length:Int))),(7,(aq (v2:Int)))],[]⟩) (λv2 h3 f1=>gR [[],[f0 (bK h3)],[]]) (λv2 v4 v5 h3 f1 aR=>au λv6 h4=>gA [[],[t0 (bI h3)],[(1,oE (jR (bt h3)))],[(4,cK tO h4)]] (mm λh5=>gb aR () [[f0 (dw h5)],[(2,oq (b5 h3 rfl h2))]] h3))))
def JR(N:Nat)(v1:apH apI)(v2:Int):apJ apI:=
 bif (decide ((0:Int)<=v2))then
 Option.bind (v1[(v2).toNat]?) λv3=>
 some v3
 else none
theorem aeV{N v1 v2}:KO 114 [(.d (.sl (cw v1))),(aq v2)] aL (JR N v1 v2):=
 fw Tryz.func114 (bl λh2=>au λv3 h1=>gR [[],[(7,⟨_,_, .el (xs:=cw v1) (i:=v2) (of_decide_eq_true h2) (jR h1)⟩)]])
def fg(N:Nat)(v1:apI)(v2:apI):apJ apI:=Ai v2 v1
theorem gQ{N v1 v2}:KP 70 [(.ptr 0 0),(aL v1)] [.aT 136 (bw 1 v2), .bg 5 v2] (λ_=> .bA [.dead, .dead]) (λr=>[.aT 136 (bw 1 r), .bg 5 r]) (fg N v1 v2):=Ye (by kernel_rfl)
def yK(N:Nat)(v1:apI):apJ apI:=some v1
theorem A4{N v1}:KP 79 [(.ptr 0 0)] [.aT 136 (bw 1 v1), .bg 5 v1] aL (λ_=>[.gone, .gone]) (yK N v1):=aby
def OY(N:Nat)(v2:apH apI)(v4:Int)(fk:Int->apI->apJ apI)(v6:apI):apJ apI:=
 (JR N v2 v4).bind λv7=>
 (fg N v7 v6).bind λv8=>
 fk (bh (v4+(1:Int))) v8
def zF(N:Nat)(v1:Int)(v2:apH apI):Nat->Int->apI->apJ apI
 |0,_,_=>none
 |v3+1,v4,v5=>
  bif (decide (v4<v1))then
   bif (decide (v4>0))then
    Option.bind (fg N (bs [44,32]) v5) λv9=>
    OY N v2 v4 (λbm eY=>zF N v1 v2 v3 bm eY) v9
   else
    OY N v2 v4 (λbm eY=>zF N v1 v2 v3 bm eY) v5
  else
   (yK N v5).bind λv10=>
   some v10
def QU(N:Nat)(v1:Int)(v2:apH apI):apJ apI:=
 zF N v1 v2 N (0:Int) (bs [])
theorem alx{N v1 v2}:KP 76 [(aq v1),(.hid (.dS 114 [.d (.sl (cw v2))]))] [] aL (λ_=>[]) (QU N v1 v2):=
 fh 0 Tryz.func76 (gA [[]] (li (λ_=>(yS 136 0 5 (by kernel_rfl) ·)) (yO 1 [[]] [1,5,7,8] 2 (λ(v4:Int)(v5:apI)=>⟨20,[(1,(.hid (.dS 114 [.d (.sl (cw v2))]))),(5,(.ptr 0 0)),(7,(aq v1)),(8,(aq v4))],[.aT 136 (bw 1 v5), .bg 5 v5]⟩) (zF N v1 v2) (λv3 v4 v5 f1 aR=>gA [[]] (aC (λh1=>gv 2 [[t0 h1],[],[]] [1,5,6,7,8] 2 (λ(v6:apI)=>⟨20,[(1,(.hid (.dS 114 [.d (.sl (cw v2))]))),(5,(.ptr 0 0)),(6,(aq v4)),(7,(aq v1)),(8,(aq v4))],[.aT 136 (bw 1 v6), .bg 5 v6]⟩) (OY N v2 v4 (λbm eY=>zF N v1 v2 v3 bm eY)) (λf2 cM=>aC (λh4=>au λv9 h5=>gm cM v9 [[t0 h4],[(1,oR [(.ptr 0 0),(aL (bs [44,32]))] [.aT 136 (bw 1 v5), .bg 5 v5] [0,1] (gQ _ h5))]]) λh4=>gm cM v5 [[f0 h4]]) (λv6=>au λv7 h2=>au λv8 h3=>qO aR ((bh (v4+(1:Int))),v8) [[(7,⟨_,_, .sC (c:= .dS 114 [.d (.sl (cw v2))]) (args:=[(aq v4)]) ⟨_,_,rfl,(aeV _ h2)⟩⟩),(10,oR [(.ptr 0 0),(aL v7)] [.aT 136 (bw 1 v6), .bg 5 v6] [0,1] (gQ _ h3))],[]])) λh1=>au λv10 h6=>gH [[f0 h1],[(1,oR [(.ptr 0 0)] [.aT 136 (bw 1 v5), .bg 5 v5] [0,1] (A4 _ h6))]])))))
def DI(N:Nat)(v1:apI)(v2:apH apI)(v3:apI):apJ apI:=
 bif (decide ((v2.length:Int)>0))then
  bif (Nat.ble (v1.size+(bs [32]).size) 9223372036854775807)then
  Option.bind (QU N (v2.length:Int) v2) λv4=>
  bif (Nat.ble ((v1++(bs [32])).size+v4.size) 9223372036854775807)then
  bif (Nat.ble (((v1++(bs [32]))++v4).size+(bs [59,10]).size) 9223372036854775807)then
  Option.bind (fg N (((v1++(bs [32]))++v4)++(bs [59,10])) v3) λv5=>
  some v5
  else none
  else none
  else none
 else
  some v3
theorem aaw{N v1 v2 v3}:KP 68 [(.ptr 0 0),(aL v1),(.d (.sl (cw v2)))] [.aT 136 (bw 1 v3), .bg 5 v3] (λ_=> .bA []) (λr=>[.aT 136 (bw 1 r), .bg 5 r]) (DI N v1 v2 v3):=
 fh 2 Tryz.func68 (gA [[(4,oL v2 fK)]] (aC (λh1=>bl λh2=>au λv4 h3=>bl λh4=>bl λh5=>au λv5 h6=>gH [[t0 h1],[(7,⟨_,_, .cat (n:=v1.size+(bs [32]).size) (cC h2)⟩),(13,oL v2 fK),(22,oQ [(aq (v2.length:Int)),(.hid (.dS 114 [.d (.sl (cw v2))]))] [.aT 136 (bw 1 v3), .bg 5 v3] [] (alx _ h3)),(25,⟨_,_, .cat (n:=(v1++(bs [32])).size+v4.size) (cC h4)⟩),(28,⟨_,_, .cat (n:=((v1++(bs [32]))++v4).size+(bs [59,10]).size) (cC h5)⟩),(31,oR [(.ptr 0 0),(aL (((v1++(bs [32]))++v4)++(bs [59,10])))] [.aT 136 (bw 1 v3), .bg 5 v3] [0,1] (gQ _ h6))]]) λh1=>gH [[f0 h1]]))
def Fu(N:Nat)(v1:apI):apJ Int:=some (v1.size:Int)
theorem MU{N v1}:KP 161 [(.ptr 0 0)] [.aT 136 (bw 1 v1), .bg 5 v1] aq (λ_=>[.aT 136 (bw 1 v1), .bg 5 v1]) (Fu N v1):=aiH
def yv(N:Nat)(v1:Int64):apJ Int:=
 bif (decide (v1.toInt<0))then
  some (IntKind.u64.wrap (0-(IntKind.u64.wrap v1.toInt)))
 else
  some (IntKind.u64.wrap v1.toInt)
theorem J9{N v1}:KO 162 [(de v1)] (λr=> .d (.v (.int .u64 r))) (yv N v1):=
 fw Tryz.func162 (gA [[],[]] (cF λh1=>gR [[f0 h1],[]]))
def Nt(N:Nat)(v1:Int)(v2:Int):apJ apI:=IN v1 v2
theorem agd{N v1 v2}:KO 194 [(.d (.v (.int .u64 v1))),(aq v2)] aL (Nt N v1 v2):=anU
def uF(N:Nat)(v1:Int)(v2:Int):apJ apI:=
 (Nt N v1 v2).bind λv3=>
 some v3
theorem HA{N v1 v2}:KO 163 [(.d (.v (.int .u64 v1))),(aq v2)] aL (uF N v1 v2):=
 fw Tryz.func163 (au λv3 h1=>gR [[],[(7,cK agd h1)]])
def Ey(N:Nat)(v2:apI)(v9:apI):apJ apI:=
 (fg N v2 v9).bind λv10=>
 some v10
def Ck(N:Nat)(v2:apI)(dA:apI):apJ apI:=
 (fg N v2 dA).bind λv20=>
 some v20
def Gn(N:Nat)(v2:apI)(v28:apI):apJ apI:=
 (fg N v2 v28).bind λiB=>
 some iB
def El(N:Nat)(v2:apI)(v35:apI):apJ apI:=
 (fg N v2 v35).bind λmi=>
 some mi
def Et(N:Nat)(v1:Int64)(v2:apI)(v3:apI):apJ apI:=
 (Fu N v3).bind λv4=>
 Option.bind (bif (v4==0)then some (decide (v1.toInt<0))else some false) λv5=>
 bif v5 then
  Option.bind (fg N (bs [45]) v3) λv6=>
  (yv N v1).bind λv7=>
  Option.bind (bif (bL v2==bL (bs []))then some true else some (v7 !=1)) λv8=>
  bif v8 then
   Option.bind (uF N v7 (10:Int)) λv11=>
   (fg N v11 v6).bind λv12=>
   bif (bL v2==bL (bs []))then
    Ey N v2 v12
   else
    Option.bind (fg N (bs [42]) v12) λba=>
    Ey N v2 ba
  else
   Ey N v2 v6
 else
  (Fu N v3).bind λbX=>
  Option.bind (bif (decide (bX>0))then some (decide (v1.toInt<0))else some false) λbC=>
  bif bC then
   Option.bind (fg N (bs [32,45,32]) v3) λct=>
   (yv N v1).bind λv17=>
   Option.bind (bif (bL v2==bL (bs []))then some true else some (v17 !=1)) λcB=>
   bif cB then
    Option.bind (uF N v17 (10:Int)) λv21=>
    (fg N v21 ct).bind λv22=>
    bif (bL v2==bL (bs []))then
     Ck N v2 v22
    else
     Option.bind (fg N (bs [42]) v22) λv23=>
     Ck N v2 v23
   else
    Ck N v2 ct
  else
   (Fu N v3).bind λv24=>
   bif (decide (v24>0))then
    Option.bind (fg N (bs [32,43,32]) v3) λv25=>
    (yv N v1).bind λv26=>
    Option.bind (bif (bL v2==bL (bs []))then some true else some (v26 !=1)) λcW=>
    bif cW then
     Option.bind (uF N v26 (10:Int)) λv30=>
     (fg N v30 v25).bind λv31=>
     bif (bL v2==bL (bs []))then
      Gn N v2 v31
     else
      Option.bind (fg N (bs [42]) v31) λv32=>
      Gn N v2 v32
    else
     Gn N v2 v25
   else
    (yv N v1).bind λv33=>
    Option.bind (bif (bL v2==bL (bs []))then some true else some (v33 !=1)) λnH=>
    bif nH then
     Option.bind (uF N v33 (10:Int)) λv37=>
     (fg N v37 v3).bind λkT=>
     bif (bL v2==bL (bs []))then
      El N v2 kT
     else
      Option.bind (fg N (bs [42]) kT) λv39=>
      El N v2 v39
    else
     El N v2 v3
theorem Vd{N v1 v2 v3}:KP 160 [(de v1),(aL v2),(.ptr 0 0)] [.aT 136 (bw 1 v3), .bg 5 v3] (λ_=> .bA []) (λr=>[.aT 136 (bw 1 r), .bg 5 r]) (Et N v1 v2 v3):=
 fh 2 Tryz.func160 (au λv4 h1=>gG (λv5=>[(6,(aZ v5))]) (λ_=>[.aT 136 (bw 1 v3), .bg 5 v3]) (c8 (1,oQ [(.ptr 0 0)] [.aT 136 (bw 1 v3), .bg 5 v3] [0,1] (MU _ h1)) (aC (λh2=>gE [(2,bT h2)] []) λh2=>gE [(2,bF h2)] [])) λv5=>aC (λh4=>au λv6 h5=>au λv7 h6=>gA [[t0 h4],[(1,oR [(.ptr 0 0),(aL (bs [45]))] [.aT 136 (bw 1 v3), .bg 5 v3] [0,1] (gQ _ h5))],[(4,cK J9 h6)]] (gG (λv8=>[(33,(aZ v8))]) (λ_=>[.aT 136 (bw 1 v6), .bg 5 v6]) (aC (λh7=>gE [(2,bT h7)] []) λh7=>gE [(2,bF h7)] []) λv8=>gv 1 [] [1,2] 2 (λ(v9:apI)=>⟨42,[(1,(aL v2)),(2,(.ptr 0 0))],[.aT 136 (bw 1 v9), .bg 5 v9]⟩) (Ey N v2) (λf1 aR=>aC (λbM=>au λv11 bY=>au λv12 bU=>gA [[t0 bM],[(4,cK HA bY),(7,oR [(.ptr 0 0),(aL v11)] [.aT 136 (bw 1 v6), .bg 5 v6] [0,1] (gQ _ bU))],[]] (aC (λdp=>gm aR v12 [[f0 (dw dp)]]) λdp=>au λba dt=>gm aR ba [[t0 (eC dp)],[(1,oR [(.ptr 0 0),(aL (bs [42]))] [.aT 136 (bw 1 v12), .bg 5 v12] [0,1] (gQ _ dt))]])) λbM=>gm aR v6 [[f0 bM]]) (λv9=>au λv10 h9=>gH [[(4,oR [(.ptr 0 0),(aL v2)] [.aT 136 (bw 1 v9), .bg 5 v9] [0,1] (gQ _ h9))]]))) λh4=>gA [[f0 h4]] (au λbX cN=>gG (λbC=>[(14,(aZ bC))]) (λ_=>[.aT 136 (bw 1 v3), .bg 5 v3]) (c8 (1,oQ [(.ptr 0 0)] [.aT 136 (bw 1 v3), .bg 5 v3] [0,1] (MU _ cN)) (aC (λb9=>gE [(2,bT b9)] []) λb9=>gE [(2,bF b9)] [])) λbC=>aC (λeM=>au λct fE=>au λv17 dx=>gA [[t0 eM],[(1,oR [(.ptr 0 0),(aL (bs [32,45,32]))] [.aT 136 (bw 1 v3), .bg 5 v3] [0,1] (gQ _ fE))],[(4,cK J9 dx)]] (gG (λcB=>[(33,(aZ cB))]) (λ_=>[.aT 136 (bw 1 ct), .bg 5 ct]) (aC (λfB=>gE [(2,bT fB)] []) λfB=>gE [(2,bF fB)] []) λcB=>gv 2 [] [1,2] 2 (λ(dA:apI)=>⟨42,[(1,(aL v2)),(2,(.ptr 0 0))],[.aT 136 (bw 1 dA), .bg 5 dA]⟩) (Ck N v2) (λf2 cM=>aC (λfz=>au λv21 ir=>au λv22 gg=>gA [[t0 fz],[(4,cK HA ir),(7,oR [(.ptr 0 0),(aL v21)] [.aT 136 (bw 1 ct), .bg 5 ct] [0,1] (gQ _ gg))],[]] (aC (λik=>gm cM v22 [[f0 (dw ik)]]) λik=>au λv23 fM=>gm cM v23 [[t0 (eC ik)],[(1,oR [(.ptr 0 0),(aL (bs [42]))] [.aT 136 (bw 1 v22), .bg 5 v22] [0,1] (gQ _ fM))]])) λfz=>gm cM ct [[f0 fz]]) (λdA=>au λv20 fP=>gH [[(4,oR [(.ptr 0 0),(aL v2)] [.aT 136 (bw 1 dA), .bg 5 dA] [0,1] (gQ _ fP))]]))) λeM=>au λv24 jt=>gA [[f0 eM],[(1,oQ [(.ptr 0 0)] [.aT 136 (bw 1 v3), .bg 5 v3] [0,1] (MU _ jt))]] (aC (λiv=>au λv25 lD=>au λv26 kr=>gA [[t0 iv],[(1,oR [(.ptr 0 0),(aL (bs [32,43,32]))] [.aT 136 (bw 1 v3), .bg 5 v3] [0,1] (gQ _ lD))],[(4,cK J9 kr)]] (gG (λcW=>[(33,(aZ cW))]) (λ_=>[.aT 136 (bw 1 v25), .bg 5 v25]) (aC (λk9=>gE [(2,bT k9)] []) λk9=>gE [(2,bF k9)] []) λcW=>gv 3 [] [1,2] 2 (λ(v28:apI)=>⟨42,[(1,(aL v2)),(2,(.ptr 0 0))],[.aT 136 (bw 1 v28), .bg 5 v28]⟩) (Gn N v2) (λf3 ie=>aC (λlf=>au λv30 qn=>au λv31 sD=>gA [[t0 lf],[(4,cK HA qn),(7,oR [(.ptr 0 0),(aL v30)] [.aT 136 (bw 1 v25), .bg 5 v25] [0,1] (gQ _ sD))],[]] (aC (λqz=>gm ie v31 [[f0 (dw qz)]]) λqz=>au λv32 rK=>gm ie v32 [[t0 (eC qz)],[(1,oR [(.ptr 0 0),(aL (bs [42]))] [.aT 136 (bw 1 v31), .bg 5 v31] [0,1] (gQ _ rK))]])) λlf=>gm ie v25 [[f0 lf]]) (λv28=>au λiB nP=>gH [[(4,oR [(.ptr 0 0),(aL v2)] [.aT 136 (bw 1 v28), .bg 5 v28] [0,1] (gQ _ nP))]]))) λiv=>au λv33 we=>gA [[f0 iv],[(4,cK J9 we)]] (gG (λnH=>[(33,(aZ nH))]) (λ_=>[.aT 136 (bw 1 v3), .bg 5 v3]) (aC (λtI=>gE [(2,bT tI)] []) λtI=>gE [(2,bF tI)] []) λnH=>gv 4 [] [1,2] 2 (λ(v35:apI)=>⟨42,[(1,(aL v2)),(2,(.ptr 0 0))],[.aT 136 (bw 1 v35), .bg 5 v35]⟩) (El N v2) (λf4 jY=>aC (λPH=>au λv37 h46=>au λkT h47=>gA [[t0 PH],[(4,cK HA h46),(7,oR [(.ptr 0 0),(aL v37)] [.aT 136 (bw 1 v3), .bg 5 v3] [0,1] (gQ _ h47))],[]] (aC (λOi=>gm jY kT [[f0 (dw Oi)]]) λOi=>au λv39 h49=>gm jY v39 [[t0 (eC Oi)],[(1,oR [(.ptr 0 0),(aL (bs [42]))] [.aT 136 (bw 1 kT), .bg 5 kT] [0,1] (gQ _ h49))]])) λPH=>gm jY v3 [[f0 PH]]) (λv35=>au λmi M8=>gH [[(4,oR [(.ptr 0 0),(aL v2)] [.aT 136 (bw 1 v35), .bg 5 v35] [0,1] (gQ _ M8))]])))))
def OA(N:Nat)(v9:apI):apJ apI:=
 (yK N v9).bind λv10=>
 some v10
def DS(N:Nat)(v1:aN):apH bf->Nat->apI->apJ apI
 |[],_,v7=>
  Option.bind (bif (v1.xK.toInt !=0)then some true else some ((v1.xL.length:Int)==0)) λv8=>
  bif v8 then
   Option.bind (Et N v1.xK (bs []) v7) λv11=>
   OA N v11
  else
   OA N v7
 |v5::v6,v3,v7=>
  (Et N v5.ck v5.ao v7).bind λv12=>
  (λbm=>DS N v1 v6 (v3+1) bm) v12
def sH(N:Nat)(v1:aN):apJ apI:=
 (rR N v1).bind λv2=>
 bif (v2 !=0)then
  some (bs [])
 else
  DS N v1 v1.xL 0 (bs [])
def Ad(v1:aN)(v7:apI)(l:apH an):apH an:= .cells (cP v1).cells:: .aT 136 (bw 2 v7):: .bg 5 v7::l
theorem Be{N v1}:KO 117 [(cP v1)] aL (sH N v1):=
 fw Tryz.func117 (au λv2 h1=>gA [[],[(4,cK w7 h1)]] (cF λh2=>gA [[f0 h2]] (li (λ_=>(yS 136 0 5 (by kernel_rfl) ·)) (gA [[],[(7,oL v1.xL fG)]] (gT nU 12 v1.xL λh4=>gn 1 [] [1,3,4,12,13,14] 3 (λv3(v7:apI)=>⟨39,[(1,(.ptr 0 0)),(3,(.ptr 1 0)),(4,(.fn 160 [(.ptr 1 0)])),(12,(.d (.sl (c9 v1.xL)))),(13,(aq (v1.xL.length:Int))),(14,(aq (v3:Int)))],(Ad v1 v7 [])⟩) (λv3 v7 h5 f1=>gA [[],[f0 (bK h5)]] (gG (λv8=>[(33,(aZ v8))]) (λ_=>(Ad v1 v7 [])) (aC (λh6=>gE [(3,bT h6)] []) λh6=>gE [(3,bF h6)] [(19,oL v1.xL fG)]) λv8=>gv 2 [] [3] 3 (λ(v9:apI)=>⟨39,[(3,(.ptr 1 0))],(Ad v1 v9 [])⟩) (OA N) (λf2 cM=>aC (λh9=>au λv11 bM=>gm cM v11 [[t0 h9],[(10,oR [(de v1.xK),(aL (bs [])),(.ptr 1 0)] (Ad v1 v7 []) [1,2] (Vd _ bM))]]) λh9=>gm cM v7 [[f0 h9]]) (λv9=>au λv10 h8=>gR [[(1,oR [(.ptr 1 0)] (Ad v1 v9 []) [1,2] (A4 _ h8))]]))) (λv3 v5 v6 v7 h5 f1 aR=>au λv12 bY=>gb aR v12 [[],[t0 (bI h5)],[(1,oE (o0 (bt h5)))],[(16,oR [(de v5.ck),(aL v5.ao),(.ptr 1 0)] (Ad v1 v7 [.cells (xW v5).cells]) [1,2] (Vd _ bY))],[(2,oq (b5 h5 rfl h4))]] h5))))))
def K3(N:Nat)(v1:cz):apJ apI:=
 (tM N v1).bind λv2=>
 bif (v2 !=0)then
  some (bs [])
 else
  bif v1.hY then
   (sH N v1.aQ).bind λv3=>
   bif (Nat.ble ((bs [48,32,61,61,32]).size+v3.size) 9223372036854775807)then
   some ((bs [48,32,61,61,32])++v3)
   else none
  else
   (sH N v1.aQ).bind λv4=>
   bif (Nat.ble ((bs [48,32,60,61,32]).size+v4.size) 9223372036854775807)then
   some ((bs [48,32,60,61,32])++v4)
   else none
theorem amC{N v1}:KO 71 [(pf v1)] aL (K3 N v1):=
 fw Tryz.func71 (au λv2 h1=>gA [[],[(4,cK Qo h1)]] (gJ λ_=>aC (λh3=>au λv3 h4=>bl λh5=>gR [[t0 h3],[(7,cK Be h4),(10,⟨_,_, .cat (n:=(bs [48,32,61,61,32]).size+v3.size) (cC h5)⟩)]]) λh3=>au λv4 h6=>bl λh7=>gR [[f0 h3],[(7,cK Be h6),(10,⟨_,_, .cat (n:=(bs [48,32,60,61,32]).size+v4.size) (cC h7)⟩)]]))
def Hp(N:Nat):apH aN->Nat->apJ Bool
 |[],_=>
  some true
 |v4::v5,v2=>
  (rR N v4).bind λv6=>
  bif (v6 !=0)then
   some false
  else
   (Hp N v5 (v2+1))
def I1(N:Nat)(v1:apH aN):apJ Bool:=
 Hp N v1 0
theorem Ui{N v1}:KO 74 [(.d (.sl (dE v1)))] aZ (I1 N v1):=
 fw Tryz.func74 (gA [[],[(4,oL v1 gj)]] (gT pv 0 v1 λh2=>fu 1 [] [5,6,7] 0 (λv2=>⟨15,[(5,(.d (.sl (dE v1)))),(6,(aq (v1.length:Int))),(7,(aq (v2:Int)))],[]⟩) (λv2 h3 f1=>gR [[],[f0 (bK h3)],[]]) (λv2 v4 v5 h3 f1 aR=>au λv6 h4=>gA [[],[t0 (bI h3)],[(1,oE (oJ (bt h3)))],[(4,cK w7 h4)]] (cF λh5=>gb aR () [[f0 h5],[(2,oq (b5 h3 rfl h2))]] h3))))
def IZ(N:Nat)(v1:Int):apJ apI:=
 bif (v1==1)then
  some (bs [102,108,111,111,114])
 else
  bif (v1==2)then
   some (bs [99,101,105,108])
  else
   bif (v1==3)then
    some (bs [122,101,114,111])
   else
    some (bs [101,118,101,110])
theorem ahS{N v1}:KO 124 [(aq v1)] aL (IZ N v1):=
 fw Tryz.func124 (gA [[],[],[]] (gJ λ_=>gJ λ_=>cF λh3=>gR [[f0 h3],[]]))
def Cq(N:Nat)(v1:bq)(v3:apI):apJ apI:=
 (y0 N v1.cb).bind λv4=>
 bif (Nat.ble ((bs [102,105,120,40]).size+v4.size) 9223372036854775807)then
 bif (Nat.ble (((bs [102,105,120,40])++v4).size+(bs [44,32]).size) 9223372036854775807)then
 (y0 N v1.ca).bind λv5=>
 bif (Nat.ble ((((bs [102,105,120,40])++v4)++(bs [44,32])).size+v5.size) 9223372036854775807)then
 bif (Nat.ble (((((bs [102,105,120,40])++v4)++(bs [44,32]))++v5).size+(bs [44,32]).size) 9223372036854775807)then
 (IZ N v1.cJ).bind λv6=>
 bif (Nat.ble ((((((bs [102,105,120,40])++v4)++(bs [44,32]))++v5)++(bs [44,32])).size+v6.size) 9223372036854775807)then
 bif (Nat.ble (((((((bs [102,105,120,40])++v4)++(bs [44,32]))++v5)++(bs [44,32]))++v6).size+(bs [44,32]).size) 9223372036854775807)then
 bif (Nat.ble ((((((((bs [102,105,120,40])++v4)++(bs [44,32]))++v5)++(bs [44,32]))++v6)++(bs [44,32])).size+v3.size) 9223372036854775807)then
 bif (Nat.ble (((((((((bs [102,105,120,40])++v4)++(bs [44,32]))++v5)++(bs [44,32]))++v6)++(bs [44,32]))++v3).size+(bs [41]).size) 9223372036854775807)then
 some (((((((((bs [102,105,120,40])++v4)++(bs [44,32]))++v5)++(bs [44,32]))++v6)++(bs [44,32]))++v3)++(bs [41]))
 else none
 else none
 else none
 else none
 else none
 else none
 else none
 else none
def yW(N:Nat)(v1:bq):apJ apI:=
 (qv N v1).bind λv2=>
 bif (v2 !=0)then
  some (bs [])
 else
  bif (v1.bS==1)then
   some (bs [102,114,97,99])
  else
   bif (v1.bS==3)then
    some (bs [105,110,116])
   else
    bif (v1.cH==2)then
     Cq N v1 (bs [119,114,97,112])
    else
     Cq N v1 (bs [115,97,116])
theorem Hu{N v1}:KO 75 [(fV v1)] aL (yW N v1):=
 fw Tryz.func75 (au λv2 h1=>gA [[],[(4,cK ya h1)]] (cF λh2=>gA [[f0 h2],[],[]] (gJ λ_=>cF λh4=>gv 1 [[f0 h4],[],[]] [1,3] 1 (λ(v3:apI)=>⟨34,[(1,(.ptr 0 0)),(3,(aL v3))],[.cells (fV v1).cells]⟩) (Cq N v1) (λf1 aR=>aC (λb9=>gm aR (bs [119,114,97,112]) [[t0 b9],[]]) λb9=>gm aR (bs [115,97,116]) [[f0 b9]]) (λv3=>au λv4 h5=>bl λh6=>bl λh7=>au λv5 h8=>bl λh9=>bl λbM=>au λv6 bY=>bl λbU=>bl λdp=>bl λdt=>bl λcN=>gR [[(7,cK Q2 h5),(10,⟨_,_, .cat (n:=(bs [102,105,120,40]).size+v4.size) (cC h6)⟩),(13,⟨_,_, .cat (n:=((bs [102,105,120,40])++v4).size+(bs [44,32]).size) (cC h7)⟩),(22,cK Q2 h8),(25,⟨_,_, .cat (n:=(((bs [102,105,120,40])++v4)++(bs [44,32])).size+v5.size) (cC h9)⟩),(28,⟨_,_, .cat (n:=((((bs [102,105,120,40])++v4)++(bs [44,32]))++v5).size+(bs [44,32]).size) (cC bM)⟩),(37,cK ahS bY),(40,⟨_,_, .cat (n:=(((((bs [102,105,120,40])++v4)++(bs [44,32]))++v5)++(bs [44,32])).size+v6.size) (cC bU)⟩),(43,⟨_,_, .cat (n:=((((((bs [102,105,120,40])++v4)++(bs [44,32]))++v5)++(bs [44,32]))++v6).size+(bs [44,32]).size) (cC dp)⟩),(49,⟨_,_, .cat (n:=(((((((bs [102,105,120,40])++v4)++(bs [44,32]))++v5)++(bs [44,32]))++v6)++(bs [44,32])).size+v3.size) (cC dt)⟩),(52,⟨_,_, .cat (n:=((((((((bs [102,105,120,40])++v4)++(bs [44,32]))++v5)++(bs [44,32]))++v6)++(bs [44,32]))++v3).size+(bs [41]).size) (cC cN)⟩)]]))))
def HV(N:Nat)(v1:apH aN)(v2:Int):apJ apI:=
 bif (decide ((0:Int)<=v2))then
 Option.bind (v1[(v2).toNat]?) λv3=>
 (sH N v3).bind λv4=>
 some v4
 else none
theorem ahn{N v1 v2}:KO 77 [(.d (.sl (dE v1))),(aq v2)] aL (HV N v1 v2):=
 fw Tryz.func77 (bl λh2=>au λv3 h1=>au λv4 h3=>gR [[],[(7,⟨_,_, .el (xs:=dE v1) (i:=v2) (of_decide_eq_true h2) (oJ h1)⟩),(13,cK Be h3)]])
def QA(N:Nat)(v2:apH aN)(v4:Int)(fk:Int->apI->apJ apI)(v6:apI):apJ apI:=
 (HV N v2 v4).bind λv7=>
 (fg N v7 v6).bind λv8=>
 fk (bh (v4+(1:Int))) v8
def Ak(N:Nat)(v1:Int)(v2:apH aN):Nat->Int->apI->apJ apI
 |0,_,_=>none
 |v3+1,v4,v5=>
  bif (decide (v4<v1))then
   bif (decide (v4>0))then
    Option.bind (fg N (bs [44,32]) v5) λv9=>
    QA N v2 v4 (λbm eY=>Ak N v1 v2 v3 bm eY) v9
   else
    QA N v2 v4 (λbm eY=>Ak N v1 v2 v3 bm eY) v5
  else
   (yK N v5).bind λv10=>
   some v10
def G7(N:Nat)(v1:Int)(v2:apH aN):apJ apI:=
 Ak N v1 v2 N (0:Int) (bs [])
theorem Zx{N v1 v2}:KP 76 [(aq v1),(.hid (.dS 77 [.d (.sl (dE v2))]))] [] aL (λ_=>[]) (G7 N v1 v2):=
 fh 0 Tryz.func76 (gA [[]] (li (λ_=>(yS 136 0 5 (by kernel_rfl) ·)) (yO 1 [[]] [1,5,7,8] 2 (λ(v4:Int)(v5:apI)=>⟨20,[(1,(.hid (.dS 77 [.d (.sl (dE v2))]))),(5,(.ptr 0 0)),(7,(aq v1)),(8,(aq v4))],[.aT 136 (bw 1 v5), .bg 5 v5]⟩) (Ak N v1 v2) (λv3 v4 v5 f1 aR=>gA [[]] (aC (λh1=>gv 2 [[t0 h1],[],[]] [1,5,6,7,8] 2 (λ(v6:apI)=>⟨20,[(1,(.hid (.dS 77 [.d (.sl (dE v2))]))),(5,(.ptr 0 0)),(6,(aq v4)),(7,(aq v1)),(8,(aq v4))],[.aT 136 (bw 1 v6), .bg 5 v6]⟩) (QA N v2 v4 (λbm eY=>Ak N v1 v2 v3 bm eY)) (λf2 cM=>aC (λh4=>au λv9 h5=>gm cM v9 [[t0 h4],[(1,oR [(.ptr 0 0),(aL (bs [44,32]))] [.aT 136 (bw 1 v5), .bg 5 v5] [0,1] (gQ _ h5))]]) λh4=>gm cM v5 [[f0 h4]]) (λv6=>au λv7 h2=>au λv8 h3=>qO aR ((bh (v4+(1:Int))),v8) [[(7,⟨_,_, .sC (c:= .dS 77 [.d (.sl (dE v2))]) (args:=[(aq v4)]) ⟨_,_,rfl,(ahn _ h2)⟩⟩),(10,oR [(.ptr 0 0),(aL v7)] [.aT 136 (bw 1 v6), .bg 5 v6] [0,1] (gQ _ h3))],[]])) λh1=>au λv10 h6=>gH [[f0 h1],[(1,oR [(.ptr 0 0)] [.aT 136 (bw 1 v5), .bg 5 v5] [0,1] (A4 _ h6))]])))))
def Hq(N:Nat):apH bV->Nat->apJ Bool
 |[],_=>
  some true
 |v4::v5,v2=>
  (pj N v4.ao).bind λv6=>
  Option.bind (bif v6 then (rR N v4.cg).bind λv7=>
  some (v7 !=0)else some true) λv8=>
  bif v8 then
   some false
  else
   (Hq N v5 (v2+1))
def Sr(N:Nat)(v1:apH bV):apJ Bool:=
 Hq N v1 0
theorem Yc{N v1}:KO 125 [(.d (.sl (dL v1)))] aZ (Sr N v1):=
 fw Tryz.func125 (gA [[],[(4,oL v1 eG)]] (gT mO 0 v1 λh2=>fu 1 [] [5,6,7] 0 (λv2=>⟨22,[(5,(.d (.sl (dL v1)))),(6,(aq (v1.length:Int))),(7,(aq (v2:Int)))],[]⟩) (λv2 h3 f1=>gR [[],[f0 (bK h3)],[]]) (λv2 v4 v5 h3 f1 aR=>gA [[],[t0 (bI h3)],[(1,oE (lR (bt h3)))]] (au λv6 h4=>gG (λv8=>[(20,(aZ v8))]) (λ_=>[.cells (zi v4).cells]) (c8 (7,cK tO h4) (aC (λh5=>au λv7 h6=>gE [(4,bF (dw h5))] [(22,cK w7 h6)]) λh5=>gE [(4,bT (eC h5))] [])) λv8=>cF λh8=>gb aR () [[f0 h8],[(2,oq (b5 h3 rfl h2))]] h3))))
def JO(N:Nat)(v1:apH bV)(v2:Int):apJ apI:=
 bif (decide ((0:Int)<=v2))then
 Option.bind (v1[(v2).toNat]?) λv3=>
 bif (Nat.ble (v3.ao.size+(bs [32,60,32]).size) 9223372036854775807)then
 (sH N v3.cg).bind λv4=>
 bif (Nat.ble ((v3.ao++(bs [32,60,32])).size+v4.size) 9223372036854775807)then
 some ((v3.ao++(bs [32,60,32]))++v4)
 else none
 else none
 else none
theorem alz{N v1 v2}:KO 127 [(.d (.sl (dL v1))),(aq v2)] aL (JO N v1 v2):=
 fw Tryz.func127 (bl λh2=>au λv3 h1=>bl λh3=>au λv4 h4=>bl λh5=>gR [[],[(7,⟨_,_, .el (xs:=dL v1) (i:=v2) (of_decide_eq_true h2) (lR h1)⟩),(16,⟨_,_, .cat (n:=v3.ao.size+(bs [32,60,32]).size) (cC h3)⟩),(25,⟨_,_, .el (xs:=dL v1) (i:=v2) (of_decide_eq_true h2) (lR h1)⟩),(34,cK Be h4),(37,⟨_,_, .cat (n:=(v3.ao++(bs [32,60,32])).size+v4.size) (cC h5)⟩)]])
def Q9(N:Nat)(v2:apH bV)(v4:Int)(fk:Int->apI->apJ apI)(v6:apI):apJ apI:=
 (JO N v2 v4).bind λv7=>
 (fg N v7 v6).bind λv8=>
 fk (bh (v4+(1:Int))) v8
def BR(N:Nat)(v1:Int)(v2:apH bV):Nat->Int->apI->apJ apI
 |0,_,_=>none
 |v3+1,v4,v5=>
  bif (decide (v4<v1))then
   bif (decide (v4>0))then
    Option.bind (fg N (bs [44,32]) v5) λv9=>
    Q9 N v2 v4 (λbm eY=>BR N v1 v2 v3 bm eY) v9
   else
    Q9 N v2 v4 (λbm eY=>BR N v1 v2 v3 bm eY) v5
  else
   (yK N v5).bind λv10=>
   some v10
def sb(N:Nat)(v1:Int)(v2:apH bV):apJ apI:=
 BR N v1 v2 N (0:Int) (bs [])
theorem xz{N v1 v2}:KP 76 [(aq v1),(.hid (.dS 127 [.d (.sl (dL v2))]))] [] aL (λ_=>[]) (sb N v1 v2):=
 fh 0 Tryz.func76 (gA [[]] (li (λ_=>(yS 136 0 5 (by kernel_rfl) ·)) (yO 1 [[]] [1,5,7,8] 2 (λ(v4:Int)(v5:apI)=>⟨20,[(1,(.hid (.dS 127 [.d (.sl (dL v2))]))),(5,(.ptr 0 0)),(7,(aq v1)),(8,(aq v4))],[.aT 136 (bw 1 v5), .bg 5 v5]⟩) (BR N v1 v2) (λv3 v4 v5 f1 aR=>gA [[]] (aC (λh1=>gv 2 [[t0 h1],[],[]] [1,5,6,7,8] 2 (λ(v6:apI)=>⟨20,[(1,(.hid (.dS 127 [.d (.sl (dL v2))]))),(5,(.ptr 0 0)),(6,(aq v4)),(7,(aq v1)),(8,(aq v4))],[.aT 136 (bw 1 v6), .bg 5 v6]⟩) (Q9 N v2 v4 (λbm eY=>BR N v1 v2 v3 bm eY)) (λf2 cM=>aC (λh4=>au λv9 h5=>gm cM v9 [[t0 h4],[(1,oR [(.ptr 0 0),(aL (bs [44,32]))] [.aT 136 (bw 1 v5), .bg 5 v5] [0,1] (gQ _ h5))]]) λh4=>gm cM v5 [[f0 h4]]) (λv6=>au λv7 h2=>au λv8 h3=>qO aR ((bh (v4+(1:Int))),v8) [[(7,⟨_,_, .sC (c:= .dS 127 [.d (.sl (dL v2))]) (args:=[(aq v4)]) ⟨_,_,rfl,(alz _ h2)⟩⟩),(10,oR [(.ptr 0 0),(aL v7)] [.aT 136 (bw 1 v6), .bg 5 v6] [0,1] (gQ _ h3))],[]])) λh1=>au λv10 h6=>gH [[f0 h1],[(1,oR [(.ptr 0 0)] [.aT 136 (bw 1 v5), .bg 5 v5] [0,1] (A4 _ h6))]])))))
def L5(N:Nat)(v2:apI):apJ apI:=
 bif (Nat.ble (v2.size+(bs [58,32]).size) 9223372036854775807)then
 some (v2++(bs [58,32]))
 else none
def H6(N:Nat)(v4:apI):apJ apI:=
 bif (Nat.ble (v4.size+(bs [58,32]).size) 9223372036854775807)then
 some (v4++(bs [58,32]))
 else none
def Hk(N:Nat)(v6:apI):apJ apI:=
 bif (Nat.ble (v6.size+(bs [58,32]).size) 9223372036854775807)then
 some (v6++(bs [58,32]))
 else none
def Ka(N:Nat)(v8:apI):apJ apI:=
 bif (Nat.ble (v8.size+(bs [58,32]).size) 9223372036854775807)then
 some (v8++(bs [58,32]))
 else none
def LD(N:Nat)(v10:apI):apJ apI:=
 bif (Nat.ble (v10.size+(bs [58,32]).size) 9223372036854775807)then
 some (v10++(bs [58,32]))
 else none
def SD(N:Nat)(v12:apI):apJ apI:=
 bif (Nat.ble (v12.size+(bs [58,32]).size) 9223372036854775807)then
 some (v12++(bs [58,32]))
 else none
def Jo(N:Nat)(v1:aX):apJ apI:=
 bif (v1.cr==0)then
  some (bs [])
 else
  bif (v1.cr==1)then
   bif (decide ((v1.aU.length:Int)>0))then
    Option.bind (sb N (v1.aU.length:Int) v1.aU) λv3=>
    bif (Nat.ble ((bs [32]).size+v3.size) 9223372036854775807)then
    bif (Nat.ble ((bs [115,117,109]).size+((bs [32])++v3).size) 9223372036854775807)then
    L5 N ((bs [115,117,109])++((bs [32])++v3))
    else none
    else none
   else
    L5 N (bs [115,117,109])
  else
   bif (v1.cr==2)then
    bif (decide ((v1.aU.length:Int)>0))then
     Option.bind (sb N (v1.aU.length:Int) v1.aU) λv5=>
     bif (Nat.ble ((bs [32]).size+v5.size) 9223372036854775807)then
     bif (Nat.ble ((bs [112,114,111,100]).size+((bs [32])++v5).size) 9223372036854775807)then
     H6 N ((bs [112,114,111,100])++((bs [32])++v5))
     else none
     else none
    else
     H6 N (bs [112,114,111,100])
   else
    bif (v1.cr==3)then
     bif (decide ((v1.aU.length:Int)>0))then
      Option.bind (sb N (v1.aU.length:Int) v1.aU) λv7=>
      bif (Nat.ble ((bs [32]).size+v7.size) 9223372036854775807)then
      bif (Nat.ble ((bs [109,105,110]).size+((bs [32])++v7).size) 9223372036854775807)then
      Hk N ((bs [109,105,110])++((bs [32])++v7))
      else none
      else none
     else
      Hk N (bs [109,105,110])
    else
     bif (v1.cr==4)then
      bif (decide ((v1.aU.length:Int)>0))then
       Option.bind (sb N (v1.aU.length:Int) v1.aU) λv9=>
       bif (Nat.ble ((bs [32]).size+v9.size) 9223372036854775807)then
       bif (Nat.ble ((bs [109,97,120]).size+((bs [32])++v9).size) 9223372036854775807)then
       Ka N ((bs [109,97,120])++((bs [32])++v9))
       else none
       else none
      else
       Ka N (bs [109,97,120])
     else
      bif (v1.cr==5)then
       bif (decide ((v1.aU.length:Int)>0))then
        Option.bind (sb N (v1.aU.length:Int) v1.aU) λv11=>
        bif (Nat.ble ((bs [32]).size+v11.size) 9223372036854775807)then
        bif (Nat.ble ((bs [115,99,97,110]).size+((bs [32])++v11).size) 9223372036854775807)then
        LD N ((bs [115,99,97,110])++((bs [32])++v11))
        else none
        else none
       else
        LD N (bs [115,99,97,110])
      else
       bif (decide ((v1.aU.length:Int)>0))then
        Option.bind (sb N (v1.aU.length:Int) v1.aU) λba=>
        bif (Nat.ble ((bs [32]).size+ba.size) 9223372036854775807)then
        bif (Nat.ble ((bs []).size+((bs [32])++ba).size) 9223372036854775807)then
        SD N ((bs [])++((bs [32])++ba))
        else none
        else none
       else
        SD N (bs [])
def oO(v1:aX)(l:apH an):apH an:= .cells (fm v1).cells::l
theorem aiD{N v1}:KO 128 [(fm v1)] aL (Jo N v1):=
 fw Tryz.func128 (gA [[],[],[],[]] (gJ λ_=>aC (λh2=>gv 1 [[t0 h2],[],[],[(4,oL v1.aU eG)]] [3] 1 (λ(v2:apI)=>⟨34,[(3,(aL v2))],(oO v1 [])⟩) (L5 N) (λf1 aR=>aC (λh4=>au λv3 h5=>bl λh6=>bl λh7=>gm aR ((bs [115,117,109])++((bs [32])++v3)) [[t0 h4],[(7,oL v1.aU eG),(16,oQ [(aq (v1.aU.length:Int)),(.hid (.dS 127 [.d (.sl (dL v1.aU))]))] (oO v1 []) [] (xz _ h5)),(19,⟨_,_, .cat (n:=(bs [32]).size+v3.size) (cC h6)⟩),(22,⟨_,_, .cat (n:=(bs [115,117,109]).size+((bs [32])++v3).size) (cC h7)⟩)]]) λh4=>gm aR (bs [115,117,109]) [[f0 h4]]) (λv2=>bl λh3=>gR [[(4,⟨_,_, .cat (n:=v2.size+(bs [58,32]).size) (cC h3)⟩)]])) λh2=>gA [[f0 h2],[]] (aC (λh8=>gv 2 [[t0 h8],[],[],[(4,oL v1.aU eG)]] [3] 1 (λ(v4:apI)=>⟨34,[(3,(aL v4))],(oO v1 [])⟩) (H6 N) (λf2 cM=>aC (λbM=>au λv5 bY=>bl λbU=>bl λdp=>gm cM ((bs [112,114,111,100])++((bs [32])++v5)) [[t0 bM],[(7,oL v1.aU eG),(16,oQ [(aq (v1.aU.length:Int)),(.hid (.dS 127 [.d (.sl (dL v1.aU))]))] (oO v1 []) [] (xz _ bY)),(19,⟨_,_, .cat (n:=(bs [32]).size+v5.size) (cC bU)⟩),(22,⟨_,_, .cat (n:=(bs [112,114,111,100]).size+((bs [32])++v5).size) (cC dp)⟩)]]) λbM=>gm cM (bs [112,114,111,100]) [[f0 bM]]) (λv4=>bl λh9=>gR [[(4,⟨_,_, .cat (n:=v4.size+(bs [58,32]).size) (cC h9)⟩)]])) λh8=>gA [[f0 h8],[]] (aC (λdt=>gv 3 [[t0 dt],[],[],[(4,oL v1.aU eG)]] [3] 1 (λ(v6:apI)=>⟨34,[(3,(aL v6))],(oO v1 [])⟩) (Hk N) (λf3 ie=>aC (λb9=>au λv7 dG=>bl λeM=>bl λfE=>gm ie ((bs [109,105,110])++((bs [32])++v7)) [[t0 b9],[(7,oL v1.aU eG),(16,oQ [(aq (v1.aU.length:Int)),(.hid (.dS 127 [.d (.sl (dL v1.aU))]))] (oO v1 []) [] (xz _ dG)),(19,⟨_,_, .cat (n:=(bs [32]).size+v7.size) (cC eM)⟩),(22,⟨_,_, .cat (n:=(bs [109,105,110]).size+((bs [32])++v7).size) (cC fE)⟩)]]) λb9=>gm ie (bs [109,105,110]) [[f0 b9]]) (λv6=>bl λcN=>gR [[(4,⟨_,_, .cat (n:=v6.size+(bs [58,32]).size) (cC cN)⟩)]])) λdt=>gA [[f0 dt],[]] (aC (λdx=>gv 4 [[t0 dx],[],[],[(4,oL v1.aU eG)]] [3] 1 (λ(v8:apI)=>⟨34,[(3,(aL v8))],(oO v1 [])⟩) (Ka N) (λf4 jY=>aC (λgY=>au λv9 fP=>bl λfz=>bl λir=>gm jY ((bs [109,97,120])++((bs [32])++v9)) [[t0 gY],[(7,oL v1.aU eG),(16,oQ [(aq (v1.aU.length:Int)),(.hid (.dS 127 [.d (.sl (dL v1.aU))]))] (oO v1 []) [] (xz _ fP)),(19,⟨_,_, .cat (n:=(bs [32]).size+v9.size) (cC fz)⟩),(22,⟨_,_, .cat (n:=(bs [109,97,120]).size+((bs [32])++v9).size) (cC ir)⟩)]]) λgY=>gm jY (bs [109,97,120]) [[f0 gY]]) (λv8=>bl λfB=>gR [[(4,⟨_,_, .cat (n:=v8.size+(bs [58,32]).size) (cC fB)⟩)]])) λdx=>gA [[f0 dx],[]] (aC (λgg=>gv 5 [[t0 gg],[],[],[(4,oL v1.aU eG)]] [3] 1 (λ(v10:apI)=>⟨34,[(3,(aL v10))],(oO v1 [])⟩) (LD N) (λf5 uM=>aC (λfM=>au λv11 jt=>bl λiv=>bl λlD=>gm uM ((bs [115,99,97,110])++((bs [32])++v11)) [[t0 fM],[(7,oL v1.aU eG),(16,oQ [(aq (v1.aU.length:Int)),(.hid (.dS 127 [.d (.sl (dL v1.aU))]))] (oO v1 []) [] (xz _ jt)),(19,⟨_,_, .cat (n:=(bs [32]).size+v11.size) (cC iv)⟩),(22,⟨_,_, .cat (n:=(bs [115,99,97,110]).size+((bs [32])++v11).size) (cC lD)⟩)]]) λfM=>gm uM (bs [115,99,97,110]) [[f0 fM]]) (λv10=>bl λik=>gR [[(4,⟨_,_, .cat (n:=v10.size+(bs [58,32]).size) (cC ik)⟩)]])) λgg=>gv 6 [[f0 gg],[],[(4,oL v1.aU eG)]] [3] 1 (λ(v12:apI)=>⟨34,[(3,(aL v12))],(oO v1 [])⟩) (SD N) (λf6 AK=>aC (λk9=>au λba nD=>bl λnP=>bl λlf=>gm AK ((bs [])++((bs [32])++ba)) [[t0 k9],[(7,oL v1.aU eG),(16,oQ [(aq (v1.aU.length:Int)),(.hid (.dS 127 [.d (.sl (dL v1.aU))]))] (oO v1 []) [] (xz _ nD)),(19,⟨_,_, .cat (n:=(bs [32]).size+ba.size) (cC nP)⟩),(22,⟨_,_, .cat (n:=(bs []).size+((bs [32])++ba).size) (cC lf)⟩)]]) λk9=>gm AK (bs []) [[f0 k9]]) (λv12=>bl λkr=>gR [[(4,⟨_,_, .cat (n:=v12.size+(bs [58,32]).size) (cC kr)⟩)]])))))))
def NS(N:Nat)(v1:Int)(v4:Bool):apJ Int:=
 bif v4 then
  some (6:Int)
 else
  bif (v1==8)then
   some (7:Int)
  else
   some (8:Int)
def Pm(N:Nat)(v1:Int)(v3:Bool):apJ Int:=
 bif v3 then
  some (5:Int)
 else
  bif (v1==6)then
   NS N v1 (v1==6)
  else
   NS N v1 (v1==7)
def JG(N:Nat)(v1:Int)(v2:Bool):apJ Int:=
 bif v2 then
  some (4:Int)
 else
  bif (v1==4)then
   Pm N v1 (v1==4)
  else
   Pm N v1 (v1==5)
def Kn(N:Nat)(v1:Int):apJ Int:=
 bif (v1==17)then
  some (1:Int)
 else
  bif (v1==16)then
   some (2:Int)
  else
   bif (v1==18)then
    some (3:Int)
   else
    bif (v1==13)then
     JG N v1 (v1==13)
    else
     bif (v1==14)then
      JG N v1 (v1==14)
     else
      JG N v1 (v1==15)
theorem ZC{N v1}:KO 205 [(aq v1)] aq (Kn N v1):=
 fw Tryz.func205 (gA [[],[],[]] (gJ λ_=>gJ λ_=>cF λh3=>gv 1 [[f0 h3],[]] [3,10] 0 (λ(v2:Bool)=>⟨22,[(3,(aq v1)),(10,(aZ v2))],[]⟩) (JG N v1) (λf1 aR=>aC (λbM=>gm aR (v1==13) [[t0 bM]]) λbM=>gA [[f0 bM],[]] (aC (λbY=>gm aR (v1==14) [[t0 bY]]) λbY=>gm aR (v1==15) [[f0 bY],[]])) (λv2=>cF λh4=>gv 2 [[f0 h4],[]] [3,14] 0 (λ(v3:Bool)=>⟨22,[(3,(aq v1)),(14,(aZ v3))],[]⟩) (Pm N v1) (λf2 cM=>aC (λh9=>gm cM (v1==4) [[t0 h9]]) λh9=>gm cM (v1==5) [[f0 h9],[]]) (λv3=>cF λh5=>gv 3 [[f0 h5],[]] [3,17] 0 (λ(v4:Bool)=>⟨22,[(3,(aq v1)),(17,(aZ v4))],[]⟩) (NS N v1) (λf3 ie=>aC (λh8=>gm ie (v1==6) [[t0 h8]]) λh8=>gm ie (v1==7) [[f0 h8],[]]) (λv4=>gJ λ_=>cF λh7=>gR [[f0 h7],[]])))))
def Zq(N:Nat)(v1:bq):apH dy->Nat->apJ Int
 |[],_=>
  some (0:Int)
 |v6::v7,v4=>
  (vL N v1 v6).bind λv8=>
  bif v8 then
   (Zq N v1 v7 (v4+1))
  else
   some (1:Int)
def S8(N:Nat)(v1:bq)(v2:apH dy):apJ Int:=
 (uu N v1).bind λv3=>
 bif (v3 !=0)then
  some v3
 else
  Zq N v1 v2 0
theorem adH{N v1 v2}:KO 272 [(fV v1),(.d (.sl (rV v2)))] aq (S8 N v1 v2):=
 fw Tryz.func272 (au λv3 h1=>gA [[],[(4,cK MN h1)],[]] (cF λh2=>gA [[f0 h2],[(4,oL v2 Ud)]] (gT ajd 1 v2 λh4=>fu 1 [] [2,13,14,15] 1 (λv4=>⟨24,[(2,(.ptr 0 0)),(13,(.d (.sl (rV v2)))),(14,(aq (v2.length:Int))),(15,(aq (v4:Int)))],[.cells (fV v1).cells]⟩) (λv4 h5 f1=>gR [[],[f0 (bK h5)],[]]) (λv4 v6 v7 h5 f1 aR=>au λv8 h6=>gA [[],[t0 (bI h5)],[(1,oE (aiS (bt h5)))],[(7,cK acd h6)]] (mm λh7=>gb aR () [[f0 (dw h7)],[(2,oq (b5 h5 rfl h4))]] h5)))))
def Ks(N:Nat)(v1:Int64)(v2:Int64):apJ (dy×Int):=
 bif (v2.toInt==0)then
  some (zb,(4:Int))
 else
  (BU N v1).bind λv3=>
  (BU N v2).bind λv4=>
  (GA N v3 v4).bind λv5=>
  bif (v5 !=0)then
  Option.bind (bif (decide ((IntKind.u64.wrap ((v3).tdiv v5))>2147483647))then some true else some (decide ((IntKind.u64.wrap ((v4).tdiv v5))>2147483647))) λv6=>
  bif v6 then
   some (zb,(3:Int))
  else
   bif ((decide (v1.toInt<0))==(decide (v2.toInt<0)))then
    some ((⟨(Int64.ofInt (IntKind.u64.wrap ((v3).tdiv v5))),(Int64.ofInt (IntKind.u64.wrap ((v4).tdiv v5)))⟩:dy),(0:Int))
   else
    some ((⟨(-(Int64.ofInt (IntKind.u64.wrap ((v3).tdiv v5)))),(Int64.ofInt (IntKind.u64.wrap ((v4).tdiv v5)))⟩:dy),(0:Int))
  else none
theorem alX{N v1 v2}:KO 273 [(de v1),(de v2)] (λr=> .bA [(mN r.1),(aq r.2)]) (Ks N v1 v2):=
 fw Tryz.func273 (gA [[],[]] (cF λh1=>au λv3 h2=>au λv4 h3=>au λv5 h4=>bl λh5=>gA [[f0 h1],[],[(4,cK Oh h2),(10,cK Oh h3)],[(7,cK aap h4)],[(7,⟨_,_, .nz (b:=v5) (bne_iff_ne.1 h5)⟩),(16,⟨_,_, .nz (b:=v5) (bne_iff_ne.1 h5)⟩)]] (gG (λv6=>[(36,(aZ v6))]) (λ_=>[.cells zc4]) (aC (λh7=>gE [(2,bT h7)] []) λh7=>gE [(2,bF h7)] []) λv6=>gJ λ_=>aC (λbM=>gR [[f0 (dw bM)],[(5,⟨_,_, .eq (vb (IntKind.u64.wrap ((v3).tdiv v5)))⟩),(11,⟨_,_, .eq (vb (IntKind.u64.wrap ((v4).tdiv v5)))⟩)]]) λbM=>gR [[t0 (eC bM)],[(5,⟨_,_, .eq (vb (IntKind.u64.wrap ((v3).tdiv v5)))⟩),(8,⟨_,_, .eq (Nx (Int64.ofInt (IntKind.u64.wrap ((v3).tdiv v5))))⟩),(14,⟨_,_, .eq (vb (IntKind.u64.wrap ((v4).tdiv v5)))⟩)]])))
def I5(N:Nat)(v1:bq)(v2:dy):apJ (dy×Int):=
 Option.bind (S8 N v1 [v2]) λv3=>
 bif (v3 !=0)then
  some (zb,v3)
 else
  bif (decide ((0:Int)<=v1.ca))then
  Option.bind (Ks N v2.xN (Int64.ofInt ((1:Int)*2^(min (v1.ca).toNat (IntKind.bits .i64))))) λv4=>
  some (v4.1,v4.2)
  else none
theorem agw{N v1 v2}:KO 261 [(fV v1),(mN v2)] (λr=> .bA [(mN r.1),(aq r.2)]) (I5 N v1 v2):=
 fw Tryz.func261 (au λv3 h1=>gA [[],[(10,cK adH h1)],[]] (cF λh2=>bl λh3=>au λv4 h4=>gR [[f0 h2],[(13,⟨_,_, .nn (b:=v1.ca) (of_decide_eq_true h3)⟩),(14,⟨_,_, .eq (vb ((1:Int)*2^(min (v1.ca).toNat (IntKind.bits .i64))))⟩),(16,cK alX h4)]]))
def JE(N:Nat)(v1:bq)(v2:dy):apJ dy:=
 bif (v1.bS==2)then
  (I5 N v1 v2).bind λv3=>
  some v3.1
 else
  some v2
theorem anD{N v1 v2}:KO 243 [(fV v1),(mN v2)] mN (JE N v1 v2):=
 fw Tryz.func243 (gA [[],[]] (rH λh1=>au λv3 h2=>gR [[t0 h1],[(7,cK agw h2)],[]]))
def AG(N:Nat)(v1:Int64)(v2:Int):apJ apI:=
 (NT N v1 v2).bind λv3=>
 some v3
theorem Io{N v1 v2}:KO 33 [(de v1),(aq v2)] aL (AG N v1 v2):=
 fw Tryz.func33 (au λv3 h1=>gR [[],[(7,cK aav h1)]])
def J2(N:Nat)(v1:dy):apJ apI:=
 (x7 N v1).bind λv2=>
 bif v2 then
  bif (v1.xD.toInt==1)then
   Option.bind (AG N v1.xN (10:Int)) λv3=>
   some v3
  else
   Option.bind (AG N v1.xN (10:Int)) λv4=>
   bif (Nat.ble (v4.size+(bs [47]).size) 9223372036854775807)then
   Option.bind (AG N v1.xD (10:Int)) λv5=>
   bif (Nat.ble ((v4++(bs [47])).size+v5.size) 9223372036854775807)then
   some ((v4++(bs [47]))++v5)
   else none
   else none
 else
  some (bs [])
theorem afK{N v1}:KO 242 [(mN v1)] aL (J2 N v1):=
 fw Tryz.func242 (au λv2 h1=>gA [[],[(4,cK ZR h1)]] (mm λh2=>gA [[f0 (dw h2)],[]] (aC (λh3=>au λv3 h4=>gR [[t0 h3],[(7,cK Io h4)]]) λh3=>au λv4 h5=>bl λh6=>au λv5 h7=>bl λh8=>gR [[f0 h3],[(7,cK Io h5),(10,⟨_,_, .cat (n:=v4.size+(bs [47]).size) (cC h6)⟩),(19,cK Io h7),(22,⟨_,_, .cat (n:=(v4++(bs [47])).size+v5.size) (cC h8)⟩)]])))
def QV(N:Nat)(v1:bq)(v2:dy):apJ apI:=
 (vH N v1 v2).bind λv3=>
 bif v3 then
  (JE N v1 v2).bind λv4=>
  (J2 N v4).bind λv5=>
  some v5
 else
  some (bs [])
theorem ad3{N v1 v2}:KO 206 [(fV v1),(mN v2)] aL (QV N v1 v2):=
 fw Tryz.func206 (au λv3 h1=>gA [[],[(7,cK Y3 h1)]] (mm λh2=>au λv4 h3=>au λv5 h4=>gR [[f0 (dw h2)],[(7,cK anD h3),(10,cK afK h4)]]))
def l8(N:Nat)(v1:apI)(v2:apI):apJ apI:=Ai v2 v1
theorem pA{N v1 v2}:KP 70 [(.ptr 0 0),(aL v1)] [.aT 219 (bw 1 v2), .bg 5 v2] (λ_=> .bA [.dead, .dead]) (λr=>[.aT 219 (bw 1 r), .bg 5 r]) (l8 N v1 v2):=Ye (by kernel_rfl)
def D0(N:Nat)(v1:bu):apJ apI:=
 (rR N v1.aQ).bind λv2=>
 Option.bind (bif (v2 !=0)then some true else (I1 N v1.bG).bind λv3=>
 some (!v3)) λv4=>
 bif v4 then
  some (bs [])
 else
  Option.bind (bif (bL v1.bH==bL (bs []))then some (decide ((v1.bG.length:Int)>0))else some false) λv5=>
  bif v5 then
   some (bs [])
  else
   bif (bL v1.bH==bL (bs []))then
    (sH N v1.aQ).bind λv6=>
    some v6
   else
    (pj N v1.bH).bind λv7=>
    Option.bind (bif v7 then(bif (v1.aQ.xK.toInt !=0)then some true else some (decide ((v1.aQ.xL.length:Int)>0)))else some true) λv8=>
    bif v8 then
     some (bs [])
    else
     bif (Nat.ble (v1.bH.size+(bs [91]).size) 9223372036854775807)then
     Option.bind (G7 N (v1.bG.length:Int) v1.bG) λv9=>
     bif (Nat.ble ((v1.bH++(bs [91])).size+v9.size) 9223372036854775807)then
     bif (Nat.ble (((v1.bH++(bs [91]))++v9).size+(bs [93]).size) 9223372036854775807)then
     some (((v1.bH++(bs [91]))++v9)++(bs [93]))
     else none
     else none
     else none
theorem ami{N v1}:KO 244 [(gN v1)] aL (D0 N v1):=
 fw Tryz.func244 (gA [[],[]] (au λv2 h1=>gG (λv4=>[(6,(aZ v4))]) (λ_=>[.cells (gN v1).cells]) (c8 (7,cK w7 h1) (aC (λh2=>gE [(4,bT h2)] []) λh2=>au λv3 h3=>gE [(4,bF h2)] [(19,cK Ui h3)])) λv4=>cF λh5=>gA [[f0 h5]] (gG (λv5=>[(16,(aZ v5))]) (λ_=>[.cells (gN v1).cells]) (aC (λh6=>gE [(3,bT h6)] [(19,oL v1.bG gj)]) λh6=>gE [(3,bF h6)] []) λv5=>gJ λ_=>aC (λh9=>au λv6 bM=>gR [[t0 h9],[(7,cK Be bM)]]) λh9=>gA [[f0 h9]] (au λv7 bY=>gG (λv8=>[(33,(aZ v8))]) (λ_=>[.cells (gN v1).cells]) (c8 (7,cK tO bY) (aC (λbU=>dn (4,bF (dw bU)) (aC (λdp=>gE [(10,bT dp)] []) λdp=>gE [(10,bF dp)] [(43,oL v1.aQ.xL fG)])) λbU=>gE [(4,bT (eC bU)),(10,bT rfl)] [])) λv8=>cF λcN=>bl λb9=>au λv9 dG=>bl λeM=>bl λfE=>gR [[f0 cN],[(7,⟨_,_, .cat (n:=v1.bH.size+(bs [91]).size) (cC b9)⟩),(13,oL v1.bG gj),(22,oQ [(aq (v1.bG.length:Int)),(.hid (.dS 77 [.d (.sl (dE v1.bG))]))] [.cells (gN v1).cells] [] (Zx _ dG)),(25,⟨_,_, .cat (n:=(v1.bH++(bs [91])).size+v9.size) (cC eM)⟩),(28,⟨_,_, .cat (n:=((v1.bH++(bs [91]))++v9).size+(bs [93]).size) (cC fE)⟩)]]))))
def Hl(N:Nat)(v1:apH bu)(v2:Int):apJ apI:=
 bif (decide ((0:Int)<=v2))then
 Option.bind (v1[(v2).toNat]?) λv3=>
 (D0 N v3).bind λv4=>
 some v4
 else none
theorem aio{N v1 v2}:KO 207 [(.d (.sl (cQ v1))),(aq v2)] aL (Hl N v1 v2):=
 fw Tryz.func207 (bl λh2=>au λv3 h1=>au λv4 h3=>gR [[],[(7,⟨_,_, .el (xs:=cQ v1) (i:=v2) (of_decide_eq_true h2) (kO h1)⟩),(13,cK ami h3)]])
def R3(N:Nat)(v2:apH bu)(v4:Int)(fk:Int->apI->apJ apI)(v6:apI):apJ apI:=
 (Hl N v2 v4).bind λv7=>
 (fg N v7 v6).bind λv8=>
 fk (bh (v4+(1:Int))) v8
def Ap(N:Nat)(v1:Int)(v2:apH bu):Nat->Int->apI->apJ apI
 |0,_,_=>none
 |v3+1,v4,v5=>
  bif (decide (v4<v1))then
   bif (decide (v4>0))then
    Option.bind (fg N (bs [44,32]) v5) λv9=>
    R3 N v2 v4 (λbm eY=>Ap N v1 v2 v3 bm eY) v9
   else
    R3 N v2 v4 (λbm eY=>Ap N v1 v2 v3 bm eY) v5
  else
   (yK N v5).bind λv10=>
   some v10
def PQ(N:Nat)(v1:Int)(v2:apH bu):apJ apI:=
 Ap N v1 v2 N (0:Int) (bs [])
theorem ajz{N v1 v2}:KP 76 [(aq v1),(.hid (.dS 207 [.d (.sl (cQ v2))]))] [] aL (λ_=>[]) (PQ N v1 v2):=
 fh 0 Tryz.func76 (gA [[]] (li (λ_=>(yS 136 0 5 (by kernel_rfl) ·)) (yO 1 [[]] [1,5,7,8] 2 (λ(v4:Int)(v5:apI)=>⟨20,[(1,(.hid (.dS 207 [.d (.sl (cQ v2))]))),(5,(.ptr 0 0)),(7,(aq v1)),(8,(aq v4))],[.aT 136 (bw 1 v5), .bg 5 v5]⟩) (Ap N v1 v2) (λv3 v4 v5 f1 aR=>gA [[]] (aC (λh1=>gv 2 [[t0 h1],[],[]] [1,5,6,7,8] 2 (λ(v6:apI)=>⟨20,[(1,(.hid (.dS 207 [.d (.sl (cQ v2))]))),(5,(.ptr 0 0)),(6,(aq v4)),(7,(aq v1)),(8,(aq v4))],[.aT 136 (bw 1 v6), .bg 5 v6]⟩) (R3 N v2 v4 (λbm eY=>Ap N v1 v2 v3 bm eY)) (λf2 cM=>aC (λh4=>au λv9 h5=>gm cM v9 [[t0 h4],[(1,oR [(.ptr 0 0),(aL (bs [44,32]))] [.aT 136 (bw 1 v5), .bg 5 v5] [0,1] (gQ _ h5))]]) λh4=>gm cM v5 [[f0 h4]]) (λv6=>au λv7 h2=>au λv8 h3=>qO aR ((bh (v4+(1:Int))),v8) [[(7,⟨_,_, .sC (c:= .dS 207 [.d (.sl (cQ v2))]) (args:=[(aq v4)]) ⟨_,_,rfl,(aio _ h2)⟩⟩),(10,oR [(.ptr 0 0),(aL v7)] [.aT 136 (bw 1 v6), .bg 5 v6] [0,1] (gQ _ h3))],[]])) λh1=>au λv10 h6=>gH [[f0 h1],[(1,oR [(.ptr 0 0)] [.aT 136 (bw 1 v5), .bg 5 v5] [0,1] (A4 _ h6))]])))))
def Rr(N:Nat)(v1:Int):apJ apI:=
 bif (v1==4)then
  some (bs [43])
 else
  bif (v1==5)then
   some (bs [45])
  else
   bif (v1==6)then
    some (bs [42])
   else
    bif (v1==7)then
     some (bs [47])
    else
     bif (v1==13)then
      some (bs [60])
     else
      bif (v1==14)then
       some (bs [60,61])
      else
       bif (v1==15)then
        some (bs [61,61])
       else
        bif (v1==16)then
         some (bs [38])
        else
         bif (v1==17)then
          some (bs [124])
         else
          some (bs [])
theorem agR{N v1}:KO 210 [(aq v1)] aL (Rr N v1):=
 fw Tryz.func210 (gA [[],[],[]] (gJ λ_=>gJ λ_=>gJ λ_=>gJ λ_=>gJ λ_=>gJ λ_=>gJ λ_=>gJ λ_=>cF λh9=>gR [[f0 h9],[]]))
def Fe(N:Nat)(Av:ar->apI->apJ apI)(v8:ar)(fk:apI->apJ apI)(ba:apI):apJ apI:=
 (Av v8 ba).bind λbX=>
 fk bX
def rk(N:Nat)(v2:apI)(Av:ar->apI->apJ apI):apH ar->Nat->apI->apJ apI
 |[],_,v10=>
  Option.bind (l8 N (bs [41]) v10) λv11=>
  some v11
 |v8::v9,v6,v10=>
  Option.bind (bif (decide ((v6:Int)>0))then some true else some (!(bL v2==bL (bs [])))) λv12=>
  bif v12 then
   Option.bind (l8 N (bs [44,32]) v10) λbC=>
   Fe N Av v8 (λbm=>rk N v2 Av v9 (v6+1) bm) bC
  else
   Fe N Av v8 (λbm=>rk N v2 Av v9 (v6+1) bm) v10
mutual
def iF(N:Nat):Nat->ar->apI->apJ apI
 |0,_,_=>none
 |d+1,v1,v2=>
  (Kn N v1.aJ).bind λv3=>
  bif (v1.aJ==1)then
   (yW N v1.aM).bind λv4=>
   bif (Nat.ble (v4.size+(bs [40]).size) 9223372036854775807)then
   (QV N v1.aM v1.dK).bind λv5=>
   bif (Nat.ble ((v4++(bs [40])).size+v5.size) 9223372036854775807)then
   bif (Nat.ble (((v4++(bs [40]))++v5).size+(bs [41]).size) 9223372036854775807)then
   Option.bind (l8 N (((v4++(bs [40]))++v5)++(bs [41])) v2) λv6=>
   some v6
   else none
   else none
   else none
  else
   bif (v1.aJ==2)then
    (sH N v1.aQ).bind λv7=>
    bif (Nat.ble ((bs [91]).size+v7.size) 9223372036854775807)then
    bif (Nat.ble (((bs [91])++v7).size+(bs [93]).size) 9223372036854775807)then
    Option.bind (l8 N (((bs [91])++v7)++(bs [93])) v2) λv8=>
    some v8
    else none
    else none
   else
    bif (v1.aJ==3)then
     bif (Nat.ble (v1.ao.size+(bs [91]).size) 9223372036854775807)then
     Option.bind (PQ N (v1.xIdx.length:Int) v1.xIdx) λv9=>
     bif (Nat.ble ((v1.ao++(bs [91])).size+v9.size) 9223372036854775807)then
     bif (Nat.ble (((v1.ao++(bs [91]))++v9).size+(bs [93]).size) 9223372036854775807)then
     Option.bind (l8 N (((v1.ao++(bs [91]))++v9)++(bs [93])) v2) λv10=>
     some v10
     else none
     else none
     else none
    else
     bif (v1.aJ==8)then
      Option.bind (l8 N (bs [45]) v2) λv11=>
      Option.bind (v1.bk[0]?) λv12=>
      Option.bind ((qx N d) v12 v3 v11) λba=>
      some ba
     else
      bif (v1.aJ==18)then
       Option.bind (l8 N (bs [33]) v2) λbX=>
       Option.bind (v1.bk[0]?) λbC=>
       Option.bind ((qx N d) bC v3 bX) λct=>
       some ct
      else
       bif (v1.aJ==9)then
        Option.bind ((rm N d) (bs [109,105,110]) (bs []) v1.bk v2) λv17=>
        some v17
       else
        bif (v1.aJ==10)then
         Option.bind ((rm N d) (bs [109,97,120]) (bs []) v1.bk v2) λcB=>
         some cB
        else
         bif (v1.aJ==11)then
          Option.bind ((rm N d) (bs [105,102]) (bs []) v1.bk v2) λdA=>
          some dA
         else
          bif (v1.aJ==12)then
           (yW N v1.aM).bind λv20=>
           Option.bind ((rm N d) (bs [99,97,115,116]) v20 v1.bk v2) λv21=>
           some v21
          else
           Option.bind (v1.bk[0]?) λv22=>
           Option.bind ((qx N d) v22 v3 v2) λv23=>
           (Rr N v1.aJ).bind λv24=>
           bif (Nat.ble ((bs [32]).size+v24.size) 9223372036854775807)then
           bif (Nat.ble (((bs [32])++v24).size+(bs [32]).size) 9223372036854775807)then
           Option.bind (l8 N (((bs [32])++v24)++(bs [32])) v23) λv25=>
           Option.bind (v1.bk[1]?) λv26=>
           Option.bind ((qx N d) v26 (bh (v3+(1:Int))) v25) λcW=>
           some cW
           else none
           else none
def qx(N:Nat):Nat->ar->Int->apI->apJ apI
 |0,_,_,_=>none
 |d+1,v1,v2,v3=>
  (Kn N v1.aJ).bind λv4=>
  bif (decide (v4>=v2))then
   Option.bind ((iF N d) v1 v3) λv5=>
   some v5
  else
   Option.bind (l8 N (bs [40]) v3) λv6=>
   Option.bind ((iF N d) v1 v6) λv7=>
   Option.bind (l8 N (bs [41]) v7) λv8=>
   some v8
def rm(N:Nat):Nat->apI->apI->(apH ar)->apI->apJ apI
 |0,_,_,_,_=>none
 |d+1,v1,v2,v3,v4=>
  bif (Nat.ble (v1.size+(bs [40]).size) 9223372036854775807)then
  bif (Nat.ble ((v1++(bs [40])).size+v2.size) 9223372036854775807)then
  Option.bind (l8 N ((v1++(bs [40]))++v2) v4) λv5=>
  rk N v2 (iF N d) v3 0 v5
  else none
  else none
end
def SV(N:Nat)(v1:ar)(v2:apI):apJ apI:=iF N N v1 v2
theorem anK(N:Nat):∀d:Nat,(∀{v1:ar}{v2:apI}{r:apI},iF N d v1 v2=some r->KH 170 [(.ptr 0 0),(aW v1)] ([.aT 219 (bw 1 v2), .bg 5 v2]) (.bA []) ([.aT 219 (bw 1 r), .bg 5 r]))/\(∀{v1:ar}{v2:Int}{v3:apI}{r:apI},qx N d v1 v2 v3=some r->KH 208 [(.ptr 0 0),(aW v1),(aq v2)] ([.aT 219 (bw 1 v3), .bg 5 v3]) (.bA []) ([.aT 219 (bw 1 r), .bg 5 r]))/\(∀{v1:apI}{v2:apI}{v3:apH ar}{v4:apI}{r:apI},rm N d v1 v2 v3 v4=some r->KH 209 [(.ptr 0 0),(aL v1),(aL v2),(.d (.sl (dU v3)))] ([.aT 219 (bw 1 v4), .bg 5 v4]) (.bA []) ([.aT 219 (bw 1 r), .bg 5 r])):=by
 intro d
 induction d with
 |zero=>exact⟨(by intro v1 v2 r J;rw[iF]at J;cases J),(by intro v1 v2 v3 r J;rw[qx]at J;cases J),(by intro v1 v2 v3 v4 r J;rw[rm]at J;cases J)⟩
 |succ d ih=>
  have Qd:= @ih.1;have Jx:= @ih.2.1;have H8:= @ih.2.2;refine⟨?_,?_,?_⟩
  ·intro v1 v2 r J;rw[iF]at J;refine BJ 2 Tryz.func170 rfl (by kernel_rfl) (ao0 rfl) ?_;refine zf (s':=⟨134,[(0,(.ptr 0 0)),(1,(aW v1))],[.aT 219 (bw 1 v2), .bg 5 v2]⟩) (by kernel_rfl) ?_;refine bP ?_;refine rg [] [(3,(.ptr 2 0))] [.aT 219 (bw 1 v2), .bg 5 v2, .cells (aW v1).cells] (by kernel_rfl) ?_;refine bP ?_;obtain⟨v3,h1,J⟩:=dv J;refine rg [(7,cK ZC h1)] [(4,(aq v3))] [.aT 219 (bw 1 v2), .bg 5 v2, .cells (aW v1).cells] (by kernel_rfl) ?_;refine bP ?_;refine rg [] [(10,(aq v1.aJ))] [.aT 219 (bw 1 v2), .bg 5 v2, .cells (aW v1).cells] (by kernel_rfl) ?_;refine kf ?_;refine bP ?_;refine rg [] [(35,(aZ (v1.aJ==1)))] [.aT 219 (bw 1 v2), .bg 5 v2, .cells (aW v1).cells] (by kernel_rfl) ?_;rcases jK (v1.aJ==1)with h2|h2
   ·replace J:=(fJ h2).symm.trans J;refine jA (t:=(v1.aJ==1)) (by kernel_rfl) h2 ?_;obtain⟨v4,h3,J⟩:=dv J;have h4:=oa J;replace J:=(fJ h4).symm.trans J;obtain⟨v5,h5,J⟩:=dv J;have h6:=oa J;replace J:=(fJ h6).symm.trans J;have h7:=oa J;replace J:=(fJ h7).symm.trans J;obtain⟨v6,h8,J⟩:=dv J;refine DR dO (by kernel_rfl) [(16,cK Hu h3),(19,⟨_,_, .cat (n:=v4.size+(bs [40]).size) (cC h4)⟩),(34,cK ad3 h5),(37,⟨_,_, .cat (n:=(v4++(bs [40])).size+v5.size) (cC h6)⟩),(40,⟨_,_, .cat (n:=((v4++(bs [40]))++v5).size+(bs [41]).size) (cC h7)⟩),(43,oR [(.ptr 0 0),(aL (((v4++(bs [40]))++v5)++(bs [41])))] [.aT 219 (bw 1 v2), .bg 5 v2, .cells (aW v1).cells] [0,1] (pA _ h8))] [(51,(.bA [.dead, .dead])),(50,(aL (((v4++(bs [40]))++v5)++(bs [41])))),(49,(aL ((v4++(bs [40]))++v5))),(48,(aL v5)),(47,(mN v1.dK)),(46,(.ptr 2 2)),(45,(fV v1.aM)),(44,(.ptr 2 4)),(43,(aL (v4++(bs [40])))),(42,(aL v4)),(41,(fV v1.aM)),(40,(.ptr 2 4)),(39,(.ptr 0 0)),(38,(.ptr 0 0)),(37,(.ptr 0 0))] [.aT 219 (bw 1 v6), .bg 5 v6, .cells (aW v1).cells] ⟨by kernel_rfl,by kernel_rfl⟩ ?_;refine jz ?_;have hr:=apb J;subst hr;exact rM (by kernel_rfl)
   replace J:=(jI h2).symm.trans J;refine jg (t:=(v1.aJ==1)) (by kernel_rfl) h2 ?_;refine bP ?_;refine rg [] [(52,(aZ (v1.aJ==2)))] [.aT 219 (bw 1 v2), .bg 5 v2, .cells (aW v1).cells] (by kernel_rfl) ?_;rcases jK (v1.aJ==2)with h9|h9
   ·replace J:=(fJ h9).symm.trans J;refine jA (t:=(v1.aJ==2)) (by kernel_rfl) h9 ?_;obtain⟨v7,bM,J⟩:=dv J;have bY:=oa J;replace J:=(fJ bY).symm.trans J;have bU:=oa J;replace J:=(fJ bU).symm.trans J;obtain⟨v8,dp,J⟩:=dv J;refine DR dO (by kernel_rfl) [(16,cK Be bM),(19,⟨_,_, .cat (n:=(bs [91]).size+v7.size) (cC bY)⟩),(22,⟨_,_, .cat (n:=((bs [91])++v7).size+(bs [93]).size) (cC bU)⟩),(25,oR [(.ptr 0 0),(aL (((bs [91])++v7)++(bs [93])))] [.aT 219 (bw 1 v2), .bg 5 v2, .cells (aW v1).cells] [0,1] (pA _ dp))] [(62,(.bA [.dead, .dead])),(61,(aL (((bs [91])++v7)++(bs [93])))),(60,(aL ((bs [91])++v7))),(59,(aL v7)),(58,(cP v1.aQ)),(57,(.ptr 2 9)),(56,(.ptr 0 0)),(55,(.ptr 0 0)),(54,(.ptr 0 0))] [.aT 219 (bw 1 v8), .bg 5 v8, .cells (aW v1).cells] ⟨by kernel_rfl,by kernel_rfl⟩ ?_;refine jz ?_;have hr:=apb J;subst hr;exact rM (by kernel_rfl)
   replace J:=(jI h9).symm.trans J;refine jg (t:=(v1.aJ==2)) (by kernel_rfl) h9 ?_;refine bP ?_;refine rg [] [(63,(aZ (v1.aJ==3)))] [.aT 219 (bw 1 v2), .bg 5 v2, .cells (aW v1).cells] (by kernel_rfl) ?_;rcases jK (v1.aJ==3)with dt|dt
   ·replace J:=(fJ dt).symm.trans J;refine jA (t:=(v1.aJ==3)) (by kernel_rfl) dt ?_;refine bP ?_;refine rg [] [(5,(.d (.sl (cQ v1.xIdx))))] [.aT 219 (bw 1 v2), .bg 5 v2, .cells (aW v1).cells] (by kernel_rfl) ?_;have cN:=oa J;replace J:=(fJ cN).symm.trans J;obtain⟨v9,b9,J⟩:=dv J;have dG:=oa J;replace J:=(fJ dG).symm.trans J;have eM:=oa J;replace J:=(fJ eM).symm.trans J;obtain⟨v10,fE,J⟩:=dv J;refine DR dO (by kernel_rfl) [(16,⟨_,_, .cat (n:=v1.ao.size+(bs [91]).size) (cC cN)⟩),(22,oL v1.xIdx jD),(31,oQ [(aq (v1.xIdx.length:Int)),(.hid (.dS 207 [.d (.sl (cQ v1.xIdx))]))] [.aT 219 (bw 1 v2), .bg 5 v2, .cells (aW v1).cells] [] (ajz _ b9)),(34,⟨_,_, .cat (n:=(v1.ao++(bs [91])).size+v9.size) (cC dG)⟩),(37,⟨_,_, .cat (n:=((v1.ao++(bs [91]))++v9).size+(bs [93]).size) (cC eM)⟩),(40,oR [(.ptr 0 0),(aL (((v1.ao++(bs [91]))++v9)++(bs [93])))] [.aT 219 (bw 1 v2), .bg 5 v2, .cells (aW v1).cells] [0,1] (pA _ fE))] [(80,(.bA [.dead, .dead])),(79,(aL (((v1.ao++(bs [91]))++v9)++(bs [93])))),(78,(aL ((v1.ao++(bs [91]))++v9))),(77,(aL v9)),(76,(.hid (.dS 207 [.d (.sl (cQ v1.xIdx))]))),(75,(.d (.sl (cQ v1.xIdx)))),(74,(aq (v1.xIdx.length:Int))),(73,(.d (.sl (cQ v1.xIdx)))),(72,(aL (v1.ao++(bs [91])))),(71,(aL v1.ao)),(70,(.ptr 2 1)),(69,(.ptr 0 0)),(68,(.ptr 0 0)),(67,(.ptr 0 0))] [.aT 219 (bw 1 v10), .bg 5 v10, .cells (aW v1).cells] ⟨by kernel_rfl,by kernel_rfl⟩ ?_
    refine jz ?_;have hr:=apb J;subst hr;exact rM (by kernel_rfl)
   replace J:=(jI dt).symm.trans J;refine jg (t:=(v1.aJ==3)) (by kernel_rfl) dt ?_;refine bP ?_;refine rg [] [(81,(aZ (v1.aJ==8)))] [.aT 219 (bw 1 v2), .bg 5 v2, .cells (aW v1).cells] (by kernel_rfl) ?_;rcases jK (v1.aJ==8)with dx|dx
   ·replace J:=(fJ dx).symm.trans J;refine jA (t:=(v1.aJ==8)) (by kernel_rfl) dx ?_;refine bP ?_;obtain⟨v11,fB,J⟩:=dv J;refine rg [(10,oR [(.ptr 0 0),(aL (bs [45]))] [.aT 219 (bw 1 v2), .bg 5 v2, .cells (aW v1).cells] [0,1] (pA _ fB))] [] [.aT 219 (bw 1 v11), .bg 5 v11, .cells (aW v1).cells] (by kernel_rfl) ?_;obtain⟨v12,gY,ba,fP,J⟩:=k00 J;refine re [(10,oE (k:=0) (ma gY)),(19,oR [(.ptr 0 0),(aW v12),(aq v3)] [.aT 219 (bw 1 v11), .bg 5 v11, .cells (aW v1).cells] [0,1] (Jx fP))] [(93,(.bA [])),(92,(aq v3)),(91,(aW v12)),(90,(.bz [eI v12] 0 0)),(89,(.d (.sl (dU v1.bk)))),(88,(.ptr 2 12)),(87,(.ptr 0 0))] [.aT 219 (bw 1 ba), .bg 5 ba, .cells (aW v1).cells] (by kernel_rfl) ?_;refine jz ?_;have hr:=apb J;subst hr;exact rM (by kernel_rfl)
   replace J:=(jI dx).symm.trans J;refine jg (t:=(v1.aJ==8)) (by kernel_rfl) dx ?_;refine bP ?_;refine rg [] [(94,(aZ (v1.aJ==18)))] [.aT 219 (bw 1 v2), .bg 5 v2, .cells (aW v1).cells] (by kernel_rfl) ?_;rcases jK (v1.aJ==18)with fz|fz
   ·replace J:=(fJ fz).symm.trans J;refine jA (t:=(v1.aJ==18)) (by kernel_rfl) fz ?_;refine bP ?_;obtain⟨bX,ir,J⟩:=dv J;refine rg [(10,oR [(.ptr 0 0),(aL (bs [33]))] [.aT 219 (bw 1 v2), .bg 5 v2, .cells (aW v1).cells] [0,1] (pA _ ir))] [] [.aT 219 (bw 1 bX), .bg 5 bX, .cells (aW v1).cells] (by kernel_rfl) ?_;obtain⟨bC,gg,ct,ik,J⟩:=k00 J;refine re [(10,oE (k:=0) (ma gg)),(19,oR [(.ptr 0 0),(aW bC),(aq v3)] [.aT 219 (bw 1 bX), .bg 5 bX, .cells (aW v1).cells] [0,1] (Jx ik))] [(106,(.bA [])),(105,(aq v3)),(104,(aW bC)),(103,(.bz [eI bC] 0 0)),(102,(.d (.sl (dU v1.bk)))),(101,(.ptr 2 12)),(100,(.ptr 0 0))] [.aT 219 (bw 1 ct), .bg 5 ct, .cells (aW v1).cells] (by kernel_rfl) ?_;refine jz ?_;have hr:=apb J;subst hr;exact rM (by kernel_rfl)
   replace J:=(jI fz).symm.trans J;refine jg (t:=(v1.aJ==18)) (by kernel_rfl) fz ?_;refine bP ?_;refine rg [] [(107,(aZ (v1.aJ==9)))] [.aT 219 (bw 1 v2), .bg 5 v2, .cells (aW v1).cells] (by kernel_rfl) ?_;rcases jK (v1.aJ==9)with fM|fM
   ·replace J:=(fJ fM).symm.trans J;refine jA (t:=(v1.aJ==9)) (by kernel_rfl) fM ?_;obtain⟨v17,jt,J⟩:=dv J;refine re [(10,oR [(.ptr 0 0),(aL (bs [109,105,110])),(aL (bs [])),(.d (.sl (dU v1.bk)))] [.aT 219 (bw 1 v2), .bg 5 v2, .cells (aW v1).cells] [0,1] (H8 jt))] [(112,(.bA [])),(111,(.d (.sl (dU v1.bk)))),(110,(.ptr 2 12)),(109,(.ptr 0 0))] [.aT 219 (bw 1 v17), .bg 5 v17, .cells (aW v1).cells] (by kernel_rfl) ?_;refine jz ?_;have hr:=apb J;subst hr;exact rM (by kernel_rfl)
   replace J:=(jI fM).symm.trans J;refine jg (t:=(v1.aJ==9)) (by kernel_rfl) fM ?_;refine bP ?_;refine rg [] [(113,(aZ (v1.aJ==10)))] [.aT 219 (bw 1 v2), .bg 5 v2, .cells (aW v1).cells] (by kernel_rfl) ?_;rcases jK (v1.aJ==10)with iv|iv
   ·replace J:=(fJ iv).symm.trans J;refine jA (t:=(v1.aJ==10)) (by kernel_rfl) iv ?_;obtain⟨cB,lD,J⟩:=dv J;refine re [(10,oR [(.ptr 0 0),(aL (bs [109,97,120])),(aL (bs [])),(.d (.sl (dU v1.bk)))] [.aT 219 (bw 1 v2), .bg 5 v2, .cells (aW v1).cells] [0,1] (H8 lD))] [(118,(.bA [])),(117,(.d (.sl (dU v1.bk)))),(116,(.ptr 2 12)),(115,(.ptr 0 0))] [.aT 219 (bw 1 cB), .bg 5 cB, .cells (aW v1).cells] (by kernel_rfl) ?_;refine jz ?_;have hr:=apb J;subst hr;exact rM (by kernel_rfl)
   replace J:=(jI iv).symm.trans J;refine jg (t:=(v1.aJ==10)) (by kernel_rfl) iv ?_;refine bP ?_;refine rg [] [(119,(aZ (v1.aJ==11)))] [.aT 219 (bw 1 v2), .bg 5 v2, .cells (aW v1).cells] (by kernel_rfl) ?_;rcases jK (v1.aJ==11)with kr|kr
   ·replace J:=(fJ kr).symm.trans J;refine jA (t:=(v1.aJ==11)) (by kernel_rfl) kr ?_;obtain⟨dA,k9,J⟩:=dv J;refine re [(10,oR [(.ptr 0 0),(aL (bs [105,102])),(aL (bs [])),(.d (.sl (dU v1.bk)))] [.aT 219 (bw 1 v2), .bg 5 v2, .cells (aW v1).cells] [0,1] (H8 k9))] [(124,(.bA [])),(123,(.d (.sl (dU v1.bk)))),(122,(.ptr 2 12)),(121,(.ptr 0 0))] [.aT 219 (bw 1 dA), .bg 5 dA, .cells (aW v1).cells] (by kernel_rfl) ?_;refine jz ?_;have hr:=apb J;subst hr;exact rM (by kernel_rfl)
   replace J:=(jI kr).symm.trans J;refine jg (t:=(v1.aJ==11)) (by kernel_rfl) kr ?_;refine bP ?_;refine rg [] [(125,(aZ (v1.aJ==12)))] [.aT 219 (bw 1 v2), .bg 5 v2, .cells (aW v1).cells] (by kernel_rfl) ?_;rcases jK (v1.aJ==12)with nD|nD
   ·replace J:=(fJ nD).symm.trans J;refine jA (t:=(v1.aJ==12)) (by kernel_rfl) nD ?_;obtain⟨v20,nP,v21,lf,J⟩:=k00 J;refine DR dO (by kernel_rfl) [(10,cK Hu nP),(19,oR [(.ptr 0 0),(aL (bs [99,97,115,116])),(aL v20),(.d (.sl (dU v1.bk)))] [.aT 219 (bw 1 v2), .bg 5 v2, .cells (aW v1).cells] [0,1] (H8 lf))] [(133,(.bA [])),(132,(.d (.sl (dU v1.bk)))),(131,(.ptr 2 12)),(130,(aL v20)),(129,(fV v1.aM)),(128,(.ptr 2 4)),(127,(.ptr 0 0))] [.aT 219 (bw 1 v21), .bg 5 v21, .cells (aW v1).cells] ⟨by kernel_rfl,by kernel_rfl⟩ ?_;refine jz ?_;have hr:=apb J;subst hr;exact rM (by kernel_rfl)
   replace J:=(jI nD).symm.trans J;refine jg (t:=(v1.aJ==12)) (by kernel_rfl) nD ?_;refine bP ?_;obtain⟨v22,qn,v23,sD,J⟩:=k00 J;refine rg [(10,oE (k:=0) (ma qn)),(19,oR [(.ptr 0 0),(aW v22),(aq v3)] [.aT 219 (bw 1 v2), .bg 5 v2, .cells (aW v1).cells] [0,1] (Jx sD))] [] [.aT 219 (bw 1 v23), .bg 5 v23, .cells (aW v1).cells] (by kernel_rfl) ?_;refine bP ?_;obtain⟨v24,qz,J⟩:=dv J;have rK:=oa J;replace J:=(fJ rK).symm.trans J;have we:=oa J;replace J:=(fJ we).symm.trans J;obtain⟨v25,tI,J⟩:=dv J;refine rl dO (by kernel_rfl) [(16,cK agR qz),(19,⟨_,_, .cat (n:=(bs [32]).size+v24.size) (cC rK)⟩),(22,⟨_,_, .cat (n:=((bs [32])++v24).size+(bs [32]).size) (cC we)⟩),(25,oR [(.ptr 0 0),(aL (((bs [32])++v24)++(bs [32])))] [.aT 219 (bw 1 v23), .bg 5 v23, .cells (aW v1).cells] [0,1] (pA _ tI))] [] [.aT 219 (bw 1 v25), .bg 5 v25, .cells (aW v1).cells] ⟨by kernel_rfl,by kernel_rfl⟩ ?_;obtain⟨v26,Pd,cW,M8,J⟩:=k00 J;refine re [(10,oE (k:=1) (ma Pd)),(22,oR [(.ptr 0 0),(aW v26),(aq (bh (v3+(1:Int))))] [.aT 219 (bw 1 v25), .bg 5 v25, .cells (aW v1).cells] [0,1] (Jx M8))] [(34,(.bA [])),(33,(aq (bh (v3+(1:Int))))),(32,(aq v3)),(31,(aW v26)),(30,(.bz [eI v26] 0 0)),(29,(.d (.sl (dU v1.bk)))),(28,(.ptr 2 12)),(27,(.ptr 0 0))] [.aT 219 (bw 1 cW), .bg 5 cW, .cells (aW v1).cells] (by kernel_rfl) ?_
   refine jz ?_;have hr:=apb J;subst hr;exact rM (by kernel_rfl)
  ·intro v1 v2 v3 r J;rw[qx]at J;refine S3 2 Tryz.func208 ?_;obtain⟨v4,h1,J⟩:=dv J;refine wM dO [[],[(7,cK ZC h1)]] ?_;apply bc J<;>intro h2 J
   ·obtain⟨v5,h3,J⟩:=dv J;cases J;exact KJ dO [[(0,bT h2)],[(7,oR [(.ptr 0 0),(aW v1)] [.aT 219 (bw 1 v3), .bg 5 v3, .cells (aW v1).cells] [0,1] (Qd h3))]]
   obtain⟨v6,h4,v7,h5,J⟩:=k00 J;obtain⟨v8,h6,J⟩:=dv J;cases J;exact KJ dO [[(0,bF h2)],[(10,oR [(.ptr 0 0),(aL (bs [40]))] [.aT 219 (bw 1 v3), .bg 5 v3, .cells (aW v1).cells] [0,1] (pA _ h4))],[(7,oR [(.ptr 0 0),(aW v1)] [.aT 219 (bw 1 v6), .bg 5 v6, .cells (aW v1).cells] [0,1] (Qd h5))],[(10,oR [(.ptr 0 0),(aL (bs [41]))] [.aT 219 (bw 1 v7), .bg 5 v7, .cells (aW v1).cells] [0,1] (pA _ h6))]]
  intro v1 v2 v3 v4 r J;rw[rm]at J;refine S3 2 Tryz.func209 ?_;obtain⟨h1,J⟩:=qW J;obtain⟨h2,J⟩:=qW J;obtain⟨v5,h3,J⟩:=dv J;refine wM dO [[(13,⟨_,_, .cat (n:=v1.size+(bs [40]).size) (cC h1)⟩),(19,⟨_,_, .cat (n:=(v1++(bs [40])).size+v2.size) (cC h2)⟩),(22,oR [(.ptr 0 0),(aL ((v1++(bs [40]))++v2))] [.aT 219 (bw 1 v4), .bg 5 v4] [0,1] (pA _ h3))],[(4,oL v3 j0)]] ?_;refine BZ pD 3 v3 λh5=> ?_;refine IP dO 1 [] [0,2,18,19,20] 2 v3 (λv6(v10:apI)=>⟨43,[(0,(.ptr 0 0)),(2,(aL v2)),(18,(.d (.sl (dU v3)))),(19,(aq (v3.length:Int))),(20,(aq (v6:Int)))],[.aT 219 (bw 1 v10), .bg 5 v10]⟩) (rk N v2 (iF N d)) v5 J ?_ ?_
  ·intro v6 v10 h6 J f1;rw[rk]at J;obtain⟨v11,h7,J⟩:=dv J;cases J;exact KJ dO [[],[(0,bF (bK h6))],[(10,oR [(.ptr 0 0),(aL (bs [41]))] [.aT 219 (bw 1 v10), .bg 5 v10] [0,1] (pA _ h7))]]
  intro v6 v8 v9 v10 h6 J f1 aR;rw[rk]at J;refine wM dO [[],[(0,bT (bI h6))],[(4,oE (ma (bt h6)))]] ?_;obtain⟨v12,h9,J⟩:=dv J;refine aaB dO [(30,(aZ v12))] [.aT 219 (bw 1 v10), .bg 5 v10, .cells (aW v8).cells] ?_ ?_
  ·apply bc h9<;>intro h8 h9
   ·cases h9;exact zo [(2,bT h8)] []
   cases h9;exact zo [(2,bF h8)] []
  refine wj1 dO r 2 [] [0,2,9,18,19,20] 3 (λ(ba:apI)=>⟨43,[(0,(.ptr 0 0)),(2,(aL v2)),(9,(.ptr 2 0)),(18,(.d (.sl (dU v3)))),(19,(aq (v3.length:Int))),(20,(aq (v6:Int)))],[.aT 219 (bw 1 ba), .bg 5 ba, .cells (aW v8).cells]⟩) (Fe N (iF N d) v8 (λbm=>rk N v2 (iF N d) v9 (v6+1) bm)) ?_ ?_
  ·intro f2 cM;apply bc J<;>intro bY J
   ·obtain⟨bC,bU,J⟩:=dv J;exact Mb dO cM bC [[(0,bT bY)],[(10,oR [(.ptr 0 0),(aL (bs [44,32]))] [.aT 219 (bw 1 v10), .bg 5 v10, .cells (aW v8).cells] [0,1] (pA _ bU))]] J
   exact Mb dO cM v10 [[(0,bF bY)]] J
  intro ba J;rw[Fe]at J;obtain⟨bX,bM,J⟩:=dv J;exact wb dO aR bX [[(7,oR [(.ptr 0 0),(aW v8)] [.aT 219 (bw 1 ba), .bg 5 ba, .cells (aW v8).cells] [0,1] (Qd bM))],[(2,oq (b5 h6 rfl h5))]] h6 J
theorem aj5{N v1 v2 r}(J:SV N v1 v2=some r):KH 170 [(.ptr 0 0),(aW v1)] ([.aT 219 (bw 1 v2), .bg 5 v2]) (.bA []) ([.aT 219 (bw 1 r), .bg 5 r]):=(anK N N).1 J
def W3(N:Nat)(v1:apI):apJ apI:=some v1
theorem akB{N v1}:KP 79 [(.ptr 0 0)] [.aT 219 (bw 1 v1), .bg 5 v1] aL (λ_=>[.gone, .gone]) (W3 N v1):=aby
def S7(N:Nat)(v1:ar):apJ apI:=
 (wu N v1).bind λv2=>
 bif (v2 !=0)then
  some (bs [])
 else
  Option.bind (SV N v1 (bs [])) λv3=>
  (W3 N v3).bind λv4=>
  some v4
theorem amD{N v1}:KO 129 [(aW v1)] aL (S7 N v1):=
 fw Tryz.func129 (au λv2 h1=>gA [[],[(4,cL (MJ h1))]] (cF λh2=>gA [[f0 h2]] (li (λ_=>(yS 219 1 5 (by kernel_rfl) ·)) (au λv3 h3=>au λv4 h4=>gR [[(7,oR [(.ptr 1 0),(aW v1)] [.cells (aW v1).cells, .aT 219 (bw 2 (bs [])), .bg 5 (bs [])] [1,2] (aj5 h3))],[(10,oR [(.ptr 1 0)] [.cells (aW v1).cells, .aT 219 (bw 2 v3), .bg 5 v3] [1,2] (akB _ h4))]]))))
def I4(N:Nat)(v1:aX):apJ apI:=
 (pj N v1.ao).bind λv2=>
 Option.bind (bif v2 then (Sr N v1.aO).bind λv3=>
 (bif v3 then (Sr N v1.aU).bind λv4=>
 (bif v4 then (qv N v1.aM).bind λv5=>
 some (v5 !=0)else some true)else some true)else some true) λv6=>
 bif v6 then
  some (bs [])
 else
  Option.bind (bif (decide (v1.cr<0))then some true else(bif (decide (v1.cr>5))then some true else(bif (v1.cr==0)then some (decide ((v1.aU.length:Int)>0))else(bif (v1.cr==5)then some (decide ((v1.aU.length:Int)>0))else some false)))) λv7=>
  bif v7 then
   some (bs [])
  else
   (wu N v1.bR).bind λv8=>
   bif (v8 !=0)then
    some (bs [])
   else
    bif (Nat.ble ((bs [100,101,102,32]).size+v1.ao.size) 9223372036854775807)then
    bif (Nat.ble (((bs [100,101,102,32])++v1.ao).size+(bs [58,32]).size) 9223372036854775807)then
    (yW N v1.aM).bind λv9=>
    bif (Nat.ble ((((bs [100,101,102,32])++v1.ao)++(bs [58,32])).size+v9.size) 9223372036854775807)then
    bif (Nat.ble (((((bs [100,101,102,32])++v1.ao)++(bs [58,32]))++v9).size+(bs [91]).size) 9223372036854775807)then
    Option.bind (sb N (v1.aO.length:Int) v1.aO) λv10=>
    bif (Nat.ble ((((((bs [100,101,102,32])++v1.ao)++(bs [58,32]))++v9)++(bs [91])).size+v10.size) 9223372036854775807)then
    bif (Nat.ble (((((((bs [100,101,102,32])++v1.ao)++(bs [58,32]))++v9)++(bs [91]))++v10).size+(bs [93,32,61,32]).size) 9223372036854775807)then
    (Jo N v1).bind λv11=>
    bif (Nat.ble ((((((((bs [100,101,102,32])++v1.ao)++(bs [58,32]))++v9)++(bs [91]))++v10)++(bs [93,32,61,32])).size+v11.size) 9223372036854775807)then
    (S7 N v1.bR).bind λv12=>
    bif (Nat.ble (((((((((bs [100,101,102,32])++v1.ao)++(bs [58,32]))++v9)++(bs [91]))++v10)++(bs [93,32,61,32]))++v11).size+v12.size) 9223372036854775807)then
    bif (Nat.ble ((((((((((bs [100,101,102,32])++v1.ao)++(bs [58,32]))++v9)++(bs [91]))++v10)++(bs [93,32,61,32]))++v11)++v12).size+(bs [59]).size) 9223372036854775807)then
    some ((((((((((bs [100,101,102,32])++v1.ao)++(bs [58,32]))++v9)++(bs [91]))++v10)++(bs [93,32,61,32]))++v11)++v12)++(bs [59]))
    else none
    else none
    else none
    else none
    else none
    else none
    else none
    else none
    else none
theorem aid{N v1}:KO 78 [(fm v1)] aL (I4 N v1):=
 fw Tryz.func78 (gA [[],[]] (au λv2 h1=>gG (λv6=>[(9,(aZ v6))]) (λ_=>[.cells (fm v1).cells]) (c8 (7,cK tO h1) (aC (λh2=>au λv3 h3=>dn (4,bF (dw h2)) (c8 (19,cK Yc h3) (aC (λh4=>au λv4 h5=>dn (9,bF (dw h4)) (c8 (34,cK Yc h5) (aC (λh6=>au λv5 h7=>gE [(14,bF (dw h6))] [(52,cK ya h7)]) λh6=>gE [(14,bT (eC h6))] []))) λh4=>gE [(9,bT (eC h4)),(14,bT rfl)] []))) λh2=>gE [(4,bT (eC h2)),(9,bT rfl),(14,bT rfl)] [])) λv6=>cF λh9=>gA [[f0 h9]] (gG (λv7=>[(30,(aZ v7))]) (λ_=>[.cells (fm v1).cells]) (aC (λbM=>gE [(3,bT bM),(8,bT rfl),(12,uN),(17,uN)] []) λbM=>dn (3,bF bM) (aC (λbY=>gE [(8,bT bY),(12,uN),(17,uN)] []) λbY=>dn (8,bF bY) (aC (λbU=>gE [(12,bT bU),(17,bT rfl)] [(49,bT bU),(58,oL v1.aU eG),(64,bT rfl)]) λbU=>dn (12,bF bU) (c8 (49,bF bU) (aC (λdp=>gE [(17,bT dp)] [(58,oL v1.aU eG),(64,bT dp)]) λdp=>gE [(17,bF dp)] [(64,bF dp)]))))) λv7=>cF λcN=>au λv8 b9=>gA [[f0 cN],[(7,cL (MJ b9))]] (cF λdG=>bl λeM=>bl λfE=>au λv9 dx=>bl λfB=>bl λgY=>au λv10 fP=>bl λfz=>bl λir=>au λv11 gg=>bl λik=>au λv12 fM=>bl λjt=>bl λiv=>gR [[f0 dG],[(7,⟨_,_, .cat (n:=(bs [100,101,102,32]).size+v1.ao.size) (cC eM)⟩),(10,⟨_,_, .cat (n:=((bs [100,101,102,32])++v1.ao).size+(bs [58,32]).size) (cC fE)⟩),(19,cK Hu dx),(22,⟨_,_, .cat (n:=(((bs [100,101,102,32])++v1.ao)++(bs [58,32])).size+v9.size) (cC fB)⟩),(25,⟨_,_, .cat (n:=((((bs [100,101,102,32])++v1.ao)++(bs [58,32]))++v9).size+(bs [91]).size) (cC gY)⟩),(31,oL v1.aO eG),(40,oQ [(aq (v1.aO.length:Int)),(.hid (.dS 127 [.d (.sl (dL v1.aO))]))] [.cells (fm v1).cells] [] (xz _ fP)),(43,⟨_,_, .cat (n:=(((((bs [100,101,102,32])++v1.ao)++(bs [58,32]))++v9)++(bs [91])).size+v10.size) (cC fz)⟩),(46,⟨_,_, .cat (n:=((((((bs [100,101,102,32])++v1.ao)++(bs [58,32]))++v9)++(bs [91]))++v10).size+(bs [93,32,61,32]).size) (cC ir)⟩),(52,cK aiD gg),(55,⟨_,_, .cat (n:=(((((((bs [100,101,102,32])++v1.ao)++(bs [58,32]))++v9)++(bs [91]))++v10)++(bs [93,32,61,32])).size+v11.size) (cC ik)⟩),(64,cK amD fM),(67,⟨_,_, .cat (n:=((((((((bs [100,101,102,32])++v1.ao)++(bs [58,32]))++v9)++(bs [91]))++v10)++(bs [93,32,61,32]))++v11).size+v12.size) (cC jt)⟩),(70,⟨_,_, .cat (n:=(((((((((bs [100,101,102,32])++v1.ao)++(bs [58,32]))++v9)++(bs [91]))++v10)++(bs [93,32,61,32]))++v11)++v12).size+(bs [59]).size) (cC iv)⟩)]]))))
def F9(N:Nat)(v1:aG):apH aX->Nat->apI->apJ apI
 |[],_,v20=>
  Option.bind (DI N (bs [111,117,116]) v1.bW v20) λv21=>
  (yK N v21).bind λv22=>
  some v22
 |cB::dA,ct,v20=>
  (I4 N cB).bind λv23=>
  bif (bL v23==bL (bs []))then
   some (bs [])
  else
   bif (Nat.ble (v23.size+(bs [10]).size) 9223372036854775807)then
   Option.bind (fg N (v23++(bs [10])) v20) λv24=>
   (λme=>F9 N v1 dA (ct+1) me) v24
   else none
def D4(N:Nat)(v1:aG):apH cf->Nat->apI->apJ apI
 |[],_,bC=>
  F9 N v1 v1.aw 0 bC
 |ba::bX,v11,bC=>
  (pj N ba.ao).bind λv25=>
  Option.bind (bif v25 then (qv N ba.aM).bind λv26=>
  (bif (v26 !=0)then some true else (I1 N ba.aO).bind λcW=>
  some (!cW))else some true) λv28=>
  bif v28 then
   some (bs [])
  else
   bif (Nat.ble ((bs [105,110,32]).size+ba.ao.size) 9223372036854775807)then
   bif (Nat.ble (((bs [105,110,32])++ba.ao).size+(bs [58,32]).size) 9223372036854775807)then
   (yW N ba.aM).bind λiB=>
   bif (Nat.ble ((((bs [105,110,32])++ba.ao)++(bs [58,32])).size+iB.size) 9223372036854775807)then
   bif (Nat.ble (((((bs [105,110,32])++ba.ao)++(bs [58,32]))++iB).size+(bs [91]).size) 9223372036854775807)then
   Option.bind (G7 N (ba.aO.length:Int) ba.aO) λv30=>
   bif (Nat.ble ((((((bs [105,110,32])++ba.ao)++(bs [58,32]))++iB)++(bs [91])).size+v30.size) 9223372036854775807)then
   bif (Nat.ble (((((((bs [105,110,32])++ba.ao)++(bs [58,32]))++iB)++(bs [91]))++v30).size+(bs [93,59,10]).size) 9223372036854775807)then
   Option.bind (fg N (((((((bs [105,110,32])++ba.ao)++(bs [58,32]))++iB)++(bs [91]))++v30)++(bs [93,59,10])) bC) λv31=>
   (λiP=>D4 N v1 bX (v11+1) iP) v31
   else none
   else none
   else none
   else none
   else none
   else none
def Ge(N:Nat)(v1:aG):apH cz->Nat->apI->apJ apI
 |[],_,v10=>
  D4 N v1 v1.aE 0 v10
 |v8::v9,v6,v10=>
  (tM N v8).bind λv32=>
  bif (v32 !=0)then
   some (bs [])
  else
   (K3 N v8).bind λv33=>
   bif (Nat.ble ((bs [119,104,101,114,101,32]).size+v33.size) 9223372036854775807)then
   bif (Nat.ble (((bs [119,104,101,114,101,32])++v33).size+(bs [59,10]).size) 9223372036854775807)then
   Option.bind (fg N (((bs [119,104,101,114,101,32])++v33)++(bs [59,10])) v10) λnH=>
   (λbm=>Ge N v1 v9 (v6+1) bm) nH
   else none
   else none
def AL(N:Nat)(v1:aG):apJ apI:=
 (Rq N v1.az).bind λv2=>
 Option.bind (bif v2 then (Rq N v1.bW).bind λv3=>
 some (!v3)else some true) λv4=>
 bif v4 then
  some (bs [])
 else
  Option.bind (DI N (bs [115,105,122,101]) v1.az (bs [])) λv5=>
  Ge N v1 v1.cd 0 v5
def qg(v1:aG)(v10:apI)(l:apH an):apH an:= .cells (eB v1).cells:: .aT 136 (bw 2 v10):: .bg 5 v10::l
theorem akC{N v1}:KO 30 [(eB v1)] aL (AL N v1):=
 fw Tryz.func30 (gA [[]] (au λv2 h1=>gG (λv4=>[(21,(aZ v4))]) (λ_=>[.cells (eB v1).cells]) (c8 (7,cK X3 h1) (aC (λh2=>au λv3 h3=>gE [(4,bF (dw h2))] [(22,cK X3 h3)]) λh2=>gE [(4,bT (eC h2))] [])) λv4=>cF λh5=>gA [[f0 h5]] (li (λ_=>(yS 136 0 5 (by kernel_rfl) ·)) (au λv5 h6=>gA [[(7,oR [(.ptr 1 0),(aL (bs [115,105,122,101])),(.d (.sl (cw v1.az)))] [.cells (eB v1).cells, .aT 136 (bw 2 (bs [])), .bg 5 (bs [])] [1,2] (aaw _ h6))],[(7,oL v1.cd mH)]] (gT wP 26 v1.cd λh8=>gn 1 [] [1,3,26,27,28] 3 (λv6(v10:apI)=>⟨102,[(1,(.ptr 0 0)),(3,(.ptr 1 0)),(26,(.d (.sl (gU v1.cd)))),(27,(aq (v1.cd.length:Int))),(28,(aq (v6:Int)))],(qg v1 v10 [])⟩) (λv6 v10 h9 f1=>gA [[],[f0 (bK h9)],[(7,oL v1.aE ky)]] (gT pV 42 v1.aE λbY=>gn 2 [] [1,3,42,43,44] 3 (λv11(bC:apI)=>⟨102,[(1,(.ptr 0 0)),(3,(.ptr 1 0)),(42,(.d (.sl (iR v1.aE)))),(43,(aq (v1.aE.length:Int))),(44,(aq (v11:Int)))],(qg v1 bC [])⟩) (λv11 bC bU f2=>gA [[],[f0 (bK bU)],[(7,oL v1.aw kp)]] (gT qa 84 v1.aw λdt=>gn 3 [] [1,3,84,85,86] 3 (λct(v20:apI)=>⟨102,[(1,(.ptr 0 0)),(3,(.ptr 1 0)),(84,(.d (.sl (gK v1.aw)))),(85,(aq (v1.aw.length:Int))),(86,(aq (ct:Int)))],(qg v1 v20 [])⟩) (λct v20 cN f3=>au λv21 b9=>au λv22 dG=>gR [[],[f0 (bK cN)],[(7,oR [(.ptr 1 0),(aL (bs [111,117,116])),(.d (.sl (cw v1.bW)))] (qg v1 v20 []) [1,2] (aaw _ b9))],[(1,oR [(.ptr 1 0)] (qg v1 v21 []) [1,2] (A4 _ dG))]]) (λct cB dA v20 cN f3 ie=>au λv23 eM=>gA [[],[t0 (bI cN)],[(1,oE (oY (bt cN)))],[(4,cK aid eM)],[]] (cF λfE=>bl λdx=>au λv24 fB=>gb ie v24 [[f0 fE],[(4,⟨_,_, .cat (n:=v23.size+(bs [10]).size) (cC dx)⟩),(7,oR [(.ptr 1 0),(aL (v23++(bs [10])))] (qg v1 v20 [.cells (fm cB).cells]) [1,2] (gQ _ fB))],[(2,oq (b5 cN rfl dt))]] cN)))) (λv11 ba bX bC bU f2 cM=>gA [[],[t0 (bI bU)],[(1,oE (mC (bt bU)))],[]] (au λv25 gY=>gG (λv28=>[(64,(aZ v28))]) (λ_=>(qg v1 bC [.cells (pK ba).cells])) (c8 (7,cK tO gY) (aC (λfP=>au λv26 fz=>dn (4,bF (dw fP)) (c8 (22,cK ya fz) (aC (λir=>gE [(10,bT ir)] []) λir=>au λcW gg=>gE [(10,bF ir)] [(37,cK Ui gg)]))) λfP=>gE [(4,bT (eC fP)),(10,bT rfl)] [])) λv28=>cF λfM=>gA [[f0 fM]] (bl λjt=>bl λiv=>au λiB lD=>bl λkr=>bl λk9=>au λv30 nD=>bl λnP=>bl λlf=>au λv31 qn=>li (λ_=>(af3 dO [(7,⟨_,_, .cat (n:=(bs [105,110,32]).size+ba.ao.size) (cC jt)⟩),(10,⟨_,_, .cat (n:=((bs [105,110,32])++ba.ao).size+(bs [58,32]).size) (cC iv)⟩),(19,cK Hu lD),(22,⟨_,_, .cat (n:=(((bs [105,110,32])++ba.ao)++(bs [58,32])).size+iB.size) (cC kr)⟩),(25,⟨_,_, .cat (n:=((((bs [105,110,32])++ba.ao)++(bs [58,32]))++iB).size+(bs [91]).size) (cC k9)⟩),(31,oL ba.aO gj),(40,oQ [(aq (ba.aO.length:Int)),(.hid (.dS 77 [.d (.sl (dE ba.aO))]))] (qg v1 bC [.cells (pK ba).cells]) [] (Zx _ nD)),(43,⟨_,_, .cat (n:=(((((bs [105,110,32])++ba.ao)++(bs [58,32]))++iB)++(bs [91])).size+v30.size) (cC nP)⟩),(46,⟨_,_, .cat (n:=((((((bs [105,110,32])++ba.ao)++(bs [58,32]))++iB)++(bs [91]))++v30).size+(bs [93,59,10]).size) (cC lf)⟩),(49,oR [(.ptr 1 0),(aL (((((((bs [105,110,32])++ba.ao)++(bs [58,32]))++iB)++(bs [91]))++v30)++(bs [93,59,10])))] (qg v1 bC [.cells (pK ba).cells]) [1,2] (gQ _ qn))] [] (qg v1 v31 [.cells (pK ba).cells]) ·)) (gb cM v31 [[(2,oq (b5 bU rfl bY))]] bU)))))) (λv6 v8 v9 v10 h9 f1 aR=>au λv32 sD=>gA [[],[t0 (bI h9)],[(1,oE (uL (bt h9)))],[(4,cK Qo sD)]] (cF λqz=>au λv33 rK=>bl λwe=>bl λtI=>au λnH Pd=>gb aR nH [[f0 qz],[(4,cK amC rK),(7,⟨_,_, .cat (n:=(bs [119,104,101,114,101,32]).size+v33.size) (cC we)⟩),(10,⟨_,_, .cat (n:=((bs [119,104,101,114,101,32])++v33).size+(bs [59,10]).size) (cC tI)⟩),(13,oR [(.ptr 1 0),(aL (((bs [119,104,101,114,101,32])++v33)++(bs [59,10])))] (qg v1 v10 [.cells (pf v8).cells]) [1,2] (gQ _ Pd))],[(2,oq (b5 h9 rfl h8))]] h9)))))))
def aac(N:Nat)(v1:dV)(v2:apI):apJ Bool:=
 some (bL v1.ao==bL v2)
theorem ad4{N v1 v2}:KP 32 [(abz v1),(.ptr 0 0)] [.cells [(aL v2)]] aZ (λ_=>[.cells [(aL v2)]]) (aac N v1 v2):=
 fh 1 Tryz.func32 (gH [[],[]])
def AE(N:Nat)(v2:apI):apH dV->Nat->apJ Int
 |[],_=>
  some (-1:Int)
 |v5::v6,v3=>
  (aac N v5 v2).bind λv7=>
  bif v7 then
   some (v3:Int)
  else
   (AE N v2 v6 (v3+1))
def PF(N:Nat)(v1:apH dV)(v2:apI):apJ Int:=
 AE N v2 v1 0
theorem adI{N v1 v2}:KP 31 [(.d (.sl (ja v1))),(.fn 32 [(.ptr 0 0)])] [.cells [(aL v2)]] aq (λ_=>[.cells [(aL v2)]]) (PF N v1 v2):=
 fh 1 Tryz.func31 (gA [[],[(4,oL v1 xp)]] (gT Hy 0 v1 λh2=>fu 1 [] [0,1,7,8] 1 (λv3=>⟨19,[(0,(.d (.sl (ja v1)))),(1,(.fn 32 [(.ptr 0 0)])),(7,(aq (v1.length:Int))),(8,(aq (v3:Int)))],[.cells [(aL v2)]]⟩) (λv3 h3 f1=>gH [[],[f0 (bK h3)],[]]) (λv3 v5 v6 h3 f1 aR=>au λv7 h4=>gA [[],[t0 (bI h3)],[],[(10,oE (De (bt h3))),(16,oQ [(abz v5),(.ptr 0 0)] [.cells [(aL v2)]] [0] (ad4 _ h4))]] (aC (λh5=>gH [[t0 h5],[]]) λh5=>gb aR () [[f0 h5],[(2,oq (b5 h3 rfl h2))]] h3))))
def Cx(N:Nat)(v2:apH dV):apH apI->Nat->apI->apJ (apI×Int)
 |[],_,v9=>
  some (v9,(0:Int))
 |v7::v8,v5,v9=>
  (PF N v2 v7).bind λv10=>
  bif (decide (v10<0))then
   some ((bs []),(9:Int))
  else
   bif (decide ((0:Int)<=v10))then
   Option.bind (v2[(v10).toNat]?) λv11=>
   Option.bind (AG N v11.dK (10:Int)) λv12=>
   bif (Nat.ble ((bs [32]).size+v12.size) 9223372036854775807)then
   bif (Nat.ble (v9.size+((bs [32])++v12).size) 9223372036854775807)then
   (λbm=>Cx N v2 v8 (v5+1) bm) (v9++((bs [32])++v12))
   else none
   else none
   else none
def BI(N:Nat)(v1:aG)(v2:apH dV):apJ (apI×Int):=
 (pE N v1).bind λv3=>
 bif (v3.2 !=0)then
  some ((bs []),v3.2)
 else
  (AL N v3.1).bind λv4=>
  Cx N v2 v1.az 0 v4
theorem UN{N v1 v2}:KO 11 [(eB v1),(.d (.sl (ja v2)))] (λr=> .bA [(aL r.1),(aq r.2)]) (BI N v1 v2):=
 fw Tryz.func11 (au λv3 h1=>gA [[],[(4,cK Da h1)],[]] (cF λh2=>au λv4 h3=>gA [[f0 h2],[(4,cK akC h3)],[(7,oL v1.az fK)]] (gT gi 23 v1.az λh5=>gn 1 [] [1,8,23,24,25] 2 (λv5(v9:apI)=>⟨45,[(1,(.d (.sl (ja v2)))),(8,(aL v9)),(23,(.d (.sl (cw v1.az)))),(24,(aq (v1.az.length:Int))),(25,(aq (v5:Int)))],[.cells (eB v1).cells, .cells (eB v3.1).cells]⟩) (λv5 v9 h6 f1=>gR [[],[f0 (bK h6)],[]]) (λv5 v7 v8 v9 h6 f1 aR=>au λv10 h7=>gA [[],[t0 (bI h6)],[(1,oE (jR (bt h6)))],[(7,oQ [(.d (.sl (ja v2))),(.fn 32 [(.ptr 2 0)])] [.cells (eB v1).cells, .cells (eB v3.1).cells, .cells [(aL v7)]] [2] (adI _ h7))],[]] (cF λh8=>bl λbM=>au λv11 h9=>au λv12 bY=>bl λbU=>bl λdp=>gb aR (v9++((bs [32])++v12)) [[f0 h8],[(10,⟨_,_, .el (xs:=ja v2) (i:=v10) (of_decide_eq_true bM) (De h9)⟩),(19,cK Io bY),(22,⟨_,_, .cat (n:=(bs [32]).size+v12.size) (cC bU)⟩),(25,⟨_,_, .cat (n:=v9.size+((bs [32])++v12).size) (cC dp)⟩)],[(2,oq (b5 h6 rfl h5))]] h6)))))
def VI(N:Nat):apJ ((apH apI)):=
 some [(bs [115,105,122,101]),(bs [119,104,101,114,101]),(bs [105,110]),(bs [100,101,102]),(bs [111,117,116]),(bs [115,117,109]),(bs [112,114,111,100]),(bs [109,105,110]),(bs [109,97,120]),(bs [115,99,97,110]),(bs [111,118,101,114]),(bs [105,102]),(bs [99,97,115,116]),(bs [102,114,97,99]),(bs [105,110,116]),(bs [102,105,120]),(bs [99,101,105,108]),(bs [102,108,111,111,114]),(bs [122,101,114,111]),(bs [101,118,101,110]),(bs [115,97,116]),(bs [119,114,97,112])]
def Kk(N:Nat)(v2:apI):apH apI->Nat->apJ Bool
 |[],_=>
  some false
 |v5::v6,v3=>
  bif (bL v5==bL v2)then
   some true
  else
   (Kk N v2 v6 (v3+1))
def ud(N:Nat)(v1:apH apI)(v2:apI):apJ Bool:=
 Kk N v2 v1 0
theorem ajV{N v1 v2}:KO 15 [(.d (.sl (cw v1))),(aL v2)] aZ (ud N v1 v2):=
 fw Tryz.func15 (gA [[],[]] (gT gi 0 v1 λh2=>fu 1 [] [0,1,5] 0 (λv3=>⟨18,[(0,(.d (.sl (cw v1)))),(1,(aL v2)),(5,(aq (v3:Int)))],[]⟩) (λv3 h3 f1=>gR [[(7,oL v1 fK)],[f0 (bK h3)],[]]) (λv3 v5 v6 h3 f1 aR=>gA [[(7,oL v1 fK)],[t0 (bI h3)],[(7,oE (jR (bt h3)))]] (cF λh4=>gb aR () [[f0 h4],[(5,oq (b5 h3 rfl h2))]] h3))))
def Cu(N:Nat)(v1:apI):Nat->Int->apJ Bool
 |0,_=>none
 |v5+1,v6=>
  bif (decide (v6<(v1.size:Int)))then
   bif (decide ((0:Int)<=v6))then
   Option.bind (v1[(v6).toNat]?) λv7=>
   Option.bind (bif (decide ((v7.toNat:Int)>=97))then(bif (decide ((v7.toNat:Int)<=122))then some (!true)else(bif (decide (v6>0))then(bif (decide ((v7.toNat:Int)>=48))then(bif (decide ((v7.toNat:Int)<=57))then some (!true)else some (!((v7.toNat:Int)==95)))else some (!((v7.toNat:Int)==95)))else some (!false)))else(bif (decide (v6>0))then(bif (decide ((v7.toNat:Int)>=48))then(bif (decide ((v7.toNat:Int)<=57))then some (!true)else some (!((v7.toNat:Int)==95)))else some (!((v7.toNat:Int)==95)))else some (!false))) λv8=>
   bif v8 then
    some false
   else
    (λbm=>Cu N v1 v5 bm) (bh (v6+(1:Int)))
   else none
  else
   some true
def pJ(N:Nat)(v1:apI):apJ Bool:=
 Option.bind (bif (decide ((v1.size:Int)<1))then some true else(bif (decide ((v1.size:Int)>16))then some true else (VI N).bind λv2=>
 (ud N v2 v1).bind λv3=>
 some v3)) λv4=>
 bif v4 then
  some false
 else
  Cu N v1 N (0:Int)
def zJ(N:Nat)(v1:apI)(v2:apH apI):apJ Int:=
 (pJ N v1).bind λv3=>
 bif v3 then
  (ud N v2 v1).bind λv4=>
  bif v4 then
   some (8:Int)
  else
   some (0:Int)
 else
  some (7:Int)
def LJ(N:Nat)(v1:aG):apH apI->Nat->apJ Int
 |[],_=>
  some (0:Int)
 |v5::v6,v3=>
  bif (decide (((v3:Int)).toNat<=v1.az.length))then
  Option.bind (zJ N v5 ((v1.az.take ((v3:Int)).toNat).drop 0)) λv7=>
  bif (v7 !=0)then
   some v7
  else
   (LJ N v1 v6 (v3+1))
  else none
def Ei(N:Nat)(v1:aG):apJ Int:=
 Option.bind (bif (decide ((v1.az.length:Int)>64))then some true else(bif (decide ((v1.aE.length:Int)>64))then some true else(bif (decide ((v1.aw.length:Int)>64))then some true else(bif (decide ((v1.bW.length:Int)>64))then some true else some (decide ((v1.cd.length:Int)>256)))))) λv2=>
 bif v2 then
  some (2:Int)
 else
  LJ N v1 v1.az 0
def HP(N:Nat)(v1:aN):apH bf->Nat->apJ Bool
 |[],_=>
  some true
 |v4::v5,v2=>
  (pJ N v4.ao).bind λv6=>
  Option.bind (bif v6 then(bif (v4.ck.toInt==0)then some true else(bif (decide ((v2:Int)>0))then bif (decide ((0:Int)<=(bh ((v2:Int)-(1:Int)))))then
  Option.bind (v1.xL[((bh ((v2:Int)-(1:Int)))).toNat]?) λv7=>
  some (!(Op.bytesLess (bL v7.ao) (bL v4.ao)))
  else none else some false))else some true) λv8=>
  bif v8 then
   some false
  else
   (HP N v1 v5 (v2+1))
def o6(N:Nat)(v1:aN):apJ Bool:=
 HP N v1 v1.xL 0
def Mm(N:Nat)(v2:apH apI)(v3:apH apI):apH bf->Nat->apJ Bool
 |[],_=>
  some true
 |v6::v7,v4=>
  (ud N v2 v6.ao).bind λv8=>
  Option.bind (bif v8 then some false else (ud N v3 v6.ao).bind λv9=>
  some (!v9)) λv10=>
  bif v10 then
   some false
  else
   (Mm N v2 v3 v7 (v4+1))
def H4(N:Nat)(v1:aN)(v2:apH apI)(v3:apH apI):apJ Bool:=
 Mm N v2 v3 v1.xL 0
def EV(N:Nat)(v1:aN)(v2:apH apI):apJ Int:=
 (o6 N v1).bind λv3=>
 bif v3 then
  Option.bind (H4 N v1 [] v2) λv4=>
  bif v4 then
   some (0:Int)
  else
   some (9:Int)
 else
  some (1:Int)
def qY(N:Nat)(v1:bq):apJ Bool:=
 Option.bind (bif (v1.bS==1)then some true else some (v1.bS==3)) λv2=>
 bif v2 then
  Option.bind (bif (v1.cb==0)then(bif (v1.ca==0)then(bif (v1.cJ==0)then some (v1.cH==0)else some false)else some false)else some false) λv3=>
  some v3
 else
  Option.bind (bif (v1.bS==2)then(bif (decide (v1.cb>=2))then(bif (decide (v1.cb<=31))then(bif (decide (v1.ca>=0))then(bif (decide (v1.ca<=30))then(bif (decide (v1.cJ>=1))then(bif (decide (v1.cJ<=4))then(bif (v1.cH==1)then some true else some (v1.cH==2))else some false)else some false)else some false)else some false)else some false)else some false)else some false) λv4=>
  some v4
def LL(N:Nat)(v2:apH apI):apH aN->Nat->apJ Int
 |[],_=>
  some (0:Int)
 |v8::v9,v6=>
  (EV N v8 v2).bind λv10=>
  bif (v10 !=0)then
   some v10
  else
   (LL N v2 v9 (v6+1))
def Rc(N:Nat)(v1:cf)(v2:apH apI)(v3:apH apI):apJ Int:=
 (zJ N v1.ao v3).bind λv4=>
 bif (v4 !=0)then
  some v4
 else
  (qY N v1.aM).bind λv5=>
  bif v5 then
   bif (decide ((v1.aO.length:Int)>6))then
    some (11:Int)
   else
    LL N v2 v1.aO 0
  else
   some (10:Int)
def Kc(N:Nat)(v2:apH apI):apH bV->Nat->(apH apI)->apJ Int
 |[],_,_=>
  some (0:Int)
 |v5::v6,v3,v7=>
  (zJ N v5.ao v7).bind λv8=>
  bif (v8 !=0)then
   some v8
  else
   (EV N v5.cg v2).bind λv9=>
   bif (v9 !=0)then
    some v9
   else
    bif (Nat.ble ((v7.length+1)*16) 140737488355328)then
    (λbm=>Kc N v2 v6 (v3+1) bm) (v7++[v5.ao])
    else none
def PS(N:Nat)(v1:apH bV)(v2:apH apI):apJ Int:=
 bif (Nat.ble ((0+v2.length)*16) 140737488355328)then
 Kc N v2 v1 0 v2
 else none
def P2(N:Nat)(v1:aX):apJ Int:=
 Option.bind (bif (decide (v1.cr<0))then some true else some (decide (v1.cr>5))) λv2=>
 bif v2 then
  some (1:Int)
 else
  Option.bind (bif (v1.cr==0)then some true else some (v1.cr==5)) λv3=>
  Option.bind (bif (v3==((v1.aU.length:Int)==0))then(bif (v1.cr==5)then some ((v1.aO.length:Int)==0)else some false)else some true) λv4=>
  bif v4 then
   some (11:Int)
  else
   some (0:Int)
def FK(N:Nat):apH bV->Nat->(apH apI)->apJ ((apH apI))
 |[],_,v11=>
  some v11
 |v9::v10,v7,v11=>
  bif (Nat.ble ((v11.length+1)*16) 140737488355328)then
  (λiP=>FK N v10 (v7+1) iP) (v11++[v9.ao])
  else none
def CU(N:Nat)(v1:aX):apH bV->Nat->(apH apI)->apJ ((apH apI))
 |[],_,v6=>
  FK N v1.aU 0 v6
 |v4::v5,v2,v6=>
  bif (Nat.ble ((v6.length+1)*16) 140737488355328)then
  (λbm=>CU N v1 v5 (v2+1) bm) (v6++[v4.ao])
  else none
def Gk(N:Nat)(v1:aX):apJ ((apH apI)):=
 CU N v1 v1.aO 0 []
theorem ak2{N v1}:KO 46 [(fm v1)] (λr=> .d (.sl (cw r))) (Gk N v1):=
 fw Tryz.func46 (gA [[],[],[]] (li (λ_=>(l0 3 9 1 [] (.inr (by kernel_rfl)) ·)) (gB mO 0 6 v1.aO λh2=>gn 1 [] [1,3,4] 2 (λv2(v6:apH apI)=>⟨39,[(1,(.ptr 0 0)),(3,(.own 1 (cw v6))),(4,(aq (v2:Int)))],[.cells (fm v1).cells, .front 9 1 v6.length]⟩) (λv2 v6 h3 f1=>gA [[(10,oL v1.aO eG)],[f0 (bK h3)],[]] (gB mO 0 7 v1.aU λh5=>gn 2 [] [1,3,5] 2 (λv7(v11:apH apI)=>⟨39,[(1,(.ptr 0 0)),(3,(.own 1 (cw v11))),(5,(aq (v7:Int)))],[.cells (fm v1).cells, .front 9 1 v11.length]⟩) (λv7 v11 h6 f2=>gR [[(10,oL v1.aU eG)],[f0 (bK h6)],[]]) (λv7 v9 v10 v11 h6 f2 cM=>bl λh7=>gb cM (v11++[v9.ao]) [[(10,oL v1.aU eG)],[t0 (bI h6)],[(13,oE (lR (bt h6))),(25,oA gi v11 ([v9.ao]) h7)],[(5,oq (b5 h6 rfl h5))]] h6))) (λv2 v4 v5 v6 h3 f1 aR=>bl λh8=>gb aR (v6++[v4.ao]) [[(10,oL v1.aO eG)],[t0 (bI h3)],[(13,oE (lR (bt h3))),(25,oA gi v6 ([v4.ao]) h8)],[(5,oq (b5 h3 rfl h2))]] h3))))
def Aw(N:Nat)(v2:Int)(T1:ar->Int->apJ Int):apH ar->Nat->Int->apJ Int
 |[],_,v7=>
  some v7
 |v5::v6,v3,v7=>
  bif (decide (v2>1))then
   Option.bind (T1 v5 (bh (v2-(1:Int)))) λv8=>
   (λbm=>Aw N v2 T1 v6 (v3+1) bm) (if(bh ((1:Int)+v8))>v7 then(bh ((1:Int)+v8))else v7)
  else
   some v7
def xd(N:Nat):Nat->ar->Int->apJ Int
 |0,_,_=>none
 |d+1,v1,v2=>
  Aw N v2 (xd N d) v1.bk 0 (1:Int)
def Z1(N:Nat)(v1:ar)(v2:Int):apJ Int:=xd N N v1 v2
def YP(N:Nat)(v1:ar):apJ Int:=
 Option.bind (Z1 N v1 (41:Int)) λv2=>
 some v2
def Fz(N:Nat)(v2:Int)(abp:ar->Int->apJ Int):apH ar->Nat->Int->apJ Int
 |[],_,v7=>
  some v7
 |v5::v6,v3,v7=>
  bif (decide (v7<=v2))then
   Option.bind (abp v5 (bh (v2-v7))) λv8=>
   (λbm=>Fz N v2 abp v6 (v3+1) bm) (bh (v7+v8))
  else
   some v7
def zV(N:Nat):Nat->ar->Int->apJ Int
 |0,_,_=>none
 |d+1,v1,v2=>
  Fz N v2 (zV N d) v1.bk 0 (1:Int)
def abg(N:Nat)(v1:ar)(v2:Int):apJ Int:=zV N N v1 v2
def Wy(N:Nat)(v1:ar):apJ Int:=
 Option.bind (abg N v1 (2000:Int)) λv2=>
 some (if(2001:Int)<v2 then(2001:Int)else v2)
def L7(N:Nat):apH bu->Nat->apJ Bool
 |[],_=>
  some true
 |v7::v8,v5=>
  Option.bind (bif (bL v7.bH==bL (bs []))then(bif (decide ((v7.bG.length:Int)>0))then some true else some false)else(bif (v7.aQ.xK.toInt !=0)then some true else some (decide ((v7.aQ.xL.length:Int)>0)))) λv9=>
  bif v9 then
   some false
  else
   (L7 N v8 (v5+1))
def Sz(N:Nat)(v1:ar):apJ Bool:=
 Option.bind (bif (decide (v1.aJ<1))then some true else some (decide (v1.aJ>18))) λv2=>
 bif v2 then
  some false
 else
  Option.bind (bif (v1.aJ !=1)then(bif ((v1.dK.xN.toInt==(0:Int64).toInt)&&((v1.dK.xD.toInt==(0:Int64).toInt)&&true))then(bif (v1.aJ !=12)then some (!((v1.aM.bS==0)&&((v1.aM.cb==0)&&((v1.aM.ca==0)&&((v1.aM.cJ==0)&&((v1.aM.cH==0)&&true))))))else some false)else some true)else some false) λv3=>
  bif v3 then
   some false
  else
   Option.bind (bif (v1.aJ !=2)then(bif (v1.aQ.xK.toInt !=0)then some true else(bif (decide ((v1.aQ.xL.length:Int)>0))then some true else(bif (v1.aJ !=3)then(bif (bL v1.ao==bL (bs []))then some (decide ((v1.xIdx.length:Int)>0))else some true)else some false)))else(bif (v1.aJ !=3)then(bif (bL v1.ao==bL (bs []))then some (decide ((v1.xIdx.length:Int)>0))else some true)else some false)) λv4=>
   bif v4 then
    some false
   else
    L7 N v1.xIdx 0
def L0(N:Nat):apH bu->Nat->apJ Bool
 |[],_=>
  some true
 |v6::v7,v4=>
  Option.bind (bif (bL v6.bH==bL (bs []))then some false else (pJ N v6.bH).bind λv8=>
  some (!v8)) λv9=>
  bif v9 then
   some false
  else
   (L0 N v7 (v4+1))
def Po(N:Nat)(v1:ar):apJ Bool:=
 Option.bind (bif (v1.aJ==3)then (pJ N v1.ao).bind λv2=>
 some (!v2)else some false) λv3=>
 bif v3 then
  some false
 else
  L0 N v1.xIdx 0
def Ie(N:Nat)(v1:Int)(v3:Bool):apJ Int:=
 bif v3 then
  some (1:Int)
 else
  bif (v1==11)then
   some (3:Int)
  else
   some (2:Int)
def Ml(N:Nat)(v1:Int)(v2:Bool):apJ Int:=
 bif v2 then
  some (0:Int)
 else
  bif (v1==8)then
   Ie N v1 (v1==8)
  else
   bif (v1==12)then
    Ie N v1 (v1==12)
   else
    Ie N v1 (v1==18)
def M3(N:Nat)(v1:Int):apJ Int:=
 bif (v1==1)then
  Ml N v1 (v1==1)
 else
  bif (v1==2)then
   Ml N v1 (v1==2)
  else
   Ml N v1 (v1==3)
def I8(N:Nat):apH bu->Nat->apJ Bool
 |[],_=>
  some true
 |v6::v7,v4=>
  bif (decide ((v6.bG.length:Int)>6))then
   some false
  else
   (I8 N v7 (v4+1))
def Pr(N:Nat)(v1:ar):apJ Bool:=
 (M3 N v1.aJ).bind λv2=>
 Option.bind (bif ((v1.bk.length:Int) !=v2)then some true else some (decide ((v1.xIdx.length:Int)>6))) λv3=>
 bif v3 then
  some false
 else
  I8 N v1.xIdx 0
def KD(N:Nat)(v1:ar):apJ Bool:=
 Option.bind (bif (decide (v1.aJ>=13))then some (decide (v1.aJ<=18))else some false) λv2=>
 some v2
def Ss(N:Nat)(v1:Int)(v2:Int):apJ Bool:=
 Option.bind (bif (v1==11)then(bif (v2==0)then some true else(bif (v1==16)then some true else(bif (v1==17)then some true else some (v1==18))))else(bif (v1==16)then some true else(bif (v1==17)then some true else some (v1==18)))) λv3=>
 some v3
def Kt(N:Nat)(v1:ar):apH ar->Nat->apJ Bool
 |[],_=>
  some true
 |v7::v8,v5=>
  (KD N v7).bind λv9=>
  Option.bind (Ss N v1.aJ (v5:Int)) λv10=>
  bif (v9==v10)then
   (Kt N v1 v8 (v5+1))
  else
   some false
def PN(N:Nat)(v1:ar):apJ Bool:=
 Option.bind (bif (v1.aJ==1)then (qY N v1.aM).bind λv2=>
 some (!v2)else(bif (v1.aJ==12)then (qY N v1.aM).bind λv3=>
 some (!v3)else some false)) λv4=>
 bif v4 then
  some false
 else
  Kt N v1 v1.bk 0
def Mf(N:Nat):Nat->Int64->Int64->apJ Int64
 |0,_,_=>none
 |v3+1,v4,v5=>
  bif (v5.toInt !=0)then
   (λbm eY=>Mf N v3 bm eY) v5 (Int64.ofInt ((v4.toInt).tmod v5.toInt))
  else
   some v4
def ZB(N:Nat)(v1:Int64)(v2:Int64):apJ Int64:=
 Mf N N v1 v2
def BP(N:Nat)(v1:bq)(v2:dy):apJ Bool:=
 bif (v1.bS==2)then
  bif (decide ((0:Int)<=(bh (v1.cb-(1:Int)))))then
  Option.bind (bif (v2.xD.toInt==1)then(bif (decide (v2.xN.toInt>=(-(Int64.ofInt ((1:Int)*2^(min ((bh (v1.cb-(1:Int)))).toNat (IntKind.bits .i64))))).toInt))then some (decide (v2.xN.toInt<(Int64.ofInt ((1:Int)*2^(min ((bh (v1.cb-(1:Int)))).toNat (IntKind.bits .i64)))).toInt))else some false)else some false) λv3=>
  some v3
  else none
 else
  Option.bind (bif (decide (v2.xN.toInt>2147483647))then some true else(bif (decide (v2.xN.toInt<(-2147483647:Int)))then some true else(bif (decide (v2.xD.toInt<1))then some true else some (decide (v2.xD.toInt>2147483647))))) λv4=>
  bif v4 then
   some false
  else
   bif (v1.bS==3)then
    some (v2.xD.toInt==1)
   else
    Option.bind (ZB N (F0 v2.xN (-v2.xN)) v2.xD) λv5=>
    some (v5.toInt==1)
def HY(N:Nat)(fk:apJ Bool):apH aN->Nat->apJ Bool
 |[],_=>
  fk
 |ba::bX,v11=>
  (o6 N ba).bind λbC=>
  bif bC then
   (HY N fk bX (v11+1))
  else
   some false
def MB(N:Nat):apH bu->Nat->apJ Bool
 |[],_=>
  some true
 |v8::v9,v6=>
  (o6 N v8.aQ).bind λv10=>
  bif v10 then
   HY N (MB N v9 (v6+1)) v8.bG 0
  else
   some false
def NY(N:Nat)(v1:ar):apJ Bool:=
 Option.bind (bif (v1.aJ==1)then (BP N v1.aM v1.dK).bind λv2=>
 (bif v2 then (o6 N v1.aQ).bind λv3=>
 some (!v3)else some true)else (o6 N v1.aQ).bind λv4=>
 some (!v4)) λv5=>
 bif v5 then
  some false
 else
  MB N v1.xIdx 0
def I3(N:Nat)(TD:ar->apJ Int):apH ar->Nat->apJ Int
 |[],_=>
  some (0:Int)
 |v9::v10,v7=>
  (TD v9).bind λv11=>
  bif (v11 !=0)then
   some v11
  else
   (I3 N TD v10 (v7+1))
def CQ(N:Nat):Nat->ar->apJ Int
 |0,_=>none
 |d+1,v1=>
  (Sz N v1).bind λv2=>
  bif v2 then
   (Po N v1).bind λv3=>
   bif v3 then
    (Pr N v1).bind λv4=>
    bif v4 then
     (PN N v1).bind λv5=>
     bif v5 then
      (NY N v1).bind λv6=>
      bif v6 then
       I3 N (CQ N d) v1.bk 0
      else
       some (1:Int)
     else
      some (10:Int)
    else
     some (11:Int)
   else
    some (7:Int)
  else
   some (5:Int)
def Uv(N:Nat)(v1:ar):apJ Int:=CQ N N v1
def rZ(N:Nat)(v1:ar):apJ Int:=
 (YP N v1).bind λv2=>
 bif (decide (v2>40))then
  some (13:Int)
 else
  (Wy N v1).bind λv3=>
  bif (decide (v3>2000))then
   some (2:Int)
  else
   (Uv N v1).bind λv4=>
   some v4
def Mv(N:Nat)(v2:apH apI)(v1:aG):apH aN->Nat->apJ Int
 |[],_=>
  some (0:Int)
 |v6::v7,v4=>
  (H4 N v6 v2 v1.az).bind λv8=>
  bif v8 then
   (Mv N v2 v1 v7 (v4+1))
  else
   some (9:Int)
def QW(N:Nat)(v1:aG)(v2:apH apI)(v3:apH aN):apJ Int:=
 Mv N v2 v1 v3 0
def GG(N:Nat)(v9:aX):apH bV->Nat->(apH aN)->apJ (bq×(apH aN)×Bool)
 |[],_,bC=>
  some (v9.aM,bC,true)
 |ba::bX,v11,bC=>
  bif (Nat.ble ((bC.length+1)*32) 140737488355328)then
  (λme=>GG N v9 bX (v11+1) me) (bC++[ba.cg])
  else none
def H7(N:Nat)(v2:apI):apH aX->Nat->apJ (bq×(apH aN)×Bool)
 |[],_=>
  some (gr,[],false)
 |v9::v10,v7=>
  bif (bL v9.ao==bL v2)then
   GG N v9 v9.aO 0 []
  else
   (H7 N v2 v10 (v7+1))
def Cl(N:Nat)(v2:apI)(v1:aG):apH cf->Nat->apJ (bq×(apH aN)×Bool)
 |[],_=>
  H7 N v2 v1.aw 0
 |v5::v6,v3=>
  bif (bL v5.ao==bL v2)then
   some (v5.aM,v5.aO,true)
  else
   (Cl N v2 v1 v6 (v3+1))
def JZ(N:Nat)(v1:aG)(v2:apI):apJ (bq×(apH aN)×Bool):=
 Cl N v2 v1 v1.aE 0
def Cp(N:Nat)(v4:bq×(apH aN)×Bool)(v2:apH apI)(v1:aG):apH bu->Nat->apJ (bq×Int)
 |[],_=>
  some (v4.1,(0:Int))
 |v7::v8,v5=>
  bif (bL v7.bH==bL (bs []))then
   (H4 N v7.aQ v2 v1.az).bind λv9=>
   bif v9 then
    (Cp N v4 v2 v1 v8 (v5+1))
   else
    some (gr,(9:Int))
  else
   (JZ N v1 v7.bH).bind λv10=>
   bif v10.2.2 then
    bif (v10.1.bS !=3)then
     some (gr,(10:Int))
    else
     bif ((v10.2.1.length:Int) !=(v7.bG.length:Int))then
      some (gr,(11:Int))
     else
      (QW N v1 v2 v7.bG).bind λv11=>
      bif (v11 !=0)then
       some (gr,v11)
      else
       (Cp N v4 v2 v1 v8 (v5+1))
   else
    some (gr,(9:Int))
def Pw(N:Nat)(v1:aG)(v2:apH apI)(v3:ar):apJ (bq×Int):=
 (JZ N v1 v3.ao).bind λv4=>
 bif v4.2.2 then
  bif ((v4.2.1.length:Int) !=(v3.xIdx.length:Int))then
   some (gr,(11:Int))
  else
   Cp N v4 v2 v1 v3.xIdx 0
 else
  some (gr,(9:Int))
def lN(N:Nat)(v3:ar)(v1:aG)(v2:apH apI)(Tt:aG->(apH apI)->ar->apJ (bq×Int)):apH ar->Nat->(apH bq)->apJ (bq×Int)
 |[],_,v8=>
  Option.bind (bif (v3.aJ==1)then some true else some (v3.aJ==12)) λv9=>
  bif v9 then
   some (v3.aM,(0:Int))
  else
   bif (v3.aJ==2)then
    Option.bind (QW N v1 v2 [v3.aQ]) λv10=>
    some ((⟨(3:Int),(0:Int),(0:Int),(0:Int),(0:Int)⟩:bq),v10)
   else
    bif (v3.aJ==3)then
     (Pw N v1 v2 v3).bind λv11=>
     some (v11.1,v11.2)
    else
     bif (v3.aJ==11)then
      Option.bind (v8[1]?) λv12=>
      Option.bind (v8[2]?) λba=>
      bif ((v12.bS==ba.bS)&&((v12.cb==ba.cb)&&((v12.ca==ba.ca)&&((v12.cJ==ba.cJ)&&((v12.cH==ba.cH)&&true)))))then
       some (v12,(0:Int))
      else
       some (gr,(10:Int))
     else
      bif (v3.aJ==8)then
       Option.bind (v8[0]?) λbX=>
       some (bX,(0:Int))
      else
       bif (decide (v3.aJ>=16))then
        some (gr,(0:Int))
       else
        Option.bind (v8[0]?) λbC=>
        Option.bind (v8[1]?) λct=>
        bif ((bC.bS==ct.bS)&&((bC.cb==ct.cb)&&((bC.ca==ct.ca)&&((bC.cJ==ct.cJ)&&((bC.cH==ct.cH)&&true)))))then
         bif (decide (v3.aJ>=13))then
          some (gr,(0:Int))
         else
          some (bC,(0:Int))
        else
         some (gr,(10:Int))
 |v6::v7,v4,v8=>
  (Tt v1 v2 v6).bind λv17=>
  bif (v17.2 !=0)then
   some (gr,v17.2)
  else
   bif (Nat.ble ((v8.length+1)*40) 140737488355328)then
   (λbm=>lN N v3 v1 v2 Tt v7 (v4+1) bm) (v8++[v17.1])
   else none
def sX(N:Nat):Nat->aG->(apH apI)->ar->apJ (bq×Int)
 |0,_,_,_=>none
 |d+1,v1,v2,v3=>
  lN N v3 v1 v2 (sX N d) v3.bk 0 []
def w9(N:Nat)(v1:aG)(v2:apH apI)(v3:ar):apJ (bq×Int):=sX N N v1 v2 v3
def pn(N:Nat)(v1:aG)(v2:apH apI)(v3:ar):apJ (bq×Int):=
 (rZ N v3).bind λv4=>
 bif (v4 !=0)then
  some (gr,v4)
 else
  (KD N v3).bind λv5=>
  bif v5 then
   some (gr,(10:Int))
  else
   (w9 N v1 v2 v3).bind λv6=>
   bif (v6.2 !=0)then
    some (gr,v6.2)
   else
    some (v6.1,(0:Int))
def tU(N:Nat)(v1:aG)(v2:Int)(v3:apH apI):apJ Int:=
 bif (decide ((0:Int)<=v2))then
 Option.bind (v1.aw[(v2).toNat]?) λv4=>
 (zJ N v4.ao v3).bind λv5=>
 bif (v5 !=0)then
  some v5
 else
  (qY N v4.aM).bind λv6=>
  bif v6 then
   Option.bind (bif (decide ((v4.aO.length:Int)>6))then some true else some (decide ((v4.aU.length:Int)>6))) λv7=>
   bif v7 then
    some (11:Int)
   else
    bif (Nat.ble ((0+v4.aO.length)*48) 140737488355328)then
    bif (Nat.ble ((v4.aO.length+v4.aU.length)*48) 140737488355328)then
    Option.bind (PS N (v4.aO++v4.aU) v1.az) λv8=>
    bif (v8 !=0)then
     some v8
    else
     (P2 N v4).bind λv9=>
     bif (v9 !=0)then
      some v9
     else
      bif (decide ((v2).toNat<=v1.aw.length))then
      (Gk N v4).bind λv10=>
      Option.bind (pn N (⟨v1.az,[],v1.aE,((v1.aw.take (v2).toNat).drop 0),[]⟩:aG) v10 v4.bR) λv11=>
      bif (v11.2 !=0)then
       some v11.2
      else
       bif ((v11.1.bS==v4.aM.bS)&&((v11.1.cb==v4.aM.cb)&&((v11.1.ca==v4.aM.ca)&&((v11.1.cJ==v4.aM.cJ)&&((v11.1.cH==v4.aM.cH)&&true)))))then
        some (0:Int)
       else
        some (10:Int)
      else none
    else none
    else none
  else
   some (10:Int)
 else none
def mU(N:Nat)(v1:aG):apH apI->Nat->Int->apJ (Int×Int)
 |[],_,_=>
  some ((0:Int),(0:Int))
 |v21::v22,dA,v23=>
  (JZ N v1 v21).bind λv24=>
  bif v24.2.2 then
   bif (decide (((dA:Int)).toNat<=v1.bW.length))then
   Option.bind (ud N ((v1.bW.take ((dA:Int)).toNat).drop 0) v21) λv25=>
   bif v25 then
    some (v23,(8:Int))
   else
    (λnA=>mU N v1 v22 (dA+1) nA) (bh (v23+(1:Int)))
   else none
  else
   some (v23,(9:Int))
def l7(N:Nat)(v1:aG):apH aX->Nat->(apH apI)->Int->apJ (Int×Int)
 |[],_,_,cB=>
  mU N v1 v1.bW 0 cB
 |bC::ct,ba,v17,cB=>
  Option.bind (tU N v1 (ba:Int) v17) λv26=>
  bif (v26 !=0)then
   some (cB,v26)
  else
   bif (Nat.ble ((v17.length+1)*16) 140737488355328)then
   (λme O8=>l7 N v1 ct (ba+1) me O8) (v17++[bC.ao]) (bh (cB+(1:Int)))
   else none
def nQ(N:Nat)(v1:aG):apH cf->Nat->(apH apI)->Int->apJ (Int×Int)
 |[],_,v11,v12=>
  l7 N v1 v1.aw 0 v11 v12
 |v9::v10,v7,v11,v12=>
  (Rc N v9 v1.az v11).bind λcW=>
  bif (cW !=0)then
   some (v12,cW)
  else
   bif (Nat.ble ((v11.length+1)*16) 140737488355328)then
   (λiP afD=>nQ N v1 v10 (v7+1) iP afD) (v11++[v9.ao]) (bh (v12+(1:Int)))
   else none
def Dv(N:Nat)(v1:aG):apH cz->Nat->apJ (Int×Int)
 |[],_=>
  bif (Nat.ble ((0+v1.az.length)*16) 140737488355328)then
  nQ N v1 v1.aE 0 v1.az (2:Int)
  else none
 |v5::v6,v3=>
  (EV N v5.aQ v1.az).bind λv28=>
  bif (v28 !=0)then
   some ((1:Int),v28)
  else
   (Dv N v1 v6 (v3+1))
def pY(N:Nat)(v1:aG):apJ (Int×Int):=
 (Ei N v1).bind λv2=>
 bif (v2 !=0)then
  some ((0:Int),v2)
 else
  Dv N v1 v1.cd 0
def AB(N:Nat)(v1:Int64):apJ Int:=
 bif (decide (v1.toInt<0))then
  some (IntKind.u64.wrap ((IntKind.u64.wrap (-(v1+(1:Int64))).toInt)+(1:Int)))
 else
  some (IntKind.u64.wrap v1.toInt)
theorem aa5{N v1}:KO 91 [(de v1)] (λr=> .d (.v (.int .u64 r))) (AB N v1):=
 fw Tryz.func91 (gA [[],[]] (rH λh1=>gR [[t0 h1],[(5,⟨_,_, .eq (akh v1 (1:Int64))⟩),(8,⟨_,_, .eq (Nx (v1+(1:Int64)))⟩)]]))
def FY(N:Nat):Nat->Int->apI->apJ apI
 |0,_,_=>none
 |v2+1,v3,v4=>
  bif (decide (v3>=10))then
   bif (decide ((0:Int)<=((v3).tmod (10:Int))))then
   bif (decide ((0:Int)<=(IntKind.u64.wrap (((v3).tmod (10:Int))+(1:Int)))))then
   bif (decide ((((v3).tmod (10:Int))).toNat<=((IntKind.u64.wrap (((v3).tmod (10:Int))+(1:Int)))).toNat))then
   bif (decide (((IntKind.u64.wrap (((v3).tmod (10:Int))+(1:Int)))).toNat<=(bs [48,49,50,51,52,53,54,55,56,57]).size))then
   bif (Nat.ble (((bs [48,49,50,51,52,53,54,55,56,57]).extract (((v3).tmod (10:Int))).toNat ((IntKind.u64.wrap (((v3).tmod (10:Int))+(1:Int)))).toNat).size+v4.size) 9223372036854775807)then
   (λbm eY=>FY N v2 bm eY) (IntKind.u64.wrap ((v3).tdiv (10:Int))) (((bs [48,49,50,51,52,53,54,55,56,57]).extract (((v3).tmod (10:Int))).toNat ((IntKind.u64.wrap (((v3).tmod (10:Int))+(1:Int)))).toNat)++v4)
   else none
   else none
   else none
   else none
   else none
  else
   bif (decide ((0:Int)<=v3))then
   bif (decide ((0:Int)<=(IntKind.u64.wrap (v3+(1:Int)))))then
   bif (decide ((v3).toNat<=((IntKind.u64.wrap (v3+(1:Int)))).toNat))then
   bif (decide (((IntKind.u64.wrap (v3+(1:Int)))).toNat<=(bs [48,49,50,51,52,53,54,55,56,57]).size))then
   bif (Nat.ble (((bs [48,49,50,51,52,53,54,55,56,57]).extract (v3).toNat ((IntKind.u64.wrap (v3+(1:Int)))).toNat).size+v4.size) 9223372036854775807)then
   some (((bs [48,49,50,51,52,53,54,55,56,57]).extract (v3).toNat ((IntKind.u64.wrap (v3+(1:Int)))).toNat)++v4)
   else none
   else none
   else none
   else none
   else none
def HQ(N:Nat)(v1:Int):apJ apI:=
 FY N N v1 (bs [])
theorem ZL{N v1}:KO 90 [(.d (.v (.int .u64 v1)))] aL (HQ N v1):=
 fw Tryz.func90 (yO 1 [[],[]] [0,3] 0 (λ(v3:Int)(v4:apI)=>⟨22,[(0,(.d (.v (.int .u64 v3)))),(3,(aL v4))],[]⟩) (FY N) (λv2 v3 v4 f1 aR=>gA [[]] (aC (λh1=>bl λh2=>bl λh3=>bl λh4=>bl λh5=>bl λh6=>qO aR ((IntKind.u64.wrap ((v3).tdiv (10:Int))),(((bs [48,49,50,51,52,53,54,55,56,57]).extract (((v3).tmod (10:Int))).toNat ((IntKind.u64.wrap (((v3).tmod (10:Int))+(1:Int)))).toNat)++v4)) [[t0 h1],[(4,⟨_,_, .nz (b:=10) (by decide)⟩),(10,⟨_,_, .nz (b:=10) (by decide)⟩),(16,⟨_,_, .str (b:=(bs [48,49,50,51,52,53,54,55,56,57])) (lo:=((v3).tmod (10:Int))) (hi:=(IntKind.u64.wrap (((v3).tmod (10:Int))+(1:Int)))) (of_decide_eq_true h2) (of_decide_eq_true h4) (of_decide_eq_true h3) (of_decide_eq_true h5)⟩),(22,⟨_,_, .cat (n:=((bs [48,49,50,51,52,53,54,55,56,57]).extract (((v3).tmod (10:Int))).toNat ((IntKind.u64.wrap (((v3).tmod (10:Int))+(1:Int)))).toNat).size+v4.size) (cC h6)⟩)],[(4,⟨_,_, .nz (b:=10) (by decide)⟩)]]) λh1=>bl λh7=>bl λh8=>bl λh9=>bl λbM=>bl λbY=>gR [[f0 h1],[(10,⟨_,_, .str (b:=(bs [48,49,50,51,52,53,54,55,56,57])) (lo:=v3) (hi:=(IntKind.u64.wrap (v3+(1:Int)))) (of_decide_eq_true h7) (of_decide_eq_true h9) (of_decide_eq_true h8) (of_decide_eq_true bM)⟩),(16,⟨_,_, .cat (n:=((bs [48,49,50,51,52,53,54,55,56,57]).extract (v3).toNat ((IntKind.u64.wrap (v3+(1:Int)))).toNat).size+v4.size) (cC bY)⟩)]])))
def nO(N:Nat)(v1:Int64):apJ apI:=
 bif (decide (v1.toInt<0))then
  (AB N v1).bind λv2=>
  (HQ N v2).bind λv3=>
  bif (Nat.ble ((bs [45]).size+v3.size) 9223372036854775807)then
  some ((bs [45])++v3)
  else none
 else
  (AB N v1).bind λv4=>
  (HQ N v4).bind λv5=>
  some v5
theorem aeh{N v1}:KO 35 [(de v1)] aL (nO N v1):=
 fw Tryz.func35 (gA [[],[]] (aC (λh1=>au λv2 h2=>au λv3 h3=>bl λh4=>gR [[t0 h1],[(4,cK aa5 h2),(7,cK ZL h3),(10,⟨_,_, .cat (n:=(bs [45]).size+v3.size) (cC h4)⟩)]]) λh1=>au λv4 h5=>au λv5 h6=>gR [[f0 h1],[(4,cK aa5 h5),(7,cK ZL h6)]]))
def GV(N:Nat)(v1:apI)(v2:Int):apJ apI:=
 bif (bh v2==v2)then
 Option.bind (nO N (Int64.ofInt v2)) λv3=>
 bif (Nat.ble (v1.size+v3.size) 9223372036854775807)then
 some (v1++v3)
 else none
 else none
theorem ald{N v1 v2}:KO 98 [(aL v1),(aq v2)] aL (GV N v1 v2):=
 fw Tryz.func98 (bl λh1=>au λv3 h2=>bl λh3=>gR [[],[(5,⟨_,_, .eq (U6 (beq_iff_eq.1 h1))⟩),(7,cK aeh h2),(10,⟨_,_, .cat (n:=v1.size+v3.size) (cC h3)⟩)]])
end Go.Proofs.YtmkmibahjanejaaGreatDoor
