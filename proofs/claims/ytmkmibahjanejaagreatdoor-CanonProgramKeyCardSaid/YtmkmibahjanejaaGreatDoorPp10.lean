/-
  Part 10 of the proof: PK2, PK3, PK4.
-/
import Derived.Test.YtmkmibahjanejaaGreatDoorPp9
namespace Go.Proofs.YtmkmibahjanejaaGreatDoor
open Go.RowKit
set_option maxRecDepth 100000
set_option maxHeartbeats 0
set_option linter.unusedVariables false
theorem k00{α β γ:Type}{a:Option α}{b:α->Option β}{f:α->β->Option γ}{r:γ}(h:Option.bind a (λx=>Option.bind (b x) (f x))=some r):∃x,a=some x/\∃y,b x=some y/\f x y=some r:=have⟨x,p,h⟩:=dw h;have⟨y,q,h⟩:=dw h;⟨x,p,y,q,h⟩
theorem zf{α β:Type}{P:α->β->Prop}(a:α)(b:β)(h:P a b:=by kernel_rfl):∃a b,P a b:=⟨a,b,h⟩
def aci:aK:=⟨[],[],[],[],[]⟩
def rF:aqx AV:=[(ar (0:Int)),(ar (0:Int)),(ar (0:Int)),(ar (0:Int)),(ar (0:Int))]
def QM:aqx AV:=[(cQ (0:Int64)),(.d (.v (.slice none 0 0)))]
def L0:aqx AV:=[(ar (0:Int)),(aC (bs [])),(cQ (0:Int64)),(cQ (0:Int64)),(ar (0:Int)),(ar (0:Int)),(ar (0:Int)),(ar (0:Int)),(ar (0:Int)),(cQ (0:Int64)),(.d (.v (.slice none 0 0))),(.d (.v (.slice none 0 0))),(.d (.v (.slice none 0 0)))]
def zc3:aqx AV:=[(.d (.v (.slice none 0 0))),(.d (.v (.slice none 0 0))),(.d (.v (.slice none 0 0))),(.d (.v (.slice none 0 0))),(.d (.v (.slice none 0 0)))]
def Yz(v:au)(r:aqx AV):aqx AV:=(cQ v.dM.xN)::(cQ v.dM.xD)::(ar v.aO.b7)::(ar v.aO.cp)::(ar v.aO.cq)::(ar v.aO.cU)::(ar v.aO.cS)::r
def cf2(v:au)(r:aqx AV):aqx AV:=(ar v.aJ)::(aC v.ao)::(cQ v.dM.xN)::(cQ v.dM.xD)::(ar v.aO.b7)::(ar v.aO.cp)::(ar v.aO.cq)::(ar v.aO.cU)::(ar v.aO.cS)::r
def xF(N:Nat):aqx au->aqz Int
 |[]=>
  some (0:Int)
 |v5::v6=>
  (DF N v5).bind λv7=>
  bif (v7 !=0)then
   some v7
  else
   (xF N v6)
def uW(N:Nat)(v1:au):aqz Int:=
 (Pm N v1).bind λv2=>
 bif (decide (v2>40))then
  some (13:Int)
 else
  (Dq N v1).bind λv3=>
  bif (decide (v3>2000))then
   some (2:Int)
  else
   (Jh N v1).bind λv4=>
   xF N (cM v4)
def pz(v1:au)(l:aqx an):aqx an:= .cells (aN v1).cells:: .cells [(ar (0:Int))]::l
def N1(v1:au)(kC:Code)(j9:Code)(v4:au)(v5:au)(l:aqx an):aqx an:=pz v1 (.lp .busy 13 kC j9 (eI 19 [(2,(.ptr 1 0)),(12,(.fn 197 [(.bJ [e7 v4] 0 0)]))]):: .cells (aN v5).cells::l)
def Ci(v1:au)(l:aqx an):aqx an:= .cells (aN v1).cells::l
theorem RD{N v1 r}(J:uW N v1=some r):KF 126 [(aN v1)] (ar r):=by
 rw[uW]at J;refine Ca Tryz.func126 rfl (by kernel_rfl) ?_;refine mJ [0] 0 (apU _) (s':=⟨19,[(0,(aN v1))],[]⟩) (by kernel_rfl) ?_;refine bW ?_;refine rg [] [(1,(.ptr 0 0)),(2,(.ptr 1 0))] (pz v1 []) (by kernel_rfl) ?_;refine bW ?_;refine bW ?_;obtain⟨v2,h1,J⟩:=dw J;refine rg [(4,cK ac5 h1)] [(7,(aM (decide (v2>40))))] (pz v1 []) (by kernel_rfl) ?_;rcases jQ (decide (v2>40))with h2|h2
 ·replace J:=(fU h2).symm.trans J;refine jI (t:=(decide (v2>40))) (by kernel_rfl) h2 ?_;refine bW ?_;refine rg [] [] (Ci v1 [.cells [(ar (13:Int))]]) (by kernel_rfl) ?_;refine gN (jN ?_);have hr:=ap2 J;subst hr;exact mg (by kernel_rfl)
 replace J:=(jX h2).symm.trans J;refine jj (t:=(decide (v2>40))) (by kernel_rfl) h2 ?_;refine jn ?_;refine dL ?_;refine bW ?_;refine bW ?_;obtain⟨v3,h3,J⟩:=dw J;refine rg [(4,cL (aen h3))] [(10,(aM (decide (v3>2000))))] (pz v1 []) (by kernel_rfl) ?_;rcases jQ (decide (v3>2000))with h4|h4
 ·replace J:=(fU h4).symm.trans J;refine jI (t:=(decide (v3>2000))) (by kernel_rfl) h4 ?_;refine bW ?_;refine rg [] [] (Ci v1 [.cells [(ar (2:Int))]]) (by kernel_rfl) ?_;refine gN (jN ?_);have hr:=ap2 J;subst hr;exact mg (by kernel_rfl)
 replace J:=(jX h4).symm.trans J;refine jj (t:=(decide (v3>2000))) (by kernel_rfl) h4 ?_;refine jn ?_;refine dL ?_;refine bW ?_;refine bW ?_;obtain⟨v4,h5,J⟩:=dw J;refine rg [(4,cL (X3 h5))] [(12,(.fn 197 [(.bJ [e7 v4] 0 0)]))] (pz v1 []) (by kernel_rfl) ?_;refine ky ?_;refine mJ [2,12] 2 (apR rfl) (s':=⟨19,[(2,(.ptr 1 0)),(12,(.fn 197 [(.bJ [e7 v4] 0 0)]))],(pz v1 [])⟩) (by kernel_rfl) ?_;refine SE (m:=2) (enc:=aN) (xs:=(cM v4)) (by kernel_rfl) (WT v4) (λ(_:Unit)=>(pz v1 [])) (λ(_:Unit) l=>xF N l=some r) () (by kernel_rfl) J (by rintro _;rfl) (by rintro _;kernel_rfl) (by kernel_rfl) rfl ?_ ?_
 ·rintro _ v5 v6 J h6 kC j9
  try dsimp only at J
  rw[xF]at J;refine mJ [2,13] 3 (apU _) (s':=⟨19,[(2,(.ptr 1 0)),(13,(aN v5))],(pz v1 [.lp .ready 13 kC j9 (eI 19 [(2,(.ptr 1 0)),(12,(.fn 197 [(.bJ [e7 v4] 0 0)]))])])⟩) (by kernel_rfl) ?_;refine re [] [(3,(.ptr 3 0))] (pz v1 [.lp .ready 13 kC j9 (eI 19 [(2,(.ptr 1 0)),(12,(.fn 197 [(.bJ [e7 v4] 0 0)]))]), .cells (aN v5).cells]) (by kernel_rfl) ?_;refine dL ?_;refine⟨(pz v1 []),(Ci v5 []),rfl,(by kernel_rfl),?_⟩;refine mJ [2,3] 4 (apR rfl) (s':=⟨19,[(2,(.ptr 1 0)),(3,(.ptr 3 0))],(N1 v1 kC j9 v4 v5 [])⟩) (by kernel_rfl) ?_;refine ky ?_;refine bW ?_;obtain⟨v7,h7,J⟩:=dw J;refine rg [(4,cL (anY h7))] [(4,(ar v7))] (N1 v1 kC j9 v4 v5 []) (by kernel_rfl) ?_;refine bW ?_;refine rg [] [(17,(aM (v7 !=0)))] (N1 v1 kC j9 v4 v5 []) (by kernel_rfl) ?_;rcases jQ (v7 !=0)with h8|h8
  ·replace J:=(fU h8).symm.trans J;refine jI (t:=(v7 !=0)) (by kernel_rfl) h8 ?_;refine bW ?_;refine rg [] [] (Ci v1 [.cells [(ar v7)], .lp .busy 13 kC j9 (eI 19 [(2,(.ptr 1 0)),(12,(.fn 197 [(.bJ [e7 v4] 0 0)]))]), .cells (aN v5).cells]) (by kernel_rfl) ?_;refine gN (lE ?_);refine Y0 (Ci v1 [.cells [(ar v7)]]) rfl (by kernel_rfl) (by kernel_rfl) ?_;refine(lE (jN ?_));have hr:=ap2 J;subst hr;exact mg (by kernel_rfl)
  replace J:=(jX h8).symm.trans J;refine jj (t:=(v7 !=0)) (by kernel_rfl) h8 ?_;refine jn ?_;refine jK ?_;refine Nw (pz v1 []) rfl (by kernel_rfl) (by kernel_rfl) ?_;exact⟨(),(by kernel_rfl),J⟩
 rintro _ J
 try dsimp only at J
 rw[xF]at J;refine jK ?_;refine dL ?_;refine bW ?_;refine rg [] [] (pz v1 [.gone]) (by kernel_rfl) ?_;refine gN ?_;have hr:=ap2 J;subst hr;exact mg (by kernel_rfl)
def Kh(N:Nat)(v3:aqx (aqy×Int)):aqx bt->Nat->aqz Int
 |[],_=>
  some (0:Int)
 |v6::v7,v4=>
  bif ((eZ v3 v6.ao 0)==0)then
   some (9:Int)
  else
   (Kh N v3 v7 (v4+1))
def De(N:Nat)(v1:aR)(v2:aK)(v3:aqx (aqy×Int)):aqz Int:=
 Kh N v3 v1.xL 0
theorem OT{N v1 v2 v3}:KP 181 [(.ptr 0 0),(cE v1)] [.cells (fI v2 [(.mp 1)]), .map (e8 v3)] ar (λ_=>[.cells (fI v2 [(.mp 1)]), .map (e8 v3)]) (De N v1 v2 v3):=
 fh 2 Tryz.func181 (gA [[],[(7,oL v1.xL eK)]] (gT lI 8 v1.xL λh2=>dK 1 [] [0,8,9,10] 3 (λv4=>⟨23,[(0,(.ptr 0 0)),(8,(.d (.sl (dh v1.xL)))),(9,(ar (v1.xL.length:Int))),(10,(ar (v4:Int)))],[.cells (fI v2 [(.mp 1)]), .map (e8 v3), .cells (cE v1).cells]⟩) (λv4 h3 f1=>gH [[],[f0 (bj h3)],[]]) (λv4 v6 v7 h3 f1 aB=>gA [[],[t0 (bk h3)],[(1,oE (j7 (aW h3)))],[(20,⟨_,_, .eq (D7 false v3 v6.ao)⟩)]] (aw (λh4=>gH [[t0 h4],[]]) λh4=>gb aB () [[f0 h4],[(2,oq (bE h3 rfl h2))]] h3))))
def SK(N:Nat)(v1:aqx bt):aqz (aqx bt):=bif Nat.ble (v1.length*24) 140737488355328 then some v1 else none
theorem anQ{N v1 r}(J:SK N v1=some r):ij Tryz.prog 267 [(.d (.sl (dh v1)))] (·=(.d (.sl (dh r)))):=by
 obtain⟨hb,rfl⟩:=eH J;have hc:=IK hb (by decide);exact ajN wP (by rw[eK];exact hc.1) (by rw[eK];exact hc.2)
def EW(N:Nat)(v1:aR):aqz aR:=
 (SK N v1.xL).bind λv2=>
 some (⟨v1.xK,v2⟩:aR)
theorem WN{N v1}:KO 250 [(cE v1)] cE (EW N v1):=
 fw Tryz.func250 (aq λv2 h1=>gR [[],[(13,cL (anQ h1))]])
def FP(N:Nat):aqx aR->Nat->(aqx aR)->aqz ((aqx aR))
 |[],_,v6=>
  some v6
 |v4::v5,v2,v6=>
  (EW N v4).bind λv7=>
  bif (Nat.ble ((v6.length+1)*32) 140737488355328)then
  (λbq=>FP N v5 (v2+1) bq) (v6++[v7])
  else none
def IP(N:Nat)(v1:aqx aR):aqz ((aqx aR)):=
 FP N v1 0 []
theorem agb{N v1}:KO 248 [(.d (.sl (c6 v1)))] (λr=> .d (.sl (c6 r))) (IP N v1):=
 fw Tryz.func248 (gA [[],[],[(4,oL v1 dT)]] (li (λ_=>(l8 3 52 2 [] (.inr (by kernel_rfl)) ·)) (gT lh 0 v1 λh2=>eM 1 [] [3,6,7,8] 1 (λv2(v6:aqx aR)=>⟨19,[(3,(.own 0 (c6 v6))),(6,(.d (.sl (c6 v1)))),(7,(ar (v1.length:Int))),(8,(ar (v2:Int)))],[.front 52 2 v6.length]⟩) (λv2 v6 h3 f1=>gR [[],[f0 (bj h3)],[]]) (λv2 v4 v5 v6 h3 f1 aB=>aq λv7 h4=>aF λh5=>gb aB (v6++[v7]) [[],[t0 (bk h3)],[(1,oE (k9 (aW h3)))],[(7,cK WN h4),(13,oA lh v6 ([v7]) h5)],[(2,oq (bE h3 rfl h2))]] h3))))
def OP(N:Nat)(v1:bf)(v2:aqy):aqz Bool:=
 some (bL v1.ao==bL v2)
theorem agd{N v1 v2}:KP 266 [(ep v1),(.ptr 0 0)] [.cells [(aC v2)]] aM (λ_=>[.cells [(aC v2)]]) (OP N v1 v2):=
 fh 1 Tryz.func266 (gH [[],[]])
def Kk(N:Nat)(v2:aqy):aqx bf->Nat->aqz Int
 |[],_=>
  some (-1:Int)
 |v5::v6,v3=>
  (OP N v5 v2).bind λv7=>
  bif v7 then
   some (v3:Int)
  else
   (Kk N v2 v6 (v3+1))
def QT(N:Nat)(v1:aqx bf)(v2:aqy):aqz Int:=
 Kk N v2 v1 0
theorem amH{N v1 v2}:KP 265 [(.d (.sl (gh v1))),(.fn 266 [(.ptr 0 0)])] [.cells [(aC v2)]] ar (λ_=>[.cells [(aC v2)]]) (QT N v1 v2):=
 fh 1 Tryz.func265 (gA [[],[(4,oL v1 gY)]] (gT nA 0 v1 λh2=>dK 1 [] [0,1,7,8] 1 (λv3=>⟨19,[(0,(.d (.sl (gh v1)))),(1,(.fn 266 [(.ptr 0 0)])),(7,(ar (v1.length:Int))),(8,(ar (v3:Int)))],[.cells [(aC v2)]]⟩) (λv3 h3 f1=>gH [[],[f0 (bj h3)],[]]) (λv3 v5 v6 h3 f1 aB=>aq λv7 h4=>gA [[],[t0 (bk h3)],[],[(10,oE (jH (aW h3))),(16,oQ [(ep v5),(.ptr 0 0)] [.cells [(aC v2)]] [0] (agd _ h4))]] (aw (λh5=>gH [[t0 h5],[]]) λh5=>gb aB () [[f0 h5],[(2,oq (bE h3 rfl h2))]] h3))))
def JI(N:Nat)(v1:aK)(v2:aqy):aqz Int:=
 (QT N v1.ay v2).bind λv3=>
 some v3
theorem aeB{N v1 v2}:KO 249 [(cX v1),(aC v2)] ar (JI N v1 v2):=
 fw Tryz.func249 (aq λv3 h1=>gR [[],[(10,oQ [(.d (.sl (gh v1.ay))),(.fn 266 [(.ptr 1 0)])] [.cells (cX v1).cells, .cells [(aC v2)]] [1] (amH _ h1))]])
def Ct(N:Nat)(v8:bf):aqx cd->Nat->(aqx aR)->aqz (bA×(aqx aR)×Bool)
 |[],_,ba=>
  some (v8.aO,ba,true)
 |v11::v12,v9,ba=>
  (EW N v11.cw).bind λb8=>
  bif (Nat.ble ((ba.length+1)*32) 140737488355328)then
  (λiW=>Ct N v8 v12 (v9+1) iW) (ba++[b8])
  else none
def Fp(N:Nat)(v1:aK)(v2:aqy):aqx cv->Nat->aqz (bA×(aqx aR)×Bool)
 |[],_=>
  (JI N v1 v2).bind λv7=>
  bif (decide (v7>=0))then
   bif (decide ((0:Int)<=v7))then
   Option.bind (v1.ay[(v7).toNat]?) λv8=>
   Ct N v8 v8.aP 0 []
   else none
  else
   some (gF,[],false)
 |v5::v6,v3=>
  bif (bL v5.ao==bL v2)then
   (IP N v5.aP).bind λv15=>
   some (v5.aO,v15,true)
  else
   (Fp N v1 v2 v6 (v3+1))
def Mw(N:Nat)(v1:aK)(v2:aqy):aqz (bA×(aqx aR)×Bool):=
 Fp N v1 v2 v1.aG 0
theorem Wb{N v1 v2}:KO 218 [(cX v1),(aC v2)] (λr=> .bz [(dH r.1),(.d (.sl (c6 r.2.1))),(aM r.2.2)]) (Mw N v1 v2):=
 fw Tryz.func218 (gA [[],[(7,oL v1.aG iy)]] (gT ny 14 v1.aG λh2=>dK 1 [] [1,2,4,14,15,16] 2 (λv3=>⟨61,[(1,(aC v2)),(2,(.ptr 0 0)),(4,(.ptr 1 0)),(14,(.d (.sl (iT v1.aG)))),(15,(ar (v1.aG.length:Int))),(16,(ar (v3:Int)))],[.cells (cX v1).cells, .cells rF]⟩) (λv3 h3 f1=>aq λv7 h4=>gA [[],[f0 (bj h3)],[(7,cK aeB h4)],[]] (lT λh5=>aF λh7=>aq λv8 h6=>gA [[t0 h5],[],[(10,⟨_,_, .el (xs:=gh v1.ay) (i:=v7) (of_decide_eq_true h7) (jH h6)⟩),(19,oL v8.aP dB)]] (li (λ_=>(l8 10 52 2 [] (.inr (by kernel_rfl)) ·)) (gT kW 40 v8.aP λh9=>eM 2 [] [2,4,9,10,40,41,42] 3 (λv9(ba:aqx aR)=>⟨61,[(2,(.ptr 0 0)),(4,(.ptr 1 0)),(9,(ar v7)),(10,(.own 2 (c6 ba))),(40,(.d (.sl (du v8.aP)))),(41,(ar (v8.aP.length:Int))),(42,(ar (v9:Int)))],[.cells (cX v1).cells, .cells rF, .front 52 2 ba.length]⟩) (λv9 ba aU f2=>gR [[],[f0 (bj aU)],[(10,⟨_,_, .el (xs:=gh v1.ay) (i:=v7) (of_decide_eq_true h7) (jH h6)⟩)]]) (λv9 v11 v12 ba aU f2 ca=>aq λb8 bh=>aF λbn=>gb ca (ba++[b8]) [[],[t0 (bk aU)],[(1,oE (iE (aW aU)))],[(10,cK WN bh),(16,oA lh ba ([b8]) bn)],[(2,oq (bE aU rfl h9))]] aU))))) (λv3 v5 v6 h3 f1 aB=>gA [[],[t0 (bk h3)],[(1,oE (jy (aW h3)))],[]] (aw (λb5=>aq λv15 bZ=>gR [[t0 b5],[(13,cK agb bZ)]]) λb5=>gb aB () [[f0 b5],[(2,oq (bE h3 rfl h2))]] h3))))
def Jp(N:Nat)(v2:aK)(v3:aqx (aqy×Int)):aqx aR->Nat->aqz Int
 |[],_=>
  some (0:Int)
 |v8::v9,v6=>
  (De N v8 v2 v3).bind λv10=>
  bif (v10 !=0)then
   some v10
  else
   (Jp N v2 v3 v9 (v6+1))
def Lr(N:Nat)(v1:bH)(v2:aK)(v3:aqx (aqy×Int)):aqz Int:=
 bif (bL v1.bR==bL (bs []))then
  (De N v1.aS v2 v3).bind λv4=>
  some v4
 else
  (Mw N v2 v1.bR).bind λv5=>
  bif v5.2.2 then
   bif (v5.1.b7 !=3)then
    some (10:Int)
   else
    bif ((v1.bO.length:Int) !=(v5.2.1.length:Int))then
     some (11:Int)
    else
     Jp N v2 v3 v1.bO 0
  else
   some (9:Int)
def O1(v2:aK)(v3:aqx (aqy×Int))(v1:bH)(l:aqx an):aqx an:= .cells (fI v2 [(.mp 1)]):: .map (e8 v3):: .cells (fZ v1).cells::l
theorem an8{N v1 v2 v3}:KP 219 [(.ptr 0 0),(fZ v1)] [.cells (fI v2 [(.mp 1)]), .map (e8 v3)] ar (λ_=>[.cells (fI v2 [(.mp 1)]), .map (e8 v3)]) (Lr N v1 v2 v3):=
 fh 2 Tryz.func219 (gA [[],[]] (aw (λh1=>aq λv4 h2=>gH [[t0 h1],[(10,oQ [(.ptr 0 0),(cE v1.aS)] (O1 v2 v3 v1 []) [0,1] (OT _ h2))]]) λh1=>aq λv5 h3=>gA [[f0 h1],[(19,cK Wb h3)],[]] (aw (λh4=>gA [[f0 (cb h4)],[]] (aw (λh5=>gH [[t0 h5],[]]) λh5=>gA [[f0 h5],[(7,oL v1.bO dT),(13,oL v5.2.1 dT)]] (aw (λh6=>gH [[t0 h6],[]]) λh6=>gA [[f0 h6],[(7,oL v1.bO dT)]] (gT lh 44 v1.bO λh8=>dK 1 [] [0,44,45,46] 4 (λv6=>⟨57,[(0,(.ptr 0 0)),(44,(.d (.sl (c6 v1.bO)))),(45,(ar (v1.bO.length:Int))),(46,(ar (v6:Int)))],(O1 v2 v3 v1 [.cells (dH v5.1).cells])⟩) (λv6 h9 f1=>gH [[],[f0 (bj h9)],[]]) (λv6 v8 v9 h9 f1 aB=>aq λv10 aU=>gA [[],[t0 (bk h9)],[(1,oE (k9 (aW h9)))],[(7,oQ [(.ptr 0 0),(cE v8)] (O1 v2 v3 v1 [.cells (dH v5.1).cells, .cells (cE v8).cells]) [0,1] (OT _ aU))],[]] (aw (λbh=>gH [[t0 bh],[]]) λbh=>gb aB () [[f0 bh],[(2,oq (bE h9 rfl h8))]] h9)))))) λh4=>gH [[t0 (cW h4)],[]])))
def JW(N:Nat)(v4:bA×(aqx aR)×Bool)(v2:aK)(v3:aqx (aqy×Int)):aqx bH->Nat->aqz (bA×Int)
 |[],_=>
  some (v4.1,(0:Int))
 |v7::v8,v5=>
  (Lr N v7 v2 v3).bind λv9=>
  bif (v9 !=0)then
   some (gF,v9)
  else
   (JW N v4 v2 v3 v8 (v5+1))
def ME(N:Nat)(v1:au)(v2:aK)(v3:aqx (aqy×Int)):aqz (bA×Int):=
 (Mw N v2 v1.ao).bind λv4=>
 bif v4.2.2 then
  bif ((v1.xIdx.length:Int) !=(v4.2.1.length:Int))then
   some (gF,(11:Int))
  else
   JW N v4 v2 v3 v1.xIdx 0
 else
  some (gF,(9:Int))
theorem adG{N v1 v2 v3}:KP 182 [(.ptr 0 0),(aN v1)] [.cells (fI v2 [(.mp 1)]), .map (e8 v3)] (λr=> .bz [(dH r.1),(ar r.2)]) (λ_=>[.cells (fI v2 [(.mp 1)]), .map (e8 v3)]) (ME N v1 v2 v3):=
 fh 2 Tryz.func182 (aq λv4 h1=>gA [[],[(19,cK Wb h1)],[]] (aw (λh2=>gA [[f0 (cb h2)],[(7,oL v1.xIdx fx),(13,oL v4.2.1 dT)]] (aw (λh3=>gH [[t0 h3],[]]) λh3=>gA [[f0 h3],[(7,oL v1.xIdx fx)]] (gT lX 34 v1.xIdx λh5=>dK 1 [] [0,4,6,34,35,36] 5 (λv5=>⟨49,[(0,(.ptr 0 0)),(4,(.ptr 3 0)),(6,(.ptr 4 0)),(34,(.d (.sl (cZ v1.xIdx)))),(35,(ar (v1.xIdx.length:Int))),(36,(ar (v5:Int)))],[.cells (fI v2 [(.mp 1)]), .map (e8 v3), .cells (aN v1).cells, .cells rF, .cells (dH v4.1).cells]⟩) (λv5 h6 f1=>gH [[],[f0 (bj h6)],[]]) (λv5 v7 v8 h6 f1 aB=>aq λv9 h7=>gA [[],[t0 (bk h6)],[(1,oE (gx (aW h6)))],[(7,oQ [(.ptr 0 0),(fZ v7)] [.cells (fI v2 [(.mp 1)]), .map (e8 v3), .cells (aN v1).cells, .cells rF, .cells (dH v4.1).cells, .cells (fZ v7).cells] [0,1] (an8 _ h7))],[]] (aw (λh8=>gH [[t0 h8],[]]) λh8=>gb aB () [[f0 h8],[(2,oq (bE h6 rfl h5))]] h6))))) λh2=>gH [[t0 (cW h2)],[]]))
def Df(N:Nat)(v1:bA)(v2:bA):aqz Int:=
 bif ((v1.b7==v2.b7)&&((v1.cp==v2.cp)&&((v1.cq==v2.cq)&&((v1.cU==v2.cU)&&((v1.cS==v2.cS)&&true)))))then
  some (0:Int)
 else
  some (10:Int)
theorem O6{N v1 v2}:KO 180 [(dH v1),(dH v2)] ar (Df N v1 v2):=
 fw Tryz.func180 (gA [[],[]] (C8 λh1=>gR [[t0 (cW h1)],[]]))
def CY(N:Nat)(v8:aqx bA)(v17:Bool):aqz (bA×Int):=
 bif v17 then
  Option.bind (v8[0]?) λcJ=>
  Option.bind (v8[1]?) λdy=>
  (Df N cJ dy).bind λv20=>
  some (gF,v20)
 else
  Option.bind (v8[0]?) λv21=>
  Option.bind (v8[1]?) λv22=>
  (Df N v21 v22).bind λv23=>
  some (v21,v23)
def Cb(N:Nat)(v1:au)(v8:aqx bA)(cu:Bool):aqz (bA×Int):=
 bif cu then
  some (gF,(0:Int))
 else
  bif (v1.aJ==13)then
   CY N v8 (v1.aJ==13)
  else
   bif (v1.aJ==14)then
    CY N v8 (v1.aJ==14)
   else
    CY N v8 (v1.aJ==15)
def L4(N:Nat)(v1:au)(v2:aK)(v3:aqx (aqy×Int))(v8:aqx bA)(v9:Bool):aqz (bA×Int):=
 bif v9 then
  some (v1.aO,(0:Int))
 else
  bif (v1.aJ==2)then
   (De N v1.aS v2 v3).bind λv10=>
   some ((⟨(3:Int),(0:Int),(0:Int),(0:Int),(0:Int)⟩:bA),v10)
  else
   bif (v1.aJ==3)then
    (ME N v1 v2 v3).bind λv11=>
    some (v11.1,v11.2)
   else
    bif (v1.aJ==8)then
     Option.bind (v8[0]?) λv12=>
     some (v12,(0:Int))
    else
     bif (v1.aJ==11)then
      Option.bind (v8[1]?) λba=>
      Option.bind (v8[2]?) λb8=>
      (Df N ba b8).bind λv15=>
      some (ba,v15)
     else
      bif (v1.aJ==16)then
       Cb N v1 v8 (v1.aJ==16)
      else
       bif (v1.aJ==17)then
        Cb N v1 v8 (v1.aJ==17)
       else
        Cb N v1 v8 (v1.aJ==18)
def w9(N:Nat)(v1:au)(v2:aK)(v3:aqx (aqy×Int))(abr:au->aK->(aqx (aqy×Int))->aqz (bA×Int)):aqx au->Nat->(aqx bA)->aqz (bA×Int)
 |[],_,v8=>
  bif (v1.aJ==1)then
   L4 N v1 v2 v3 v8 (v1.aJ==1)
  else
   L4 N v1 v2 v3 v8 (v1.aJ==12)
 |v6::v7,v4,v8=>
  (abr v6 v2 v3).bind λv24=>
  bif (v24.2 !=0)then
   some (gF,v24.2)
  else
   bif (Nat.ble ((v8.length+1)*40) 140737488355328)then
   (λbq=>w9 N v1 v2 v3 abr v7 (v4+1) bq) (v8++[v24.1])
   else none
def xg(N:Nat):Nat->au->aK->(aqx (aqy×Int))->aqz (bA×Int)
 |0,_,_,_=>none
 |d+1,v1,v2,v3=>
  w9 N v1 v2 v3 (xg N d) v1.bp 0 []
def Qb(N:Nat)(v1:au)(v2:aK)(v3:aqx (aqy×Int)):aqz (bA×Int):=xg N N v1 v2 v3
def yx(v2:aK)(v3:aqx (aqy×Int))(v1:au)(v8:aqx bA)(l:aqx an):aqx an:= .cells (fI v2 [(.mp 1)]):: .map (e8 v3):: .cells (aN v1).cells:: .cells rF:: .front 56 5 v8.length::l
theorem aeq(N:Nat):∀d:Nat,(∀{v1:au}{v2:aK}{v3:aqx (aqy×Int)},KP 142 [(.ptr 0 0),(aN v1)] [.cells (fI v2 [(.mp 1)]), .map (e8 v3)] (λr=> .bz [(dH r.1),(ar r.2)]) (λ_=>[.cells (fI v2 [(.mp 1)]), .map (e8 v3)]) (xg N d v1 v2 v3)):=by
 intro d
 induction d with
 |zero=>intro v1 v2 v3 r J;rw[xg]at J;cases J
 |succ d ih=>
  have ahk:= @ih;intro v1 v2 v3;rw[xg];exact fh 2 Tryz.func142 (gA [[],[],[(7,oL v1.bp gq)]] (li (λ_=>(l8 6 56 5 [] (.inr (by kernel_rfl)) ·)) (gT lK 13 v1.bp λh2=>eM 1 [] [0,3,4,6,13,14,15] 5 (λv4(v8:aqx bA)=>⟨102,[(0,(.ptr 0 0)),(3,(.ptr 2 0)),(4,(.ptr 3 0)),(6,(.own 4 (ox v8))),(13,(.d (.sl (dW v1.bp)))),(14,(ar (v1.bp.length:Int))),(15,(ar (v4:Int)))],(yx v2 v3 v1 v8 [])⟩) (λv4 v8 h3 f1=>eB 2 [[],[(0,bF (bj h3))],[],[],[]] [0,3,4,6,11,35,36] 5 (λ(v9:Bool)=>⟨102,[(0,(.ptr 0 0)),(3,(.ptr 2 0)),(4,(.ptr 3 0)),(6,(.own 4 (ox v8))),(11,(.fn 180 [])),(35,(ar v1.aJ)),(36,(aM v9))],(yx v2 v3 v1 v8 [])⟩) (L4 N v1 v2 v3 v8) (λf2 ca=>aw (λfG=>gm ca (v1.aJ==1) [[(0,bT fG)]]) λfG=>gm ca (v1.aJ==12) [[(0,bF fG)],[]]) (λv9=>aw (λh4=>gH [[(0,bT h4)],[]]) λh4=>gA [[(0,bF h4)],[]] (aw (λh5=>aq λv10 h6=>gH [[(0,bT h5)],[(13,oQ [(.ptr 0 0),(cE v1.aS)] (yx v2 v3 v1 v8 []) [0,1] (OT _ h6))]]) λh5=>gA [[(0,bF h5)],[]] (aw (λh7=>aq λv11 h8=>gH [[(0,bT h7)],[(7,oQ [(.ptr 0 0),(aN v1)] (yx v2 v3 v1 v8 []) [0,1] (adG _ h8))]]) λh7=>gA [[(0,bF h7)],[]] (aw (λh9=>aq λv12 aU=>gH [[(0,bT h9)],[(4,oE (k:=0) (lS aU))]]) λh9=>gA [[(0,bF h9)],[]] (aw (λbh=>aq λba bn=>aq λb8 b5=>aq λv15 bZ=>gH [[(0,bT bh)],[(4,oE (k:=1) (lS bn)),(16,oE (k:=1) (lS bn)),(25,oE (k:=2) (lS b5)),(31,cK O6 bZ)]]) λbh=>eB 3 [[(0,bF bh)],[]] [4,6,11,35,73] 5 (λ(cu:Bool)=>⟨102,[(4,(.ptr 3 0)),(6,(.own 4 (ox v8))),(11,(.fn 180 [])),(35,(ar v1.aJ)),(73,(aM cu))],(yx v2 v3 v1 v8 [])⟩) (Cb N v1 v8) (λf3 fu=>aw (λfQ=>gm fu (v1.aJ==16) [[(0,bT fQ)]]) λfQ=>gA [[(0,bF fQ)],[]] (aw (λe9=>gm fu (v1.aJ==17) [[(0,bT e9)]]) λe9=>gm fu (v1.aJ==18) [[(0,bF e9)],[]])) (λcu=>aw (λbK=>gH [[(0,bT bK)],[]]) λbK=>eB 4 [[(0,bF bK)],[]] [4,6,11,78] 5 (λ(v17:Bool)=>⟨102,[(4,(.ptr 3 0)),(6,(.own 4 (ox v8))),(11,(.fn 180 [])),(78,(aM v17))],(yx v2 v3 v1 v8 [])⟩) (CY N v8) (λf4 iF=>aw (λdQ=>gm iF (v1.aJ==13) [[(0,bT dQ)]]) λdQ=>gA [[(0,bF dQ)],[]] (aw (λeG=>gm iF (v1.aJ==14) [[(0,bT eG)]]) λeG=>gm iF (v1.aJ==15) [[(0,bF eG)],[]])) (λv17=>aw (λbV=>aq λcJ cA=>aq λdy dv=>aq λv20 eu=>gH [[(0,bT bV)],[(10,oE (k:=0) (lS cA)),(19,oE (k:=1) (lS dv)),(25,cK O6 eu)]]) λbV=>aq λv21 cH=>aq λv22 dN=>aq λv23 fe=>gH [[(0,bF bV)],[(4,oE (k:=0) (lS cH)),(16,oE (k:=0) (lS cH)),(25,oE (k:=1) (lS dN)),(31,cK O6 fe)]])))))))) (λv4 v6 v7 v8 h3 f1 aB=>aq λv24 gg=>gA [[],[(0,bT (bk h3))],[(1,oE (fX (aW h3)))],[(7,oQ [(.ptr 0 0),(aN v6)] (yx v2 v3 v1 v8 [.cells (aN v6).cells]) [0,1] (ahk _ gg))],[]] (aw (λiw=>gH [[(0,bT iw)],[]]) λiw=>aF λgL=>gb aB (v8++[v24.1]) [[(0,bF iw)],[(10,oA XR v8 ([v24.1]) gL)],[(2,oq (bE h3 rfl h2))]] h3)))))
theorem anS{N v1 v2 v3}:KP 142 [(.ptr 0 0),(aN v1)] [.cells (fI v2 [(.mp 1)]), .map (e8 v3)] (λr=> .bz [(dH r.1),(ar r.2)]) (λ_=>[.cells (fI v2 [(.mp 1)]), .map (e8 v3)]) (Qb N v1 v2 v3):=(aeq N N)
def xw(N:Nat)(v3:au)(v1:aK):aqx aqy->Nat->(aqx (aqy×Int))->aqz (bA×Int)
 |[],_,v15=>
  (Qb N v3 v1 v15).bind λcu=>
  bif (cu.2 !=0)then
   some (gF,cu.2)
  else
   some (cu.1,(0:Int))
 |ba::b8,v11,v15=>
  bif (Nat.blt v15.length 9223372036854775807)then
  (λiW=>xw N v3 v1 b8 (v11+1) iW) ((ba,(3:Int))::v15)
  else none
def Lo(N:Nat)(v3:au)(v1:aK)(v2:aqx aqy):aqx aqy->Nat->(aqx (aqy×Int))->aqz (bA×Int)
 |[],_,v10=>
  xw N v3 v1 v2 0 v10
 |v8::v9,v6,v10=>
  bif (Nat.blt v10.length 9223372036854775807)then
  (λbq=>Lo N v3 v1 v2 v9 (v6+1) bq) ((v8,(1:Int))::v10)
  else none
def LH(N:Nat)(v1:aK)(v2:aqx aqy)(v3:au):aqz (bA×Int):=
 (uW N v3).bind λv4=>
 bif (v4 !=0)then
  some (gF,v4)
 else
  (CE N v3).bind λv5=>
  bif v5 then
   some (gF,(10:Int))
  else
   Lo N v3 v1 v2 v1.aA 0 []
def Qg(v1:aK)(v3:au)(v10:aqx (aqy×Int))(l:aqx an):aqx an:= .cells (cX v1).cells:: .cells (aN v3).cells:: .cells rF:: .map (e8 v10):: .cells (fI v1 [(.mp 3)])::l
theorem aif{N v1 v2 v3}:KO 96 [(cX v1),(.d (.sl (b6 v2))),(aN v3)] (λr=> .bz [(dH r.1),(ar r.2)]) (LH N v1 v2 v3):=
 fw Tryz.func96 (aq λv4 h1=>gA [[],[(4,cL (RD h1))],[]] (bB λh2=>aq λv5 h3=>gA [[f0 h2],[(4,cK Vl h3)]] (bB λh4=>gA [[f0 h4],[],[(7,oL v1.aA dX)]] (gT fb 30 v1.aA λh6=>eM 1 [] [1,5,6,9,30,31,32] 5 (λv6(v10:aqx (aqy×Int))=>⟨65,[(1,(.d (.sl (b6 v2)))),(5,(.ptr 1 0)),(6,(.ptr 2 0)),(9,(.ptr 4 0)),(30,(.d (.sl (b6 v1.aA)))),(31,(ar (v1.aA.length:Int))),(32,(ar (v6:Int)))],(Qg v1 v3 v10 [])⟩) (λv6 v10 h7 f1=>gA [[],[f0 (bj h7)],[(4,oL v2 dX)]] (gT fb 1 v2 λh9=>eM 2 [] [5,6,9,42,43,44] 5 (λv11(v15:aqx (aqy×Int))=>⟨65,[(5,(.ptr 1 0)),(6,(.ptr 2 0)),(9,(.ptr 4 0)),(42,(.d (.sl (b6 v2)))),(43,(ar (v2.length:Int))),(44,(ar (v11:Int)))],(Qg v1 v3 v15 [])⟩) (λv11 v15 aU f2=>aq λcu bh=>gA [[],[f0 (bj aU)],[(7,oQ [(.ptr 4 0),(aN v3)] (Qg v1 v3 v15 []) [4,3] (anS _ bh))],[]] (bB λbn=>gR [[f0 bn],[]])) (λv11 ba b8 v15 aU f2 ca=>aF λb5=>gb ca ((ba,(3:Int))::v15) [[],[t0 (bk aU)],[(1,oE (ik (aW aU)))],[(16,⟨_,_, .sd (o:= .none) (Sb b5)⟩)],[(2,oq (bE aU rfl h9))]] aU))) (λv6 v8 v9 v10 h7 f1 aB=>aF λbZ=>gb aB ((v8,(1:Int))::v10) [[],[t0 (bk h7)],[(1,oE (ik (aW h7)))],[(16,⟨_,_, .sd (o:= .none) (Sb bZ)⟩)],[(2,oq (bE h7 rfl h6))]] h7)))))
def I0(N:Nat)(v1:Int)(v2:aK)(v3:aqx (aqy×Int)):aqz (Int×(aqx (aqy×Int))):=
 bif (decide ((0:Int)<=v1))then
 Option.bind (v2.ay[(v1).toNat]?) λv4=>
 Option.bind (Bg N v4.ao (2:Int) v2 v3) λv5=>
 bif (v5.1 !=0)then
  some (v5.1,v5.2)
 else
  Option.bind (xu N v4.aO ([(v4.aP.length:Int),(v4.aY.length:Int)])) λv6=>
  bif (v6 !=0)then
   some (v6,v5.2)
  else
   (Jc N v4 v2 v5.2).bind λv7=>
   bif (v7 !=0)then
    some (v7,v5.2)
   else
    (MB N v4).bind λv8=>
    bif (v8 !=0)then
     some (v8,v5.2)
    else
     bif (decide ((v1).toNat<=v2.ay.length))then
     (Gm N v4).bind λv9=>
     Option.bind (LH N (⟨v2.aA,v2.cr,v2.aG,((v2.ay.take (v1).toNat).drop 0),v2.b9⟩:aK) v9 v4.cg) λv10=>
     bif (v10.2 !=0)then
      some (v10.2,v5.2)
     else
      bif ((v10.1.b7==v4.aO.b7)&&((v10.1.cp==v4.aO.cp)&&((v10.1.cq==v4.aO.cq)&&((v10.1.cU==v4.aO.cU)&&((v10.1.cS==v4.aO.cS)&&true)))))then
       some ((0:Int),v5.2)
      else
       some ((10:Int),v5.2)
     else none
 else none
theorem akI{N v1 v2 v3}:KP 40 [(.ptr 0 0),(ar v1)] [.cells (fI v2 [(.mp 1)]), .map (e8 v3)] (λr=>ar r.1) (λr=>[.cells (fI v2 [(.mp 1)]), .map (e8 r.2)]) (I0 N v1 v2 v3):=
 fh 2 Tryz.func40 (aF λh2=>aq λv4 h1=>aq λv5 h3=>gA [[],[(19,⟨_,_, .el (xs:=gh v2.ay) (i:=v1) (of_decide_eq_true h2) (jH h1)⟩)],[(10,oR [(.ptr 0 0),(aC v4.ao),(ar (2:Int))] [.cells (fI v2 [(.mp 1)]), .map (e8 v3), .cells (ep v4).cells] [0,1] (Sm _ h3))],[]] (aw (λh4=>gH [[t0 h4],[]]) λh4=>aq λv6 h5=>gA [[f0 h4],[(13,oL v4.aP dB),(22,oL v4.aY dB),(28,cK Vz h5)],[]] (aw (λh6=>gH [[t0 h6],[]]) λh6=>aq λv7 h7=>gA [[f0 h6],[(7,oQ [(.ptr 0 0),(ep v4)] [.cells (fI v2 [(.mp 1)]), .map (e8 v5.2), .cells (ep v4).cells] [0,1] (ao5 _ h7))],[]] (aw (λh8=>gH [[t0 h8],[]]) λh8=>aq λv8 h9=>gA [[f0 h8],[(4,cK al1 h9)],[]] (aw (λaU=>gH [[t0 aU],[]]) λaU=>aF λbh=>aq λv9 bn=>aq λv10 b5=>gA [[f0 aU],[],[(19,⟨_,_, .sub (xs:=gh v2.ay) (lo:=0) (hi:=v1) (by decide) (Nat.zero_le _) (of_decide_eq_true h2) (by rw[gY];exact(of_decide_eq_true bh)) RZ YT⟩)],[(7,cK UL bn),(16,cK aif b5)],[]] (aw (λbZ=>gH [[t0 bZ],[]]) λbZ=>gA [[f0 bZ],[]] (aw (λbK=>gH [[f0 (cb bK)],[]]) λbK=>gH [[t0 (cW bK)],[]])))))))
def GD(N:Nat)(v23:aqx (aqy×Int))(v1:aK):aqx aqy->Nat->Int->aqz (Int×Int)
 |[],_,_=>
  some ((0:Int),(0:Int))
 |v26::cV,v24,v28=>
  bif ((eZ v23 v26 0) !=2)then
   some (v28,(9:Int))
  else
   bif (decide (((v24:Int)).toNat<=v1.b9.length))then
   Option.bind (Br N ((v1.b9.take ((v24:Int)).toNat).drop 0) v26) λie=>
   bif ie then
    some (v28,(8:Int))
   else
    (λGF=>GD N v23 v1 cV (v24+1) GF) (bl (v28+(1:Int)))
   else none
def zj(N:Nat)(v1:aK):aqx bf->Nat->Int->(aqx (aqy×Int))->aqz (Int×Int)
 |[],_,v22,v23=>
  GD N v23 v1 v1.b9 0 v22
 |_::v21,cJ,v22,v23=>
  Option.bind (I0 N (cJ:Int) v1 v23) λv30=>
  bif (v30.1 !=0)then
   some (v22,v30.1)
  else
   (λnN amG=>zj N v1 v21 (cJ+1) nN amG) (bl (v22+(1:Int))) v30.2
def zC(N:Nat)(v1:aK):aqx cv->Nat->Int->(aqx (aqy×Int))->aqz (Int×Int)
 |[],_,cu,v17=>
  zj N v1 v1.ay 0 cu v17
 |b8::v15,v12,cu,v17=>
  (J1 N b8 v1 v17).bind λv31=>
  bif (v31.1 !=0)then
   some (cu,v31.1)
  else
   (λmu PQ=>zC N v1 v15 (v12+1) mu PQ) (bl (cu+(1:Int))) v31.2
def Cq(N:Nat)(v1:aK)(v7:aqx (aqy×Int)):aqx c8->Nat->aqz (Int×Int)
 |[],_=>
  zC N v1 v1.aG 0 (2:Int) v7
 |v10::v11,v8=>
  (Lc N v10 v1 v7).bind λv32=>
  bif (v32 !=0)then
   some ((1:Int),v32)
  else
   (Cq N v1 v7 v11 (v8+1))
def KZ(N:Nat)(v1:aK):aqx aqy->Nat->(aqx (aqy×Int))->aqz (Int×Int)
 |[],_,v7=>
  Cq N v1 v7 v1.cr 0
 |v5::v6,v3,v7=>
  Option.bind (Bg N v5 (1:Int) v1 v7) λv33=>
  bif (v33.1 !=0)then
   some ((0:Int),v33.1)
  else
   (λbq=>KZ N v1 v6 (v3+1) bq) v33.2
def A5(N:Nat)(v1:aK):aqz (Int×Int):=
 (L2 N v1).bind λv2=>
 bif v2 then
  KZ N v1 v1.aA 0 []
 else
  some ((0:Int),(2:Int))
def sW(v1:aK)(v7:aqx (aqy×Int))(l:aqx an):aqx an:= .cells (cX v1).cells:: .map (e8 v7):: .cells (fI v1 [(.mp 1)])::l
theorem aik{N v1}:KO 13 [(cX v1)] (λr=> .bz [(ar r.1),(ar r.2)]) (A5 N v1):=
 fw Tryz.func13 (aq λv2 h1=>gA [[],[(4,cK agv h1)]] (ff λh2=>gA [[f0 (cb h2)],[],[(7,oL v1.aA dX)]] (gT fb 27 v1.aA λh4=>eM 1 [] [1,4,27,28,29] 3 (λv3(v7:aqx (aqy×Int))=>⟨115,[(1,(.ptr 0 0)),(4,(.ptr 2 0)),(27,(.d (.sl (b6 v1.aA)))),(28,(ar (v1.aA.length:Int))),(29,(ar (v3:Int)))],(sW v1 v7 [])⟩) (λv3 v7 h5 f1=>gA [[],[f0 (bj h5)],[(7,oL v1.cr kg)]] (gT rP 41 v1.cr λh7=>dK 2 [] [1,4,41,42,43] 3 (λv8=>⟨115,[(1,(.ptr 0 0)),(4,(.ptr 2 0)),(41,(.d (.sl (hY v1.cr)))),(42,(ar (v1.cr.length:Int))),(43,(ar (v8:Int)))],(sW v1 v7 [])⟩) (λv8 h8 f2=>gA [[],[f0 (bj h8)],[],[(7,oL v1.aG iy)]] (gT ny 55 v1.aG λaU=>Hp 3 [] [1,4,11,55,56,57] 3 (λv12(cu:Int)(v17:aqx (aqy×Int))=>⟨115,[(1,(.ptr 0 0)),(4,(.ptr 2 0)),(11,(ar cu)),(55,(.d (.sl (iT v1.aG)))),(56,(ar (v1.aG.length:Int))),(57,(ar (v12:Int)))],(sW v1 v17 [])⟩) (λv12 cu v17 bh f3=>gA [[],[f0 (bj bh)],[(7,oL v1.ay gY)]] (gB nA 0 3 v1.ay λb5=>Hp 4 [] [1,4,11,73,74] 3 (λcJ(v22:Int)(v23:aqx (aqy×Int))=>⟨115,[(1,(.ptr 0 0)),(4,(.ptr 2 0)),(11,(ar v22)),(73,(ar (v1.ay.length:Int))),(74,(ar (cJ:Int)))],(sW v1 v23 [])⟩) (λcJ v22 v23 bZ f4=>gA [[],[f0 (bj bZ)],[(7,oL v1.b9 dX)]] (gT fb 88 v1.b9 λbV=>eM 5 [] [1,4,11,88,89,90] 3 (λv24(v28:Int)=>⟨115,[(1,(.ptr 0 0)),(4,(.ptr 2 0)),(11,(ar v28)),(88,(.d (.sl (b6 v1.b9)))),(89,(ar (v1.b9.length:Int))),(90,(ar (v24:Int)))],(sW v1 v23 [])⟩) (λv24 v28 cA f5=>gR [[],[f0 (bj cA)],[]]) (λv24 v26 cV v28 cA f5 p9=>gA [[],[t0 (bk cA)],[(4,oE (ik (aW cA)))],[(17,⟨_,_, .eq (D7 false v23 v26)⟩)]] (bB λdv=>aF λeu=>aq λie cH=>gA [[f0 dv],[(10,⟨_,_, .sub (xs:=b6 v1.b9) (lo:=0) (hi:=(v24:Int)) (by decide) (Nat.zero_le _) (of_decide_eq_true (aqq (Int.natCast_nonneg _))) (by rw[dX];exact(of_decide_eq_true eu)) Ko Np⟩),(16,cK abC cH)]] (bB λdN=>gb p9 (bl (v28+(1:Int))) [[f0 dN],[],[(2,oq (bE cA rfl bV))]] cA))))) (λcJ v20 v21 v22 v23 bZ f4 iF=>aq λv30 fe=>gA [[],[t0 (bk bZ)],[],[(7,oR [(.ptr 2 0),(ar (cJ:Int))] (sW v1 v23 []) [2,1] (akI _ fe))],[]] (bB λdQ=>gb iF ((bl (v22+(1:Int))),v30.2) [[f0 dQ],[],[(2,oq (bE bZ rfl b5))]] bZ)))) (λv12 b8 v15 cu v17 bh f3 fu=>aq λv31 eG=>gA [[],[t0 (bk bh)],[(1,oE (jy (aW bh)))],[(7,oR [(.ptr 2 0),(mZ b8)] (sW v1 v17 [.cells (mZ b8).cells]) [2,1] (amY _ eG))],[]] (bB λfQ=>gb fu ((bl (cu+(1:Int))),v31.2) [[f0 fQ],[],[(2,oq (bE bh rfl aU))]] bh)))) (λv8 v10 v11 h8 f2 ca=>aq λv32 e9=>gA [[],[t0 (bk h8)],[(1,oE (pI (aW h8)))],[(7,oQ [(.ptr 2 0),(mP v10)] (sW v1 v7 [.cells (mP v10).cells]) [2,1] (agS _ e9))],[]] (bB λfG=>gb ca () [[f0 fG],[(2,oq (bE h8 rfl h7))]] h8)))) (λv3 v5 v6 v7 h5 f1 aB=>aq λv33 gg=>gA [[],[t0 (bk h5)],[(1,oE (ik (aW h5)))],[(7,oR [(.ptr 2 0),(aC v5),(ar (1:Int))] (sW v1 v7 []) [2,1] (Sm _ gg))],[]] (bB λiw=>gb aB v33.2 [[f0 iw],[(2,oq (bE h5 rfl h4))]] h5)))))
def NM(N:Nat)(v1:Int64)(v2:Int):aqz aqy:=QU v1 v2
theorem abG{N v1 v2}:KO 80 [(cQ v1),(ar v2)] aC (NM N v1 v2):=ahm
def PI(N:Nat)(v1:Int):aqz aqy:=
 bif (bl v1==v1)then
 Option.bind (NM N (Int64.ofInt v1) (10:Int)) λv2=>
 some v2
 else none
theorem ahd{N v1}:KO 100 [(ar v1)] aC (PI N v1):=
 fw Tryz.func100 (aF λh1=>aq λv2 h2=>gR [[],[(2,⟨_,_, .eq (BV (beq_iff_eq.1 h1))⟩),(4,cK abG h2)]])
def wZ(N:Nat)(v1:Int):aqz aqy:=
 (PI N v1).bind λv2=>
 some v2
theorem P3{N v1}:KO 50 [(ar v1)] aC (wZ N v1):=
 fw Tryz.func50 (aq λv2 h1=>gR [[],[(4,cK ahd h1)]])
def wX(N:Nat)(v1:aqy)(v2:Int):aqz aqy:=
 (wZ N v2).bind λv3=>
 bif (Nat.ble (v1.size+v3.size) 9223372036854775807)then
 some (v1++v3)
 else none
theorem IV{N v1 v2}:KO 21 [(aC v1),(ar v2)] aC (wX N v1 v2):=
 fw Tryz.func21 (aq λv3 h1=>aF λh2=>gR [[],[(7,cK P3 h1),(10,⟨_,_, .cat (n:=v1.size+v3.size) (aZ h2)⟩)]])
def u4(N:Nat)(v1:aqy)(v2:aqx (aqy×aqy)):aqz aqy:=
 bif (o8 v2 v1)then
  some (eZ v2 v1 (bs []))
 else
  some v1
theorem Db{N v1 v2}:KP 51 [(.mp 0),(aC v1)] [.map (bN v2)] aC (λ_=>[.map (bN v2)]) (u4 N v1 v2):=
 fh 1 Tryz.func51 (gA [[],[(8,⟨_,_, .eq (LW true v2 v1)⟩)],[]] (aw (λh1=>gH [[t0 h1],[]]) λh1=>gH [[f0 h1],[]]))
def RL(N:Nat)(v1:aqx bt)(v3:Nat):aqz (aqx bt):=bif Nat.beq v1.length v3&&(Nat.blt v3 4611686018427387904&&tZ (jg v1))then some (jg v1)else none
theorem afy{N v1 v3 r}(J:RL N v1 v3=some r):cF Tryz.prog 52 [(.vec 0 0 v3 v3 2),(.fn 53 [])] [.vec 115 2 (cP (v1.map jL))] λr1 h1=>r1=(.bz [])/\h1=[.vec 115 2 (cP (r.map jL))]:=by
 obtain⟨hb,rfl⟩:=eH J;rw[apL,apL]at hb;exact aov (apX hb.1) (by have:=hb.2.1;rw[Nat.blt_eq]at this;exact this) hb.2.2
def vV(N:Nat)(v1:aR)(v2:aqx (aqy×aqy)):aqx bt->Nat->Nat->(aqx bt)->aqz aR
 |[],_,v8,v9=>
  (RL N v9 v8).bind λv10=>
  bif (Nat.beq v10.length v8)then
  some (⟨v1.xK,v10⟩:aR)
  else none
 |v6::v7,v4,v8,v9=>
  (u4 N v6.ao v2).bind λv11=>
  bif (Nat.beq v9.length v8)then
  bif (Nat.ble ((v8+1)*24) 140737488355328)then
  (λbq fc=>vV N v1 v2 v7 (v4+1) bq fc) (v8+1) (v9++[(⟨v11,v6.cN⟩:bt)])
  else none
  else none
def ur(N:Nat)(v1:aR)(v2:aqx (aqy×aqy))(v3:aqx (aqy×aqy)):aqz aR:=
 vV N v1 v2 v1.xL 0 0 []
def Ad(v2:aqx (aqy×aqy))(v3:aqx (aqy×aqy))(v1:aR)(l:aqx an):aqx an:= .map (bN v2):: .map (bN v3):: .cells [(.mp 0),(.mp 1)]:: .cells (cE v1).cells:: .cells QM::l
def wN(v2:aqx (aqy×aqy))(v3:aqx (aqy×aqy))(v1:aR)(v8:Nat)(v9:aqx bt)(l:aqx an):aqx an:=Ad v2 v3 v1 (.cells [(cQ v1.xK),(.vec 6 0 v8 v8 2)]:: .vec 115 2 (cP (v9.map jL))::l)
def Xe(v2:aqx (aqy×aqy))(v3:aqx (aqy×aqy))(v1:aR)(v10:aqx bt)(l:aqx an):aqx an:= .map (bN v2):: .map (bN v3):: .cells [(.mp 0),(.mp 1)]:: .cells (cE v1).cells:: .cells [(cQ v1.xK),(.d (.sl (dh v10)))]:: .cells [(cQ v1.xK),(.d (.sl (dh v10)))]::l
theorem E9{N v1 v2 v3 r}(J:ur N v1 v2 v3=some r):KH 22 [(.agg [(.mp 0),(.mp 1)]),(cE v1)] ([.map (bN v2), .map (bN v3)]) (cE r) ([.map (bN v2), .map (bN v3)]):=by
 rw[ur]at J;refine Ab 2 Tryz.func22 rfl (by kernel_rfl) (apR rfl) ?_;refine zw (s':=⟨36,[(0,(.agg [(.mp 0),(.mp 1)])),(1,(cE v1))],[.map (bN v2), .map (bN v3)]⟩) (by kernel_rfl) ?_;refine bW ?_;refine rg [] [(2,(.ptr 2 0)),(3,(.ptr 3 0)),(4,(.ptr 4 0))] (Ad v2 v3 v1 []) (by kernel_rfl) ?_;refine bW ?_;refine rg [] [(5,(.ptr 5 0))] (Ad v2 v3 v1 [.cells [(cQ v1.xK),(.d (.v (.slice none 0 0)))]]) (by kernel_rfl) ?_;refine bW ?_;refine bW ?_;refine rg [(7,oL v1.xL eK)] [(12,(.d (.sl (dh v1.xL)))),(13,(ar (v1.xL.length:Int))),(14,(ar (0:Int)))] (Ad v2 v3 v1 [.cells [(cQ v1.xK),(.d (.v (.slice none 0 0)))]]) (by kernel_rfl) ?_;refine ky ?_;refine an2 5 1 115 2 rfl rfl ?_;refine CM 12 (dh v1.xL) (by kernel_rfl) λh1=> ?_;have h2:=Be eK h1;refine aa0 [2,4,5,12,13,14] 7 [] [(4,1)] (λ((v4,v5,v8,v9):Nat×(aqx bt)×Nat×(aqx bt))=>⟨36,[(2,(.ptr 2 0)),(4,(.ptr 4 0)),(5,(.ptr 5 0)),(12,(.d (.sl (dh v1.xL)))),(13,(ar (v1.xL.length:Int))),(14,(ar (v4:Int)))],(wN v2 v3 v1 v8 v9 [])⟩) (λ((v4,v5,v8,v9):Nat×(aqx bt)×Nat×(aqx bt))=>v1.xL.drop v4=v5/\vV N v1 v2 v5 v4 v8 v9=some r) (λ((v4,v5,v8,v9):Nat×(aqx bt)×Nat×(aqx bt))=>v5.length) (0,v1.xL,0,[]) (apR rfl) ⟨(oS trivial (oS trivial (oS trivial (oS trivial (oS trivial (oS trivial (vmV (xs:=(([]:aqx bt).map jL)) NO))))))),by kernel_rfl⟩ ⟨rfl,J⟩ ?_
 rintro⟨v4,v5,v8,v9⟩ ⟨h3,J⟩;cases v5 with
 |nil=>
  rw[vV]at J;refine bW ?_;refine rg [] [(15,(aM (decide ((v4:Int)<(v1.xL.length:Int)))))] (wN v2 v3 v1 v8 v9 []) (by kernel_rfl) ?_;refine bW ?_;refine jj (t:=(decide ((v4:Int)<(v1.xL.length:Int)))) (by kernel_rfl) (bj h3) ?_;refine wJ (wH (wH (CA rfl ?_)));refine dL ?_;refine bW ?_;obtain⟨v10,h4,J⟩:=dw J;refine rg [(7,⟨_,_, .Yh (vdV (xs:=(v9.map jL)) vdN) (vdV (xs:=(v10.map jL)) vdN) (nI:=[(.vec 6 0 v8 v8 2),(.fn 53 [])]) (h:=(wN v2 v3 v1 v8 v9 [])) (l:=[6]) (by kernel_rfl) (by kernel_rfl) (by kernel_rfl) (by kernel_rfl) (afy h4)⟩)] [] (wN v2 v3 v1 v8 v10 []) (by kernel_rfl) ?_;refine bW ?_;refine rg [] [] [.map (bN v2), .map (bN v3), .cells [(.mp 0),(.mp 1)], .cells (cE v1).cells, .cells [(cQ v1.xK),(.vec 6 0 v8 v8 2)], .cells [(cQ v1.xK),(.vec 6 0 v8 v8 2)], .vec 115 2 (cP (v10.map jL))] (by kernel_rfl) ?_;have h5:=oB J;replace J:=(fU h5).symm.trans J;refine aiB [4] 6 (v10.map jL) (dh v10) (L:=v8) (Xe v2 v3 v1 v10 [.vec 115 2 (cP (v10.map jL))]) 0 rfl (af7 (λ_=>rfl) _) (aiv (apX h5)) (ng _) (by kernel_rfl) (.map (.map (.cells 0 rfl (by kernel_rfl) (.cells 0 rfl (by kernel_rfl) (.cells 1 (by kernel_rfl) (by kernel_rfl) (.cells 1 (by kernel_rfl) (by kernel_rfl) (.HI .nil))))))) ?_;refine zw (s':=⟨36,[(4,(.ptr 4 0))],(Xe v2 v3 v1 v10 [.gone])⟩) (by kernel_rfl) ?_
  refine gN ?_;have hr:=ap2 J;subst hr;exact Fa (by kernel_rfl)
 |cons v6 v7=>
  rw[vV]at J;refine bW ?_;refine rg [] [(15,(aM (decide ((v4:Int)<(v1.xL.length:Int)))))] (wN v2 v3 v1 v8 v9 []) (by kernel_rfl) ?_;refine bW ?_;refine jI (t:=(decide ((v4:Int)<(v1.xL.length:Int)))) (by kernel_rfl) (bk h3) ?_;refine jn ?_;refine dL ?_;refine bW ?_;refine ky ?_;refine bW ?_;refine rg [(1,oE (j7 (aW h3)))] [(7,(.ptr 7 0))] (wN v2 v3 v1 v8 v9 [.cells (yt v6).cells]) (by kernel_rfl) ?_;obtain⟨v11,h6,J⟩:=dw J;have h7:=oB J;replace J:=(fU h7).symm.trans J;have h8:=oB J;replace J:=(fU h8).symm.trans J;refine FZ dJ (by kernel_rfl) [(19,oQ [(.mp 0),(aC v6.ao)] (wN v2 v3 v1 v8 v9 [.cells (yt v6).cells]) [0] (Db _ h6)),(34,⟨_,_, .pr (.ap (cP ((v9++[(⟨v11,v6.cN⟩:bt)]).map jL)) (cP (([(⟨v11,v6.cN⟩:bt)]).map jL)) (v8+1) (v8+1)) (ahA (f:=jL) (h:=(wN v2 v3 v1 v8 v9 [.cells (yt v6).cells])) (y:=(.full (dh [(⟨v11,v6.cN⟩:bt)]))) (k:=2) (apX h7) rfl (λc hc=>wP c (by rw[ng];exact hc)) rfl rfl (IK h8 (by decide)).1 (IK h8 (by decide)).2)⟩)] [(30,(.ptr 5 1)),(29,(.vec 6 0 (v8+1) (v8+1) 2)),(28,(.full (dh [(⟨v11,v6.cN⟩:bt)]))),(27,(.agg [(aC v11),(cQ v6.cN)])),(26,(cQ v6.cN)),(25,(.ptr 7 1)),(24,(aC v11)),(23,(aC v6.ao)),(22,(.ptr 7 0)),(21,(.mp 0)),(20,(.ptr 2 0)),(19,(.vec 6 0 v8 v8 2)),(18,(.ptr 5 1))] (Ad v2 v3 v1 [.cells [(cQ v1.xK),(.vec 6 0 (v8+1) (v8+1) 2)], .vec 115 2 (cP ((v9++[(⟨v11,v6.cN⟩:bt)]).map jL)), .cells (yt v6).cells]) ⟨by kernel_rfl,by kernel_rfl⟩ ?_
  refine jK ?_;refine dL ?_;refine re [(2,oq (bE h3 rfl h2))] [(14,(ar ((v4+1:Nat):Int))),(31,(ar ((v4+1:Nat):Int)))] (Ad v2 v3 v1 [.cells [(cQ v1.xK),(.vec 6 0 (v8+1) (v8+1) 2)], .vec 115 2 (cP ((v9++[(⟨v11,v6.cN⟩:bt)]).map jL)), .cells (yt v6).cells]) (by kernel_rfl) ?_;refine dL ?_;exact⟨(v4+1,v7,(v8+1),(v9++[(⟨v11,v6.cN⟩:bt)])),⟨(oS trivial (oS trivial (oS trivial (oS trivial (oS trivial (oS trivial (vmV (xs:=((v9++[(⟨v11,v6.cN⟩:bt)]).map jL)) NO))))))),by kernel_rfl⟩,⟨tW h3,J⟩,aqv _⟩
def CL(N:Nat)(v2:aqx (aqy×aqy))(v3:aqx (aqy×aqy)):aqx aR->Nat->(aqx aR)->aqz ((aqx aR))
 |[],_,v8=>
  some v8
 |v6::v7,v4,v8=>
  (ur N v6 v2 v3).bind λv9=>
  bif (Nat.ble ((v8.length+1)*32) 140737488355328)then
  (λbq=>CL N v2 v3 v7 (v4+1) bq) (v8++[v9])
  else none
def Gy(N:Nat)(v1:aqx aR)(v2:aqx (aqy×aqy))(v3:aqx (aqy×aqy)):aqz ((aqx aR)):=
 CL N v2 v3 v1 0 []
theorem aax{N v1 v2 v3}:KP 23 [(.agg [(.mp 0),(.mp 1)]),(.d (.sl (c6 v1)))] [.map (bN v2), .map (bN v3)] (λr=> .d (.sl (c6 r))) (λ_=>[.map (bN v2), .map (bN v3)]) (Gy N v1 v2 v3):=
 fh 2 Tryz.func23 (gA [[],[],[(4,oL v1 dT)]] (li (λ_=>(l8 5 52 2 [] (.inr (by kernel_rfl)) ·)) (gT lh 1 v1 λh2=>eM 1 [] [2,5,8,9,10] 4 (λv4(v8:aqx aR)=>⟨22,[(2,(.ptr 2 0)),(5,(.own 3 (c6 v8))),(8,(.d (.sl (c6 v1)))),(9,(ar (v1.length:Int))),(10,(ar (v4:Int)))],[.map (bN v2), .map (bN v3), .cells [(.mp 0),(.mp 1)], .front 52 2 v8.length]⟩) (λv4 v8 h3 f1=>gH [[],[f0 (bj h3)],[]]) (λv4 v6 v7 v8 h3 f1 aB=>aq λv9 h4=>aF λh5=>gb aB (v8++[v9]) [[],[t0 (bk h3)],[(1,oE (k9 (aW h3)))],[(10,oQ [(.agg [(.mp 0),(.mp 1)]),(cE v6)] [.map (bN v2), .map (bN v3), .cells [(.mp 0),(.mp 1)], .front 52 2 v8.length, .cells (cE v6).cells] [0,1] (E9 h4)),(16,oA lh v8 ([v9]) h5)],[(2,oq (bE h3 rfl h2))]] h3))))
def CC(N:Nat)(v2:aqx (aqy×aqy))(v3:aqx (aqy×aqy)):aqx cd->Nat->(aqx cd)->aqz ((aqx cd))
 |[],_,v8=>
  some v8
 |v6::v7,v4,v8=>
  (u4 N v6.ao v2).bind λv9=>
  (ur N v6.cw v2 v3).bind λv10=>
  bif (Nat.ble ((v8.length+1)*48) 140737488355328)then
  (λbq=>CC N v2 v3 v7 (v4+1) bq) (v8++[(⟨v9,v10⟩:cd)])
  else none
def FV(N:Nat)(v1:aqx cd)(v2:aqx (aqy×aqy))(v3:aqx (aqy×aqy)):aqz ((aqx cd)):=
 CC N v2 v3 v1 0 []
theorem ab6{N v1 v2 v3}:KP 56 [(.agg [(.mp 0),(.mp 1)]),(.d (.sl (du v1)))] [.map (bN v2), .map (bN v3)] (λr=> .d (.sl (du r))) (λ_=>[.map (bN v2), .map (bN v3)]) (FV N v1 v2 v3):=
 fh 2 Tryz.func56 (gA [[],[],[(4,oL v1 dB)]] (li (λ_=>(l8 5 72 3 [] (.inr (by kernel_rfl)) ·)) (gT kW 1 v1 λh2=>eM 1 [] [2,5,8,9,10] 4 (λv4(v8:aqx cd)=>⟨29,[(2,(.ptr 2 0)),(5,(.own 3 (du v8))),(8,(.d (.sl (du v1)))),(9,(ar (v1.length:Int))),(10,(ar (v4:Int)))],[.map (bN v2), .map (bN v3), .cells [(.mp 0),(.mp 1)], .front 72 3 v8.length]⟩) (λv4 v8 h3 f1=>gH [[],[f0 (bj h3)],[]]) (λv4 v6 v7 v8 h3 f1 aB=>aq λv9 h4=>aq λv10 h5=>aF λh6=>gb aB (v8++[(⟨v9,v10⟩:cd)]) [[],[t0 (bk h3)],[(1,oE (iE (aW h3)))],[(16,oQ [(.mp 0),(aC v6.ao)] [.map (bN v2), .map (bN v3), .cells [(.mp 0),(.mp 1)], .front 72 3 v8.length, .cells (zV v6).cells] [0] (Db _ h4)),(28,oQ [(.agg [(.mp 0),(.mp 1)]),(cE v6.cw)] [.map (bN v2), .map (bN v3), .cells [(.mp 0),(.mp 1)], .front 72 3 v8.length, .cells (zV v6).cells] [0,1] (E9 h5)),(37,oA kW v8 ([(⟨v9,v10⟩:cd)]) h6)],[(2,oq (bE h3 rfl h2))]] h3))))
def FR(N:Nat)(v8:aqx bH)(fD:(aqx bH)->aqz ((aqx bH)))(v9:aR)(v10:(aqx aR))(v11:aqy):aqz ((aqx bH)):=
 bif (Nat.ble ((v8.length+1)*72) 140737488355328)then
 fD (v8++[(⟨v9,v11,v10⟩:bH)])
 else none
def xn(N:Nat)(v2:aqx (aqy×aqy))(v3:aqx (aqy×aqy)):aqx bH->Nat->(aqx bH)->aqz ((aqx bH))
 |[],_,v8=>
  some v8
 |v6::v7,v4,v8=>
  (ur N v6.aS v2 v3).bind λv9=>
  (Gy N v6.bO v2 v3).bind λv10=>
  bif (bL v6.bR==bL (bs []))then
   FR N v8 (λbq=>xn N v2 v3 v7 (v4+1) bq) v9 v10 (bs [])
  else
   (u4 N v6.bR v3).bind λv12=>
   FR N v8 (λbq=>xn N v2 v3 v7 (v4+1) bq) v9 v10 v12
def Ql(N:Nat)(v1:aqx bH)(v2:aqx (aqy×aqy))(v3:aqx (aqy×aqy)):aqz ((aqx bH)):=
 xn N v2 v3 v1 0 []
def E1(v2:aqx (aqy×aqy))(v3:aqx (aqy×aqy))(v8:aqx bH)(l:aqx an):aqx an:= .map (bN v2):: .map (bN v3):: .cells [(.mp 0),(.mp 1)]:: .front 111 4 v8.length::l
theorem apj{N v1 v2 v3}:KP 105 [(.agg [(.mp 0),(.mp 1)]),(.d (.sl (cZ v1)))] [.map (bN v2), .map (bN v3)] (λr=> .d (.sl (cZ r))) (λ_=>[.map (bN v2), .map (bN v3)]) (Ql N v1 v2 v3):=
 fh 2 Tryz.func105 (gA [[],[],[(4,oL v1 fx)]] (li (λ_=>(l8 5 111 4 [] (.inr (by kernel_rfl)) ·)) (gT lX 1 v1 λh2=>eM 1 [] [2,5,9,10,11] 4 (λv4(v8:aqx bH)=>⟨39,[(2,(.ptr 2 0)),(5,(.own 3 (cZ v8))),(9,(.d (.sl (cZ v1)))),(10,(ar (v1.length:Int))),(11,(ar (v4:Int)))],(E1 v2 v3 v8 [])⟩) (λv4 v8 h3 f1=>gH [[],[f0 (bj h3)],[]]) (λv4 v6 v7 v8 h3 f1 aB=>aq λv9 h4=>aq λv10 h5=>eB 2 [[],[t0 (bk h3)],[(1,oE (gx (aW h3)))],[(10,oQ [(.agg [(.mp 0),(.mp 1)]),(cE v6.aS)] (E1 v2 v3 v8 [.cells (fZ v6).cells]) [0,1] (E9 h4)),(22,oQ [(.agg [(.mp 0),(.mp 1)]),(.d (.sl (c6 v6.bO)))] (E1 v2 v3 v8 [.cells (fZ v6).cells]) [0,1] (aax _ h5))],[]] [2,5,8,9,10,11] 6 (λ(v11:aqy)=>⟨39,[(2,(.ptr 2 0)),(5,(.own 3 (cZ v8))),(8,(.ptr 5 0)),(9,(.d (.sl (cZ v1)))),(10,(ar (v1.length:Int))),(11,(ar (v4:Int)))],(E1 v2 v3 v8 [.cells (fZ v6).cells, .cells [(cQ v9.xK),(.d (.sl (dh v9.xL))),(aC v11),(.d (.sl (c6 v10)))]])⟩) (FR N v8 (λbq=>xn N v2 v3 v7 (v4+1) bq) v9 v10) (λf2 ca=>aw (λh7=>gm ca (bs []) [[f0 (cb h7)]]) λh7=>aq λv12 h8=>gm ca v12 [[t0 (cW h7)],[(13,oQ [(.mp 1),(aC v6.bR)] (E1 v2 v3 v8 [.cells (fZ v6).cells, .cells [(cQ v9.xK),(.d (.sl (dh v9.xL))),(aC (bs [])),(.d (.sl (c6 v10)))]]) [1] (Db _ h8))]]) (λv11=>aF λh6=>gb aB (v8++[(⟨v9,v11,v10⟩:bH)]) [[(10,oA lX v8 ([(⟨v9,v11,v10⟩:bH)]) h6)],[(2,oq (bE h3 rfl h2))]] h3)))))
def Fh(N:Nat)(v1:au)(v6:aqy)(v4:aR)(v5:(aqx bH))(Hy:au->(aqx (aqy×aqy))->(aqx (aqy×aqy))->aqz au)(v2:aqx (aqy×aqy))(v3:aqx (aqy×aqy)):aqx au->Nat->(aqx au)->aqz au
 |[],_,v11=>
  some (⟨v1.aJ,v6,v1.dM,v1.aO,v4,v5,v11⟩:au)
 |v9::v10,v7,v11=>
  (Hy v9 v2 v3).bind λv12=>
  bif (Nat.ble ((v11.length+1)*160) 140737488355328)then
  (λiW=>Fh N v1 v6 v4 v5 Hy v2 v3 v10 (v7+1) iW) (v11++[v12])
  else none
def C7(N:Nat)(v1:au)(v4:aR)(v5:(aqx bH))(Hy:au->(aqx (aqy×aqy))->(aqx (aqy×aqy))->aqz au)(v2:aqx (aqy×aqy))(v3:aqx (aqy×aqy))(v6:aqy):aqz au:=
 Fh N v1 v6 v4 v5 Hy v2 v3 v1.bp 0 []
def qh(N:Nat):Nat->au->(aqx (aqy×aqy))->(aqx (aqy×aqy))->aqz au
 |0,_,_,_=>none
 |d+1,v1,v2,v3=>
  (ur N v1.aS v2 v3).bind λv4=>
  (Ql N v1.xIdx v2 v3).bind λv5=>
  bif (v1.aJ==3)then
   (u4 N v1.ao v3).bind λba=>
   C7 N v1 v4 v5 (qh N d) v2 v3 ba
  else
   C7 N v1 v4 v5 (qh N d) v2 v3 v1.ao
def S4(N:Nat)(v1:au)(v2:aqx (aqy×aqy))(v3:aqx (aqy×aqy)):aqz au:=qh N N v1 v2 v3
def SG(v2:aqx (aqy×aqy))(v3:aqx (aqy×aqy))(v1:au)(v6:aqy)(v4:aR)(v5:(aqx bH))(l:aqx an):aqx an:= .map (bN v2):: .map (bN v3):: .cells [(.mp 0),(.mp 1)]:: .cells ((ar v1.aJ)::(aC v6)::Yz v1 [(cQ v4.xK),(.d (.sl (dh v4.xL))),(.d (.sl (cZ v5))),(.d (.sl (dW v1.bp)))]):: .cells L0::l
def VI(v2:aqx (aqy×aqy))(v3:aqx (aqy×aqy))(v1:au)(l:aqx an):aqx an:= .map (bN v2):: .map (bN v3):: .cells [(.mp 0),(.mp 1)]:: .cells (aN v1).cells:: .cells L0::l
theorem alL(N:Nat):∀d:Nat,(∀{v1:au}{v2:aqx (aqy×aqy)}{v3:aqx (aqy×aqy)},KP 57 [(.agg [(.mp 0),(.mp 1)]),(aN v1)] [.map (bN v2), .map (bN v3)] aN (λ_=>[.map (bN v2), .map (bN v3)]) (qh N d v1 v2 v3)):=by
 intro d
 induction d with
 |zero=>intro v1 v2 v3 r J;rw[qh]at J;cases J
 |succ d ih=>
  have anx:= @ih;intro v1 v2 v3;rw[qh];exact fh 2 Tryz.func57 (aq λv4 h1=>aq λv5 h2=>ahF 1 [[],[(10,oQ [(.agg [(.mp 0),(.mp 1)]),(cE v1.aS)] (VI v2 v3 v1 []) [0,1] (E9 h1)),(22,oQ [(.agg [(.mp 0),(.mp 1)]),(.d (.sl (cZ v1.xIdx)))] (VI v2 v3 v1 []) [0,1] (apj _ h2))],[]] [2,3,4] 5 [] [(4,10),(4,11),(4,12)] (λ(v6:aqy)=>⟨44,[(2,(.ptr 2 0)),(3,(.ptr 3 0)),(4,(.ptr 4 0))],(SG v2 v3 v1 v6 v4 v5 [])⟩) (C7 N v1 v4 v5 (qh N d) v2 v3) (λf1 aB=>aw (λh8=>aq λba h9=>Vy aB ba [[(0,bT h8)],[(13,oQ [(.mp 1),(aC v1.ao)] [.map (bN v2), .map (bN v3), .cells [(.mp 0),(.mp 1)], .cells (cf2 v1 [(cQ v4.xK),(.d (.sl (dh v4.xL))),(.d (.sl (cZ v5))),(.d (.sl (dW v1.bp)))]), .cells L0] [1] (Db _ h9))]]) λh8=>Vy aB v1.ao [[(0,bF h8)]]) (λv6=>gA [[],[(7,oL v1.bp gq)]] (li (λ_=>(l8 5 67 13 [] (.inr (by kernel_rfl)) ·)) (gT lK 28 v1.bp λh4=>jV 2 [] [2,3,4,5,28,29,30] 6 [] [(4,10),(4,11),(4,12)] (λv7(v11:(aqx au))=>⟨44,[(2,(.ptr 2 0)),(3,(.ptr 3 0)),(4,(.ptr 4 0)),(5,(.own 5 (dW v11))),(28,(.d (.sl (dW v1.bp)))),(29,(ar (v1.bp.length:Int))),(30,(ar (v7:Int)))],(SG v2 v3 v1 v6 v4 v5 [.front 67 13 v11.length])⟩) (λv7 v11 h5 f2=>gH [[],[(0,bF (bj h5))],[],[]]) (λv7 v9 v10 v11 h5 f2 ca=>aq λv12 h6=>aF λh7=>jM ca (v11++[v12]) [[],[(0,bT (bk h5))],[(1,oE (fX (aW h5)))],[(10,oQ [(.agg [(.mp 0),(.mp 1)]),(aN v9)] (SG v2 v3 v1 v6 v4 v5 [.front 67 13 v11.length, .cells (aN v9).cells]) [0,1] (anx _ h6)),(14,⟨_,_, .eq (congrArg AV.full (ru [v12]).symm)⟩),(16,oA lK v11 ([v12]) h7)],[(2,oq (bE h5 rfl h4))]] h5)))))
theorem aic{N v1 v2 v3}:KP 57 [(.agg [(.mp 0),(.mp 1)]),(aN v1)] [.map (bN v2), .map (bN v3)] aN (λ_=>[.map (bN v2), .map (bN v3)]) (S4 N v1 v2 v3):=(alL N N)
def wB(N:Nat)(v1:bf)(v3:aqx (aqy×aqy)):aqx aqy->Nat->(aqx (aqy×aqy))->aqz bf
 |[],_,v9=>
  (u4 N v1.ao v3).bind λv10=>
  (FV N v1.aP v9 v3).bind λv11=>
  (FV N v1.aY v9 v3).bind λv12=>
  (S4 N v1.cg v9 v3).bind λba=>
  some (⟨v10,v1.aO,v11,v12,v1.cC,ba⟩:bf)
 |v7::v8,v5,v9=>
  Option.bind (wX N (bs [105]) (v5:Int)) λb8=>
  bif (Nat.blt v9.length 9223372036854775807)then
  (λbq=>wB N v1 v3 v8 (v5+1) bq) ((v7,b8)::v9)
  else none
def Ld(N:Nat)(v1:bf)(v2:aqx (aqy×aqy))(v3:aqx (aqy×aqy)):aqz bf:=
 (Gm N v1).bind λv4=>
 wB N v1 v3 v4 0 v2
def Dk(v2:aqx (aqy×aqy))(v3:aqx (aqy×aqy))(v1:bf)(v9:aqx (aqy×aqy))(l:aqx an):aqx an:= .map (bN v2):: .map (bN v3):: .cells (ep v1).cells:: .cells [(.mp 0),(.mp 1)]:: .cells [(aC (bs [])),(ar (0:Int)),(ar (0:Int)),(ar (0:Int)),(ar (0:Int)),(ar (0:Int)),(.d (.sl (du []))),(.d (.sl (du []))),(ar (0:Int)),(ar (0:Int)),(aC (bs [])),(cQ (0:Int64)),(cQ (0:Int64)),(ar (0:Int)),(ar (0:Int)),(ar (0:Int)),(ar (0:Int)),(ar (0:Int)),(cQ (0:Int64)),(.d (.sl (dh []))),(.d (.sl (cZ []))),(.d (.sl (dW [])))]:: .map (bN v9):: .cells [(.mp 5),(.mp 1)]::l
theorem ajw{N v1 v2 v3}:KP 24 [(ep v1),(.agg [(.mp 0),(.mp 1)])] [.map (bN v2), .map (bN v3)] ep (λ_=>[.map (bN v2), .map (bN v3)]) (Ld N v1 v2 v3):=
 fh 2 Tryz.func24 (gA [[],[]] (li (λ_=>(ahS v1 v2 v3 ·)) (aq λv4 h1=>gA [[(4,cK UL h1),(7,oL v4 dX)]] (gT fb 27 v4 λh3=>eM 1 [] [2,4,5,27,28,29] 7 (λv5(v9:aqx (aqy×aqy))=>⟨62,[(2,(.ptr 2 0)),(4,(.ptr 4 0)),(5,(.ptr 6 0)),(27,(.d (.sl (b6 v4)))),(28,(ar (v4.length:Int))),(29,(ar (v5:Int)))],(Dk v2 v3 v1 v9 [])⟩) (λv5 v9 h4 f1=>aq λv10 h5=>aq λv11 h6=>aq λv12 h7=>aq λba h8=>gH [[],[f0 (bj h4)],[(13,oQ [(.mp 1),(aC v1.ao)] (Dk v2 v3 v1 v9 []) [1] (Db _ h5)),(31,oQ [(.agg [(.mp 5),(.mp 1)]),(.d (.sl (du v1.aP)))] (Dk v2 v3 v1 v9 []) [5,1] (ab6 _ h6)),(43,oQ [(.agg [(.mp 5),(.mp 1)]),(.d (.sl (du v1.aY)))] (Dk v2 v3 v1 v9 []) [5,1] (ab6 _ h7)),(61,oQ [(.agg [(.mp 5),(.mp 1)]),(aN v1.cg)] (Dk v2 v3 v1 v9 []) [5,1] (aic _ h8))]]) (λv5 v7 v8 v9 h4 f1 aB=>aq λb8 h9=>aF λaU=>gb aB ((v7,b8)::v9) [[],[t0 (bk h4)],[(4,oE (ik (aW h4)))],[(13,cK IV h9),(16,⟨_,_, .sd (o:= .none) (Hg aU)⟩)],[(2,oq (bE h4 rfl h3))]] h4)))))
def BP(N:Nat)(v22:aqx aqy)(cV:aqx c8)(v32:aqx cv)(v37:aqx bf)(v17:aqx (aqy×aqy)):aqx aqy->Nat->(aqx aqy)->aqz (aK×Int)
 |[],_,nw=>
  some ((⟨v22,cV,v32,v37,nw⟩:aK),(0:Int))
 |v40::v41,kT,nw=>
  bif (Nat.ble ((nw.length+1)*16) 140737488355328)then
  (λamo=>BP N v22 cV v32 v37 v17 v41 (kT+1) amo) (nw++[(eZ v17 v40 (bs []))])
  else none
def Ba(N:Nat)(v22:aqx aqy)(cV:aqx c8)(v32:aqx cv)(v17:aqx (aqy×aqy))(v1:aK)(v7:aqx (aqy×aqy)):aqx bf->Nat->(aqx bf)->aqz (aK×Int)
 |[],_,v37=>
  BP N v22 cV v32 v37 v17 v1.b9 0 []
 |v35::kQ,v33,v37=>
  (Ld N v35 v7 v17).bind λth=>
  bif (Nat.ble ((v37.length+1)*272) 140737488355328)then
  (λPu=>Ba N v22 cV v32 v17 v1 v7 kQ (v33+1) Pu) (v37++[th])
  else none
def zi(N:Nat)(v22:aqx aqy)(cV:aqx c8)(v17:aqx (aqy×aqy))(v1:aK)(v7:aqx (aqy×aqy)):aqx cv->Nat->(aqx cv)->aqz (aK×Int)
 |[],_,v32=>
  Ba N v22 cV v32 v17 v1 v7 v1.ay 0 []
 |v30::v31,v28,v32=>
  (Gy N v30.aP v7 v17).bind λv44=>
  bif (Nat.ble ((v32.length+1)*80) 140737488355328)then
  (λOj=>zi N v22 cV v17 v1 v7 v31 (v28+1) Oj) (v32++[(⟨(eZ v17 v30.ao (bs [])),v30.aO,v44⟩:cv)])
  else none
def zD(N:Nat)(v22:aqx aqy)(v17:aqx (aqy×aqy))(v1:aK)(v7:aqx (aqy×aqy)):aqx c8->Nat->(aqx c8)->aqz (aK×Int)
 |[],_,cV=>
  zi N v22 cV v17 v1 v7 v1.aG 0 []
 |v25::v26,v23,cV=>
  (ur N v25.aS v7 v17).bind λv45=>
  bif (Nat.ble ((cV.length+1)*40) 140737488355328)then
  (λGF=>zD N v22 v17 v1 v7 v26 (v23+1) GF) (cV++[(⟨v45,v25.jB⟩:c8)])
  else none
def sG(N:Nat)(v17:aqx (aqy×aqy))(v1:aK)(v7:aqx (aqy×aqy)):aqx aqy->Nat->(aqx aqy)->aqz (aK×Int)
 |[],_,v22=>
  zD N v22 v17 v1 v7 v1.cr 0 []
 |v20::v21,cJ,v22=>
  bif (Nat.ble ((v22.length+1)*16) 140737488355328)then
  (λnN=>sG N v17 v1 v7 v21 (cJ+1) nN) (v22++[(eZ v7 v20 (bs []))])
  else none
def Dc(N:Nat)(v1:aK)(v7:aqx (aqy×aqy)):aqx bf->Nat->(aqx (aqy×aqy))->aqz (aK×Int)
 |[],_,v17=>
  sG N v17 v1 v7 v1.aA 0 []
 |v15::cu,ba,v17=>
  Option.bind (wX N (bs [100]) (ba:Int)) λv46=>
  bif (Nat.blt v17.length 9223372036854775807)then
  (λmu=>Dc N v1 v7 cu (ba+1) mu) ((v15.ao,v46)::v17)
  else none
def Ev(N:Nat)(v1:aK)(v7:aqx (aqy×aqy)):aqx cv->Nat->(aqx (aqy×aqy))->aqz (aK×Int)
 |[],_,v12=>
  Dc N v1 v7 v1.ay 0 v12
 |v10::v11,v8,v12=>
  Option.bind (wX N (bs [112]) (v8:Int)) λu5=>
  bif (Nat.blt v12.length 9223372036854775807)then
  (λiW=>Ev N v1 v7 v11 (v8+1) iW) ((v10.ao,u5)::v12)
  else none
def AH(N:Nat)(v1:aK):aqx aqy->Nat->(aqx (aqy×aqy))->aqz (aK×Int)
 |[],_,v7=>
  Ev N v1 v7 v1.aG 0 []
 |v5::v6,v3,v7=>
  Option.bind (wX N (bs [115]) (v3:Int)) λwa=>
  bif (Nat.blt v7.length 9223372036854775807)then
  (λbq=>AH N v1 v6 (v3+1) bq) ((v5,wa)::v7)
  else none
def Mm(N:Nat)(v1:aK):aqz (aK×Int):=
 (A5 N v1).bind λv2=>
 bif (v2.2 !=0)then
  some (aci,v2.2)
 else
  AH N v1 v1.aA 0 []
def vu(v1:aK)(v7:aqx (aqy×aqy))(l:aqx an):aqx an:= .cells (cX v1).cells:: .cells zc3:: .map (bN v7)::l
def Uw(v1:aK)(v7:aqx (aqy×aqy))(v17:aqx (aqy×aqy))(v22:aqx aqy)(cV:aqx c8)(l:aqx an):aqx an:=vu v1 v7 (.map (bN v17):: .cells [(.own 6 (b6 v22)),(.own 7 (hY cV)),(.d (.v (.slice none 0 0))),(.d (.v (.slice none 0 0))),(.d (.v (.slice none 0 0)))]:: .cells [(.mp 2),(.mp 3)]:: .front 9 1 v22.length:: .front 54 3 cV.length::l)
def Wx(v1:aK)(v7:aqx (aqy×aqy))(v17:aqx (aqy×aqy))(v22:aqx aqy)(cV:aqx c8)(v32:aqx cv)(l:aqx an):aqx an:=vu v1 v7 (.map (bN v17):: .cells [(.own 6 (b6 v22)),(.own 7 (hY cV)),(.own 8 (iT v32)),(.d (.v (.slice none 0 0))),(.d (.v (.slice none 0 0)))]:: .cells [(.mp 2),(.mp 3)]:: .front 9 1 v22.length:: .front 54 3 cV.length:: .front 59 7 v32.length::l)
def Zv(v1:aK)(v7:aqx (aqy×aqy))(v17:aqx (aqy×aqy))(v22:aqx aqy)(cV:aqx c8)(v32:aqx cv)(v37:aqx bf)(l:aqx an):aqx an:=vu v1 v7 (.map (bN v17):: .cells [(.own 6 (b6 v22)),(.own 7 (hY cV)),(.own 8 (iT v32)),(.own 9 (gh v37)),(.d (.v (.slice none 0 0)))]:: .cells [(.mp 2),(.mp 3)]:: .front 9 1 v22.length:: .front 54 3 cV.length:: .front 59 7 v32.length:: .front 69 22 v37.length::l)
theorem Wh{N v1}:KO 8 [(cX v1)] (λr=> .bz [(cX r.1),(ar r.2)]) (Mm N v1):=
 fw Tryz.func8 (aq λv2 h1=>gA [[],[(4,cK aik h1)],[]] (bB λh2=>gA [[f0 h2],[],[(7,oL v1.aA dX)]] (gT fb 38 v1.aA λh4=>jV 1 [] [1,2,6,7,38,39,40] 4 [] [(1,0),(1,1),(1,2),(1,3),(1,4)] (λv3(v7:(aqx (aqy×aqy)))=>⟨174,[(1,(.ptr 0 0)),(2,(.ptr 1 0)),(6,(.mp 2)),(7,(.mp 3)),(38,(.d (.sl (b6 v1.aA)))),(39,(ar (v1.aA.length:Int))),(40,(ar (v3:Int)))],(vu v1 v7 [.map (bN [])])⟩) (λv3 v7 h5 f1=>gA [[],[f0 (bj h5)],[(7,oL v1.aG iy)]] (gT ny 51 v1.aG λh7=>jV 2 [] [1,2,6,7,51,52,53] 4 [] [(1,0),(1,1),(1,2),(1,3),(1,4)] (λv8(v12:(aqx (aqy×aqy)))=>⟨174,[(1,(.ptr 0 0)),(2,(.ptr 1 0)),(6,(.mp 2)),(7,(.mp 3)),(51,(.d (.sl (iT v1.aG)))),(52,(ar (v1.aG.length:Int))),(53,(ar (v8:Int)))],(vu v1 v7 [.map (bN v12)])⟩) (λv8 v12 h8 f2=>gA [[],[f0 (bj h8)],[(7,oL v1.ay gY)]] (gT nA 65 v1.ay λaU=>jV 3 [] [1,2,6,7,65,66,67] 4 [] [(1,0),(1,1),(1,2),(1,3),(1,4)] (λba(v17:(aqx (aqy×aqy)))=>⟨174,[(1,(.ptr 0 0)),(2,(.ptr 1 0)),(6,(.mp 2)),(7,(.mp 3)),(65,(.d (.sl (gh v1.ay)))),(66,(ar (v1.ay.length:Int))),(67,(ar (ba:Int)))],(vu v1 v7 [.map (bN v17)])⟩) (λba v17 bh f3=>gA [[],[f0 (bj bh)],[],[],[(7,oL v1.aA dX)]] (li (λ_=>(nj 4 0 9 1 [] (.inr (by kernel_rfl)) ·)) (gT fb 82 v1.aA λb5=>jV 4 [] [1,2,6,7,14,15,82,83,84] 7 [] [(1,0),(1,1),(1,2),(1,3),(1,4),(4,1),(4,2),(4,3),(4,4)] (λcJ(v22:(aqx aqy))=>⟨174,[(1,(.ptr 0 0)),(2,(.ptr 1 0)),(6,(.mp 2)),(7,(.mp 3)),(14,(.ptr 4 0)),(15,(.ptr 5 0)),(82,(.d (.sl (b6 v1.aA)))),(83,(ar (v1.aA.length:Int))),(84,(ar (cJ:Int)))],(vu v1 v7 [.map (bN v17), .cells [(.own 6 (b6 v22)),(.d (.v (.slice none 0 0))),(.d (.v (.slice none 0 0))),(.d (.v (.slice none 0 0))),(.d (.v (.slice none 0 0)))], .cells [(.mp 2),(.mp 3)], .front 9 1 v22.length])⟩) (λcJ v22 bZ f4=>gA [[],[f0 (bj bZ)],[(7,oL v1.cr kg)]] (li (λ_=>(nj 4 1 54 3 [] (.inr (by kernel_rfl)) ·)) (gT rP 98 v1.cr λbV=>jV 5 [] [1,2,7,14,15,98,99,100] 8 [] [(1,0),(1,1),(1,2),(1,3),(1,4),(4,2),(4,3),(4,4)] (λv23(cV:(aqx c8))=>⟨174,[(1,(.ptr 0 0)),(2,(.ptr 1 0)),(7,(.mp 3)),(14,(.ptr 4 0)),(15,(.ptr 5 0)),(98,(.d (.sl (hY v1.cr)))),(99,(ar (v1.cr.length:Int))),(100,(ar (v23:Int)))],(Uw v1 v7 v17 v22 cV [])⟩) (λv23 cV cA f5=>gA [[],[f0 (bj cA)],[(7,oL v1.aG iy)]] (li (λ_=>(nj 4 2 59 7 [] (.inr (by kernel_rfl)) ·)) (gT ny 118 v1.aG λeu=>jV 6 [] [1,2,7,14,15,118,119,120] 9 [] [(1,0),(1,1),(1,2),(1,3),(1,4),(4,3),(4,4)] (λv28(v32:(aqx cv))=>⟨174,[(1,(.ptr 0 0)),(2,(.ptr 1 0)),(7,(.mp 3)),(14,(.ptr 4 0)),(15,(.ptr 5 0)),(118,(.d (.sl (iT v1.aG)))),(119,(ar (v1.aG.length:Int))),(120,(ar (v28:Int)))],(Wx v1 v7 v17 v22 cV v32 [])⟩) (λv28 v32 cH f6=>gA [[],[f0 (bj cH)],[(7,oL v1.ay gY)]] (li (λ_=>(nj 4 3 69 22 [] (.inr (by kernel_rfl)) ·)) (gT nA 142 v1.ay λfe=>jV 7 [] [1,2,7,14,15,142,143,144] 10 [] [(1,0),(1,1),(1,2),(1,3),(1,4),(4,4)] (λv33(v37:(aqx bf))=>⟨174,[(1,(.ptr 0 0)),(2,(.ptr 1 0)),(7,(.mp 3)),(14,(.ptr 4 0)),(15,(.ptr 5 0)),(142,(.d (.sl (gh v1.ay)))),(143,(ar (v1.ay.length:Int))),(144,(ar (v33:Int)))],(Zv v1 v7 v17 v22 cV v32 v37 [])⟩) (λv33 v37 dQ f7=>gA [[],[f0 (bj dQ)],[(7,oL v1.b9 dX)]] (li (λ_=>(nj 4 4 9 1 [] (.inr (by kernel_rfl)) ·)) (gT fb 158 v1.b9 λfQ=>jV 8 [] [2,7,14,158,159,160] 11 [] [(1,0),(1,1),(1,2),(1,3),(1,4)] (λkT(nw:(aqx aqy))=>⟨174,[(2,(.ptr 1 0)),(7,(.mp 3)),(14,(.ptr 4 0)),(158,(.d (.sl (b6 v1.b9)))),(159,(ar (v1.b9.length:Int))),(160,(ar (kT:Int)))],(vu v1 v7 [.map (bN v17), .cells [(.own 6 (b6 v22)),(.own 7 (hY cV)),(.own 8 (iT v32)),(.own 9 (gh v37)),(.own 10 (b6 nw))], .cells [(.mp 2),(.mp 3)], .front 9 1 v22.length, .front 54 3 cV.length, .front 59 7 v32.length, .front 69 22 v37.length, .front 9 1 nw.length])⟩) (λkT nw e9 f8=>gR [[],[f0 (bj e9)],[]]) (λkT v40 v41 nw e9 f8 hf8=>aF λfG=>jM hf8 (nw++[(eZ v17 v40 (bs []))]) [[],[t0 (bk e9)],[(1,oE (ik (aW e9)))],[(14,⟨_,_, .eq (LW false v17 v40)⟩),(19,oA fb nw ([(eZ v17 v40 (bs []))]) fG)],[(2,oq (bE e9 rfl fQ))]] e9)))) (λv33 v35 kQ v37 dQ f7 Nr=>aq λth gg=>aF λiw=>jM Nr (v37++[th]) [[],[t0 (bk dQ)],[(1,oE (jH (aW dQ)))],[(13,oQ [(ep v35),(.agg [(.mp 2),(.mp 3)])] (Zv v1 v7 v17 v22 cV v32 v37 [.cells (ep v35).cells]) [2,3] (ajw _ gg)),(19,oA nA v37 ([th]) iw)],[(2,oq (bE dQ rfl fe))]] dQ)))) (λv28 v30 v31 v32 cH f6 zu=>aq λv44 gL=>aF λiX=>jM zu (v32++[(⟨(eZ v17 v30.ao (bs [])),v30.aO,v44⟩:cv)]) [[],[t0 (bk cH)],[(1,oE (jy (aW cH)))],[(17,⟨_,_, .eq (LW false v17 v30.ao)⟩),(34,oQ [(.agg [(.mp 2),(.mp 3)]),(.d (.sl (c6 v30.aP)))] (Wx v1 v7 v17 v22 cV v32 [.cells (mZ v30).cells]) [2,3] (aax _ gL)),(43,oA ny v32 ([(⟨(eZ v17 v30.ao (bs [])),v30.aO,v44⟩:cv)]) iX)],[(2,oq (bE cH rfl eu))]] cH)))) (λv23 v25 v26 cV cA f5 p9=>aq λv45 jD=>aF λju=>jM p9 (cV++[(⟨v45,v25.jB⟩:c8)]) [[],[t0 (bk cA)],[(1,oE (pI (aW cA)))],[(16,oQ [(.agg [(.mp 2),(.mp 3)]),(cE v25.aS)] (Uw v1 v7 v17 v22 cV [.cells (mP v25).cells]) [2,3] (E9 jD)),(31,oA rP cV ([(⟨v45,v25.jB⟩:c8)]) ju)],[(2,oq (bE cA rfl bV))]] cA)))) (λcJ v20 v21 v22 bZ f4 iF=>aF λlk=>jM iF (v22++[(eZ v7 v20 (bs []))]) [[],[t0 (bk bZ)],[(1,oE (ik (aW bZ)))],[(14,⟨_,_, .eq (LW false v7 v20)⟩),(19,oA fb v22 ([(eZ v7 v20 (bs []))]) lk)],[(2,oq (bE bZ rfl b5))]] bZ)))) (λba v15 cu v17 bh f3 fu=>aq λv46 my=>aF λkX=>jM fu ((v15.ao,v46)::v17) [[],[t0 (bk bh)],[(4,oE (jH (aW bh)))],[(13,cK IV my),(16,⟨_,_, .sd (o:= .none) (Hg kX)⟩)],[(2,oq (bE bh rfl aU))]] bh))) (λv8 v10 v11 v12 h8 f2 ca=>aq λu5 ot=>aF λou=>jM ca ((v10.ao,u5)::v12) [[],[t0 (bk h8)],[(4,oE (jy (aW h8)))],[(13,cK IV ot),(16,⟨_,_, .sd (o:= .none) (Hg ou)⟩)],[(2,oq (bE h8 rfl h7))]] h8))) (λv3 v5 v6 v7 h5 f1 aB=>aq λwa mf=>aF λl9=>jM aB ((v5,wa)::v7) [[],[t0 (bk h5)],[(4,oE (ik (aW h5)))],[(10,cK IV mf),(13,⟨_,_, .sd (o:= .none) (Hg l9)⟩)],[(2,oq (bE h5 rfl h4))]] h5))))
def Wk(N:Nat)(v2:aqx aqy):aqx aqy->Nat->aqz Bool
 |[],_=>
  some true
 |v5::v6,v3=>
  Option.bind (v2[((v3:Int)).toNat]?) λv7=>
  bif (bL v5==bL v7)then
   (Wk N v2 v6 (v3+1))
  else
   some false
def NP(N:Nat)(v1:aqx aqy)(v2:aqx aqy):aqz Bool:=
 bif ((v1.length:Int) !=(v2.length:Int))then
  some false
 else
  Wk N v2 v1 0
theorem Yt{N v1 v2}:KO 26 [(.d (.sl (b6 v1))),(.d (.sl (b6 v2)))] aM (NP N v1 v2):=
 fw Tryz.func26 (gA [[],[(4,oL v1 dX),(10,oL v2 dX)]] (dd λ_=>gT fb 0 v1 λh3=>dK 1 [] [0,1,5] 0 (λv3=>⟨26,[(0,(.d (.sl (b6 v1)))),(1,(.d (.sl (b6 v2)))),(5,(ar (v3:Int)))],[]⟩) (λv3 h4 f1=>gR [[(7,oL v1 dX)],[f0 (bj h4)],[]]) (λv3 v5 v6 h4 f1 aB=>aq λv7 h5=>gA [[(7,oL v1 dX)],[t0 (bk h4)],[(7,oE (ik (aW h4))),(19,oE (ik h5))]] (ff λh7=>gb aB () [[f0 (cb h7)],[(5,oq (bE h4 rfl h3))]] h4))))
def UQ(N:Nat)(v2:aR):aqx bt->Nat->aqz Bool
 |[],_=>
  some true
 |v6::v7,v4=>
  Option.bind (v2.xL[((v4:Int)).toNat]?) λv8=>
  bif ((bL v6.ao==bL v8.ao)&&((v6.cN.toInt==v8.cN.toInt)&&true))then
   (UQ N v2 v7 (v4+1))
  else
   some false
def Bp(N:Nat)(v1:aR)(v2:aR):aqz Bool:=
 Option.bind (bif (v1.xK.toInt !=v2.xK.toInt)then some true else some ((v1.xL.length:Int) !=(v2.xL.length:Int))) λv3=>
 bif v3 then
  some false
 else
  UQ N v2 v1.xL 0
theorem Fm{N v1 v2}:KO 64 [(cE v1),(cE v2)] aM (Bp N v1 v2):=
 fw Tryz.func64 (gA [[]] (gG (λv3=>[(19,(aM v3))]) (λ_=>[.cells (cE v1).cells, .cells (cE v2).cells]) (aw (λh1=>gE [(5,bT h1)] []) λh1=>gE [(5,bF h1)] [(25,oL v1.xL eK),(34,oL v2.xL eK)]) λv3=>dd λ_=>gB lI 0 1 v1.xL λh5=>dK 1 [] [2,3,5] 2 (λv4=>⟨38,[(2,(.ptr 0 0)),(3,(.ptr 1 0)),(5,(ar (v4:Int)))],[.cells (cE v1).cells, .cells (cE v2).cells]⟩) (λv4 h6 f1=>gR [[(10,oL v1.xL eK)],[f0 (bj h6)],[]]) (λv4 v6 v7 h6 f1 aB=>aq λv8 h7=>gA [[(10,oL v1.xL eK)],[t0 (bk h6)],[(10,oE (j7 (aW h6))),(25,oE (j7 h7))]] (ff λh9=>gb aB () [[f0 (cb h9)],[(5,oq (bE h6 rfl h5))]] h6))))
def TD(N:Nat)(v1:c8)(v2:c8):aqz Bool:=
 Option.bind (bif (v1.jB==v2.jB)then (Bp N v1.aS v2.aS).bind λv3=>
 some v3 else some false) λv4=>
 some v4
theorem akJ{N v1 v2}:KO 63 [(mP v1),(mP v2)] aM (TD N v1 v2):=
 fw Tryz.func63 (gA [[]] (gG (λv4=>[(4,(aM v4))]) (λ_=>[.cells (mP v1).cells, .cells (mP v2).cells]) (aw (λh1=>aq λv3 h2=>gE [(5,bT h1)] [(31,cK Fm h2)]) λh1=>gE [(5,bF h1)] []) λv4=>gR []))
def ZX(N:Nat)(v2:aqx c8):aqx c8->Nat->aqz Bool
 |[],_=>
  some true
 |v5::v6,v3=>
  Option.bind (v2[((v3:Int)).toNat]?) λv7=>
  (TD N v5 v7).bind λv8=>
  bif v8 then
   (ZX N v2 v6 (v3+1))
  else
   some false
def V5(N:Nat)(v1:aqx c8)(v2:aqx c8):aqz Bool:=
 bif ((v1.length:Int) !=(v2.length:Int))then
  some false
 else
  ZX N v2 v1 0
theorem aew{N v1 v2}:KO 27 [(.d (.sl (hY v1))),(.d (.sl (hY v2)))] aM (V5 N v1 v2):=
 fw Tryz.func27 (gA [[],[(4,oL v1 kg),(10,oL v2 kg)]] (dd λ_=>gT rP 0 v1 λh3=>dK 1 [] [0,1,5] 0 (λv3=>⟨27,[(0,(.d (.sl (hY v1)))),(1,(.d (.sl (hY v2)))),(5,(ar (v3:Int)))],[]⟩) (λv3 h4 f1=>gR [[(7,oL v1 kg)],[f0 (bj h4)],[]]) (λv3 v5 v6 h4 f1 aB=>aq λv7 h5=>aq λv8 h7=>gA [[(7,oL v1 kg)],[t0 (bk h4)],[(7,oE (pI (aW h4))),(19,oE (pI h5)),(25,cK akJ h7)]] (ff λh8=>gb aB () [[f0 (cb h8)],[(5,oq (bE h4 rfl h3))]] h4))))
def X4(N:Nat)(v2:aqx aR):aqx aR->Nat->aqz Bool
 |[],_=>
  some true
 |v5::v6,v3=>
  Option.bind (v2[((v3:Int)).toNat]?) λv7=>
  (Bp N v5 v7).bind λv8=>
  bif v8 then
   (X4 N v2 v6 (v3+1))
  else
   some false
def Te(N:Nat)(v1:aqx aR)(v2:aqx aR):aqz Bool:=
 bif ((v1.length:Int) !=(v2.length:Int))then
  some false
 else
  X4 N v2 v1 0
theorem ZF{N v1 v2}:KO 28 [(.d (.sl (c6 v1))),(.d (.sl (c6 v2)))] aM (Te N v1 v2):=
 fw Tryz.func28 (gA [[],[(4,oL v1 dT),(10,oL v2 dT)]] (dd λ_=>gT lh 0 v1 λh3=>dK 1 [] [0,1,5] 0 (λv3=>⟨27,[(0,(.d (.sl (c6 v1)))),(1,(.d (.sl (c6 v2)))),(5,(ar (v3:Int)))],[]⟩) (λv3 h4 f1=>gR [[(7,oL v1 dT)],[f0 (bj h4)],[]]) (λv3 v5 v6 h4 f1 aB=>aq λv7 h5=>aq λv8 h7=>gA [[(7,oL v1 dT)],[t0 (bk h4)],[(7,oE (k9 (aW h4))),(19,oE (k9 h5)),(25,cK Fm h7)]] (ff λh8=>gb aB () [[f0 (cb h8)],[(5,oq (bE h4 rfl h3))]] h4))))
def Yu(N:Nat)(v2:aqx cd):aqx cd->Nat->aqz Bool
 |[],_=>
  some true
 |v5::v6,v3=>
  Option.bind (v2[((v3:Int)).toNat]?) λv7=>
  Option.bind (bif (bL v5.ao==bL v7.ao)then (Bp N v5.cw v7.cw).bind λv8=>
  some (!v8)else some true) λv9=>
  bif v9 then
   some false
  else
   (Yu N v2 v6 (v3+1))
def Px(N:Nat)(v1:aqx cd)(v2:aqx cd):aqz Bool:=
 bif ((v1.length:Int) !=(v2.length:Int))then
  some false
 else
  Yu N v2 v1 0
theorem ZI{N v1 v2}:KO 65 [(.d (.sl (du v1))),(.d (.sl (du v2)))] aM (Px N v1 v2):=
 fw Tryz.func65 (gA [[],[(4,oL v1 dB),(10,oL v2 dB)]] (dd λ_=>gT kW 0 v1 λh3=>dK 1 [] [0,1,5] 0 (λv3=>⟨42,[(0,(.d (.sl (du v1)))),(1,(.d (.sl (du v2)))),(5,(ar (v3:Int)))],[]⟩) (λv3 h4 f1=>gR [[(7,oL v1 dB)],[f0 (bj h4)],[]]) (λv3 v5 v6 h4 f1 aB=>gA [[(7,oL v1 dB)],[t0 (bk h4)]] (aq λv7 h5=>gG (λv9=>[(41,(aM v9))]) (λ_=>[]) (cf (7,oE (iE (aW h4))) (cf (22,oE (iE h5)) (aw (λh7=>aq λv8 h8=>gE [(11,bF (cb h7))] [(43,oE (iE (aW h4))),(58,oE (iE h5)),(67,cK Fm h8)]) λh7=>gE [(11,bT (cW h7))] []))) λv9=>bB λaU=>gb aB () [[f0 aU],[(5,oq (bE h4 rfl h3))]] h4))))
def acy(N:Nat)(v1:bH)(v2:bH):aqz Bool:=
 Option.bind (bif (bL v1.bR==bL v2.bR)then (Bp N v1.aS v2.aS).bind λv3=>
 (bif v3 then (Te N v1.bO v2.bO).bind λv4=>
 some v4 else some false)else some false) λv5=>
 some v5
theorem adY{N v1 v2}:KO 157 [(fZ v1),(fZ v2)] aM (acy N v1 v2):=
 fw Tryz.func157 (gA [[]] (gG (λv5=>[(4,(aM v5))]) (λ_=>[.cells (fZ v1).cells, .cells (fZ v2).cells]) (aw (λh1=>aq λv3 h2=>bU (5,bT h1) (cf (31,cK Fm h2) (aw (λh3=>aq λv4 h4=>gE [(12,bT h3)] [(52,cK ZF h4)]) λh3=>gE [(12,bF h3)] []))) λh1=>gE [(5,bF h1),(12,bF rfl)] []) λv5=>gR []))
def ZM(N:Nat)(v2:aqx bH):aqx bH->Nat->aqz Bool
 |[],_=>
  some true
 |v5::v6,v3=>
  Option.bind (v2[((v3:Int)).toNat]?) λv7=>
  (acy N v5 v7).bind λv8=>
  bif v8 then
   (ZM N v2 v6 (v3+1))
  else
   some false
def Zs(N:Nat)(v1:aqx bH)(v2:aqx bH):aqz Bool:=
 bif ((v1.length:Int) !=(v2.length:Int))then
  some false
 else
  ZM N v2 v1 0
theorem agH{N v1 v2}:KO 112 [(.d (.sl (cZ v1))),(.d (.sl (cZ v2)))] aM (Zs N v1 v2):=
 fw Tryz.func112 (gA [[],[(4,oL v1 fx),(10,oL v2 fx)]] (dd λ_=>gT lX 0 v1 λh3=>dK 1 [] [0,1,5] 0 (λv3=>⟨27,[(0,(.d (.sl (cZ v1)))),(1,(.d (.sl (cZ v2)))),(5,(ar (v3:Int)))],[]⟩) (λv3 h4 f1=>gR [[(7,oL v1 fx)],[f0 (bj h4)],[]]) (λv3 v5 v6 h4 f1 aB=>aq λv7 h5=>aq λv8 h7=>gA [[(7,oL v1 fx)],[t0 (bk h4)],[(7,oE (gx (aW h4))),(19,oE (gx h5)),(25,cK adY h7)]] (ff λh8=>gb aB () [[f0 (cb h8)],[(5,oq (bE h4 rfl h3))]] h4))))
def Oh:aqx AV:=[(cQ (0:Int64)),(cQ (0:Int64))]
def U6(N:Nat)(v2:aqx au)(Uu:au->au->aqz Bool):aqx au->Nat->aqz Bool
 |[],_=>
  some true
 |v5::v6,v3=>
  Option.bind (v2[((v3:Int)).toNat]?) λv7=>
  (Uu v5 v7).bind λv8=>
  bif v8 then
   (U6 N v2 Uu v6 (v3+1))
  else
   some false
mutual
def Dx(N:Nat):Nat->au->au->aqz Bool
 |0,_,_=>none
 |d+1,v1,v2=>
  Option.bind (bif (v1.aJ==v2.aJ)then(bif (bL v1.ao==bL v2.ao)then(bif ((v1.dM.xN.toInt==v2.dM.xN.toInt)&&((v1.dM.xD.toInt==v2.dM.xD.toInt)&&true))then(bif ((v1.aO.b7==v2.aO.b7)&&((v1.aO.cp==v2.aO.cp)&&((v1.aO.cq==v2.aO.cq)&&((v1.aO.cU==v2.aO.cU)&&((v1.aO.cS==v2.aO.cS)&&true)))))then (Bp N v1.aS v2.aS).bind λv3=>
  (bif v3 then (Zs N v1.xIdx v2.xIdx).bind λv4=>
  (bif v4 then Option.bind ((HG N d) v1.bp v2.bp) λv5=>
  some v5 else some false)else some false)else some false)else some false)else some false)else some false) λv6=>
  some v6
def HG(N:Nat):Nat->(aqx au)->(aqx au)->aqz Bool
 |0,_,_=>none
 |d+1,v1,v2=>
  bif ((v1.length:Int) !=(v2.length:Int))then
   some false
  else
   U6 N v2 (Dx N d) v1 0
end
def acK(N:Nat)(v1:au)(v2:au):aqz Bool:=Dx N N v1 v2
theorem ag2(N:Nat):∀d:Nat,(∀{v1:au}{v2:au},KO 66 [(aN v1),(aN v2)] aM (Dx N d v1 v2))/\(∀{v1:aqx au}{v2:aqx au},KO 113 [(.d (.sl (dW v1))),(.d (.sl (dW v2)))] aM (HG N d v1 v2)):=by
 intro d
 induction d with
 |zero=>exact⟨(by intro v1 v2 r J;rw[Dx]at J;cases J),(by intro v1 v2 r J;rw[HG]at J;cases J)⟩
 |succ d ih=>
  have ail:= @ih.1;have ai2:= @ih.2;refine⟨?_,?_⟩
  ·intro v1 v2;rw[Dx];exact fw Tryz.func66 (gA [[]] (gG (λv6=>[(4,(aM v6))]) (λ_=>[.cells (aN v1).cells, .cells (aN v2).cells]) (aw (λh1=>bU (5,bT h1) (aw (λh2=>bU (12,bT h2) (aw (λh3=>bU (19,bT h3) (aw (λh4=>aq λv3 h5=>bU (26,bT h4) (cf (94,cK Fm h5) (aw (λh6=>aq λv4 h7=>bU (33,bT h6) (cf (115,cK agH h7) (aw (λh8=>aq λv5 h9=>gE [(40,bT h8)] [(136,cK ai2 h9)]) λh8=>gE [(40,bF h8)] []))) λh6=>gE [(33,bF h6),(40,bF rfl)] []))) λh4=>gE [(26,bF h4),(33,bF rfl),(40,bF rfl)] [])) λh3=>gE [(19,bF h3),(26,bF rfl),(33,bF rfl),(40,bF rfl)] [])) λh2=>gE [(12,bF h2),(19,bF rfl),(26,bF rfl),(33,bF rfl),(40,bF rfl)] [])) λh1=>gE [(5,bF h1),(12,bF rfl),(19,bF rfl),(26,bF rfl),(33,bF rfl),(40,bF rfl)] []) λv6=>gR []))
  intro v1 v2;rw[HG];exact fw Tryz.func113 (gA [[],[(4,oL v1 gq),(10,oL v2 gq)]] (dd λ_=>gT lK 0 v1 λh3=>dK 1 [] [0,1,5] 0 (λv3=>⟨27,[(0,(.d (.sl (dW v1)))),(1,(.d (.sl (dW v2)))),(5,(ar (v3:Int)))],[]⟩) (λv3 h4 f1=>gR [[(7,oL v1 gq)],[(0,bF (bj h4))],[]]) (λv3 v5 v6 h4 f1 aB=>aq λv7 h5=>aq λv8 h7=>gA [[(7,oL v1 gq)],[(0,bT (bk h4))],[(7,oE (fX (aW h4))),(19,oE (fX h5)),(25,cK ail h7)]] (ff λh8=>gb aB () [[(0,bF (cb h8))],[(5,oq (bE h4 rfl h3))]] h4))))
theorem agC{N v1 v2}:KO 66 [(aN v1),(aN v2)] aM (acK N v1 v2):=(ag2 N N).1
def aaY(N:Nat)(v1:bf)(v2:bf):aqz Bool:=
 Option.bind (bif (bL v1.ao==bL v2.ao)then(bif ((v1.aO.b7==v2.aO.b7)&&((v1.aO.cp==v2.aO.cp)&&((v1.aO.cq==v2.aO.cq)&&((v1.aO.cU==v2.aO.cU)&&((v1.aO.cS==v2.aO.cS)&&true)))))then(bif (v1.cC==v2.cC)then (Px N v1.aP v2.aP).bind λv3=>
 (bif v3 then (Px N v1.aY v2.aY).bind λv4=>
 (bif v4 then (acK N v1.cg v2.cg).bind λv5=>
 some v5 else some false)else some false)else some false)else some false)else some false) λv6=>
 some v6
theorem agc{N v1 v2}:KO 29 [(ep v1),(ep v2)] aM (aaY N v1 v2):=
 fw Tryz.func29 (gA [[]] (gG (λv6=>[(4,(aM v6))]) (λ_=>[.cells (ep v1).cells, .cells (ep v2).cells]) (aw (λh1=>bU (5,bT h1) (aw (λh2=>bU (12,bT h2) (aw (λh3=>aq λv3 h4=>bU (19,bT h3) (cf (73,cK ZI h4) (aw (λh5=>aq λv4 h6=>bU (26,bT h5) (cf (94,cK ZI h6) (aw (λh7=>aq λv5 h8=>gE [(33,bT h7)] [(115,cK agC h8)]) λh7=>gE [(33,bF h7)] []))) λh5=>gE [(26,bF h5),(33,bF rfl)] []))) λh3=>gE [(19,bF h3),(26,bF rfl),(33,bF rfl)] [])) λh2=>gE [(12,bF h2),(19,bF rfl),(26,bF rfl),(33,bF rfl)] [])) λh1=>gE [(5,bF h1),(12,bF rfl),(19,bF rfl),(26,bF rfl),(33,bF rfl)] []) λv6=>gR []))
def Xu(N:Nat)(v2:aK):aqx bf->Nat->aqz Bool
 |[],_=>
  some true
 |ba::b8,v11=>
  Option.bind (v2.ay[((v11:Int)).toNat]?) λv15=>
  (aaY N ba v15).bind λcu=>
  bif cu then
   (Xu N v2 b8 (v11+1))
  else
   some false
def aaG(N:Nat)(v2:aK)(v1:aK):aqx cv->Nat->aqz Bool
 |[],_=>
  Xu N v2 v1.ay 0
 |v9::v10,v7=>
  Option.bind (v2.aG[((v7:Int)).toNat]?) λv17=>
  Option.bind (bif (bL v9.ao==bL v17.ao)then(bif ((v9.aO.b7==v17.aO.b7)&&((v9.aO.cp==v17.aO.cp)&&((v9.aO.cq==v17.aO.cq)&&((v9.aO.cU==v17.aO.cU)&&((v9.aO.cS==v17.aO.cS)&&true)))))then (Te N v9.aP v17.aP).bind λcJ=>
  some (!cJ)else some true)else some true) λdy=>
  bif dy then
   some false
  else
   (aaG N v2 v1 v10 (v7+1))
def YI(N:Nat)(v1:aK)(v2:aK):aqz Bool:=
 (NP N v1.aA v2.aA).bind λv3=>
 Option.bind (bif v3 then (V5 N v1.cr v2.cr).bind λv4=>
 (bif v4 then (NP N v1.b9 v2.b9).bind λv5=>
 (bif v5 then(bif ((v1.aG.length:Int) !=(v2.aG.length:Int))then some true else some ((v1.ay.length:Int) !=(v2.ay.length:Int)))else some true)else some true)else some true) λv6=>
 bif v6 then
  some false
 else
  aaG N v2 v1 v1.aG 0
def Ig(v1:aK)(v2:aK)(l:aqx an):aqx an:= .cells (cX v1).cells:: .cells (cX v2).cells::l
theorem alo{N v1 v2}:KO 10 [(cX v1),(cX v2)] aM (YI N v1 v2):=
 fw Tryz.func10 (gA [[]] (aq λv3 h1=>gG (λv6=>[(46,(aM v6))]) (λ_=>(Ig v1 v2 [])) (cf (13,cK Yt h1) (aw (λh2=>aq λv4 h3=>bU (6,bF (cb h2)) (cf (34,cK aew h3) (aw (λh4=>aq λv5 h5=>bU (14,bF (cb h4)) (cf (58,cK Yt h5) (aw (λh6=>bU (22,bF (cb h6)) (cf (76,oL v1.aG iy) (cf (85,oL v2.aG iy) (aw (λh7=>gE [(31,bT h7)] []) λh7=>gE [(31,bF h7)] [(103,oL v1.ay gY),(112,oL v2.ay gY)])))) λh6=>gE [(22,bT (cW h6)),(31,bT rfl)] []))) λh4=>gE [(14,bT (cW h4)),(22,bT rfl),(31,bT rfl)] []))) λh2=>gE [(6,bT (cW h2)),(14,bT rfl),(22,bT rfl),(31,bT rfl)] [])) λv6=>dd λ_=>gB ny 0 2 v1.aG λbh=>dK 1 [] [2,3,5] 2 (λv7=>⟨117,[(2,(.ptr 0 0)),(3,(.ptr 1 0)),(5,(ar (v7:Int)))],(Ig v1 v2 [])⟩) (λv7 bn f1=>gA [[(10,oL v1.aG iy)],[f0 (bj bn)],[]] (gB nA 0 3 v1.ay λbZ=>dK 2 [] [2,3,6] 2 (λv11=>⟨117,[(2,(.ptr 0 0)),(3,(.ptr 1 0)),(6,(ar (v11:Int)))],(Ig v1 v2 [])⟩) (λv11 bK f2=>gR [[(10,oL v1.ay gY)],[f0 (bj bK)],[]]) (λv11 ba b8 bK f2 ca=>aq λv15 bV=>aq λcu dv=>gA [[(10,oL v1.ay gY)],[t0 (bk bK)],[(10,oE (jH (aW bK))),(25,oE (jH bV)),(31,cK agc dv)]] (ff λeu=>gb ca () [[f0 (cb eu)],[(5,oq (bE bK rfl bZ))]] bK)))) (λv7 v9 v10 bn f1 aB=>gA [[(10,oL v1.aG iy)],[t0 (bk bn)]] (aq λv17 cH=>gG (λdy=>[(97,(aM dy))]) (λ_=>(Ig v1 v2 [])) (cf (10,oE (jy (aW bn))) (cf (28,oE (jy cH)) (aw (λfe=>bU (13,bF (cb fe)) (cf (52,oE (jy (aW bn))) (cf (70,oE (jy cH)) (aw (λdQ=>aq λcJ eG=>gE [(28,bF (cb dQ))] [(97,oE (jy (aW bn))),(115,oE (jy cH)),(124,cK ZF eG)]) λdQ=>gE [(28,bT (cW dQ))] [])))) λfe=>gE [(13,bT (cW fe)),(28,bT rfl)] []))) λdy=>bB λe9=>gb aB () [[f0 e9],[(5,oq (bE bn rfl bh))]] bn))))
def Qh(N:Nat)(v1:aqy):Nat->Int->Int->aqz Int
 |0,_,_=>none
 |v2+1,v3,v4=>
  bif (decide (v4<(v1.size:Int)))then
   bif (decide ((0:Int)<=v4))then
   Option.bind (v1[(v4).toNat]?) λv5=>
   (λbq fc=>Qh N v1 v2 bq fc) (IntKind.u64.wrap ((IntKind.u64.wrap ((BitVec.ofInt (IntKind.bits .u64) v3^^^BitVec.ofInt (IntKind.bits .u64) (IntKind.u64.wrap (v5.toNat:Int))).toNat:Int))*(1099511628211:Int))) (bl (v4+(1:Int)))
   else none
  else
   some v3
def SM(N:Nat)(v1:aqy):aqz Int:=
 Qh N v1 N (14695981039346656037:Int) (0:Int)
theorem TR{N v1}:KO 20 [(aC v1)] (λr=> .d (.v (.int .u64 r))) (SM N v1):=
 fw Tryz.func20 (rT 1 [[],[],[]] [0,3,6,7] 0 (λ(v3:Int)(v4:Int)=>⟨19,[(0,(aC v1)),(3,(.d (.v (.int .u64 v3)))),(6,(ar (v1.size:Int))),(7,(ar v4))],[]⟩) (Qh N v1) (λv2 v3 v4 f1 aB=>gA [[]] (lT λh1=>aF λh3=>aq λv5 h2=>nB aB ((IntKind.u64.wrap ((IntKind.u64.wrap ((BitVec.ofInt (IntKind.bits .u64) v3^^^BitVec.ofInt (IntKind.bits .u64) (IntKind.u64.wrap (v5.toNat:Int))).toNat:Int))*(1099511628211:Int))),(bl (v4+(1:Int)))) [[t0 h1],[],[(10,⟨_,_, .ch (i:=v4) (of_decide_eq_true h3) h2⟩)],[]])))
def Gr(N:Nat):aqz Bool:=
 Option.bind (Qf N (bs [110]) (bs [97]) (bs [115]) (bs [107])) λv1=>
 (Mm N v1).bind λv2=>
 Option.bind (bif (v2.2==0)then Option.bind (Qf N (bs [115,48]) (bs [112,48]) (bs [100,48]) (bs [105,48])) λv3=>
 (YI N v2.1 v3).bind λv4=>
 (bif v4 then Option.bind (SM N (bs [])) λv5=>
 (bif (v5==14695981039346656037)then Option.bind (SM N (bs [97])) λv6=>
 some (v6==12638187200555641996)else some false)else some false)else some false) λv7=>
 some v7
theorem T5{N}:KO 7 [] aM (Gr N):=
 fw Tryz.func7 (aq λv1 h1=>aq λv2 h2=>gA [[],[(1,cK Zt h1),(4,cK Wh h2)]] (gG (λv7=>[(0,(aM v7))]) (λ_=>[.cells (cX v2.1).cells]) (aw (λh3=>aq λv3 h4=>aq λv4 h5=>bU (2,bT h3) (cf (13,cK Zt h4) (cf (16,cK alo h5) (aw (λh6=>aq λv5 h7=>bU (7,bT h6) (cf (25,cK TR h7) (aw (λh8=>aq λv6 h9=>gE [(11,bT h8)] [(37,cK TR h9)]) λh8=>gE [(11,bF h8)] []))) λh6=>gE [(7,bF h6),(11,bF rfl)] [])))) λh3=>gE [(2,bF h3),(7,bF rfl),(11,bF rfl)] []) λv7=>gR []))
def G4(N:Nat):aqx aqy->Nat->aqz Bool
 |[],_=>
  some true
 |v4::v5,v2=>
  (pj N v4).bind λv6=>
  bif v6 then
   (G4 N v5 (v2+1))
  else
   some false
def OZ(N:Nat)(v1:aqx aqy):aqz Bool:=
 G4 N v1 0
theorem VT{N v1}:KO 67 [(.d (.sl (b6 v1)))] aM (OZ N v1):=
 fw Tryz.func67 (gA [[],[(4,oL v1 dX)]] (gT fb 0 v1 λh2=>dK 1 [] [5,6,7] 0 (λv2=>⟨15,[(5,(.d (.sl (b6 v1)))),(6,(ar (v1.length:Int))),(7,(ar (v2:Int)))],[]⟩) (λv2 h3 f1=>gR [[],[f0 (bj h3)],[]]) (λv2 v4 v5 h3 f1 aB=>aq λv6 h4=>gA [[],[t0 (bk h3)],[(1,oE (ik (aW h3)))],[(4,cK sB h4)]] (ff λh5=>gb aB () [[f0 (cb h5)],[(2,oq (bE h3 rfl h2))]] h3))))
def Lx(N:Nat)(v1:aqx aqy)(v2:Int):aqz aqy:=
 bif (decide ((0:Int)<=v2))then
 Option.bind (v1[(v2).toNat]?) λv3=>
 some v3
 else none
theorem acZ{N v1 v2}:KO 114 [(.d (.sl (b6 v1))),(ar v2)] aC (Lx N v1 v2):=
 fw Tryz.func114 (aF λh2=>aq λv3 h1=>gR [[],[(7,⟨_,_, .el (xs:=b6 v1) (i:=v2) (of_decide_eq_true h2) (ik h1)⟩)]])
def fA(N:Nat)(v1:aqy)(v2:aqy):aqz aqy:=Ac v2 v1
theorem gV{N v1 v2}:KP 70 [(.ptr 0 0),(aC v1)] [.aV 136 (bG 1 v2), .bm 5 v2] (λ_=> .bz [.dead, .dead]) (λr=>[.aV 136 (bG 1 r), .bm 5 r]) (fA N v1 v2):=Zo (by kernel_rfl)
def zc(N:Nat)(v1:aqy):aqz aqy:=some v1
theorem zX{N v1}:KP 79 [(.ptr 0 0)] [.aV 136 (bG 1 v1), .bm 5 v1] aC (λ_=>[.gone, .gone]) (zc N v1):=aac
def OQ(N:Nat)(v2:aqx aqy)(v4:Int)(fD:Int->aqy->aqz aqy)(v6:aqy):aqz aqy:=
 (Lx N v2 v4).bind λv7=>
 (fA N v7 v6).bind λv8=>
 fD (bl (v4+(1:Int))) v8
def BI(N:Nat)(v1:Int)(v2:aqx aqy):Nat->Int->aqy->aqz aqy
 |0,_,_=>none
 |v3+1,v4,v5=>
  bif (decide (v4<v1))then
   bif (decide (v4>0))then
    Option.bind (fA N (bs [44,32]) v5) λv9=>
    OQ N v2 v4 (λbq fc=>BI N v1 v2 v3 bq fc) v9
   else
    OQ N v2 v4 (λbq fc=>BI N v1 v2 v3 bq fc) v5
  else
   (zc N v5).bind λv10=>
   some v10
def Sy(N:Nat)(v1:Int)(v2:aqx aqy):aqz aqy:=
 BI N v1 v2 N (0:Int) (bs [])
theorem ane{N v1 v2}:KP 76 [(ar v1),(.hid (.dU 114 [.d (.sl (b6 v2))]))] [] aC (λ_=>[]) (Sy N v1 v2):=
 fh 0 Tryz.func76 (gA [[]] (li (λ_=>(yL 136 0 5 (by kernel_rfl) ·)) (rT 1 [[]] [1,5,7,8] 2 (λ(v4:Int)(v5:aqy)=>⟨20,[(1,(.hid (.dU 114 [.d (.sl (b6 v2))]))),(5,(.ptr 0 0)),(7,(ar v1)),(8,(ar v4))],[.aV 136 (bG 1 v5), .bm 5 v5]⟩) (BI N v1 v2) (λv3 v4 v5 f1 aB=>gA [[]] (aw (λh1=>eB 2 [[t0 h1],[],[]] [1,5,6,7,8] 2 (λ(v6:aqy)=>⟨20,[(1,(.hid (.dU 114 [.d (.sl (b6 v2))]))),(5,(.ptr 0 0)),(6,(ar v4)),(7,(ar v1)),(8,(ar v4))],[.aV 136 (bG 1 v6), .bm 5 v6]⟩) (OQ N v2 v4 (λbq fc=>BI N v1 v2 v3 bq fc)) (λf2 ca=>aw (λh4=>aq λv9 h5=>gm ca v9 [[t0 h4],[(1,oR [(.ptr 0 0),(aC (bs [44,32]))] [.aV 136 (bG 1 v5), .bm 5 v5] [0,1] (gV _ h5))]]) λh4=>gm ca v5 [[f0 h4]]) (λv6=>aq λv7 h2=>aq λv8 h3=>nB aB ((bl (v4+(1:Int))),v8) [[(7,⟨_,_, .tw (c:= .dU 114 [.d (.sl (b6 v2))]) (args:=[(ar v4)]) ⟨_,_,rfl,(acZ _ h2)⟩⟩),(10,oR [(.ptr 0 0),(aC v7)] [.aV 136 (bG 1 v6), .bm 5 v6] [0,1] (gV _ h3))],[]])) λh1=>aq λv10 h6=>gH [[f0 h1],[(1,oR [(.ptr 0 0)] [.aV 136 (bG 1 v5), .bm 5 v5] [0,1] (zX _ h6))]])))))
def FA(N:Nat)(v1:aqy)(v2:aqx aqy)(v3:aqy):aqz aqy:=
 bif (decide ((v2.length:Int)>0))then
  bif (Nat.ble (v1.size+(bs [32]).size) 9223372036854775807)then
  Option.bind (Sy N (v2.length:Int) v2) λv4=>
  bif (Nat.ble ((v1++(bs [32])).size+v4.size) 9223372036854775807)then
  bif (Nat.ble (((v1++(bs [32]))++v4).size+(bs [59,10]).size) 9223372036854775807)then
  Option.bind (fA N (((v1++(bs [32]))++v4)++(bs [59,10])) v3) λv5=>
  some v5
  else none
  else none
  else none
 else
  some v3
theorem Y3{N v1 v2 v3}:KP 68 [(.ptr 0 0),(aC v1),(.d (.sl (b6 v2)))] [.aV 136 (bG 1 v3), .bm 5 v3] (λ_=> .bz []) (λr=>[.aV 136 (bG 1 r), .bm 5 r]) (FA N v1 v2 v3):=
 fh 2 Tryz.func68 (gA [[(4,oL v2 dX)]] (aw (λh1=>aF λh2=>aq λv4 h3=>aF λh4=>aF λh5=>aq λv5 h6=>gH [[t0 h1],[(7,⟨_,_, .cat (n:=v1.size+(bs [32]).size) (aZ h2)⟩),(13,oL v2 dX),(22,oQ [(ar (v2.length:Int)),(.hid (.dU 114 [.d (.sl (b6 v2))]))] [.aV 136 (bG 1 v3), .bm 5 v3] [] (ane _ h3)),(25,⟨_,_, .cat (n:=(v1++(bs [32])).size+v4.size) (aZ h4)⟩),(28,⟨_,_, .cat (n:=((v1++(bs [32]))++v4).size+(bs [59,10]).size) (aZ h5)⟩),(31,oR [(.ptr 0 0),(aC (((v1++(bs [32]))++v4)++(bs [59,10])))] [.aV 136 (bG 1 v3), .bm 5 v3] [0,1] (gV _ h6))]]) λh1=>gH [[f0 h1]]))
def BT(N:Nat)(v1:aqy):aqz Int:=some (v1.size:Int)
theorem OW{N v1}:KP 161 [(.ptr 0 0)] [.aV 136 (bG 1 v1), .bm 5 v1] ar (λ_=>[.aV 136 (bG 1 v1), .bm 5 v1]) (BT N v1):=ao0
def yP(N:Nat)(v1:Int64):aqz Int:=
 bif (decide (v1.toInt<0))then
  some (IntKind.u64.wrap (0-(IntKind.u64.wrap v1.toInt)))
 else
  some (IntKind.u64.wrap v1.toInt)
theorem Ll{N v1}:KO 162 [(cQ v1)] (λr=> .d (.v (.int .u64 r))) (yP N v1):=
 fw Tryz.func162 (gA [[],[]] (bB λh1=>gR [[f0 h1],[]]))
def SR(N:Nat)(v1:Int)(v2:Int):aqz aqy:=Ha v1 v2
theorem am6{N v1 v2}:KO 194 [(.d (.v (.int .u64 v1))),(ar v2)] aC (SR N v1 v2):=ahN
def uK(N:Nat)(v1:Int)(v2:Int):aqz aqy:=
 (SR N v1 v2).bind λv3=>
 some v3
theorem IM{N v1 v2}:KO 163 [(.d (.v (.int .u64 v1))),(ar v2)] aC (uK N v1 v2):=
 fw Tryz.func163 (aq λv3 h1=>gR [[],[(7,cK am6 h1)]])
def Ew(N:Nat)(v2:aqy)(v9:aqy):aqz aqy:=
 (fA N v2 v9).bind λv10=>
 some v10
def Gk(N:Nat)(v2:aqy)(dy:aqy):aqz aqy:=
 (fA N v2 dy).bind λv20=>
 some v20
def EU(N:Nat)(v2:aqy)(v28:aqy):aqz aqy:=
 (fA N v2 v28).bind λie=>
 some ie
def EV(N:Nat)(v2:aqy)(v35:aqy):aqz aqy:=
 (fA N v2 v35).bind λkQ=>
 some kQ
def F9(N:Nat)(v1:Int64)(v2:aqy)(v3:aqy):aqz aqy:=
 (BT N v3).bind λv4=>
 Option.bind (bif (v4==0)then some (decide (v1.toInt<0))else some false) λv5=>
 bif v5 then
  Option.bind (fA N (bs [45]) v3) λv6=>
  (yP N v1).bind λv7=>
  Option.bind (bif (bL v2==bL (bs []))then some true else some (v7 !=1)) λv8=>
  bif v8 then
   Option.bind (uK N v7 (10:Int)) λv11=>
   (fA N v11 v6).bind λv12=>
   bif (bL v2==bL (bs []))then
    Ew N v2 v12
   else
    Option.bind (fA N (bs [42]) v12) λba=>
    Ew N v2 ba
  else
   Ew N v2 v6
 else
  (BT N v3).bind λb8=>
  Option.bind (bif (decide (b8>0))then some (decide (v1.toInt<0))else some false) λv15=>
  bif v15 then
   Option.bind (fA N (bs [32,45,32]) v3) λcu=>
   (yP N v1).bind λv17=>
   Option.bind (bif (bL v2==bL (bs []))then some true else some (v17 !=1)) λcJ=>
   bif cJ then
    Option.bind (uK N v17 (10:Int)) λv21=>
    (fA N v21 cu).bind λv22=>
    bif (bL v2==bL (bs []))then
     Gk N v2 v22
    else
     Option.bind (fA N (bs [42]) v22) λv23=>
     Gk N v2 v23
   else
    Gk N v2 cu
  else
   (BT N v3).bind λv24=>
   bif (decide (v24>0))then
    Option.bind (fA N (bs [32,43,32]) v3) λv25=>
    (yP N v1).bind λv26=>
    Option.bind (bif (bL v2==bL (bs []))then some true else some (v26 !=1)) λcV=>
    bif cV then
     Option.bind (uK N v26 (10:Int)) λv30=>
     (fA N v30 v25).bind λv31=>
     bif (bL v2==bL (bs []))then
      EU N v2 v31
     else
      Option.bind (fA N (bs [42]) v31) λv32=>
      EU N v2 v32
    else
     EU N v2 v25
   else
    (yP N v1).bind λv33=>
    Option.bind (bif (bL v2==bL (bs []))then some true else some (v33 !=1)) λmO=>
    bif mO then
     Option.bind (uK N v33 (10:Int)) λv37=>
     (fA N v37 v3).bind λkT=>
     bif (bL v2==bL (bs []))then
      EV N v2 kT
     else
      Option.bind (fA N (bs [42]) kT) λv39=>
      EV N v2 v39
    else
     EV N v2 v3
theorem Uq{N v1 v2 v3}:KP 160 [(cQ v1),(aC v2),(.ptr 0 0)] [.aV 136 (bG 1 v3), .bm 5 v3] (λ_=> .bz []) (λr=>[.aV 136 (bG 1 r), .bm 5 r]) (F9 N v1 v2 v3):=
 fh 2 Tryz.func160 (aq λv4 h1=>gG (λv5=>[(6,(aM v5))]) (λ_=>[.aV 136 (bG 1 v3), .bm 5 v3]) (cf (1,oQ [(.ptr 0 0)] [.aV 136 (bG 1 v3), .bm 5 v3] [0,1] (OW _ h1)) (aw (λh2=>gE [(2,bT h2)] []) λh2=>gE [(2,bF h2)] [])) λv5=>aw (λh4=>aq λv6 h5=>aq λv7 h6=>gA [[t0 h4],[(1,oR [(.ptr 0 0),(aC (bs [45]))] [.aV 136 (bG 1 v3), .bm 5 v3] [0,1] (gV _ h5))],[(4,cK Ll h6)]] (gG (λv8=>[(33,(aM v8))]) (λ_=>[.aV 136 (bG 1 v6), .bm 5 v6]) (aw (λh7=>gE [(2,bT h7)] []) λh7=>gE [(2,bF h7)] []) λv8=>eB 1 [] [1,2] 2 (λ(v9:aqy)=>⟨42,[(1,(aC v2)),(2,(.ptr 0 0))],[.aV 136 (bG 1 v9), .bm 5 v9]⟩) (Ew N v2) (λf1 aB=>aw (λaU=>aq λv11 bh=>aq λv12 bn=>gA [[t0 aU],[(4,cK IM bh),(7,oR [(.ptr 0 0),(aC v11)] [.aV 136 (bG 1 v6), .bm 5 v6] [0,1] (gV _ bn))],[]] (aw (λb5=>gm aB v12 [[f0 (cb b5)]]) λb5=>aq λba bZ=>gm aB ba [[t0 (cW b5)],[(1,oR [(.ptr 0 0),(aC (bs [42]))] [.aV 136 (bG 1 v12), .bm 5 v12] [0,1] (gV _ bZ))]])) λaU=>gm aB v6 [[f0 aU]]) (λv9=>aq λv10 h9=>gH [[(4,oR [(.ptr 0 0),(aC v2)] [.aV 136 (bG 1 v9), .bm 5 v9] [0,1] (gV _ h9))]]))) λh4=>gA [[f0 h4]] (aq λb8 bK=>gG (λv15=>[(14,(aM v15))]) (λ_=>[.aV 136 (bG 1 v3), .bm 5 v3]) (cf (1,oQ [(.ptr 0 0)] [.aV 136 (bG 1 v3), .bm 5 v3] [0,1] (OW _ bK)) (aw (λbV=>gE [(2,bT bV)] []) λbV=>gE [(2,bF bV)] [])) λv15=>aw (λdv=>aq λcu eu=>aq λv17 cH=>gA [[t0 dv],[(1,oR [(.ptr 0 0),(aC (bs [32,45,32]))] [.aV 136 (bG 1 v3), .bm 5 v3] [0,1] (gV _ eu))],[(4,cK Ll cH)]] (gG (λcJ=>[(33,(aM cJ))]) (λ_=>[.aV 136 (bG 1 cu), .bm 5 cu]) (aw (λdN=>gE [(2,bT dN)] []) λdN=>gE [(2,bF dN)] []) λcJ=>eB 2 [] [1,2] 2 (λ(dy:aqy)=>⟨42,[(1,(aC v2)),(2,(.ptr 0 0))],[.aV 136 (bG 1 dy), .bm 5 dy]⟩) (Gk N v2) (λf2 ca=>aw (λeG=>aq λv21 fQ=>aq λv22 e9=>gA [[t0 eG],[(4,cK IM fQ),(7,oR [(.ptr 0 0),(aC v21)] [.aV 136 (bG 1 cu), .bm 5 cu] [0,1] (gV _ e9))],[]] (aw (λfG=>gm ca v22 [[f0 (cb fG)]]) λfG=>aq λv23 gg=>gm ca v23 [[t0 (cW fG)],[(1,oR [(.ptr 0 0),(aC (bs [42]))] [.aV 136 (bG 1 v22), .bm 5 v22] [0,1] (gV _ gg))]])) λeG=>gm ca cu [[f0 eG]]) (λdy=>aq λv20 dQ=>gH [[(4,oR [(.ptr 0 0),(aC v2)] [.aV 136 (bG 1 dy), .bm 5 dy] [0,1] (gV _ dQ))]]))) λdv=>aq λv24 iw=>gA [[f0 dv],[(1,oQ [(.ptr 0 0)] [.aV 136 (bG 1 v3), .bm 5 v3] [0,1] (OW _ iw))]] (aw (λgL=>aq λv25 iX=>aq λv26 jD=>gA [[t0 gL],[(1,oR [(.ptr 0 0),(aC (bs [32,43,32]))] [.aV 136 (bG 1 v3), .bm 5 v3] [0,1] (gV _ iX))],[(4,cK Ll jD)]] (gG (λcV=>[(33,(aM cV))]) (λ_=>[.aV 136 (bG 1 v25), .bm 5 v25]) (aw (λju=>gE [(2,bT ju)] []) λju=>gE [(2,bF ju)] []) λcV=>eB 3 [] [1,2] 2 (λ(v28:aqy)=>⟨42,[(1,(aC v2)),(2,(.ptr 0 0))],[.aV 136 (bG 1 v28), .bm 5 v28]⟩) (EU N v2) (λf3 fu=>aw (λkX=>aq λv30 ot=>aq λv31 ou=>gA [[t0 kX],[(4,cK IM ot),(7,oR [(.ptr 0 0),(aC v30)] [.aV 136 (bG 1 v25), .bm 5 v25] [0,1] (gV _ ou))],[]] (aw (λmf=>gm fu v31 [[f0 (cb mf)]]) λmf=>aq λv32 l9=>gm fu v32 [[t0 (cW mf)],[(1,oR [(.ptr 0 0),(aC (bs [42]))] [.aV 136 (bG 1 v31), .bm 5 v31] [0,1] (gV _ l9))]])) λkX=>gm fu v25 [[f0 kX]]) (λv28=>aq λie my=>gH [[(4,oR [(.ptr 0 0),(aC v2)] [.aV 136 (bG 1 v28), .bm 5 v28] [0,1] (gV _ my))]]))) λgL=>aq λv33 oT=>gA [[f0 gL],[(4,cK Ll oT)]] (gG (λmO=>[(33,(aM mO))]) (λ_=>[.aV 136 (bG 1 v3), .bm 5 v3]) (aw (λoD=>gE [(2,bT oD)] []) λoD=>gE [(2,bF oD)] []) λmO=>eB 4 [] [1,2] 2 (λ(v35:aqy)=>⟨42,[(1,(aC v2)),(2,(.ptr 0 0))],[.aV 136 (bG 1 v35), .bm 5 v35]⟩) (EV N v2) (λf4 iF=>aw (λsZ=>aq λv37 GC=>aq λkT Co=>gA [[t0 sZ],[(4,cK IM GC),(7,oR [(.ptr 0 0),(aC v37)] [.aV 136 (bG 1 v3), .bm 5 v3] [0,1] (gV _ Co))],[]] (aw (λFg=>gm iF kT [[f0 (cb Fg)]]) λFg=>aq λv39 E5=>gm iF v39 [[t0 (cW Fg)],[(1,oR [(.ptr 0 0),(aC (bs [42]))] [.aV 136 (bG 1 kT), .bm 5 kT] [0,1] (gV _ E5))]])) λsZ=>gm iF v3 [[f0 sZ]]) (λv35=>aq λkQ yw=>gH [[(4,oR [(.ptr 0 0),(aC v2)] [.aV 136 (bG 1 v35), .bm 5 v35] [0,1] (gV _ yw))]])))))
def Pz(N:Nat)(v9:aqy):aqz aqy:=
 (zc N v9).bind λv10=>
 some v10
def Ez(N:Nat)(v1:aR):aqx bt->Nat->aqy->aqz aqy
 |[],_,v7=>
  Option.bind (bif (v1.xK.toInt !=0)then some true else some ((v1.xL.length:Int)==0)) λv8=>
  bif v8 then
   Option.bind (F9 N v1.xK (bs []) v7) λv11=>
   Pz N v11
  else
   Pz N v7
 |v5::v6,v3,v7=>
  (F9 N v5.cN v5.ao v7).bind λv12=>
  (λbq=>Ez N v1 v6 (v3+1) bq) v12
def td(N:Nat)(v1:aR):aqz aqy:=
 (qX N v1).bind λv2=>
 bif (v2 !=0)then
  some (bs [])
 else
  Ez N v1 v1.xL 0 (bs [])
def A6(v1:aR)(v7:aqy)(l:aqx an):aqx an:= .cells (cE v1).cells:: .aV 136 (bG 2 v7):: .bm 5 v7::l
theorem BL{N v1}:KO 117 [(cE v1)] aC (td N v1):=
 fw Tryz.func117 (aq λv2 h1=>gA [[],[(4,cK xS h1)]] (bB λh2=>gA [[f0 h2]] (li (λ_=>(yL 136 0 5 (by kernel_rfl) ·)) (gA [[],[(7,oL v1.xL eK)]] (gT lI 12 v1.xL λh4=>eM 1 [] [1,3,4,12,13,14] 3 (λv3(v7:aqy)=>⟨39,[(1,(.ptr 0 0)),(3,(.ptr 1 0)),(4,(.fn 160 [(.ptr 1 0)])),(12,(.d (.sl (dh v1.xL)))),(13,(ar (v1.xL.length:Int))),(14,(ar (v3:Int)))],(A6 v1 v7 [])⟩) (λv3 v7 h5 f1=>gA [[],[f0 (bj h5)]] (gG (λv8=>[(33,(aM v8))]) (λ_=>(A6 v1 v7 [])) (aw (λh6=>gE [(3,bT h6)] []) λh6=>gE [(3,bF h6)] [(19,oL v1.xL eK)]) λv8=>eB 2 [] [3] 3 (λ(v9:aqy)=>⟨39,[(3,(.ptr 1 0))],(A6 v1 v9 [])⟩) (Pz N) (λf2 ca=>aw (λh9=>aq λv11 aU=>gm ca v11 [[t0 h9],[(10,oR [(cQ v1.xK),(aC (bs [])),(.ptr 1 0)] (A6 v1 v7 []) [1,2] (Uq _ aU))]]) λh9=>gm ca v7 [[f0 h9]]) (λv9=>aq λv10 h8=>gR [[(1,oR [(.ptr 1 0)] (A6 v1 v9 []) [1,2] (zX _ h8))]]))) (λv3 v5 v6 v7 h5 f1 aB=>aq λv12 bh=>gb aB v12 [[],[t0 (bk h5)],[(1,oE (j7 (aW h5)))],[(16,oR [(cQ v5.cN),(aC v5.ao),(.ptr 1 0)] (A6 v1 v7 [.cells (yt v5).cells]) [1,2] (Uq _ bh))],[(2,oq (bE h5 rfl h4))]] h5))))))
def H3(N:Nat)(v1:c8):aqz aqy:=
 (te N v1).bind λv2=>
 bif (v2 !=0)then
  some (bs [])
 else
  bif v1.jB then
   (td N v1.aS).bind λv3=>
   bif (Nat.ble ((bs [48,32,61,61,32]).size+v3.size) 9223372036854775807)then
   some ((bs [48,32,61,61,32])++v3)
   else none
  else
   (td N v1.aS).bind λv4=>
   bif (Nat.ble ((bs [48,32,60,61,32]).size+v4.size) 9223372036854775807)then
   some ((bs [48,32,60,61,32])++v4)
   else none
theorem al7{N v1}:KO 71 [(mP v1)] aC (H3 N v1):=
 fw Tryz.func71 (aq λv2 h1=>gA [[],[(4,cK RI h1)]] (dd λ_=>aw (λh3=>aq λv3 h4=>aF λh5=>gR [[t0 h3],[(7,cK BL h4),(10,⟨_,_, .cat (n:=(bs [48,32,61,61,32]).size+v3.size) (aZ h5)⟩)]]) λh3=>aq λv4 h6=>aF λh7=>gR [[f0 h3],[(7,cK BL h6),(10,⟨_,_, .cat (n:=(bs [48,32,60,61,32]).size+v4.size) (aZ h7)⟩)]]))
def IA(N:Nat):aqx aR->Nat->aqz Bool
 |[],_=>
  some true
 |v4::v5,v2=>
  (qX N v4).bind λv6=>
  bif (v6 !=0)then
   some false
  else
   (IA N v5 (v2+1))
def L5(N:Nat)(v1:aqx aR):aqz Bool:=
 IA N v1 0
theorem Zz{N v1}:KO 74 [(.d (.sl (c6 v1)))] aM (L5 N v1):=
 fw Tryz.func74 (gA [[],[(4,oL v1 dT)]] (gT lh 0 v1 λh2=>dK 1 [] [5,6,7] 0 (λv2=>⟨15,[(5,(.d (.sl (c6 v1)))),(6,(ar (v1.length:Int))),(7,(ar (v2:Int)))],[]⟩) (λv2 h3 f1=>gR [[],[f0 (bj h3)],[]]) (λv2 v4 v5 h3 f1 aB=>aq λv6 h4=>gA [[],[t0 (bk h3)],[(1,oE (k9 (aW h3)))],[(4,cK xS h4)]] (bB λh5=>gb aB () [[f0 h5],[(2,oq (bE h3 rfl h2))]] h3))))
def J0(N:Nat)(v1:Int):aqz aqy:=
 bif (v1==1)then
  some (bs [102,108,111,111,114])
 else
  bif (v1==2)then
   some (bs [99,101,105,108])
  else
   bif (v1==3)then
    some (bs [122,101,114,111])
   else
    some (bs [101,118,101,110])
theorem anJ{N v1}:KO 124 [(ar v1)] aC (J0 N v1):=
 fw Tryz.func124 (gA [[],[],[]] (dd λ_=>dd λ_=>bB λh3=>gR [[f0 h3],[]]))
def FO(N:Nat)(v1:bA)(v3:aqy):aqz aqy:=
 (wZ N v1.cp).bind λv4=>
 bif (Nat.ble ((bs [102,105,120,40]).size+v4.size) 9223372036854775807)then
 bif (Nat.ble (((bs [102,105,120,40])++v4).size+(bs [44,32]).size) 9223372036854775807)then
 (wZ N v1.cq).bind λv5=>
 bif (Nat.ble ((((bs [102,105,120,40])++v4)++(bs [44,32])).size+v5.size) 9223372036854775807)then
 bif (Nat.ble (((((bs [102,105,120,40])++v4)++(bs [44,32]))++v5).size+(bs [44,32]).size) 9223372036854775807)then
 (J0 N v1.cU).bind λv6=>
 bif (Nat.ble ((((((bs [102,105,120,40])++v4)++(bs [44,32]))++v5)++(bs [44,32])).size+v6.size) 9223372036854775807)then
 bif (Nat.ble (((((((bs [102,105,120,40])++v4)++(bs [44,32]))++v5)++(bs [44,32]))++v6).size+(bs [44,32]).size) 9223372036854775807)then
 bif (Nat.ble ((((((((bs [102,105,120,40])++v4)++(bs [44,32]))++v5)++(bs [44,32]))++v6)++(bs [44,32])).size+v3.size) 9223372036854775807)then
 bif (Nat.ble (((((((((bs [102,105,120,40])++v4)++(bs [44,32]))++v5)++(bs [44,32]))++v6)++(bs [44,32]))++v3).size+(bs [41]).size) 9223372036854775807)then
 some (((((((((bs [102,105,120,40])++v4)++(bs [44,32]))++v5)++(bs [44,32]))++v6)++(bs [44,32]))++v3)++(bs [41]))
 else none
 else none
 else none
 else none
 else none
 else none
 else none
 else none
def xQ(N:Nat)(v1:bA):aqz aqy:=
 (qa N v1).bind λv2=>
 bif (v2 !=0)then
  some (bs [])
 else
  bif (v1.b7==1)then
   some (bs [102,114,97,99])
  else
   bif (v1.b7==3)then
    some (bs [105,110,116])
   else
    bif (v1.cS==2)then
     FO N v1 (bs [119,114,97,112])
    else
     FO N v1 (bs [115,97,116])
theorem Ht{N v1}:KO 75 [(dH v1)] aC (xQ N v1):=
 fw Tryz.func75 (aq λv2 h1=>gA [[],[(4,cK xB h1)]] (bB λh2=>gA [[f0 h2],[],[]] (dd λ_=>bB λh4=>eB 1 [[f0 h4],[],[]] [1,3] 1 (λ(v3:aqy)=>⟨34,[(1,(.ptr 0 0)),(3,(aC v3))],[.cells (dH v1).cells]⟩) (FO N v1) (λf1 aB=>aw (λbV=>gm aB (bs [119,114,97,112]) [[t0 bV],[]]) λbV=>gm aB (bs [115,97,116]) [[f0 bV]]) (λv3=>aq λv4 h5=>aF λh6=>aF λh7=>aq λv5 h8=>aF λh9=>aF λaU=>aq λv6 bh=>aF λbn=>aF λb5=>aF λbZ=>aF λbK=>gR [[(7,cK P3 h5),(10,⟨_,_, .cat (n:=(bs [102,105,120,40]).size+v4.size) (aZ h6)⟩),(13,⟨_,_, .cat (n:=((bs [102,105,120,40])++v4).size+(bs [44,32]).size) (aZ h7)⟩),(22,cK P3 h8),(25,⟨_,_, .cat (n:=(((bs [102,105,120,40])++v4)++(bs [44,32])).size+v5.size) (aZ h9)⟩),(28,⟨_,_, .cat (n:=((((bs [102,105,120,40])++v4)++(bs [44,32]))++v5).size+(bs [44,32]).size) (aZ aU)⟩),(37,cK anJ bh),(40,⟨_,_, .cat (n:=(((((bs [102,105,120,40])++v4)++(bs [44,32]))++v5)++(bs [44,32])).size+v6.size) (aZ bn)⟩),(43,⟨_,_, .cat (n:=((((((bs [102,105,120,40])++v4)++(bs [44,32]))++v5)++(bs [44,32]))++v6).size+(bs [44,32]).size) (aZ b5)⟩),(49,⟨_,_, .cat (n:=(((((((bs [102,105,120,40])++v4)++(bs [44,32]))++v5)++(bs [44,32]))++v6)++(bs [44,32])).size+v3.size) (aZ bZ)⟩),(52,⟨_,_, .cat (n:=((((((((bs [102,105,120,40])++v4)++(bs [44,32]))++v5)++(bs [44,32]))++v6)++(bs [44,32]))++v3).size+(bs [41]).size) (aZ bK)⟩)]]))))
def Iz(N:Nat)(v1:aqx aR)(v2:Int):aqz aqy:=
 bif (decide ((0:Int)<=v2))then
 Option.bind (v1[(v2).toNat]?) λv3=>
 (td N v3).bind λv4=>
 some v4
 else none
theorem anh{N v1 v2}:KO 77 [(.d (.sl (c6 v1))),(ar v2)] aC (Iz N v1 v2):=
 fw Tryz.func77 (aF λh2=>aq λv3 h1=>aq λv4 h3=>gR [[],[(7,⟨_,_, .el (xs:=c6 v1) (i:=v2) (of_decide_eq_true h2) (k9 h1)⟩),(13,cK BL h3)]])
def M4(N:Nat)(v2:aqx aR)(v4:Int)(fD:Int->aqy->aqz aqy)(v6:aqy):aqz aqy:=
 (Iz N v2 v4).bind λv7=>
 (fA N v7 v6).bind λv8=>
 fD (bl (v4+(1:Int))) v8
def Am(N:Nat)(v1:Int)(v2:aqx aR):Nat->Int->aqy->aqz aqy
 |0,_,_=>none
 |v3+1,v4,v5=>
  bif (decide (v4<v1))then
   bif (decide (v4>0))then
    Option.bind (fA N (bs [44,32]) v5) λv9=>
    M4 N v2 v4 (λbq fc=>Am N v1 v2 v3 bq fc) v9
   else
    M4 N v2 v4 (λbq fc=>Am N v1 v2 v3 bq fc) v5
  else
   (zc N v5).bind λv10=>
   some v10
def Km(N:Nat)(v1:Int)(v2:aqx aR):aqz aqy:=
 Am N v1 v2 N (0:Int) (bs [])
theorem YO{N v1 v2}:KP 76 [(ar v1),(.hid (.dU 77 [.d (.sl (c6 v2))]))] [] aC (λ_=>[]) (Km N v1 v2):=
 fh 0 Tryz.func76 (gA [[]] (li (λ_=>(yL 136 0 5 (by kernel_rfl) ·)) (rT 1 [[]] [1,5,7,8] 2 (λ(v4:Int)(v5:aqy)=>⟨20,[(1,(.hid (.dU 77 [.d (.sl (c6 v2))]))),(5,(.ptr 0 0)),(7,(ar v1)),(8,(ar v4))],[.aV 136 (bG 1 v5), .bm 5 v5]⟩) (Am N v1 v2) (λv3 v4 v5 f1 aB=>gA [[]] (aw (λh1=>eB 2 [[t0 h1],[],[]] [1,5,6,7,8] 2 (λ(v6:aqy)=>⟨20,[(1,(.hid (.dU 77 [.d (.sl (c6 v2))]))),(5,(.ptr 0 0)),(6,(ar v4)),(7,(ar v1)),(8,(ar v4))],[.aV 136 (bG 1 v6), .bm 5 v6]⟩) (M4 N v2 v4 (λbq fc=>Am N v1 v2 v3 bq fc)) (λf2 ca=>aw (λh4=>aq λv9 h5=>gm ca v9 [[t0 h4],[(1,oR [(.ptr 0 0),(aC (bs [44,32]))] [.aV 136 (bG 1 v5), .bm 5 v5] [0,1] (gV _ h5))]]) λh4=>gm ca v5 [[f0 h4]]) (λv6=>aq λv7 h2=>aq λv8 h3=>nB aB ((bl (v4+(1:Int))),v8) [[(7,⟨_,_, .tw (c:= .dU 77 [.d (.sl (c6 v2))]) (args:=[(ar v4)]) ⟨_,_,rfl,(anh _ h2)⟩⟩),(10,oR [(.ptr 0 0),(aC v7)] [.aV 136 (bG 1 v6), .bm 5 v6] [0,1] (gV _ h3))],[]])) λh1=>aq λv10 h6=>gH [[f0 h1],[(1,oR [(.ptr 0 0)] [.aV 136 (bG 1 v5), .bm 5 v5] [0,1] (zX _ h6))]])))))
def Lk(N:Nat):aqx cd->Nat->aqz Bool
 |[],_=>
  some true
 |v4::v5,v2=>
  (pj N v4.ao).bind λv6=>
  Option.bind (bif v6 then (qX N v4.cw).bind λv7=>
  some (v7 !=0)else some true) λv8=>
  bif v8 then
   some false
  else
   (Lk N v5 (v2+1))
def Ro(N:Nat)(v1:aqx cd):aqz Bool:=
 Lk N v1 0
theorem acC{N v1}:KO 125 [(.d (.sl (du v1)))] aM (Ro N v1):=
 fw Tryz.func125 (gA [[],[(4,oL v1 dB)]] (gT kW 0 v1 λh2=>dK 1 [] [5,6,7] 0 (λv2=>⟨22,[(5,(.d (.sl (du v1)))),(6,(ar (v1.length:Int))),(7,(ar (v2:Int)))],[]⟩) (λv2 h3 f1=>gR [[],[f0 (bj h3)],[]]) (λv2 v4 v5 h3 f1 aB=>gA [[],[t0 (bk h3)],[(1,oE (iE (aW h3)))]] (aq λv6 h4=>gG (λv8=>[(20,(aM v8))]) (λ_=>[.cells (zV v4).cells]) (cf (7,cK sB h4) (aw (λh5=>aq λv7 h6=>gE [(4,bF (cb h5))] [(22,cK xS h6)]) λh5=>gE [(4,bT (cW h5))] [])) λv8=>bB λh8=>gb aB () [[f0 h8],[(2,oq (bE h3 rfl h2))]] h3))))
def Ka(N:Nat)(v1:aqx cd)(v2:Int):aqz aqy:=
 bif (decide ((0:Int)<=v2))then
 Option.bind (v1[(v2).toNat]?) λv3=>
 bif (Nat.ble (v3.ao.size+(bs [32,60,32]).size) 9223372036854775807)then
 (td N v3.cw).bind λv4=>
 bif (Nat.ble ((v3.ao++(bs [32,60,32])).size+v4.size) 9223372036854775807)then
 some ((v3.ao++(bs [32,60,32]))++v4)
 else none
 else none
 else none
theorem alj{N v1 v2}:KO 127 [(.d (.sl (du v1))),(ar v2)] aC (Ka N v1 v2):=
 fw Tryz.func127 (aF λh2=>aq λv3 h1=>aF λh3=>aq λv4 h4=>aF λh5=>gR [[],[(7,⟨_,_, .el (xs:=du v1) (i:=v2) (of_decide_eq_true h2) (iE h1)⟩),(16,⟨_,_, .cat (n:=v3.ao.size+(bs [32,60,32]).size) (aZ h3)⟩),(25,⟨_,_, .el (xs:=du v1) (i:=v2) (of_decide_eq_true h2) (iE h1)⟩),(34,cK BL h4),(37,⟨_,_, .cat (n:=(v3.ao++(bs [32,60,32])).size+v4.size) (aZ h5)⟩)]])
def SP(N:Nat)(v2:aqx cd)(v4:Int)(fD:Int->aqy->aqz aqy)(v6:aqy):aqz aqy:=
 (Ka N v2 v4).bind λv7=>
 (fA N v7 v6).bind λv8=>
 fD (bl (v4+(1:Int))) v8
def BG(N:Nat)(v1:Int)(v2:aqx cd):Nat->Int->aqy->aqz aqy
 |0,_,_=>none
 |v3+1,v4,v5=>
  bif (decide (v4<v1))then
   bif (decide (v4>0))then
    Option.bind (fA N (bs [44,32]) v5) λv9=>
    SP N v2 v4 (λbq fc=>BG N v1 v2 v3 bq fc) v9
   else
    SP N v2 v4 (λbq fc=>BG N v1 v2 v3 bq fc) v5
  else
   (zc N v5).bind λv10=>
   some v10
def q8(N:Nat)(v1:Int)(v2:aqx cd):aqz aqy:=
 BG N v1 v2 N (0:Int) (bs [])
theorem wY{N v1 v2}:KP 76 [(ar v1),(.hid (.dU 127 [.d (.sl (du v2))]))] [] aC (λ_=>[]) (q8 N v1 v2):=
 fh 0 Tryz.func76 (gA [[]] (li (λ_=>(yL 136 0 5 (by kernel_rfl) ·)) (rT 1 [[]] [1,5,7,8] 2 (λ(v4:Int)(v5:aqy)=>⟨20,[(1,(.hid (.dU 127 [.d (.sl (du v2))]))),(5,(.ptr 0 0)),(7,(ar v1)),(8,(ar v4))],[.aV 136 (bG 1 v5), .bm 5 v5]⟩) (BG N v1 v2) (λv3 v4 v5 f1 aB=>gA [[]] (aw (λh1=>eB 2 [[t0 h1],[],[]] [1,5,6,7,8] 2 (λ(v6:aqy)=>⟨20,[(1,(.hid (.dU 127 [.d (.sl (du v2))]))),(5,(.ptr 0 0)),(6,(ar v4)),(7,(ar v1)),(8,(ar v4))],[.aV 136 (bG 1 v6), .bm 5 v6]⟩) (SP N v2 v4 (λbq fc=>BG N v1 v2 v3 bq fc)) (λf2 ca=>aw (λh4=>aq λv9 h5=>gm ca v9 [[t0 h4],[(1,oR [(.ptr 0 0),(aC (bs [44,32]))] [.aV 136 (bG 1 v5), .bm 5 v5] [0,1] (gV _ h5))]]) λh4=>gm ca v5 [[f0 h4]]) (λv6=>aq λv7 h2=>aq λv8 h3=>nB aB ((bl (v4+(1:Int))),v8) [[(7,⟨_,_, .tw (c:= .dU 127 [.d (.sl (du v2))]) (args:=[(ar v4)]) ⟨_,_,rfl,(alj _ h2)⟩⟩),(10,oR [(.ptr 0 0),(aC v7)] [.aV 136 (bG 1 v6), .bm 5 v6] [0,1] (gV _ h3))],[]])) λh1=>aq λv10 h6=>gH [[f0 h1],[(1,oR [(.ptr 0 0)] [.aV 136 (bG 1 v5), .bm 5 v5] [0,1] (zX _ h6))]])))))
def Lh(N:Nat)(v2:aqy):aqz aqy:=
 bif (Nat.ble (v2.size+(bs [58,32]).size) 9223372036854775807)then
 some (v2++(bs [58,32]))
 else none
def HZ(N:Nat)(v4:aqy):aqz aqy:=
 bif (Nat.ble (v4.size+(bs [58,32]).size) 9223372036854775807)then
 some (v4++(bs [58,32]))
 else none
def Kx(N:Nat)(v6:aqy):aqz aqy:=
 bif (Nat.ble (v6.size+(bs [58,32]).size) 9223372036854775807)then
 some (v6++(bs [58,32]))
 else none
def Hx(N:Nat)(v8:aqy):aqz aqy:=
 bif (Nat.ble (v8.size+(bs [58,32]).size) 9223372036854775807)then
 some (v8++(bs [58,32]))
 else none
def G8(N:Nat)(v10:aqy):aqz aqy:=
 bif (Nat.ble (v10.size+(bs [58,32]).size) 9223372036854775807)then
 some (v10++(bs [58,32]))
 else none
def QS(N:Nat)(v12:aqy):aqz aqy:=
 bif (Nat.ble (v12.size+(bs [58,32]).size) 9223372036854775807)then
 some (v12++(bs [58,32]))
 else none
def HS(N:Nat)(v1:bf):aqz aqy:=
 bif (v1.cC==0)then
  some (bs [])
 else
  bif (v1.cC==1)then
   bif (decide ((v1.aY.length:Int)>0))then
    Option.bind (q8 N (v1.aY.length:Int) v1.aY) λv3=>
    bif (Nat.ble ((bs [32]).size+v3.size) 9223372036854775807)then
    bif (Nat.ble ((bs [115,117,109]).size+((bs [32])++v3).size) 9223372036854775807)then
    Lh N ((bs [115,117,109])++((bs [32])++v3))
    else none
    else none
   else
    Lh N (bs [115,117,109])
  else
   bif (v1.cC==2)then
    bif (decide ((v1.aY.length:Int)>0))then
     Option.bind (q8 N (v1.aY.length:Int) v1.aY) λv5=>
     bif (Nat.ble ((bs [32]).size+v5.size) 9223372036854775807)then
     bif (Nat.ble ((bs [112,114,111,100]).size+((bs [32])++v5).size) 9223372036854775807)then
     HZ N ((bs [112,114,111,100])++((bs [32])++v5))
     else none
     else none
    else
     HZ N (bs [112,114,111,100])
   else
    bif (v1.cC==3)then
     bif (decide ((v1.aY.length:Int)>0))then
      Option.bind (q8 N (v1.aY.length:Int) v1.aY) λv7=>
      bif (Nat.ble ((bs [32]).size+v7.size) 9223372036854775807)then
      bif (Nat.ble ((bs [109,105,110]).size+((bs [32])++v7).size) 9223372036854775807)then
      Kx N ((bs [109,105,110])++((bs [32])++v7))
      else none
      else none
     else
      Kx N (bs [109,105,110])
    else
     bif (v1.cC==4)then
      bif (decide ((v1.aY.length:Int)>0))then
       Option.bind (q8 N (v1.aY.length:Int) v1.aY) λv9=>
       bif (Nat.ble ((bs [32]).size+v9.size) 9223372036854775807)then
       bif (Nat.ble ((bs [109,97,120]).size+((bs [32])++v9).size) 9223372036854775807)then
       Hx N ((bs [109,97,120])++((bs [32])++v9))
       else none
       else none
      else
       Hx N (bs [109,97,120])
     else
      bif (v1.cC==5)then
       bif (decide ((v1.aY.length:Int)>0))then
        Option.bind (q8 N (v1.aY.length:Int) v1.aY) λv11=>
        bif (Nat.ble ((bs [32]).size+v11.size) 9223372036854775807)then
        bif (Nat.ble ((bs [115,99,97,110]).size+((bs [32])++v11).size) 9223372036854775807)then
        G8 N ((bs [115,99,97,110])++((bs [32])++v11))
        else none
        else none
       else
        G8 N (bs [115,99,97,110])
      else
       bif (decide ((v1.aY.length:Int)>0))then
        Option.bind (q8 N (v1.aY.length:Int) v1.aY) λba=>
        bif (Nat.ble ((bs [32]).size+ba.size) 9223372036854775807)then
        bif (Nat.ble ((bs []).size+((bs [32])++ba).size) 9223372036854775807)then
        QS N ((bs [])++((bs [32])++ba))
        else none
        else none
       else
        QS N (bs [])
def oP(v1:bf)(l:aqx an):aqx an:= .cells (ep v1).cells::l
theorem alX{N v1}:KO 128 [(ep v1)] aC (HS N v1):=
 fw Tryz.func128 (gA [[],[],[],[]] (dd λ_=>aw (λh2=>eB 1 [[t0 h2],[],[],[(4,oL v1.aY dB)]] [3] 1 (λ(v2:aqy)=>⟨34,[(3,(aC v2))],(oP v1 [])⟩) (Lh N) (λf1 aB=>aw (λh4=>aq λv3 h5=>aF λh6=>aF λh7=>gm aB ((bs [115,117,109])++((bs [32])++v3)) [[t0 h4],[(7,oL v1.aY dB),(16,oQ [(ar (v1.aY.length:Int)),(.hid (.dU 127 [.d (.sl (du v1.aY))]))] (oP v1 []) [] (wY _ h5)),(19,⟨_,_, .cat (n:=(bs [32]).size+v3.size) (aZ h6)⟩),(22,⟨_,_, .cat (n:=(bs [115,117,109]).size+((bs [32])++v3).size) (aZ h7)⟩)]]) λh4=>gm aB (bs [115,117,109]) [[f0 h4]]) (λv2=>aF λh3=>gR [[(4,⟨_,_, .cat (n:=v2.size+(bs [58,32]).size) (aZ h3)⟩)]])) λh2=>gA [[f0 h2],[]] (aw (λh8=>eB 2 [[t0 h8],[],[],[(4,oL v1.aY dB)]] [3] 1 (λ(v4:aqy)=>⟨34,[(3,(aC v4))],(oP v1 [])⟩) (HZ N) (λf2 ca=>aw (λaU=>aq λv5 bh=>aF λbn=>aF λb5=>gm ca ((bs [112,114,111,100])++((bs [32])++v5)) [[t0 aU],[(7,oL v1.aY dB),(16,oQ [(ar (v1.aY.length:Int)),(.hid (.dU 127 [.d (.sl (du v1.aY))]))] (oP v1 []) [] (wY _ bh)),(19,⟨_,_, .cat (n:=(bs [32]).size+v5.size) (aZ bn)⟩),(22,⟨_,_, .cat (n:=(bs [112,114,111,100]).size+((bs [32])++v5).size) (aZ b5)⟩)]]) λaU=>gm ca (bs [112,114,111,100]) [[f0 aU]]) (λv4=>aF λh9=>gR [[(4,⟨_,_, .cat (n:=v4.size+(bs [58,32]).size) (aZ h9)⟩)]])) λh8=>gA [[f0 h8],[]] (aw (λbZ=>eB 3 [[t0 bZ],[],[],[(4,oL v1.aY dB)]] [3] 1 (λ(v6:aqy)=>⟨34,[(3,(aC v6))],(oP v1 [])⟩) (Kx N) (λf3 fu=>aw (λbV=>aq λv7 cA=>aF λdv=>aF λeu=>gm fu ((bs [109,105,110])++((bs [32])++v7)) [[t0 bV],[(7,oL v1.aY dB),(16,oQ [(ar (v1.aY.length:Int)),(.hid (.dU 127 [.d (.sl (du v1.aY))]))] (oP v1 []) [] (wY _ cA)),(19,⟨_,_, .cat (n:=(bs [32]).size+v7.size) (aZ dv)⟩),(22,⟨_,_, .cat (n:=(bs [109,105,110]).size+((bs [32])++v7).size) (aZ eu)⟩)]]) λbV=>gm fu (bs [109,105,110]) [[f0 bV]]) (λv6=>aF λbK=>gR [[(4,⟨_,_, .cat (n:=v6.size+(bs [58,32]).size) (aZ bK)⟩)]])) λbZ=>gA [[f0 bZ],[]] (aw (λcH=>eB 4 [[t0 cH],[],[],[(4,oL v1.aY dB)]] [3] 1 (λ(v8:aqy)=>⟨34,[(3,(aC v8))],(oP v1 [])⟩) (Hx N) (λf4 iF=>aw (λfe=>aq λv9 dQ=>aF λeG=>aF λfQ=>gm iF ((bs [109,97,120])++((bs [32])++v9)) [[t0 fe],[(7,oL v1.aY dB),(16,oQ [(ar (v1.aY.length:Int)),(.hid (.dU 127 [.d (.sl (du v1.aY))]))] (oP v1 []) [] (wY _ dQ)),(19,⟨_,_, .cat (n:=(bs [32]).size+v9.size) (aZ eG)⟩),(22,⟨_,_, .cat (n:=(bs [109,97,120]).size+((bs [32])++v9).size) (aZ fQ)⟩)]]) λfe=>gm iF (bs [109,97,120]) [[f0 fe]]) (λv8=>aF λdN=>gR [[(4,⟨_,_, .cat (n:=v8.size+(bs [58,32]).size) (aZ dN)⟩)]])) λcH=>gA [[f0 cH],[]] (aw (λe9=>eB 5 [[t0 e9],[],[],[(4,oL v1.aY dB)]] [3] 1 (λ(v10:aqy)=>⟨34,[(3,(aC v10))],(oP v1 [])⟩) (G8 N) (λf5 p9=>aw (λgg=>aq λv11 iw=>aF λgL=>aF λiX=>gm p9 ((bs [115,99,97,110])++((bs [32])++v11)) [[t0 gg],[(7,oL v1.aY dB),(16,oQ [(ar (v1.aY.length:Int)),(.hid (.dU 127 [.d (.sl (du v1.aY))]))] (oP v1 []) [] (wY _ iw)),(19,⟨_,_, .cat (n:=(bs [32]).size+v11.size) (aZ gL)⟩),(22,⟨_,_, .cat (n:=(bs [115,99,97,110]).size+((bs [32])++v11).size) (aZ iX)⟩)]]) λgg=>gm p9 (bs [115,99,97,110]) [[f0 gg]]) (λv10=>aF λfG=>gR [[(4,⟨_,_, .cat (n:=v10.size+(bs [58,32]).size) (aZ fG)⟩)]])) λe9=>eB 6 [[f0 e9],[],[(4,oL v1.aY dB)]] [3] 1 (λ(v12:aqy)=>⟨34,[(3,(aC v12))],(oP v1 [])⟩) (QS N) (λf6 zu=>aw (λju=>aq λba lk=>aF λmy=>aF λkX=>gm zu ((bs [])++((bs [32])++ba)) [[t0 ju],[(7,oL v1.aY dB),(16,oQ [(ar (v1.aY.length:Int)),(.hid (.dU 127 [.d (.sl (du v1.aY))]))] (oP v1 []) [] (wY _ lk)),(19,⟨_,_, .cat (n:=(bs [32]).size+ba.size) (aZ my)⟩),(22,⟨_,_, .cat (n:=(bs []).size+((bs [32])++ba).size) (aZ kX)⟩)]]) λju=>gm zu (bs []) [[f0 ju]]) (λv12=>aF λjD=>gR [[(4,⟨_,_, .cat (n:=v12.size+(bs [58,32]).size) (aZ jD)⟩)]])))))))
def P9(N:Nat)(v1:Int)(v4:Bool):aqz Int:=
 bif v4 then
  some (6:Int)
 else
  bif (v1==8)then
   some (7:Int)
  else
   some (8:Int)
def QN(N:Nat)(v1:Int)(v3:Bool):aqz Int:=
 bif v3 then
  some (5:Int)
 else
  bif (v1==6)then
   P9 N v1 (v1==6)
  else
   P9 N v1 (v1==7)
def H7(N:Nat)(v1:Int)(v2:Bool):aqz Int:=
 bif v2 then
  some (4:Int)
 else
  bif (v1==4)then
   QN N v1 (v1==4)
  else
   QN N v1 (v1==5)
def JD(N:Nat)(v1:Int):aqz Int:=
 bif (v1==17)then
  some (1:Int)
 else
  bif (v1==16)then
   some (2:Int)
  else
   bif (v1==18)then
    some (3:Int)
   else
    bif (v1==13)then
     H7 N v1 (v1==13)
    else
     bif (v1==14)then
      H7 N v1 (v1==14)
     else
      H7 N v1 (v1==15)
theorem VO{N v1}:KO 205 [(ar v1)] ar (JD N v1):=
 fw Tryz.func205 (gA [[],[],[]] (dd λ_=>dd λ_=>bB λh3=>eB 1 [[f0 h3],[]] [3,10] 0 (λ(v2:Bool)=>⟨22,[(3,(ar v1)),(10,(aM v2))],[]⟩) (H7 N v1) (λf1 aB=>aw (λaU=>gm aB (v1==13) [[t0 aU]]) λaU=>gA [[f0 aU],[]] (aw (λbh=>gm aB (v1==14) [[t0 bh]]) λbh=>gm aB (v1==15) [[f0 bh],[]])) (λv2=>bB λh4=>eB 2 [[f0 h4],[]] [3,14] 0 (λ(v3:Bool)=>⟨22,[(3,(ar v1)),(14,(aM v3))],[]⟩) (QN N v1) (λf2 ca=>aw (λh9=>gm ca (v1==4) [[t0 h9]]) λh9=>gm ca (v1==5) [[f0 h9],[]]) (λv3=>bB λh5=>eB 3 [[f0 h5],[]] [3,17] 0 (λ(v4:Bool)=>⟨22,[(3,(ar v1)),(17,(aM v4))],[]⟩) (P9 N v1) (λf3 fu=>aw (λh8=>gm fu (v1==6) [[t0 h8]]) λh8=>gm fu (v1==7) [[f0 h8],[]]) (λv4=>dd λ_=>bB λh7=>gR [[f0 h7],[]])))))
def Us(N:Nat)(v1:bA):aqx dx->Nat->aqz Int
 |[],_=>
  some (0:Int)
 |v6::v7,v4=>
  (u6 N v1 v6).bind λv8=>
  bif v8 then
   (Us N v1 v7 (v4+1))
  else
   some (1:Int)
def Ph(N:Nat)(v1:bA)(v2:aqx dx):aqz Int:=
 (sQ N v1).bind λv3=>
 bif (v3 !=0)then
  some v3
 else
  Us N v1 v2 0
theorem ad9{N v1 v2}:KO 272 [(dH v1),(.d (.sl (rD v2)))] ar (Ph N v1 v2):=
 fw Tryz.func272 (aq λv3 h1=>gA [[],[(4,cK SJ h1)],[]] (bB λh2=>gA [[f0 h2],[(4,oL v2 UK)]] (gT aj5 1 v2 λh4=>dK 1 [] [2,13,14,15] 1 (λv4=>⟨24,[(2,(.ptr 0 0)),(13,(.d (.sl (rD v2)))),(14,(ar (v2.length:Int))),(15,(ar (v4:Int)))],[.cells (dH v1).cells]⟩) (λv4 h5 f1=>gR [[],[f0 (bj h5)],[]]) (λv4 v6 v7 h5 f1 aB=>aq λv8 h6=>gA [[],[t0 (bk h5)],[(1,oE (alH (aW h5)))],[(7,cK aca h6)]] (ff λh7=>gb aB () [[f0 (cb h7)],[(2,oq (bE h5 rfl h4))]] h5)))))
def G5(N:Nat)(v1:Int64)(v2:Int64):aqz (dx×Int):=
 bif (v2.toInt==0)then
  some (zG,(4:Int))
 else
  (Ar N v1).bind λv3=>
  (Ar N v2).bind λv4=>
  (Cl N v3 v4).bind λv5=>
  bif (v5 !=0)then
  Option.bind (bif (decide ((IntKind.u64.wrap ((v3).tdiv v5))>2147483647))then some true else some (decide ((IntKind.u64.wrap ((v4).tdiv v5))>2147483647))) λv6=>
  bif v6 then
   some (zG,(3:Int))
  else
   bif ((decide (v1.toInt<0))==(decide (v2.toInt<0)))then
    some ((⟨(Int64.ofInt (IntKind.u64.wrap ((v3).tdiv v5))),(Int64.ofInt (IntKind.u64.wrap ((v4).tdiv v5)))⟩:dx),(0:Int))
   else
    some ((⟨(-(Int64.ofInt (IntKind.u64.wrap ((v3).tdiv v5)))),(Int64.ofInt (IntKind.u64.wrap ((v4).tdiv v5)))⟩:dx),(0:Int))
  else none
theorem ajj{N v1 v2}:KO 273 [(cQ v1),(cQ v2)] (λr=> .bz [(aVal r.1),(ar r.2)]) (G5 N v1 v2):=
 fw Tryz.func273 (gA [[],[]] (bB λh1=>aq λv3 h2=>aq λv4 h3=>aq λv5 h4=>aF λh5=>gA [[f0 h1],[],[(4,cK OS h2),(10,cK OS h3)],[(7,cK ZN h4)],[(7,⟨_,_, .nz (b:=v5) (bne_iff_ne.1 h5)⟩),(16,⟨_,_, .nz (b:=v5) (bne_iff_ne.1 h5)⟩)]] (gG (λv6=>[(36,(aM v6))]) (λ_=>[.cells Oh]) (aw (λh7=>gE [(2,bT h7)] []) λh7=>gE [(2,bF h7)] []) λv6=>dd λ_=>aw (λaU=>gR [[f0 (cb aU)],[(5,⟨_,_, .eq (nk (IntKind.u64.wrap ((v3).tdiv v5)))⟩),(11,⟨_,_, .eq (nk (IntKind.u64.wrap ((v4).tdiv v5)))⟩)]]) λaU=>gR [[t0 (cW aU)],[(5,⟨_,_, .eq (nk (IntKind.u64.wrap ((v3).tdiv v5)))⟩),(8,⟨_,_, .eq (xy (Int64.ofInt (IntKind.u64.wrap ((v3).tdiv v5))))⟩),(14,⟨_,_, .eq (nk (IntKind.u64.wrap ((v4).tdiv v5)))⟩)]])))
def Kj(N:Nat)(v1:bA)(v2:dx):aqz (dx×Int):=
 Option.bind (Ph N v1 [v2]) λv3=>
 bif (v3 !=0)then
  some (zG,v3)
 else
  bif (decide ((0:Int)<=v1.cq))then
  Option.bind (G5 N v2.xN (Int64.ofInt ((1:Int)*2^(min (v1.cq).toNat (IntKind.bits .i64))))) λv4=>
  some (v4.1,v4.2)
  else none
theorem ae7{N v1 v2}:KO 261 [(dH v1),(aVal v2)] (λr=> .bz [(aVal r.1),(ar r.2)]) (Kj N v1 v2):=
 fw Tryz.func261 (aq λv3 h1=>gA [[],[(10,cK ad9 h1)],[]] (bB λh2=>aF λh3=>aq λv4 h4=>gR [[f0 h2],[(13,⟨_,_, .nn (b:=v1.cq) (of_decide_eq_true h3)⟩),(14,⟨_,_, .eq (nk ((1:Int)*2^(min (v1.cq).toNat (IntKind.bits .i64))))⟩),(16,cK ajj h4)]]))
def HW(N:Nat)(v1:bA)(v2:dx):aqz dx:=
 bif (v1.b7==2)then
  (Kj N v1 v2).bind λv3=>
  some v3.1
 else
  some v2
theorem alD{N v1 v2}:KO 243 [(dH v1),(aVal v2)] aVal (HW N v1 v2):=
 fw Tryz.func243 (gA [[],[]] (lT λh1=>aq λv3 h2=>gR [[t0 h1],[(7,cK ae7 h2)],[]]))
def zM(N:Nat)(v1:Int64)(v2:Int):aqz aqy:=
 (NM N v1 v2).bind λv3=>
 some v3
theorem GX{N v1 v2}:KO 33 [(cQ v1),(ar v2)] aC (zM N v1 v2):=
 fw Tryz.func33 (aq λv3 h1=>gR [[],[(7,cK abG h1)]])
def LI(N:Nat)(v1:dx):aqz aqy:=
 (y6 N v1).bind λv2=>
 bif v2 then
  bif (v1.xD.toInt==1)then
   Option.bind (zM N v1.xN (10:Int)) λv3=>
   some v3
  else
   Option.bind (zM N v1.xN (10:Int)) λv4=>
   bif (Nat.ble (v4.size+(bs [47]).size) 9223372036854775807)then
   Option.bind (zM N v1.xD (10:Int)) λv5=>
   bif (Nat.ble ((v4++(bs [47])).size+v5.size) 9223372036854775807)then
   some ((v4++(bs [47]))++v5)
   else none
   else none
 else
  some (bs [])
theorem acY{N v1}:KO 242 [(aVal v1)] aC (LI N v1):=
 fw Tryz.func242 (aq λv2 h1=>gA [[],[(4,cK Z4 h1)]] (ff λh2=>gA [[f0 (cb h2)],[]] (aw (λh3=>aq λv3 h4=>gR [[t0 h3],[(7,cK GX h4)]]) λh3=>aq λv4 h5=>aF λh6=>aq λv5 h7=>aF λh8=>gR [[f0 h3],[(7,cK GX h5),(10,⟨_,_, .cat (n:=v4.size+(bs [47]).size) (aZ h6)⟩),(19,cK GX h7),(22,⟨_,_, .cat (n:=(v4++(bs [47])).size+v5.size) (aZ h8)⟩)]])))
def Q4(N:Nat)(v1:bA)(v2:dx):aqz aqy:=
 (wD N v1 v2).bind λv3=>
 bif v3 then
  (HW N v1 v2).bind λv4=>
  (LI N v4).bind λv5=>
  some v5
 else
  some (bs [])
theorem amn{N v1 v2}:KO 206 [(dH v1),(aVal v2)] aC (Q4 N v1 v2):=
 fw Tryz.func206 (aq λv3 h1=>gA [[],[(7,cK abt h1)]] (ff λh2=>aq λv4 h3=>aq λv5 h4=>gR [[f0 (cb h2)],[(7,cK alD h3),(10,cK acY h4)]]))
def mn(N:Nat)(v1:aqy)(v2:aqy):aqz aqy:=Ac v2 v1
theorem qo{N v1 v2}:KP 70 [(.ptr 0 0),(aC v1)] [.aV 219 (bG 1 v2), .bm 5 v2] (λ_=> .bz [.dead, .dead]) (λr=>[.aV 219 (bG 1 r), .bm 5 r]) (mn N v1 v2):=Zo (by kernel_rfl)
def Ey(N:Nat)(v1:bH):aqz aqy:=
 (qX N v1.aS).bind λv2=>
 Option.bind (bif (v2 !=0)then some true else (L5 N v1.bO).bind λv3=>
 some (!v3)) λv4=>
 bif v4 then
  some (bs [])
 else
  Option.bind (bif (bL v1.bR==bL (bs []))then some (decide ((v1.bO.length:Int)>0))else some false) λv5=>
  bif v5 then
   some (bs [])
  else
   bif (bL v1.bR==bL (bs []))then
    (td N v1.aS).bind λv6=>
    some v6
   else
    (pj N v1.bR).bind λv7=>
    Option.bind (bif v7 then(bif (v1.aS.xK.toInt !=0)then some true else some (decide ((v1.aS.xL.length:Int)>0)))else some true) λv8=>
    bif v8 then
     some (bs [])
    else
     bif (Nat.ble (v1.bR.size+(bs [91]).size) 9223372036854775807)then
     Option.bind (Km N (v1.bO.length:Int) v1.bO) λv9=>
     bif (Nat.ble ((v1.bR++(bs [91])).size+v9.size) 9223372036854775807)then
     bif (Nat.ble (((v1.bR++(bs [91]))++v9).size+(bs [93]).size) 9223372036854775807)then
     some (((v1.bR++(bs [91]))++v9)++(bs [93]))
     else none
     else none
     else none
theorem al0{N v1}:KO 244 [(fZ v1)] aC (Ey N v1):=
 fw Tryz.func244 (gA [[],[]] (aq λv2 h1=>gG (λv4=>[(6,(aM v4))]) (λ_=>[.cells (fZ v1).cells]) (cf (7,cK xS h1) (aw (λh2=>gE [(4,bT h2)] []) λh2=>aq λv3 h3=>gE [(4,bF h2)] [(19,cK Zz h3)])) λv4=>bB λh5=>gA [[f0 h5]] (gG (λv5=>[(16,(aM v5))]) (λ_=>[.cells (fZ v1).cells]) (aw (λh6=>gE [(3,bT h6)] [(19,oL v1.bO dT)]) λh6=>gE [(3,bF h6)] []) λv5=>dd λ_=>aw (λh9=>aq λv6 aU=>gR [[t0 h9],[(7,cK BL aU)]]) λh9=>gA [[f0 h9]] (aq λv7 bh=>gG (λv8=>[(33,(aM v8))]) (λ_=>[.cells (fZ v1).cells]) (cf (7,cK sB bh) (aw (λbn=>bU (4,bF (cb bn)) (aw (λb5=>gE [(10,bT b5)] []) λb5=>gE [(10,bF b5)] [(43,oL v1.aS.xL eK)])) λbn=>gE [(4,bT (cW bn)),(10,bT rfl)] [])) λv8=>bB λbK=>aF λbV=>aq λv9 cA=>aF λdv=>aF λeu=>gR [[f0 bK],[(7,⟨_,_, .cat (n:=v1.bR.size+(bs [91]).size) (aZ bV)⟩),(13,oL v1.bO dT),(22,oQ [(ar (v1.bO.length:Int)),(.hid (.dU 77 [.d (.sl (c6 v1.bO))]))] [.cells (fZ v1).cells] [] (YO _ cA)),(25,⟨_,_, .cat (n:=(v1.bR++(bs [91])).size+v9.size) (aZ dv)⟩),(28,⟨_,_, .cat (n:=((v1.bR++(bs [91]))++v9).size+(bs [93]).size) (aZ eu)⟩)]]))))
def I9(N:Nat)(v1:aqx bH)(v2:Int):aqz aqy:=
 bif (decide ((0:Int)<=v2))then
 Option.bind (v1[(v2).toNat]?) λv3=>
 (Ey N v3).bind λv4=>
 some v4
 else none
theorem ao6{N v1 v2}:KO 207 [(.d (.sl (cZ v1))),(ar v2)] aC (I9 N v1 v2):=
 fw Tryz.func207 (aF λh2=>aq λv3 h1=>aq λv4 h3=>gR [[],[(7,⟨_,_, .el (xs:=cZ v1) (i:=v2) (of_decide_eq_true h2) (gx h1)⟩),(13,cK al0 h3)]])
def Od(N:Nat)(v2:aqx bH)(v4:Int)(fD:Int->aqy->aqz aqy)(v6:aqy):aqz aqy:=
 (I9 N v2 v4).bind λv7=>
 (fA N v7 v6).bind λv8=>
 fD (bl (v4+(1:Int))) v8
def zx(N:Nat)(v1:Int)(v2:aqx bH):Nat->Int->aqy->aqz aqy
 |0,_,_=>none
 |v3+1,v4,v5=>
  bif (decide (v4<v1))then
   bif (decide (v4>0))then
    Option.bind (fA N (bs [44,32]) v5) λv9=>
    Od N v2 v4 (λbq fc=>zx N v1 v2 v3 bq fc) v9
   else
    Od N v2 v4 (λbq fc=>zx N v1 v2 v3 bq fc) v5
  else
   (zc N v5).bind λv10=>
   some v10
def N4(N:Nat)(v1:Int)(v2:aqx bH):aqz aqy:=
 zx N v1 v2 N (0:Int) (bs [])
theorem akb{N v1 v2}:KP 76 [(ar v1),(.hid (.dU 207 [.d (.sl (cZ v2))]))] [] aC (λ_=>[]) (N4 N v1 v2):=
 fh 0 Tryz.func76 (gA [[]] (li (λ_=>(yL 136 0 5 (by kernel_rfl) ·)) (rT 1 [[]] [1,5,7,8] 2 (λ(v4:Int)(v5:aqy)=>⟨20,[(1,(.hid (.dU 207 [.d (.sl (cZ v2))]))),(5,(.ptr 0 0)),(7,(ar v1)),(8,(ar v4))],[.aV 136 (bG 1 v5), .bm 5 v5]⟩) (zx N v1 v2) (λv3 v4 v5 f1 aB=>gA [[]] (aw (λh1=>eB 2 [[t0 h1],[],[]] [1,5,6,7,8] 2 (λ(v6:aqy)=>⟨20,[(1,(.hid (.dU 207 [.d (.sl (cZ v2))]))),(5,(.ptr 0 0)),(6,(ar v4)),(7,(ar v1)),(8,(ar v4))],[.aV 136 (bG 1 v6), .bm 5 v6]⟩) (Od N v2 v4 (λbq fc=>zx N v1 v2 v3 bq fc)) (λf2 ca=>aw (λh4=>aq λv9 h5=>gm ca v9 [[t0 h4],[(1,oR [(.ptr 0 0),(aC (bs [44,32]))] [.aV 136 (bG 1 v5), .bm 5 v5] [0,1] (gV _ h5))]]) λh4=>gm ca v5 [[f0 h4]]) (λv6=>aq λv7 h2=>aq λv8 h3=>nB aB ((bl (v4+(1:Int))),v8) [[(7,⟨_,_, .tw (c:= .dU 207 [.d (.sl (cZ v2))]) (args:=[(ar v4)]) ⟨_,_,rfl,(ao6 _ h2)⟩⟩),(10,oR [(.ptr 0 0),(aC v7)] [.aV 136 (bG 1 v6), .bm 5 v6] [0,1] (gV _ h3))],[]])) λh1=>aq λv10 h6=>gH [[f0 h1],[(1,oR [(.ptr 0 0)] [.aV 136 (bG 1 v5), .bm 5 v5] [0,1] (zX _ h6))]])))))
def Q7(N:Nat)(v1:Int):aqz aqy:=
 bif (v1==4)then
  some (bs [43])
 else
  bif (v1==5)then
   some (bs [45])
  else
   bif (v1==6)then
    some (bs [42])
   else
    bif (v1==7)then
     some (bs [47])
    else
     bif (v1==13)then
      some (bs [60])
     else
      bif (v1==14)then
       some (bs [60,61])
      else
       bif (v1==15)then
        some (bs [61,61])
       else
        bif (v1==16)then
         some (bs [38])
        else
         bif (v1==17)then
          some (bs [124])
         else
          some (bs [])
theorem aep{N v1}:KO 210 [(ar v1)] aC (Q7 N v1):=
 fw Tryz.func210 (gA [[],[],[]] (dd λ_=>dd λ_=>dd λ_=>dd λ_=>dd λ_=>dd λ_=>dd λ_=>dd λ_=>bB λh9=>gR [[f0 h9],[]]))
def F3(N:Nat)(A4:au->aqy->aqz aqy)(v8:au)(fD:aqy->aqz aqy)(ba:aqy):aqz aqy:=
 (A4 v8 ba).bind λb8=>
 fD b8
def qJ(N:Nat)(v2:aqy)(A4:au->aqy->aqz aqy):aqx au->Nat->aqy->aqz aqy
 |[],_,v10=>
  Option.bind (mn N (bs [41]) v10) λv11=>
  some v11
 |v8::v9,v6,v10=>
  Option.bind (bif (decide ((v6:Int)>0))then some true else some (!(bL v2==bL (bs [])))) λv12=>
  bif v12 then
   Option.bind (mn N (bs [44,32]) v10) λv15=>
   F3 N A4 v8 (λbq=>qJ N v2 A4 v9 (v6+1) bq) v15
  else
   F3 N A4 v8 (λbq=>qJ N v2 A4 v9 (v6+1) bq) v10
mutual
def iJ(N:Nat):Nat->au->aqy->aqz aqy
 |0,_,_=>none
 |d+1,v1,v2=>
  (JD N v1.aJ).bind λv3=>
  bif (v1.aJ==1)then
   (xQ N v1.aO).bind λv4=>
   bif (Nat.ble (v4.size+(bs [40]).size) 9223372036854775807)then
   (Q4 N v1.aO v1.dM).bind λv5=>
   bif (Nat.ble ((v4++(bs [40])).size+v5.size) 9223372036854775807)then
   bif (Nat.ble (((v4++(bs [40]))++v5).size+(bs [41]).size) 9223372036854775807)then
   Option.bind (mn N (((v4++(bs [40]))++v5)++(bs [41])) v2) λv6=>
   some v6
   else none
   else none
   else none
  else
   bif (v1.aJ==2)then
    (td N v1.aS).bind λv7=>
    bif (Nat.ble ((bs [91]).size+v7.size) 9223372036854775807)then
    bif (Nat.ble (((bs [91])++v7).size+(bs [93]).size) 9223372036854775807)then
    Option.bind (mn N (((bs [91])++v7)++(bs [93])) v2) λv8=>
    some v8
    else none
    else none
   else
    bif (v1.aJ==3)then
     bif (Nat.ble (v1.ao.size+(bs [91]).size) 9223372036854775807)then
     Option.bind (N4 N (v1.xIdx.length:Int) v1.xIdx) λv9=>
     bif (Nat.ble ((v1.ao++(bs [91])).size+v9.size) 9223372036854775807)then
     bif (Nat.ble (((v1.ao++(bs [91]))++v9).size+(bs [93]).size) 9223372036854775807)then
     Option.bind (mn N (((v1.ao++(bs [91]))++v9)++(bs [93])) v2) λv10=>
     some v10
     else none
     else none
     else none
    else
     bif (v1.aJ==8)then
      Option.bind (mn N (bs [45]) v2) λv11=>
      Option.bind (v1.bp[0]?) λv12=>
      Option.bind ((pG N d) v12 v3 v11) λba=>
      some ba
     else
      bif (v1.aJ==18)then
       Option.bind (mn N (bs [33]) v2) λb8=>
       Option.bind (v1.bp[0]?) λv15=>
       Option.bind ((pG N d) v15 v3 b8) λcu=>
       some cu
      else
       bif (v1.aJ==9)then
        Option.bind ((ry N d) (bs [109,105,110]) (bs []) v1.bp v2) λv17=>
        some v17
       else
        bif (v1.aJ==10)then
         Option.bind ((ry N d) (bs [109,97,120]) (bs []) v1.bp v2) λcJ=>
         some cJ
        else
         bif (v1.aJ==11)then
          Option.bind ((ry N d) (bs [105,102]) (bs []) v1.bp v2) λdy=>
          some dy
         else
          bif (v1.aJ==12)then
           (xQ N v1.aO).bind λv20=>
           Option.bind ((ry N d) (bs [99,97,115,116]) v20 v1.bp v2) λv21=>
           some v21
          else
           Option.bind (v1.bp[0]?) λv22=>
           Option.bind ((pG N d) v22 v3 v2) λv23=>
           (Q7 N v1.aJ).bind λv24=>
           bif (Nat.ble ((bs [32]).size+v24.size) 9223372036854775807)then
           bif (Nat.ble (((bs [32])++v24).size+(bs [32]).size) 9223372036854775807)then
           Option.bind (mn N (((bs [32])++v24)++(bs [32])) v23) λv25=>
           Option.bind (v1.bp[1]?) λv26=>
           Option.bind ((pG N d) v26 (bl (v3+(1:Int))) v25) λcV=>
           some cV
           else none
           else none
def pG(N:Nat):Nat->au->Int->aqy->aqz aqy
 |0,_,_,_=>none
 |d+1,v1,v2,v3=>
  (JD N v1.aJ).bind λv4=>
  bif (decide (v4>=v2))then
   Option.bind ((iJ N d) v1 v3) λv5=>
   some v5
  else
   Option.bind (mn N (bs [40]) v3) λv6=>
   Option.bind ((iJ N d) v1 v6) λv7=>
   Option.bind (mn N (bs [41]) v7) λv8=>
   some v8
def ry(N:Nat):Nat->aqy->aqy->(aqx au)->aqy->aqz aqy
 |0,_,_,_,_=>none
 |d+1,v1,v2,v3,v4=>
  bif (Nat.ble (v1.size+(bs [40]).size) 9223372036854775807)then
  bif (Nat.ble ((v1++(bs [40])).size+v2.size) 9223372036854775807)then
  Option.bind (mn N ((v1++(bs [40]))++v2) v4) λv5=>
  qJ N v2 (iJ N d) v3 0 v5
  else none
  else none
end
def Q8(N:Nat)(v1:au)(v2:aqy):aqz aqy:=iJ N N v1 v2
theorem anI(N:Nat):∀d:Nat,(∀{v1:au}{v2:aqy}{r:aqy},iJ N d v1 v2=some r->KH 170 [(.ptr 0 0),(aN v1)] ([.aV 219 (bG 1 v2), .bm 5 v2]) (.bz []) ([.aV 219 (bG 1 r), .bm 5 r]))/\(∀{v1:au}{v2:Int}{v3:aqy}{r:aqy},pG N d v1 v2 v3=some r->KH 208 [(.ptr 0 0),(aN v1),(ar v2)] ([.aV 219 (bG 1 v3), .bm 5 v3]) (.bz []) ([.aV 219 (bG 1 r), .bm 5 r]))/\(∀{v1:aqy}{v2:aqy}{v3:aqx au}{v4:aqy}{r:aqy},ry N d v1 v2 v3 v4=some r->KH 209 [(.ptr 0 0),(aC v1),(aC v2),(.d (.sl (dW v3)))] ([.aV 219 (bG 1 v4), .bm 5 v4]) (.bz []) ([.aV 219 (bG 1 r), .bm 5 r])):=by
 intro d
 induction d with
 |zero=>exact⟨(by intro v1 v2 r J;rw[iJ]at J;cases J),(by intro v1 v2 v3 r J;rw[pG]at J;cases J),(by intro v1 v2 v3 v4 r J;rw[ry]at J;cases J)⟩
 |succ d ih=>
  have QD:= @ih.1;have K9:= @ih.2.1;have Iv:= @ih.2.2;refine⟨?_,?_,?_⟩
  ·intro v1 v2 r J;rw[iJ]at J;refine Ab 2 Tryz.func170 rfl (by kernel_rfl) (apR rfl) ?_;refine zw (s':=⟨134,[(0,(.ptr 0 0)),(1,(aN v1))],[.aV 219 (bG 1 v2), .bm 5 v2]⟩) (by kernel_rfl) ?_;refine bW ?_;refine rg [] [(3,(.ptr 2 0))] [.aV 219 (bG 1 v2), .bm 5 v2, .cells (aN v1).cells] (by kernel_rfl) ?_;refine bW ?_;obtain⟨v3,h1,J⟩:=dw J;refine rg [(7,cK VO h1)] [(4,(ar v3))] [.aV 219 (bG 1 v2), .bm 5 v2, .cells (aN v1).cells] (by kernel_rfl) ?_;refine bW ?_;refine rg [] [(10,(ar v1.aJ))] [.aV 219 (bG 1 v2), .bm 5 v2, .cells (aN v1).cells] (by kernel_rfl) ?_;refine ky ?_;refine bW ?_;refine rg [] [(35,(aM (v1.aJ==1)))] [.aV 219 (bG 1 v2), .bm 5 v2, .cells (aN v1).cells] (by kernel_rfl) ?_;rcases jQ (v1.aJ==1)with h2|h2
   ·replace J:=(fU h2).symm.trans J;refine jI (t:=(v1.aJ==1)) (by kernel_rfl) h2 ?_;obtain⟨v4,h3,J⟩:=dw J;have h4:=oB J;replace J:=(fU h4).symm.trans J;obtain⟨v5,h5,J⟩:=dw J;have h6:=oB J;replace J:=(fU h6).symm.trans J;have h7:=oB J;replace J:=(fU h7).symm.trans J;obtain⟨v6,h8,J⟩:=dw J;refine FZ dJ (by kernel_rfl) [(16,cK Ht h3),(19,⟨_,_, .cat (n:=v4.size+(bs [40]).size) (aZ h4)⟩),(34,cK amn h5),(37,⟨_,_, .cat (n:=(v4++(bs [40])).size+v5.size) (aZ h6)⟩),(40,⟨_,_, .cat (n:=((v4++(bs [40]))++v5).size+(bs [41]).size) (aZ h7)⟩),(43,oR [(.ptr 0 0),(aC (((v4++(bs [40]))++v5)++(bs [41])))] [.aV 219 (bG 1 v2), .bm 5 v2, .cells (aN v1).cells] [0,1] (qo _ h8))] [(51,(.bz [.dead, .dead])),(50,(aC (((v4++(bs [40]))++v5)++(bs [41])))),(49,(aC ((v4++(bs [40]))++v5))),(48,(aC v5)),(47,(aVal v1.dM)),(46,(.ptr 2 2)),(45,(dH v1.aO)),(44,(.ptr 2 4)),(43,(aC (v4++(bs [40])))),(42,(aC v4)),(41,(dH v1.aO)),(40,(.ptr 2 4)),(39,(.ptr 0 0)),(38,(.ptr 0 0)),(37,(.ptr 0 0))] [.aV 219 (bG 1 v6), .bm 5 v6, .cells (aN v1).cells] ⟨by kernel_rfl,by kernel_rfl⟩ ?_;refine jK ?_;have hr:=ap2 J;subst hr;exact sb (by kernel_rfl)
   replace J:=(jX h2).symm.trans J;refine jj (t:=(v1.aJ==1)) (by kernel_rfl) h2 ?_;refine bW ?_;refine rg [] [(52,(aM (v1.aJ==2)))] [.aV 219 (bG 1 v2), .bm 5 v2, .cells (aN v1).cells] (by kernel_rfl) ?_;rcases jQ (v1.aJ==2)with h9|h9
   ·replace J:=(fU h9).symm.trans J;refine jI (t:=(v1.aJ==2)) (by kernel_rfl) h9 ?_;obtain⟨v7,aU,J⟩:=dw J;have bh:=oB J;replace J:=(fU bh).symm.trans J;have bn:=oB J;replace J:=(fU bn).symm.trans J;obtain⟨v8,b5,J⟩:=dw J;refine FZ dJ (by kernel_rfl) [(16,cK BL aU),(19,⟨_,_, .cat (n:=(bs [91]).size+v7.size) (aZ bh)⟩),(22,⟨_,_, .cat (n:=((bs [91])++v7).size+(bs [93]).size) (aZ bn)⟩),(25,oR [(.ptr 0 0),(aC (((bs [91])++v7)++(bs [93])))] [.aV 219 (bG 1 v2), .bm 5 v2, .cells (aN v1).cells] [0,1] (qo _ b5))] [(62,(.bz [.dead, .dead])),(61,(aC (((bs [91])++v7)++(bs [93])))),(60,(aC ((bs [91])++v7))),(59,(aC v7)),(58,(cE v1.aS)),(57,(.ptr 2 9)),(56,(.ptr 0 0)),(55,(.ptr 0 0)),(54,(.ptr 0 0))] [.aV 219 (bG 1 v8), .bm 5 v8, .cells (aN v1).cells] ⟨by kernel_rfl,by kernel_rfl⟩ ?_;refine jK ?_;have hr:=ap2 J;subst hr;exact sb (by kernel_rfl)
   replace J:=(jX h9).symm.trans J;refine jj (t:=(v1.aJ==2)) (by kernel_rfl) h9 ?_;refine bW ?_;refine rg [] [(63,(aM (v1.aJ==3)))] [.aV 219 (bG 1 v2), .bm 5 v2, .cells (aN v1).cells] (by kernel_rfl) ?_;rcases jQ (v1.aJ==3)with bZ|bZ
   ·replace J:=(fU bZ).symm.trans J;refine jI (t:=(v1.aJ==3)) (by kernel_rfl) bZ ?_;refine bW ?_;refine rg [] [(5,(.d (.sl (cZ v1.xIdx))))] [.aV 219 (bG 1 v2), .bm 5 v2, .cells (aN v1).cells] (by kernel_rfl) ?_;have bK:=oB J;replace J:=(fU bK).symm.trans J;obtain⟨v9,bV,J⟩:=dw J;have cA:=oB J;replace J:=(fU cA).symm.trans J;have dv:=oB J;replace J:=(fU dv).symm.trans J;obtain⟨v10,eu,J⟩:=dw J;refine FZ dJ (by kernel_rfl) [(16,⟨_,_, .cat (n:=v1.ao.size+(bs [91]).size) (aZ bK)⟩),(22,oL v1.xIdx fx),(31,oQ [(ar (v1.xIdx.length:Int)),(.hid (.dU 207 [.d (.sl (cZ v1.xIdx))]))] [.aV 219 (bG 1 v2), .bm 5 v2, .cells (aN v1).cells] [] (akb _ bV)),(34,⟨_,_, .cat (n:=(v1.ao++(bs [91])).size+v9.size) (aZ cA)⟩),(37,⟨_,_, .cat (n:=((v1.ao++(bs [91]))++v9).size+(bs [93]).size) (aZ dv)⟩),(40,oR [(.ptr 0 0),(aC (((v1.ao++(bs [91]))++v9)++(bs [93])))] [.aV 219 (bG 1 v2), .bm 5 v2, .cells (aN v1).cells] [0,1] (qo _ eu))] [(80,(.bz [.dead, .dead])),(79,(aC (((v1.ao++(bs [91]))++v9)++(bs [93])))),(78,(aC ((v1.ao++(bs [91]))++v9))),(77,(aC v9)),(76,(.hid (.dU 207 [.d (.sl (cZ v1.xIdx))]))),(75,(.d (.sl (cZ v1.xIdx)))),(74,(ar (v1.xIdx.length:Int))),(73,(.d (.sl (cZ v1.xIdx)))),(72,(aC (v1.ao++(bs [91])))),(71,(aC v1.ao)),(70,(.ptr 2 1)),(69,(.ptr 0 0)),(68,(.ptr 0 0)),(67,(.ptr 0 0))] [.aV 219 (bG 1 v10), .bm 5 v10, .cells (aN v1).cells] ⟨by kernel_rfl,by kernel_rfl⟩ ?_
    refine jK ?_;have hr:=ap2 J;subst hr;exact sb (by kernel_rfl)
   replace J:=(jX bZ).symm.trans J;refine jj (t:=(v1.aJ==3)) (by kernel_rfl) bZ ?_;refine bW ?_;refine rg [] [(81,(aM (v1.aJ==8)))] [.aV 219 (bG 1 v2), .bm 5 v2, .cells (aN v1).cells] (by kernel_rfl) ?_;rcases jQ (v1.aJ==8)with cH|cH
   ·replace J:=(fU cH).symm.trans J;refine jI (t:=(v1.aJ==8)) (by kernel_rfl) cH ?_;refine bW ?_;obtain⟨v11,dN,J⟩:=dw J;refine rg [(10,oR [(.ptr 0 0),(aC (bs [45]))] [.aV 219 (bG 1 v2), .bm 5 v2, .cells (aN v1).cells] [0,1] (qo _ dN))] [] [.aV 219 (bG 1 v11), .bm 5 v11, .cells (aN v1).cells] (by kernel_rfl) ?_;obtain⟨v12,fe,ba,dQ,J⟩:=k00 J;refine re [(10,oE (k:=0) (fX fe)),(19,oR [(.ptr 0 0),(aN v12),(ar v3)] [.aV 219 (bG 1 v11), .bm 5 v11, .cells (aN v1).cells] [0,1] (K9 dQ))] [(93,(.bz [])),(92,(ar v3)),(91,(aN v12)),(90,(.bJ [e7 v12] 0 0)),(89,(.d (.sl (dW v1.bp)))),(88,(.ptr 2 12)),(87,(.ptr 0 0))] [.aV 219 (bG 1 ba), .bm 5 ba, .cells (aN v1).cells] (by kernel_rfl) ?_;refine jK ?_;have hr:=ap2 J;subst hr;exact sb (by kernel_rfl)
   replace J:=(jX cH).symm.trans J;refine jj (t:=(v1.aJ==8)) (by kernel_rfl) cH ?_;refine bW ?_;refine rg [] [(94,(aM (v1.aJ==18)))] [.aV 219 (bG 1 v2), .bm 5 v2, .cells (aN v1).cells] (by kernel_rfl) ?_;rcases jQ (v1.aJ==18)with eG|eG
   ·replace J:=(fU eG).symm.trans J;refine jI (t:=(v1.aJ==18)) (by kernel_rfl) eG ?_;refine bW ?_;obtain⟨b8,fQ,J⟩:=dw J;refine rg [(10,oR [(.ptr 0 0),(aC (bs [33]))] [.aV 219 (bG 1 v2), .bm 5 v2, .cells (aN v1).cells] [0,1] (qo _ fQ))] [] [.aV 219 (bG 1 b8), .bm 5 b8, .cells (aN v1).cells] (by kernel_rfl) ?_;obtain⟨v15,e9,cu,fG,J⟩:=k00 J;refine re [(10,oE (k:=0) (fX e9)),(19,oR [(.ptr 0 0),(aN v15),(ar v3)] [.aV 219 (bG 1 b8), .bm 5 b8, .cells (aN v1).cells] [0,1] (K9 fG))] [(106,(.bz [])),(105,(ar v3)),(104,(aN v15)),(103,(.bJ [e7 v15] 0 0)),(102,(.d (.sl (dW v1.bp)))),(101,(.ptr 2 12)),(100,(.ptr 0 0))] [.aV 219 (bG 1 cu), .bm 5 cu, .cells (aN v1).cells] (by kernel_rfl) ?_;refine jK ?_;have hr:=ap2 J;subst hr;exact sb (by kernel_rfl)
   replace J:=(jX eG).symm.trans J;refine jj (t:=(v1.aJ==18)) (by kernel_rfl) eG ?_;refine bW ?_;refine rg [] [(107,(aM (v1.aJ==9)))] [.aV 219 (bG 1 v2), .bm 5 v2, .cells (aN v1).cells] (by kernel_rfl) ?_;rcases jQ (v1.aJ==9)with gg|gg
   ·replace J:=(fU gg).symm.trans J;refine jI (t:=(v1.aJ==9)) (by kernel_rfl) gg ?_;obtain⟨v17,iw,J⟩:=dw J;refine re [(10,oR [(.ptr 0 0),(aC (bs [109,105,110])),(aC (bs [])),(.d (.sl (dW v1.bp)))] [.aV 219 (bG 1 v2), .bm 5 v2, .cells (aN v1).cells] [0,1] (Iv iw))] [(112,(.bz [])),(111,(.d (.sl (dW v1.bp)))),(110,(.ptr 2 12)),(109,(.ptr 0 0))] [.aV 219 (bG 1 v17), .bm 5 v17, .cells (aN v1).cells] (by kernel_rfl) ?_;refine jK ?_;have hr:=ap2 J;subst hr;exact sb (by kernel_rfl)
   replace J:=(jX gg).symm.trans J;refine jj (t:=(v1.aJ==9)) (by kernel_rfl) gg ?_;refine bW ?_;refine rg [] [(113,(aM (v1.aJ==10)))] [.aV 219 (bG 1 v2), .bm 5 v2, .cells (aN v1).cells] (by kernel_rfl) ?_;rcases jQ (v1.aJ==10)with gL|gL
   ·replace J:=(fU gL).symm.trans J;refine jI (t:=(v1.aJ==10)) (by kernel_rfl) gL ?_;obtain⟨cJ,iX,J⟩:=dw J;refine re [(10,oR [(.ptr 0 0),(aC (bs [109,97,120])),(aC (bs [])),(.d (.sl (dW v1.bp)))] [.aV 219 (bG 1 v2), .bm 5 v2, .cells (aN v1).cells] [0,1] (Iv iX))] [(118,(.bz [])),(117,(.d (.sl (dW v1.bp)))),(116,(.ptr 2 12)),(115,(.ptr 0 0))] [.aV 219 (bG 1 cJ), .bm 5 cJ, .cells (aN v1).cells] (by kernel_rfl) ?_;refine jK ?_;have hr:=ap2 J;subst hr;exact sb (by kernel_rfl)
   replace J:=(jX gL).symm.trans J;refine jj (t:=(v1.aJ==10)) (by kernel_rfl) gL ?_;refine bW ?_;refine rg [] [(119,(aM (v1.aJ==11)))] [.aV 219 (bG 1 v2), .bm 5 v2, .cells (aN v1).cells] (by kernel_rfl) ?_;rcases jQ (v1.aJ==11)with jD|jD
   ·replace J:=(fU jD).symm.trans J;refine jI (t:=(v1.aJ==11)) (by kernel_rfl) jD ?_;obtain⟨dy,ju,J⟩:=dw J;refine re [(10,oR [(.ptr 0 0),(aC (bs [105,102])),(aC (bs [])),(.d (.sl (dW v1.bp)))] [.aV 219 (bG 1 v2), .bm 5 v2, .cells (aN v1).cells] [0,1] (Iv ju))] [(124,(.bz [])),(123,(.d (.sl (dW v1.bp)))),(122,(.ptr 2 12)),(121,(.ptr 0 0))] [.aV 219 (bG 1 dy), .bm 5 dy, .cells (aN v1).cells] (by kernel_rfl) ?_;refine jK ?_;have hr:=ap2 J;subst hr;exact sb (by kernel_rfl)
   replace J:=(jX jD).symm.trans J;refine jj (t:=(v1.aJ==11)) (by kernel_rfl) jD ?_;refine bW ?_;refine rg [] [(125,(aM (v1.aJ==12)))] [.aV 219 (bG 1 v2), .bm 5 v2, .cells (aN v1).cells] (by kernel_rfl) ?_;rcases jQ (v1.aJ==12)with lk|lk
   ·replace J:=(fU lk).symm.trans J;refine jI (t:=(v1.aJ==12)) (by kernel_rfl) lk ?_;obtain⟨v20,my,v21,kX,J⟩:=k00 J;refine FZ dJ (by kernel_rfl) [(10,cK Ht my),(19,oR [(.ptr 0 0),(aC (bs [99,97,115,116])),(aC v20),(.d (.sl (dW v1.bp)))] [.aV 219 (bG 1 v2), .bm 5 v2, .cells (aN v1).cells] [0,1] (Iv kX))] [(133,(.bz [])),(132,(.d (.sl (dW v1.bp)))),(131,(.ptr 2 12)),(130,(aC v20)),(129,(dH v1.aO)),(128,(.ptr 2 4)),(127,(.ptr 0 0))] [.aV 219 (bG 1 v21), .bm 5 v21, .cells (aN v1).cells] ⟨by kernel_rfl,by kernel_rfl⟩ ?_;refine jK ?_;have hr:=ap2 J;subst hr;exact sb (by kernel_rfl)
   replace J:=(jX lk).symm.trans J;refine jj (t:=(v1.aJ==12)) (by kernel_rfl) lk ?_;refine bW ?_;obtain⟨v22,ot,v23,ou,J⟩:=k00 J;refine rg [(10,oE (k:=0) (fX ot)),(19,oR [(.ptr 0 0),(aN v22),(ar v3)] [.aV 219 (bG 1 v2), .bm 5 v2, .cells (aN v1).cells] [0,1] (K9 ou))] [] [.aV 219 (bG 1 v23), .bm 5 v23, .cells (aN v1).cells] (by kernel_rfl) ?_;refine bW ?_;obtain⟨v24,mf,J⟩:=dw J;have l9:=oB J;replace J:=(fU l9).symm.trans J;have oT:=oB J;replace J:=(fU oT).symm.trans J;obtain⟨v25,oD,J⟩:=dw J;refine rl dJ (by kernel_rfl) [(16,cK aep mf),(19,⟨_,_, .cat (n:=(bs [32]).size+v24.size) (aZ l9)⟩),(22,⟨_,_, .cat (n:=((bs [32])++v24).size+(bs [32]).size) (aZ oT)⟩),(25,oR [(.ptr 0 0),(aC (((bs [32])++v24)++(bs [32])))] [.aV 219 (bG 1 v23), .bm 5 v23, .cells (aN v1).cells] [0,1] (qo _ oD))] [] [.aV 219 (bG 1 v25), .bm 5 v25, .cells (aN v1).cells] ⟨by kernel_rfl,by kernel_rfl⟩ ?_;obtain⟨v26,yr,cV,yw,J⟩:=k00 J;refine re [(10,oE (k:=1) (fX yr)),(22,oR [(.ptr 0 0),(aN v26),(ar (bl (v3+(1:Int))))] [.aV 219 (bG 1 v25), .bm 5 v25, .cells (aN v1).cells] [0,1] (K9 yw))] [(34,(.bz [])),(33,(ar (bl (v3+(1:Int))))),(32,(ar v3)),(31,(aN v26)),(30,(.bJ [e7 v26] 0 0)),(29,(.d (.sl (dW v1.bp)))),(28,(.ptr 2 12)),(27,(.ptr 0 0))] [.aV 219 (bG 1 cV), .bm 5 cV, .cells (aN v1).cells] (by kernel_rfl) ?_
   refine jK ?_;have hr:=ap2 J;subst hr;exact sb (by kernel_rfl)
  ·intro v1 v2 v3 r J;rw[pG]at J;refine Ol 2 Tryz.func208 ?_;obtain⟨v4,h1,J⟩:=dw J;refine wC dJ [[],[(7,cK VO h1)]] ?_;apply bc J<;>intro h2 J
   ·obtain⟨v5,h3,J⟩:=dw J;cases J;exact HM dJ [[(0,bT h2)],[(7,oR [(.ptr 0 0),(aN v1)] [.aV 219 (bG 1 v3), .bm 5 v3, .cells (aN v1).cells] [0,1] (QD h3))]]
   obtain⟨v6,h4,v7,h5,J⟩:=k00 J;obtain⟨v8,h6,J⟩:=dw J;cases J;exact HM dJ [[(0,bF h2)],[(10,oR [(.ptr 0 0),(aC (bs [40]))] [.aV 219 (bG 1 v3), .bm 5 v3, .cells (aN v1).cells] [0,1] (qo _ h4))],[(7,oR [(.ptr 0 0),(aN v1)] [.aV 219 (bG 1 v6), .bm 5 v6, .cells (aN v1).cells] [0,1] (QD h5))],[(10,oR [(.ptr 0 0),(aC (bs [41]))] [.aV 219 (bG 1 v7), .bm 5 v7, .cells (aN v1).cells] [0,1] (qo _ h6))]]
  intro v1 v2 v3 v4 r J;rw[ry]at J;refine Ol 2 Tryz.func209 ?_;obtain⟨h1,J⟩:=rY J;obtain⟨h2,J⟩:=rY J;obtain⟨v5,h3,J⟩:=dw J;refine wC dJ [[(13,⟨_,_, .cat (n:=v1.size+(bs [40]).size) (aZ h1)⟩),(19,⟨_,_, .cat (n:=(v1++(bs [40])).size+v2.size) (aZ h2)⟩),(22,oR [(.ptr 0 0),(aC ((v1++(bs [40]))++v2))] [.aV 219 (bG 1 v4), .bm 5 v4] [0,1] (qo _ h3))],[(4,oL v3 gq)]] ?_;refine Fq lK 3 v3 λh5=> ?_;refine K7 dJ 1 [] [0,2,18,19,20] 2 v3 (λv6(v10:aqy)=>⟨43,[(0,(.ptr 0 0)),(2,(aC v2)),(18,(.d (.sl (dW v3)))),(19,(ar (v3.length:Int))),(20,(ar (v6:Int)))],[.aV 219 (bG 1 v10), .bm 5 v10]⟩) (qJ N v2 (iJ N d)) v5 J ?_ ?_
  ·intro v6 v10 h6 J f1;rw[qJ]at J;obtain⟨v11,h7,J⟩:=dw J;cases J;exact HM dJ [[],[(0,bF (bj h6))],[(10,oR [(.ptr 0 0),(aC (bs [41]))] [.aV 219 (bG 1 v10), .bm 5 v10] [0,1] (qo _ h7))]]
  intro v6 v8 v9 v10 h6 J f1 aB;rw[qJ]at J;refine wC dJ [[],[(0,bT (bk h6))],[(4,oE (fX (aW h6)))]] ?_;obtain⟨v12,h9,J⟩:=dw J;refine abZ dJ [(30,(aM v12))] [.aV 219 (bG 1 v10), .bm 5 v10, .cells (aN v8).cells] ?_ ?_
  ·apply bc h9<;>intro h8 h9
   ·cases h9;exact zf [(2,bT h8)] []
   cases h9;exact zf [(2,bF h8)] []
  refine WS dJ r 2 [] [0,2,9,18,19,20] 3 (λ(ba:aqy)=>⟨43,[(0,(.ptr 0 0)),(2,(aC v2)),(9,(.ptr 2 0)),(18,(.d (.sl (dW v3)))),(19,(ar (v3.length:Int))),(20,(ar (v6:Int)))],[.aV 219 (bG 1 ba), .bm 5 ba, .cells (aN v8).cells]⟩) (F3 N (iJ N d) v8 (λbq=>qJ N v2 (iJ N d) v9 (v6+1) bq)) ?_ ?_
  ·intro f2 ca;apply bc J<;>intro bh J
   ·obtain⟨v15,bn,J⟩:=dw J;exact Mp dJ ca v15 [[(0,bT bh)],[(10,oR [(.ptr 0 0),(aC (bs [44,32]))] [.aV 219 (bG 1 v10), .bm 5 v10, .cells (aN v8).cells] [0,1] (qo _ bn))]] J
   exact Mp dJ ca v10 [[(0,bF bh)]] J
  intro ba J;rw[F3]at J;obtain⟨b8,aU,J⟩:=dw J;exact wb dJ aB b8 [[(7,oR [(.ptr 0 0),(aN v8)] [.aV 219 (bG 1 ba), .bm 5 ba, .cells (aN v8).cells] [0,1] (QD aU))],[(2,oq (bE h6 rfl h5))]] h6 J
theorem amT{N v1 v2 r}(J:Q8 N v1 v2=some r):KH 170 [(.ptr 0 0),(aN v1)] ([.aV 219 (bG 1 v2), .bm 5 v2]) (.bz []) ([.aV 219 (bG 1 r), .bm 5 r]):=(anI N N).1 J
def YF(N:Nat)(v1:aqy):aqz aqy:=some v1
theorem ao8{N v1}:KP 79 [(.ptr 0 0)] [.aV 219 (bG 1 v1), .bm 5 v1] aC (λ_=>[.gone, .gone]) (YF N v1):=aac
def N8(N:Nat)(v1:au):aqz aqy:=
 (uW N v1).bind λv2=>
 bif (v2 !=0)then
  some (bs [])
 else
  Option.bind (Q8 N v1 (bs [])) λv3=>
  (YF N v3).bind λv4=>
  some v4
theorem amR{N v1}:KO 129 [(aN v1)] aC (N8 N v1):=
 fw Tryz.func129 (aq λv2 h1=>gA [[],[(4,cL (RD h1))]] (bB λh2=>gA [[f0 h2]] (li (λ_=>(yL 219 1 5 (by kernel_rfl) ·)) (aq λv3 h3=>aq λv4 h4=>gR [[(7,oR [(.ptr 1 0),(aN v1)] [.cells (aN v1).cells, .aV 219 (bG 2 (bs [])), .bm 5 (bs [])] [1,2] (amT h3))],[(10,oR [(.ptr 1 0)] [.cells (aN v1).cells, .aV 219 (bG 2 v3), .bm 5 v3] [1,2] (ao8 _ h4))]]))))
def IX(N:Nat)(v1:bf):aqz aqy:=
 (pj N v1.ao).bind λv2=>
 Option.bind (bif v2 then (Ro N v1.aP).bind λv3=>
 (bif v3 then (Ro N v1.aY).bind λv4=>
 (bif v4 then (qa N v1.aO).bind λv5=>
 some (v5 !=0)else some true)else some true)else some true) λv6=>
 bif v6 then
  some (bs [])
 else
  Option.bind (bif (decide (v1.cC<0))then some true else(bif (decide (v1.cC>5))then some true else(bif (v1.cC==0)then some (decide ((v1.aY.length:Int)>0))else(bif (v1.cC==5)then some (decide ((v1.aY.length:Int)>0))else some false)))) λv7=>
  bif v7 then
   some (bs [])
  else
   (uW N v1.cg).bind λv8=>
   bif (v8 !=0)then
    some (bs [])
   else
    bif (Nat.ble ((bs [100,101,102,32]).size+v1.ao.size) 9223372036854775807)then
    bif (Nat.ble (((bs [100,101,102,32])++v1.ao).size+(bs [58,32]).size) 9223372036854775807)then
    (xQ N v1.aO).bind λv9=>
    bif (Nat.ble ((((bs [100,101,102,32])++v1.ao)++(bs [58,32])).size+v9.size) 9223372036854775807)then
    bif (Nat.ble (((((bs [100,101,102,32])++v1.ao)++(bs [58,32]))++v9).size+(bs [91]).size) 9223372036854775807)then
    Option.bind (q8 N (v1.aP.length:Int) v1.aP) λv10=>
    bif (Nat.ble ((((((bs [100,101,102,32])++v1.ao)++(bs [58,32]))++v9)++(bs [91])).size+v10.size) 9223372036854775807)then
    bif (Nat.ble (((((((bs [100,101,102,32])++v1.ao)++(bs [58,32]))++v9)++(bs [91]))++v10).size+(bs [93,32,61,32]).size) 9223372036854775807)then
    (HS N v1).bind λv11=>
    bif (Nat.ble ((((((((bs [100,101,102,32])++v1.ao)++(bs [58,32]))++v9)++(bs [91]))++v10)++(bs [93,32,61,32])).size+v11.size) 9223372036854775807)then
    (N8 N v1.cg).bind λv12=>
    bif (Nat.ble (((((((((bs [100,101,102,32])++v1.ao)++(bs [58,32]))++v9)++(bs [91]))++v10)++(bs [93,32,61,32]))++v11).size+v12.size) 9223372036854775807)then
    bif (Nat.ble ((((((((((bs [100,101,102,32])++v1.ao)++(bs [58,32]))++v9)++(bs [91]))++v10)++(bs [93,32,61,32]))++v11)++v12).size+(bs [59]).size) 9223372036854775807)then
    some ((((((((((bs [100,101,102,32])++v1.ao)++(bs [58,32]))++v9)++(bs [91]))++v10)++(bs [93,32,61,32]))++v11)++v12)++(bs [59]))
    else none
    else none
    else none
    else none
    else none
    else none
    else none
    else none
    else none
theorem amp{N v1}:KO 78 [(ep v1)] aC (IX N v1):=
 fw Tryz.func78 (gA [[],[]] (aq λv2 h1=>gG (λv6=>[(9,(aM v6))]) (λ_=>[.cells (ep v1).cells]) (cf (7,cK sB h1) (aw (λh2=>aq λv3 h3=>bU (4,bF (cb h2)) (cf (19,cK acC h3) (aw (λh4=>aq λv4 h5=>bU (9,bF (cb h4)) (cf (34,cK acC h5) (aw (λh6=>aq λv5 h7=>gE [(14,bF (cb h6))] [(52,cK xB h7)]) λh6=>gE [(14,bT (cW h6))] []))) λh4=>gE [(9,bT (cW h4)),(14,bT rfl)] []))) λh2=>gE [(4,bT (cW h2)),(9,bT rfl),(14,bT rfl)] [])) λv6=>bB λh9=>gA [[f0 h9]] (gG (λv7=>[(30,(aM v7))]) (λ_=>[.cells (ep v1).cells]) (aw (λaU=>gE [(3,bT aU),(8,bT rfl),(12,uN),(17,uN)] []) λaU=>bU (3,bF aU) (aw (λbh=>gE [(8,bT bh),(12,uN),(17,uN)] []) λbh=>bU (8,bF bh) (aw (λbn=>gE [(12,bT bn),(17,bT rfl)] [(49,bT bn),(58,oL v1.aY dB),(64,bT rfl)]) λbn=>bU (12,bF bn) (cf (49,bF bn) (aw (λb5=>gE [(17,bT b5)] [(58,oL v1.aY dB),(64,bT b5)]) λb5=>gE [(17,bF b5)] [(64,bF b5)]))))) λv7=>bB λbK=>aq λv8 bV=>gA [[f0 bK],[(7,cL (RD bV))]] (bB λcA=>aF λdv=>aF λeu=>aq λv9 cH=>aF λdN=>aF λfe=>aq λv10 dQ=>aF λeG=>aF λfQ=>aq λv11 e9=>aF λfG=>aq λv12 gg=>aF λiw=>aF λgL=>gR [[f0 cA],[(7,⟨_,_, .cat (n:=(bs [100,101,102,32]).size+v1.ao.size) (aZ dv)⟩),(10,⟨_,_, .cat (n:=((bs [100,101,102,32])++v1.ao).size+(bs [58,32]).size) (aZ eu)⟩),(19,cK Ht cH),(22,⟨_,_, .cat (n:=(((bs [100,101,102,32])++v1.ao)++(bs [58,32])).size+v9.size) (aZ dN)⟩),(25,⟨_,_, .cat (n:=((((bs [100,101,102,32])++v1.ao)++(bs [58,32]))++v9).size+(bs [91]).size) (aZ fe)⟩),(31,oL v1.aP dB),(40,oQ [(ar (v1.aP.length:Int)),(.hid (.dU 127 [.d (.sl (du v1.aP))]))] [.cells (ep v1).cells] [] (wY _ dQ)),(43,⟨_,_, .cat (n:=(((((bs [100,101,102,32])++v1.ao)++(bs [58,32]))++v9)++(bs [91])).size+v10.size) (aZ eG)⟩),(46,⟨_,_, .cat (n:=((((((bs [100,101,102,32])++v1.ao)++(bs [58,32]))++v9)++(bs [91]))++v10).size+(bs [93,32,61,32]).size) (aZ fQ)⟩),(52,cK alX e9),(55,⟨_,_, .cat (n:=(((((((bs [100,101,102,32])++v1.ao)++(bs [58,32]))++v9)++(bs [91]))++v10)++(bs [93,32,61,32])).size+v11.size) (aZ fG)⟩),(64,cK amR gg),(67,⟨_,_, .cat (n:=((((((((bs [100,101,102,32])++v1.ao)++(bs [58,32]))++v9)++(bs [91]))++v10)++(bs [93,32,61,32]))++v11).size+v12.size) (aZ iw)⟩),(70,⟨_,_, .cat (n:=(((((((((bs [100,101,102,32])++v1.ao)++(bs [58,32]))++v9)++(bs [91]))++v10)++(bs [93,32,61,32]))++v11)++v12).size+(bs [59]).size) (aZ gL)⟩)]]))))
def EF(N:Nat)(v1:aK):aqx bf->Nat->aqy->aqz aqy
 |[],_,v20=>
  Option.bind (FA N (bs [111,117,116]) v1.b9 v20) λv21=>
  (zc N v21).bind λv22=>
  some v22
 |cJ::dy,cu,v20=>
  (IX N cJ).bind λv23=>
  bif (bL v23==bL (bs []))then
   some (bs [])
  else
   bif (Nat.ble (v23.size+(bs [10]).size) 9223372036854775807)then
   Option.bind (fA N (v23++(bs [10])) v20) λv24=>
   (λmu=>EF N v1 dy (cu+1) mu) v24
   else none
def FC(N:Nat)(v1:aK):aqx cv->Nat->aqy->aqz aqy
 |[],_,v15=>
  EF N v1 v1.ay 0 v15
 |ba::b8,v11,v15=>
  (pj N ba.ao).bind λv25=>
  Option.bind (bif v25 then (qa N ba.aO).bind λv26=>
  (bif (v26 !=0)then some true else (L5 N ba.aP).bind λcV=>
  some (!cV))else some true) λv28=>
  bif v28 then
   some (bs [])
  else
   bif (Nat.ble ((bs [105,110,32]).size+ba.ao.size) 9223372036854775807)then
   bif (Nat.ble (((bs [105,110,32])++ba.ao).size+(bs [58,32]).size) 9223372036854775807)then
   (xQ N ba.aO).bind λie=>
   bif (Nat.ble ((((bs [105,110,32])++ba.ao)++(bs [58,32])).size+ie.size) 9223372036854775807)then
   bif (Nat.ble (((((bs [105,110,32])++ba.ao)++(bs [58,32]))++ie).size+(bs [91]).size) 9223372036854775807)then
   Option.bind (Km N (ba.aP.length:Int) ba.aP) λv30=>
   bif (Nat.ble ((((((bs [105,110,32])++ba.ao)++(bs [58,32]))++ie)++(bs [91])).size+v30.size) 9223372036854775807)then
   bif (Nat.ble (((((((bs [105,110,32])++ba.ao)++(bs [58,32]))++ie)++(bs [91]))++v30).size+(bs [93,59,10]).size) 9223372036854775807)then
   Option.bind (fA N (((((((bs [105,110,32])++ba.ao)++(bs [58,32]))++ie)++(bs [91]))++v30)++(bs [93,59,10])) v15) λv31=>
   (λiW=>FC N v1 b8 (v11+1) iW) v31
   else none
   else none
   else none
   else none
   else none
   else none
def FY(N:Nat)(v1:aK):aqx c8->Nat->aqy->aqz aqy
 |[],_,v10=>
  FC N v1 v1.aG 0 v10
 |v8::v9,v6,v10=>
  (te N v8).bind λv32=>
  bif (v32 !=0)then
   some (bs [])
  else
   (H3 N v8).bind λv33=>
   bif (Nat.ble ((bs [119,104,101,114,101,32]).size+v33.size) 9223372036854775807)then
   bif (Nat.ble (((bs [119,104,101,114,101,32])++v33).size+(bs [59,10]).size) 9223372036854775807)then
   Option.bind (fA N (((bs [119,104,101,114,101,32])++v33)++(bs [59,10])) v10) λmO=>
   (λbq=>FY N v1 v9 (v6+1) bq) mO
   else none
   else none
def En(N:Nat)(v1:aK):aqz aqy:=
 (OZ N v1.aA).bind λv2=>
 Option.bind (bif v2 then (OZ N v1.b9).bind λv3=>
 some (!v3)else some true) λv4=>
 bif v4 then
  some (bs [])
 else
  Option.bind (FA N (bs [115,105,122,101]) v1.aA (bs [])) λv5=>
  FY N v1 v1.cr 0 v5
def pN(v1:aK)(v10:aqy)(l:aqx an):aqx an:= .cells (cX v1).cells:: .aV 136 (bG 2 v10):: .bm 5 v10::l
theorem aih{N v1}:KO 30 [(cX v1)] aC (En N v1):=
 fw Tryz.func30 (gA [[]] (aq λv2 h1=>gG (λv4=>[(21,(aM v4))]) (λ_=>[.cells (cX v1).cells]) (cf (7,cK VT h1) (aw (λh2=>aq λv3 h3=>gE [(4,bF (cb h2))] [(22,cK VT h3)]) λh2=>gE [(4,bT (cW h2))] [])) λv4=>bB λh5=>gA [[f0 h5]] (li (λ_=>(yL 136 0 5 (by kernel_rfl) ·)) (aq λv5 h6=>gA [[(7,oR [(.ptr 1 0),(aC (bs [115,105,122,101])),(.d (.sl (b6 v1.aA)))] [.cells (cX v1).cells, .aV 136 (bG 2 (bs [])), .bm 5 (bs [])] [1,2] (Y3 _ h6))],[(7,oL v1.cr kg)]] (gT rP 26 v1.cr λh8=>eM 1 [] [1,3,26,27,28] 3 (λv6(v10:aqy)=>⟨102,[(1,(.ptr 0 0)),(3,(.ptr 1 0)),(26,(.d (.sl (hY v1.cr)))),(27,(ar (v1.cr.length:Int))),(28,(ar (v6:Int)))],(pN v1 v10 [])⟩) (λv6 v10 h9 f1=>gA [[],[f0 (bj h9)],[(7,oL v1.aG iy)]] (gT ny 42 v1.aG λbh=>eM 2 [] [1,3,42,43,44] 3 (λv11(v15:aqy)=>⟨102,[(1,(.ptr 0 0)),(3,(.ptr 1 0)),(42,(.d (.sl (iT v1.aG)))),(43,(ar (v1.aG.length:Int))),(44,(ar (v11:Int)))],(pN v1 v15 [])⟩) (λv11 v15 bn f2=>gA [[],[f0 (bj bn)],[(7,oL v1.ay gY)]] (gT nA 84 v1.ay λbZ=>eM 3 [] [1,3,84,85,86] 3 (λcu(v20:aqy)=>⟨102,[(1,(.ptr 0 0)),(3,(.ptr 1 0)),(84,(.d (.sl (gh v1.ay)))),(85,(ar (v1.ay.length:Int))),(86,(ar (cu:Int)))],(pN v1 v20 [])⟩) (λcu v20 bK f3=>aq λv21 bV=>aq λv22 cA=>gR [[],[f0 (bj bK)],[(7,oR [(.ptr 1 0),(aC (bs [111,117,116])),(.d (.sl (b6 v1.b9)))] (pN v1 v20 []) [1,2] (Y3 _ bV))],[(1,oR [(.ptr 1 0)] (pN v1 v21 []) [1,2] (zX _ cA))]]) (λcu cJ dy v20 bK f3 fu=>aq λv23 dv=>gA [[],[t0 (bk bK)],[(1,oE (jH (aW bK)))],[(4,cK amp dv)],[]] (bB λeu=>aF λcH=>aq λv24 dN=>gb fu v24 [[f0 eu],[(4,⟨_,_, .cat (n:=v23.size+(bs [10]).size) (aZ cH)⟩),(7,oR [(.ptr 1 0),(aC (v23++(bs [10])))] (pN v1 v20 [.cells (ep cJ).cells]) [1,2] (gV _ dN))],[(2,oq (bE bK rfl bZ))]] bK)))) (λv11 ba b8 v15 bn f2 ca=>gA [[],[t0 (bk bn)],[(1,oE (jy (aW bn)))],[]] (aq λv25 fe=>gG (λv28=>[(64,(aM v28))]) (λ_=>(pN v1 v15 [.cells (mZ ba).cells])) (cf (7,cK sB fe) (aw (λdQ=>aq λv26 eG=>bU (4,bF (cb dQ)) (cf (22,cK xB eG) (aw (λfQ=>gE [(10,bT fQ)] []) λfQ=>aq λcV e9=>gE [(10,bF fQ)] [(37,cK Zz e9)]))) λdQ=>gE [(4,bT (cW dQ)),(10,bT rfl)] [])) λv28=>bB λgg=>gA [[f0 gg]] (aF λiw=>aF λgL=>aq λie iX=>aF λjD=>aF λju=>aq λv30 lk=>aF λmy=>aF λkX=>aq λv31 ot=>li (λ_=>(aeV dJ [(7,⟨_,_, .cat (n:=(bs [105,110,32]).size+ba.ao.size) (aZ iw)⟩),(10,⟨_,_, .cat (n:=((bs [105,110,32])++ba.ao).size+(bs [58,32]).size) (aZ gL)⟩),(19,cK Ht iX),(22,⟨_,_, .cat (n:=(((bs [105,110,32])++ba.ao)++(bs [58,32])).size+ie.size) (aZ jD)⟩),(25,⟨_,_, .cat (n:=((((bs [105,110,32])++ba.ao)++(bs [58,32]))++ie).size+(bs [91]).size) (aZ ju)⟩),(31,oL ba.aP dT),(40,oQ [(ar (ba.aP.length:Int)),(.hid (.dU 77 [.d (.sl (c6 ba.aP))]))] (pN v1 v15 [.cells (mZ ba).cells]) [] (YO _ lk)),(43,⟨_,_, .cat (n:=(((((bs [105,110,32])++ba.ao)++(bs [58,32]))++ie)++(bs [91])).size+v30.size) (aZ my)⟩),(46,⟨_,_, .cat (n:=((((((bs [105,110,32])++ba.ao)++(bs [58,32]))++ie)++(bs [91]))++v30).size+(bs [93,59,10]).size) (aZ kX)⟩),(49,oR [(.ptr 1 0),(aC (((((((bs [105,110,32])++ba.ao)++(bs [58,32]))++ie)++(bs [91]))++v30)++(bs [93,59,10])))] (pN v1 v15 [.cells (mZ ba).cells]) [1,2] (gV _ ot))] [] (pN v1 v31 [.cells (mZ ba).cells]) ·)) (gb ca v31 [[(2,oq (bE bn rfl bh))]] bn)))))) (λv6 v8 v9 v10 h9 f1 aB=>aq λv32 ou=>gA [[],[t0 (bk h9)],[(1,oE (pI (aW h9)))],[(4,cK RI ou)]] (bB λmf=>aq λv33 l9=>aF λoT=>aF λoD=>aq λmO yr=>gb aB mO [[f0 mf],[(4,cK al7 l9),(7,⟨_,_, .cat (n:=(bs [119,104,101,114,101,32]).size+v33.size) (aZ oT)⟩),(10,⟨_,_, .cat (n:=((bs [119,104,101,114,101,32])++v33).size+(bs [59,10]).size) (aZ oD)⟩),(13,oR [(.ptr 1 0),(aC (((bs [119,104,101,114,101,32])++v33)++(bs [59,10])))] (pN v1 v10 [.cells (mP v8).cells]) [1,2] (gV _ yr))],[(2,oq (bE h9 rfl h8))]] h9)))))))
def abi(N:Nat)(v1:ga)(v2:aqy):aqz Bool:=
 some (bL v1.ao==bL v2)
theorem aeQ{N v1 v2}:KP 32 [(Vk v1),(.ptr 0 0)] [.cells [(aC v2)]] aM (λ_=>[.cells [(aC v2)]]) (abi N v1 v2):=
 fh 1 Tryz.func32 (gH [[],[]])
def Az(N:Nat)(v2:aqy):aqx ga->Nat->aqz Int
 |[],_=>
  some (-1:Int)
 |v5::v6,v3=>
  (abi N v5 v2).bind λv7=>
  bif v7 then
   some (v3:Int)
  else
   (Az N v2 v6 (v3+1))
def Qt(N:Nat)(v1:aqx ga)(v2:aqy):aqz Int:=
 Az N v2 v1 0
theorem akK{N v1 v2}:KP 31 [(.d (.sl (jz v1))),(.fn 32 [(.ptr 0 0)])] [.cells [(aC v2)]] ar (λ_=>[.cells [(aC v2)]]) (Qt N v1 v2):=
 fh 1 Tryz.func31 (gA [[],[(4,oL v1 xU)]] (gT WZ 0 v1 λh2=>dK 1 [] [0,1,7,8] 1 (λv3=>⟨19,[(0,(.d (.sl (jz v1)))),(1,(.fn 32 [(.ptr 0 0)])),(7,(ar (v1.length:Int))),(8,(ar (v3:Int)))],[.cells [(aC v2)]]⟩) (λv3 h3 f1=>gH [[],[f0 (bj h3)],[]]) (λv3 v5 v6 h3 f1 aB=>aq λv7 h4=>gA [[],[t0 (bk h3)],[],[(10,oE (BW (aW h3))),(16,oQ [(Vk v5),(.ptr 0 0)] [.cells [(aC v2)]] [0] (aeQ _ h4))]] (aw (λh5=>gH [[t0 h5],[]]) λh5=>gb aB () [[f0 h5],[(2,oq (bE h3 rfl h2))]] h3))))
def CG(N:Nat)(v2:aqx ga):aqx aqy->Nat->aqy->aqz (aqy×Int)
 |[],_,v9=>
  some (v9,(0:Int))
 |v7::v8,v5,v9=>
  (Qt N v2 v7).bind λv10=>
  bif (decide (v10<0))then
   some ((bs []),(9:Int))
  else
   bif (decide ((0:Int)<=v10))then
   Option.bind (v2[(v10).toNat]?) λv11=>
   Option.bind (zM N v11.dM (10:Int)) λv12=>
   bif (Nat.ble ((bs [32]).size+v12.size) 9223372036854775807)then
   bif (Nat.ble (v9.size+((bs [32])++v12).size) 9223372036854775807)then
   (λbq=>CG N v2 v8 (v5+1) bq) (v9++((bs [32])++v12))
   else none
   else none
   else none
def Ih(N:Nat)(v1:aK)(v2:aqx ga):aqz (aqy×Int):=
 (Mm N v1).bind λv3=>
 bif (v3.2 !=0)then
  some ((bs []),v3.2)
 else
  (En N v3.1).bind λv4=>
  CG N v2 v1.aA 0 v4
theorem am5{N v1 v2}:KO 11 [(cX v1),(.d (.sl (jz v2)))] (λr=> .bz [(aC r.1),(ar r.2)]) (Ih N v1 v2):=
 fw Tryz.func11 (aq λv3 h1=>gA [[],[(4,cK Wh h1)],[]] (bB λh2=>aq λv4 h3=>gA [[f0 h2],[(4,cK aih h3)],[(7,oL v1.aA dX)]] (gT fb 23 v1.aA λh5=>eM 1 [] [1,8,23,24,25] 2 (λv5(v9:aqy)=>⟨45,[(1,(.d (.sl (jz v2)))),(8,(aC v9)),(23,(.d (.sl (b6 v1.aA)))),(24,(ar (v1.aA.length:Int))),(25,(ar (v5:Int)))],[.cells (cX v1).cells, .cells (cX v3.1).cells]⟩) (λv5 v9 h6 f1=>gR [[],[f0 (bj h6)],[]]) (λv5 v7 v8 v9 h6 f1 aB=>aq λv10 h7=>gA [[],[t0 (bk h6)],[(1,oE (ik (aW h6)))],[(7,oQ [(.d (.sl (jz v2))),(.fn 32 [(.ptr 2 0)])] [.cells (cX v1).cells, .cells (cX v3.1).cells, .cells [(aC v7)]] [2] (akK _ h7))],[]] (bB λh8=>aF λaU=>aq λv11 h9=>aq λv12 bh=>aF λbn=>aF λb5=>gb aB (v9++((bs [32])++v12)) [[f0 h8],[(10,⟨_,_, .el (xs:=jz v2) (i:=v10) (of_decide_eq_true aU) (BW h9)⟩),(19,cK GX bh),(22,⟨_,_, .cat (n:=(bs [32]).size+v12.size) (aZ bn)⟩),(25,⟨_,_, .cat (n:=v9.size+((bs [32])++v12).size) (aZ b5)⟩)],[(2,oq (bE h6 rfl h5))]] h6)))))
def OE(N:Nat):aqz ((aqx aqy)):=
 some [(bs [115,105,122,101]),(bs [119,104,101,114,101]),(bs [105,110]),(bs [100,101,102]),(bs [111,117,116]),(bs [115,117,109]),(bs [112,114,111,100]),(bs [109,105,110]),(bs [109,97,120]),(bs [115,99,97,110]),(bs [111,118,101,114]),(bs [105,102]),(bs [99,97,115,116]),(bs [102,114,97,99]),(bs [105,110,116]),(bs [102,105,120]),(bs [99,101,105,108]),(bs [102,108,111,111,114]),(bs [122,101,114,111]),(bs [101,118,101,110]),(bs [115,97,116]),(bs [119,114,97,112])]
theorem akP{N}:KO 135 [] (λr=> .d (.sl (b6 r))) (OE N):=
 fw Tryz.func135 (gR [[],[]])
def LY(N:Nat)(v2:aqy):aqx aqy->Nat->aqz Bool
 |[],_=>
  some false
 |v5::v6,v3=>
  bif (bL v5==bL v2)then
   some true
  else
   (LY N v2 v6 (v3+1))
def vF(N:Nat)(v1:aqx aqy)(v2:aqy):aqz Bool:=
 LY N v2 v1 0
theorem EN{N v1 v2}:KO 15 [(.d (.sl (b6 v1))),(aC v2)] aM (vF N v1 v2):=
 fw Tryz.func15 (gA [[],[]] (gT fb 0 v1 λh2=>dK 1 [] [0,1,5] 0 (λv3=>⟨18,[(0,(.d (.sl (b6 v1)))),(1,(aC v2)),(5,(ar (v3:Int)))],[]⟩) (λv3 h3 f1=>gR [[(7,oL v1 dX)],[f0 (bj h3)],[]]) (λv3 v5 v6 h3 f1 aB=>gA [[(7,oL v1 dX)],[t0 (bk h3)],[(7,oE (ik (aW h3)))]] (bB λh4=>gb aB () [[f0 h4],[(5,oq (bE h3 rfl h2))]] h3))))
def Bz(N:Nat)(v1:aqy):Nat->Int->aqz Bool
 |0,_=>none
 |v5+1,v6=>
  bif (decide (v6<(v1.size:Int)))then
   bif (decide ((0:Int)<=v6))then
   Option.bind (v1[(v6).toNat]?) λv7=>
   Option.bind (bif (decide ((v7.toNat:Int)>=97))then(bif (decide ((v7.toNat:Int)<=122))then some (!true)else(bif (decide (v6>0))then(bif (decide ((v7.toNat:Int)>=48))then(bif (decide ((v7.toNat:Int)<=57))then some (!true)else some (!((v7.toNat:Int)==95)))else some (!((v7.toNat:Int)==95)))else some (!false)))else(bif (decide (v6>0))then(bif (decide ((v7.toNat:Int)>=48))then(bif (decide ((v7.toNat:Int)<=57))then some (!true)else some (!((v7.toNat:Int)==95)))else some (!((v7.toNat:Int)==95)))else some (!false))) λv8=>
   bif v8 then
    some false
   else
    (λbq=>Bz N v1 v5 bq) (bl (v6+(1:Int)))
   else none
  else
   some true
def ph(N:Nat)(v1:aqy):aqz Bool:=
 Option.bind (bif (decide ((v1.size:Int)<1))then some true else(bif (decide ((v1.size:Int)>16))then some true else (OE N).bind λv2=>
 (vF N v2 v1).bind λv3=>
 some v3)) λv4=>
 bif v4 then
  some false
 else
  Bz N v1 N (0:Int)
theorem tQ{N v1}:KO 84 [(aC v1)] aM (ph N v1):=
 fw Tryz.func84 (gA [[]] (gG (λv4=>[(17,(aM v4))]) (λ_=>[]) (aw (λh1=>gE [(3,bT h1),(8,bT rfl)] []) λh1=>bU (3,bF h1) (aw (λh2=>gE [(8,bT h2)] []) λh2=>aq λv2 h3=>aq λv3 h4=>gE [(8,bF h2)] [(28,cK akP h3),(34,cK EN h4)])) λv4=>bB λh6=>Ly 1 [[f0 h6],[]] [0,3] 0 (λ(v6:Int)=>⟨50,[(0,(aC v1)),(3,(ar v6))],[]⟩) (Bz N v1) (λv5 v6 f1 aB=>gA [[]] (lT λh7=>aF λh9=>aq λv7 h8=>gA [[t0 h7],[(7,⟨_,_, .ch (i:=v6) (of_decide_eq_true h9) h8⟩)]] (gG (λv8=>[(49,(aM v8))]) (λ_=>[]) (aw (λaU=>bU (2,bT aU) (aw (λbh=>gE [(6,bT bh),(9,uN),(12,uN),(16,uN)] []) λbh=>bU (6,bF bh) (aw (λbn=>bU (9,bT bn) (cf (61,bT bn) (aw (λb5=>bU (12,bT b5) (cf (46,bT b5) (aw (λbZ=>gE [(16,bT bZ)] [(58,bT bZ)]) λbZ=>gE [(16,bF bZ)] [(58,bF bZ)]))) λb5=>gE [(12,bF b5),(16,bF rfl)] [(46,bF b5),(58,bF rfl)]))) λbn=>gE [(9,bF bn),(12,uN),(16,uN)] [(61,bF bn)]))) λaU=>bU (2,bF aU) (bU (6,bF rfl) (aw (λbK=>bU (9,bT bK) (cf (61,bT bK) (aw (λbV=>bU (12,bT bV) (cf (46,bT bV) (aw (λcA=>gE [(16,bT cA)] [(58,bT cA)]) λcA=>gE [(16,bF cA)] [(58,bF cA)]))) λbV=>gE [(12,bF bV),(16,bF rfl)] [(46,bF bV),(58,bF rfl)]))) λbK=>gE [(9,bF bK),(12,uN),(16,uN)] [(61,bF bK)]))) λv8=>bB λeu=>nB aB (bl (v6+(1:Int))) [[f0 eu],[]])))))
def xb(N:Nat)(v1:aqy)(v2:aqx aqy):aqz Int:=
 (ph N v1).bind λv3=>
 bif v3 then
  (vF N v2 v1).bind λv4=>
  bif v4 then
   some (8:Int)
  else
   some (0:Int)
 else
  some (7:Int)
theorem Jk{N v1 v2}:KO 106 [(aC v1),(.d (.sl (b6 v2)))] ar (xb N v1 v2):=
 fw Tryz.func106 (aq λv3 h1=>gA [[],[(4,cK tQ h1)]] (ff λh2=>aq λv4 h3=>gA [[f0 (cb h2)],[(7,cK EN h3)]] (bB λh4=>gR [[f0 h4],[]])))
def H8(N:Nat)(v1:aK):aqx aqy->Nat->aqz Int
 |[],_=>
  some (0:Int)
 |v5::v6,v3=>
  bif (decide (((v3:Int)).toNat<=v1.aA.length))then
  Option.bind (xb N v5 ((v1.aA.take ((v3:Int)).toNat).drop 0)) λv7=>
  bif (v7 !=0)then
   some v7
  else
   (H8 N v1 v6 (v3+1))
  else none
def By(N:Nat)(v1:aK):aqz Int:=
 Option.bind (bif (decide ((v1.aA.length:Int)>64))then some true else(bif (decide ((v1.aG.length:Int)>64))then some true else(bif (decide ((v1.ay.length:Int)>64))then some true else(bif (decide ((v1.b9.length:Int)>64))then some true else some (decide ((v1.cr.length:Int)>256)))))) λv2=>
 bif v2 then
  some (2:Int)
 else
  H8 N v1 v1.aA 0
theorem afX{N v1}:KO 58 [(cX v1)] ar (By N v1):=
 fw Tryz.func58 (gA [[]] (gG (λv2=>[(32,(aM v2))]) (λ_=>[.cells (cX v1).cells]) (cf (7,oL v1.aA dX) (aw (λh1=>gE [(4,bT h1),(10,bT rfl),(16,bT rfl),(22,bT rfl)] []) λh1=>bU (4,bF h1) (cf (22,oL v1.aG iy) (aw (λh2=>gE [(10,bT h2),(16,bT rfl),(22,bT rfl)] []) λh2=>bU (10,bF h2) (cf (40,oL v1.ay gY) (aw (λh3=>gE [(16,bT h3),(22,bT rfl)] []) λh3=>bU (16,bF h3) (cf (58,oL v1.b9 dX) (aw (λh4=>gE [(22,bT h4)] []) λh4=>gE [(22,bF h4)] [(76,oL v1.cr kg)])))))))) λv2=>dd λ_=>gB fb 0 0 v1.aA λh8=>dK 1 [] [1,3] 1 (λv3=>⟨53,[(1,(.ptr 0 0)),(3,(ar (v3:Int)))],[.cells (cX v1).cells]⟩) (λv3 h9 f1=>gR [[(10,oL v1.aA dX)],[f0 (bj h9)],[]]) (λv3 v5 v6 h9 f1 aB=>aF λaU=>aq λv7 bh=>gA [[(10,oL v1.aA dX)],[t0 (bk h9)],[(10,oE (ik (aW h9))),(25,⟨_,_, .sub (xs:=b6 v1.aA) (lo:=0) (hi:=(v3:Int)) (by decide) (Nat.zero_le _) (of_decide_eq_true (aqq (Int.natCast_nonneg _))) (by rw[dX];exact(of_decide_eq_true aU)) Ko Np⟩),(28,cK Jk bh)],[]] (bB λbn=>gb aB () [[f0 bn],[(5,oq (bE h9 rfl h8))]] h9))))
def JN(N:Nat)(v1:aR):aqx bt->Nat->aqz Bool
 |[],_=>
  some true
 |v4::v5,v2=>
  (ph N v4.ao).bind λv6=>
  Option.bind (bif v6 then(bif (v4.cN.toInt==0)then some true else(bif (decide ((v2:Int)>0))then bif (decide ((0:Int)<=(bl ((v2:Int)-(1:Int)))))then
  Option.bind (v1.xL[((bl ((v2:Int)-(1:Int)))).toNat]?) λv7=>
  some (!(Op.bytesLess (bL v7.ao) (bL v4.ao)))
  else none else some false))else some true) λv8=>
  bif v8 then
   some false
  else
   (JN N v1 v5 (v2+1))
def nP(N:Nat)(v1:aR):aqz Bool:=
 JN N v1 v1.xL 0
theorem rJ{N v1}:KO 107 [(cE v1)] aM (nP N v1):=
 fw Tryz.func107 (gA [[],[]] (gB lI 0 1 v1.xL λh2=>dK 1 [] [1,3] 1 (λv2=>⟨48,[(1,(.ptr 0 0)),(3,(ar (v2:Int)))],[.cells (cE v1).cells]⟩) (λv2 h3 f1=>gR [[(10,oL v1.xL eK)],[f0 (bj h3)],[]]) (λv2 v4 v5 h3 f1 aB=>gA [[(10,oL v1.xL eK)],[t0 (bk h3)]] (aq λv6 h4=>gG (λv8=>[(47,(aM v8))]) (λ_=>[.cells (cE v1).cells]) (cf (10,oE (j7 (aW h3))) (cf (19,cK tQ h4) (aw (λh5=>bU (8,bF (cb h5)) (cf (37,oE (j7 (aW h3))) (aw (λh6=>gE [(17,bT h6),(20,uN)] []) λh6=>bU (17,bF h6) (aw (λh7=>aF λh9=>aq λv7 h8=>gE [(20,bT h7)] [(76,⟨_,_, .el (xs:=dh v1.xL) (i:=(bl ((v2:Int)-(1:Int)))) (of_decide_eq_true h9) (j7 h8)⟩),(94,oE (j7 (aW h3))),(106,bT h7)]) λh7=>gE [(20,bF h7)] [(106,bF h7)])))) λh5=>gE [(8,bT (cW h5)),(17,bT rfl),(20,uN)] []))) λv8=>bB λbh=>gb aB () [[f0 bh],[(5,oq (bE h3 rfl h2))]] h3))))
def Jt(N:Nat)(v2:aqx aqy)(v3:aqx aqy):aqx bt->Nat->aqz Bool
 |[],_=>
  some true
 |v6::v7,v4=>
  (vF N v2 v6.ao).bind λv8=>
  Option.bind (bif v8 then some false else (vF N v3 v6.ao).bind λv9=>
  some (!v9)) λv10=>
  bif v10 then
   some false
  else
   (Jt N v2 v3 v7 (v4+1))
def Fl(N:Nat)(v1:aR)(v2:aqx aqy)(v3:aqx aqy):aqz Bool:=
 Jt N v2 v3 v1.xL 0
theorem Sx{N v1 v2 v3}:KO 108 [(cE v1),(.d (.sl (b6 v2))),(.d (.sl (b6 v3)))] aM (Fl N v1 v2 v3):=
 fw Tryz.func108 (gA [[],[]] (gB lI 0 1 v1.xL λh2=>dK 1 [] [1,2,3,7] 1 (λv4=>⟨35,[(1,(.d (.sl (b6 v2)))),(2,(.d (.sl (b6 v3)))),(3,(.ptr 0 0)),(7,(ar (v4:Int)))],[.cells (cE v1).cells]⟩) (λv4 h3 f1=>gR [[(10,oL v1.xL eK)],[f0 (bj h3)],[]]) (λv4 v6 v7 h3 f1 aB=>gA [[(10,oL v1.xL eK)],[t0 (bk h3)]] (aq λv8 h4=>gG (λv10=>[(34,(aM v10))]) (λ_=>[.cells (cE v1).cells]) (cf (13,oE (j7 (aW h3))) (cf (22,cK EN h4) (aw (λh5=>gE [(9,bF (cb h5))] []) λh5=>aq λv9 h6=>gE [(9,bT (cW h5))] [(43,oE (j7 (aW h3))),(52,cK EN h6)]))) λv10=>bB λh8=>gb aB () [[f0 h8],[(5,oq (bE h3 rfl h2))]] h3))))
def Bi(N:Nat)(v1:aR)(v2:aqx aqy):aqz Int:=
 (nP N v1).bind λv3=>
 bif v3 then
  Option.bind (Fl N v1 [] v2) λv4=>
  bif v4 then
   some (0:Int)
  else
   some (9:Int)
 else
  some (1:Int)
theorem R1{N v1 v2}:KO 59 [(cE v1),(.d (.sl (b6 v2)))] ar (Bi N v1 v2):=
 fw Tryz.func59 (aq λv3 h1=>gA [[],[(4,cK rJ h1)]] (ff λh2=>aq λv4 h3=>gA [[f0 (cb h2)],[(7,cK Sx h3)]] (C8 λh4=>gR [[t0 (cW h4)],[]])))
def pP(N:Nat)(v1:bA):aqz Bool:=
 Option.bind (bif (v1.b7==1)then some true else some (v1.b7==3)) λv2=>
 bif v2 then
  Option.bind (bif (v1.cp==0)then(bif (v1.cq==0)then(bif (v1.cU==0)then some (v1.cS==0)else some false)else some false)else some false) λv3=>
  some v3
 else
  Option.bind (bif (v1.b7==2)then(bif (decide (v1.cp>=2))then(bif (decide (v1.cp<=31))then(bif (decide (v1.cq>=0))then(bif (decide (v1.cq<=30))then(bif (decide (v1.cU>=1))then(bif (decide (v1.cU<=4))then(bif (v1.cS==1)then some true else some (v1.cS==2))else some false)else some false)else some false)else some false)else some false)else some false)else some false) λv4=>
  some v4
theorem vO{N v1}:KO 85 [(dH v1)] aM (pP N v1):=
 fw Tryz.func85 (gA [[]] (gG (λv2=>[(10,(aM v2))]) (λ_=>[.cells (dH v1).cells]) (aw (λh1=>gE [(3,bT h1)] []) λh1=>gE [(3,bF h1)] []) λv2=>aw (λh3=>gA [[t0 h3]] (gG (λv3=>[(2,(aM v3))]) (λ_=>[.cells (dH v1).cells]) (aw (λh4=>bU (3,bT h4) (aw (λh5=>bU (8,bT h5) (aw (λh6=>gE [(13,bT h6)] []) λh6=>gE [(13,bF h6)] [])) λh5=>gE [(8,bF h5),(13,bF rfl)] [])) λh4=>gE [(3,bF h4),(8,bF rfl),(13,bF rfl)] []) λv3=>gR [])) λh3=>gA [[f0 h3]] (gG (λv4=>[(2,(aM v4))]) (λ_=>[.cells (dH v1).cells]) (aw (λh8=>bU (3,bT h8) (aw (λh9=>bU (8,bT h9) (aw (λaU=>bU (13,bT aU) (aw (λbh=>bU (18,bT bh) (aw (λbn=>bU (23,bT bn) (aw (λb5=>bU (28,bT b5) (aw (λbZ=>bU (33,bT bZ) (aw (λbK=>gE [(37,bT bK)] [(124,bT bK)]) λbK=>gE [(37,bF bK)] [(124,bF bK)])) λbZ=>gE [(33,bF bZ),(37,uN)] [])) λb5=>gE [(28,bF b5),(33,bF rfl),(37,uN)] [])) λbn=>gE [(23,bF bn),(28,bF rfl),(33,bF rfl),(37,uN)] [])) λbh=>gE [(18,bF bh),(23,bF rfl),(28,bF rfl),(33,bF rfl),(37,uN)] [])) λaU=>gE [(13,bF aU),(18,bF rfl),(23,bF rfl),(28,bF rfl),(33,bF rfl),(37,uN)] [])) λh9=>gE [(8,bF h9),(13,bF rfl),(18,bF rfl),(23,bF rfl),(28,bF rfl),(33,bF rfl),(37,uN)] [])) λh8=>gE [(3,bF h8),(8,bF rfl),(13,bF rfl),(18,bF rfl),(23,bF rfl),(28,bF rfl),(33,bF rfl),(37,uN)] []) λv4=>gR [])))
def Ij(N:Nat)(v2:aqx aqy):aqx aR->Nat->aqz Int
 |[],_=>
  some (0:Int)
 |v8::v9,v6=>
  (Bi N v8 v2).bind λv10=>
  bif (v10 !=0)then
   some v10
  else
   (Ij N v2 v9 (v6+1))
def LV(N:Nat)(v1:cv)(v2:aqx aqy)(v3:aqx aqy):aqz Int:=
 (xb N v1.ao v3).bind λv4=>
 bif (v4 !=0)then
  some v4
 else
  (pP N v1.aO).bind λv5=>
  bif v5 then
   bif (decide ((v1.aP.length:Int)>6))then
    some (11:Int)
   else
    Ij N v2 v1.aP 0
  else
   some (10:Int)
theorem agT{N v1 v2 v3}:KO 60 [(mZ v1),(.d (.sl (b6 v2))),(.d (.sl (b6 v3)))] ar (LV N v1 v2 v3):=
 fw Tryz.func60 (aq λv4 h1=>gA [[],[(10,cK Jk h1)],[]] (bB λh2=>aq λv5 h3=>gA [[f0 h2],[(7,cK vO h3)]] (ff λh4=>gA [[f0 (cb h4)],[(7,oL v1.aP dT)]] (dd λ_=>gB lh 0 6 v1.aP λh7=>dK 1 [] [1,3,8] 1 (λv6=>⟨42,[(1,(.d (.sl (b6 v2)))),(3,(.ptr 0 0)),(8,(ar (v6:Int)))],[.cells (mZ v1).cells]⟩) (λv6 h8 f1=>gR [[(10,oL v1.aP dT)],[f0 (bj h8)],[]]) (λv6 v8 v9 h8 f1 aB=>aq λv10 h9=>gA [[(10,oL v1.aP dT)],[t0 (bk h8)],[(10,oE (k9 (aW h8))),(19,cK R1 h9)],[]] (bB λaU=>gb aB () [[f0 aU],[(5,oq (bE h8 rfl h7))]] h8))))))
def MR(N:Nat)(v2:aqx aqy):aqx cd->Nat->(aqx aqy)->aqz Int
 |[],_,_=>
  some (0:Int)
 |v5::v6,v3,v7=>
  (xb N v5.ao v7).bind λv8=>
  bif (v8 !=0)then
   some v8
  else
   (Bi N v5.cw v2).bind λv9=>
   bif (v9 !=0)then
    some v9
   else
    bif (Nat.ble ((v7.length+1)*16) 140737488355328)then
    (λbq=>MR N v2 v6 (v3+1) bq) (v7++[v5.ao])
    else none
def IC(N:Nat)(v1:aqx cd)(v2:aqx aqy):aqz Int:=
 bif (Nat.ble ((0+v2.length)*16) 140737488355328)then
 MR N v2 v1 0 v2
 else none
theorem anf{N v1 v2}:KO 109 [(.d (.sl (du v1))),(.d (.sl (b6 v2)))] ar (IC N v1 v2):=
 fw Tryz.func109 (aF λh1=>gA [[],[(7,oZ fb v2 h1)],[]] (gT kW 0 v1 λh3=>eM 1 [] [0,1,5,6] 1 (λv3(v7:aqx aqy)=>⟨46,[(0,(.d (.sl (du v1)))),(1,(.d (.sl (b6 v2)))),(5,(.own 0 (b6 v7))),(6,(ar (v3:Int)))],[.front 9 1 v7.length]⟩) (λv3 v7 h4 f1=>gR [[(7,oL v1 dB)],[f0 (bj h4)],[]]) (λv3 v5 v6 v7 h4 f1 aB=>aq λv8 h5=>gA [[(7,oL v1 dB)],[t0 (bk h4)],[(7,oE (iE (aW h4))),(19,cK Jk h5)],[]] (bB λh6=>aq λv9 h7=>gA [[f0 h6],[(7,oE (iE (aW h4))),(19,cK R1 h7)],[]] (bB λh8=>aF λh9=>gb aB (v7++[v5.ao]) [[f0 h8],[(10,oE (iE (aW h4))),(22,oA fb v7 ([v5.ao]) h9)],[(5,oq (bE h4 rfl h3))]] h4)))))
def JU(N:Nat)(v1:bf):aqz Int:=
 Option.bind (bif (decide (v1.cC<0))then some true else some (decide (v1.cC>5))) λv2=>
 bif v2 then
  some (1:Int)
 else
  Option.bind (bif (v1.cC==0)then some true else some (v1.cC==5)) λv3=>
  Option.bind (bif (v3==((v1.aY.length:Int)==0))then(bif (v1.cC==5)then some ((v1.aP.length:Int)==0)else some false)else some true) λv4=>
  bif v4 then
   some (11:Int)
  else
   some (0:Int)
theorem adq{N v1}:KO 110 [(ep v1)] ar (JU N v1):=
 fw Tryz.func110 (gA [[]] (gG (λv2=>[(11,(aM v2))]) (λ_=>[.cells (ep v1).cells]) (aw (λh1=>gE [(3,bT h1)] []) λh1=>gE [(3,bF h1)] []) λv2=>bB λh3=>gA [[f0 h3]] (gG (λv3=>[(3,(aM v3))]) (λ_=>[.cells (ep v1).cells]) (aw (λh4=>gE [(3,bT h4)] []) λh4=>gE [(3,bF h4)] []) λv3=>gG (λv4=>[(36,(aM v4))]) (λ_=>[.cells (ep v1).cells]) (cf (10,oL v1.aY dB) (aw (λh6=>bU (6,bF (cb h6)) (aw (λh7=>gE [(10,bT h7)] [(40,oL v1.aP dB),(46,bT h7)]) λh7=>gE [(10,bF h7)] [(46,bF h7)])) λh6=>gE [(6,bT (cW h6)),(10,uN)] [])) λv4=>bB λh9=>gR [[f0 h9],[]])))
def Fu(N:Nat):aqx cd->Nat->(aqx aqy)->aqz ((aqx aqy))
 |[],_,v11=>
  some v11
 |v9::v10,v7,v11=>
  bif (Nat.ble ((v11.length+1)*16) 140737488355328)then
  (λiW=>Fu N v10 (v7+1) iW) (v11++[v9.ao])
  else none
def Ee(N:Nat)(v1:bf):aqx cd->Nat->(aqx aqy)->aqz ((aqx aqy))
 |[],_,v6=>
  Fu N v1.aY 0 v6
 |v4::v5,v2,v6=>
  bif (Nat.ble ((v6.length+1)*16) 140737488355328)then
  (λbq=>Ee N v1 v5 (v2+1) bq) (v6++[v4.ao])
  else none
def Dg(N:Nat)(v1:bf):aqz ((aqx aqy)):=
 Ee N v1 v1.aP 0 []
theorem acu{N v1}:KO 46 [(ep v1)] (λr=> .d (.sl (b6 r))) (Dg N v1):=
 fw Tryz.func46 (gA [[],[],[]] (li (λ_=>(l8 3 9 1 [] (.inr (by kernel_rfl)) ·)) (gB kW 0 6 v1.aP λh2=>eM 1 [] [1,3,4] 2 (λv2(v6:aqx aqy)=>⟨39,[(1,(.ptr 0 0)),(3,(.own 1 (b6 v6))),(4,(ar (v2:Int)))],[.cells (ep v1).cells, .front 9 1 v6.length]⟩) (λv2 v6 h3 f1=>gA [[(10,oL v1.aP dB)],[f0 (bj h3)],[]] (gB kW 0 7 v1.aY λh5=>eM 2 [] [1,3,5] 2 (λv7(v11:aqx aqy)=>⟨39,[(1,(.ptr 0 0)),(3,(.own 1 (b6 v11))),(5,(ar (v7:Int)))],[.cells (ep v1).cells, .front 9 1 v11.length]⟩) (λv7 v11 h6 f2=>gR [[(10,oL v1.aY dB)],[f0 (bj h6)],[]]) (λv7 v9 v10 v11 h6 f2 ca=>aF λh7=>gb ca (v11++[v9.ao]) [[(10,oL v1.aY dB)],[t0 (bk h6)],[(13,oE (iE (aW h6))),(25,oA fb v11 ([v9.ao]) h7)],[(5,oq (bE h6 rfl h5))]] h6))) (λv2 v4 v5 v6 h3 f1 aB=>aF λh8=>gb aB (v6++[v4.ao]) [[(10,oL v1.aP dB)],[t0 (bk h3)],[(13,oE (iE (aW h3))),(25,oA fb v6 ([v4.ao]) h8)],[(5,oq (bE h3 rfl h2))]] h3))))
def zn(N:Nat)(v2:Int)(YL:au->Int->aqz Int):aqx au->Nat->Int->aqz Int
 |[],_,v7=>
  some v7
 |v5::v6,v3,v7=>
  bif (decide (v2>1))then
   Option.bind (YL v5 (bl (v2-(1:Int)))) λv8=>
   (λbq=>zn N v2 YL v6 (v3+1) bq) (if(bl ((1:Int)+v8))>v7 then(bl ((1:Int)+v8))else v7)
  else
   some v7
def qP(N:Nat):Nat->au->Int->aqz Int
 |0,_,_=>none
 |d+1,v1,v2=>
  zn N v2 (qP N d) v1.bp 0 (1:Int)
def Tl(N:Nat)(v1:au)(v2:Int):aqz Int:=qP N N v1 v2
theorem adK(N:Nat):∀d:Nat,(∀{v1:au}{v2:Int},KO 221 [(aN v1),(ar v2)] ar (qP N d v1 v2)):=by
 intro d
 induction d with
 |zero=>intro v1 v2 r J;rw[qP]at J;cases J
 |succ d ih=>
  have am7:= @ih;intro v1 v2;rw[qP];exact fw Tryz.func221 (gA [[],[],[]] (gB lK 0 12 v1.bp λh2=>eM 1 [] [1,2,5,6] 1 (λv3(v7:Int)=>⟨30,[(1,(ar v2)),(2,(.ptr 0 0)),(5,(ar v7)),(6,(ar (v3:Int)))],[.cells (aN v1).cells]⟩) (λv3 v7 h3 f1=>gR [[(10,oL v1.bp gq),(18,bF (bj h3)),(21,bF (bj h3)),(25,bF (bj h3))],[(0,bF rfl)],[]]) (λv3 v5 v6 v7 h3 f1 aB=>gA [[(10,oL v1.bp gq),(18,bT (bk h3)),(21,bT (bk h3)),(25,bT (bk h3))]] (lT λh4=>aq λv8 h5=>gb aB (if(bl ((1:Int)+v8))>v7 then(bl ((1:Int)+v8))else v7) [[(0,bT h4)],[(13,oE (fX (aW h3))),(25,cK am7 h5)],[(5,oq (bE h3 rfl h2))]] h3))))
theorem ahu{N v1 v2}:KO 221 [(aN v1),(ar v2)] ar (Tl N v1 v2):=(adK N N)
def PF(N:Nat)(v1:au):aqz Int:=
 Option.bind (Tl N v1 (41:Int)) λv2=>
 some v2
theorem afa{N v1}:KO 188 [(aN v1)] ar (PF N v1):=
 fw Tryz.func188 (aq λv2 h1=>gR [[],[(4,cK ahu h1)]])
def Cf(N:Nat)(v2:Int)(Vu:au->Int->aqz Int):aqx au->Nat->Int->aqz Int
 |[],_,v7=>
  some v7
 |v5::v6,v3,v7=>
  bif (decide (v7<=v2))then
   Option.bind (Vu v5 (bl (v2-v7))) λv8=>
   (λbq=>Cf N v2 Vu v6 (v3+1) bq) (bl (v7+v8))
  else
   some v7
def sC(N:Nat):Nat->au->Int->aqz Int
 |0,_,_=>none
 |d+1,v1,v2=>
  Cf N v2 (sC N d) v1.bp 0 (1:Int)
def Nv(N:Nat)(v1:au)(v2:Int):aqz Int:=sC N N v1 v2
theorem ajX(N:Nat):∀d:Nat,(∀{v1:au}{v2:Int},KO 222 [(aN v1),(ar v2)] ar (sC N d v1 v2)):=by
 intro d
 induction d with
 |zero=>intro v1 v2 r J;rw[sC]at J;cases J
 |succ d ih=>
  have ahx:= @ih;intro v1 v2;rw[sC];exact fw Tryz.func222 (gA [[],[],[]] (gB lK 0 12 v1.bp λh2=>eM 1 [] [1,2,5,6] 1 (λv3(v7:Int)=>⟨31,[(1,(ar v2)),(2,(.ptr 0 0)),(5,(ar v7)),(6,(ar (v3:Int)))],[.cells (aN v1).cells]⟩) (λv3 v7 h3 f1=>gR [[(10,oL v1.bp gq),(18,bF (bj h3)),(21,bF (bj h3)),(24,bF (bj h3)),(28,bF (bj h3))],[(0,bF rfl)],[]]) (λv3 v5 v6 v7 h3 f1 aB=>gA [[(10,oL v1.bp gq),(18,bT (bk h3)),(21,bT (bk h3)),(24,bT (bk h3)),(28,bT (bk h3))]] (lT λh4=>aq λv8 h5=>gb aB (bl (v7+v8)) [[(0,bT h4)],[(13,oE (fX (aW h3))),(28,cK ahx h5)],[(5,oq (bE h3 rfl h2))]] h3))))
theorem ajK{N v1 v2}:KO 222 [(aN v1),(ar v2)] ar (Nv N v1 v2):=(ajX N N)
def PN(N:Nat)(v1:au):aqz Int:=
 Option.bind (Nv N v1 (2000:Int)) λv2=>
 some (if(2001:Int)<v2 then(2001:Int)else v2)
theorem aeA{N v1}:KO 189 [(aN v1)] ar (PN N v1):=
 fw Tryz.func189 (aq λv2 h1=>gR [[],[(4,cK ajK h1)]])
def LK(N:Nat):aqx bH->Nat->aqz Bool
 |[],_=>
  some true
 |v7::v8,v5=>
  Option.bind (bif (bL v7.bR==bL (bs []))then(bif (decide ((v7.bO.length:Int)>0))then some true else some false)else(bif (v7.aS.xK.toInt !=0)then some true else some (decide ((v7.aS.xL.length:Int)>0)))) λv9=>
  bif v9 then
   some false
  else
   (LK N v8 (v5+1))
def Io(N:Nat)(v1:au):aqz Bool:=
 Option.bind (bif (decide (v1.aJ<1))then some true else some (decide (v1.aJ>18))) λv2=>
 bif v2 then
  some false
 else
  Option.bind (bif (v1.aJ !=1)then(bif ((v1.dM.xN.toInt==(0:Int64).toInt)&&((v1.dM.xD.toInt==(0:Int64).toInt)&&true))then(bif (v1.aJ !=12)then some (!((v1.aO.b7==0)&&((v1.aO.cp==0)&&((v1.aO.cq==0)&&((v1.aO.cU==0)&&((v1.aO.cS==0)&&true))))))else some false)else some true)else some false) λv3=>
  bif v3 then
   some false
  else
   Option.bind (bif (v1.aJ !=2)then(bif (v1.aS.xK.toInt !=0)then some true else(bif (decide ((v1.aS.xL.length:Int)>0))then some true else(bif (v1.aJ !=3)then(bif (bL v1.ao==bL (bs []))then some (decide ((v1.xIdx.length:Int)>0))else some true)else some false)))else(bif (v1.aJ !=3)then(bif (bL v1.ao==bL (bs []))then some (decide ((v1.xIdx.length:Int)>0))else some true)else some false)) λv4=>
   bif v4 then
    some false
   else
    LK N v1.xIdx 0
def CS(v1:au)(l:aqx an):aqx an:= .cells (aN v1).cells::l
theorem ag0{N v1}:KO 223 [(aN v1)] aM (Io N v1):=
 fw Tryz.func223 (gA [[]] (gG (λv2=>[(12,(aM v2))]) (λ_=>(CS v1 [])) (aw (λh1=>gE [(3,bT h1)] []) λh1=>gE [(3,bF h1)] []) λv2=>bB λh3=>gA [[f0 h3]] (gG (λv3=>[(37,(aM v3))]) (λ_=>(CS v1 [])) (aw (λh4=>bU (3,bT h4) (aw (λh5=>bU (9,bF (cb h5)) (bU (13,bT h4) (cf (52,bT h4) (aw (λh6=>gE [(18,bT h6)] [(70,bT h6)]) λh6=>gE [(18,bF h6)] [(70,bF h6)])))) λh5=>gE [(9,bT (cW h5)),(13,uN),(18,uN)] [])) λh4=>gE [(3,bF h4),(9,bF rfl),(13,bF h4),(18,bF rfl)] [(52,bF h4),(70,bF rfl)]) λv3=>bB λh8=>gA [[f0 h8]] (gG (λv4=>[(69,(aM v4))]) (λ_=>(CS v1 [])) (aw (λh9=>bU (3,bT h9) (aw (λaU=>gE [(8,bT aU),(16,bT rfl),(20,uN),(24,uN)] [(43,bT aU)]) λaU=>bU (8,bF aU) (cf (37,oL v1.aS.xL eK) (cf (43,bF aU) (aw (λbh=>gE [(16,bT bh),(20,uN),(24,uN)] []) λbh=>bU (16,bF bh) (aw (λbn=>bU (20,bT bn) (cf (91,bT bn) (aw (λb5=>gE [(24,bF (cb b5))] [(82,oL v1.xIdx fx),(88,bF (cb b5))]) λb5=>gE [(24,bT (cW b5))] [(88,bT (cW b5))]))) λbn=>gE [(20,bF bn),(24,uN)] [(91,bF bn)])))))) λh9=>bU (3,bF h9) (bU (8,uN) (bU (16,bF rfl) (aw (λbZ=>bU (20,bT bZ) (cf (91,bT bZ) (aw (λbK=>gE [(24,bF (cb bK))] [(82,oL v1.xIdx fx),(88,bF (cb bK))]) λbK=>gE [(24,bT (cW bK))] [(88,bT (cW bK))]))) λbZ=>gE [(20,bF bZ),(24,uN)] [(91,bF bZ)])))) λv4=>dd λ_=>gB lX 0 11 v1.xIdx λeu=>dK 1 [] [1,3] 1 (λv5=>⟨109,[(1,(.ptr 0 0)),(3,(ar (v5:Int)))],(CS v1 [])⟩) (λv5 cH f1=>gR [[(10,oL v1.xIdx fx)],[f0 (bj cH)],[]]) (λv5 v7 v8 cH f1 aB=>gA [[(10,oL v1.xIdx fx)],[t0 (bk cH)],[(10,oE (gx (aW cH)))]] (gG (λv9=>[(108,(aM v9))]) (λ_=>(CS v1 [.cells (fZ v7).cells])) (aw (λdN=>bU (3,bT dN) (cf (19,oL v7.bO dT) (aw (λfe=>gE [(9,bT fe),(13,uN),(18,uN)] []) λfe=>gE [(9,bF fe),(13,bF (cb dN)),(18,uN)] [(76,bF (cb dN))]))) λdN=>bU (3,bF dN) (bU (9,bF rfl) (bU (13,bT (cW dN)) (cf (76,bT (cW dN)) (aw (λdQ=>gE [(18,bT dQ)] [(73,bT dQ)]) λdQ=>gE [(18,bF dQ)] [(67,oL v7.aS.xL eK),(73,bF dQ)]))))) λv9=>bB λfQ=>gb aB () [[f0 fQ],[(5,oq (bE cH rfl eu))]] cH))))))
def JF(N:Nat):aqx bH->Nat->aqz Bool
 |[],_=>
  some true
 |v6::v7,v4=>
  Option.bind (bif (bL v6.bR==bL (bs []))then some false else (ph N v6.bR).bind λv8=>
  some (!v8)) λv9=>
  bif v9 then
   some false
  else
   (JF N v7 (v4+1))
def K3(N:Nat)(v1:au):aqz Bool:=
 Option.bind (bif (v1.aJ==3)then (ph N v1.ao).bind λv2=>
 some (!v2)else some false) λv3=>
 bif v3 then
  some false
 else
  JF N v1.xIdx 0
theorem akX{N v1}:KO 224 [(aN v1)] aM (K3 N v1):=
 fw Tryz.func224 (gA [[]] (gG (λv3=>[(12,(aM v3))]) (λ_=>[.cells (aN v1).cells]) (aw (λh1=>aq λv2 h2=>gE [(3,bT h1)] [(19,cK tQ h2)]) λh1=>gE [(3,bF h1)] []) λv3=>dd λ_=>gB lX 0 11 v1.xIdx λh6=>dK 1 [] [1,3] 1 (λv4=>⟨37,[(1,(.ptr 0 0)),(3,(ar (v4:Int)))],[.cells (aN v1).cells]⟩) (λv4 h7 f1=>gR [[(10,oL v1.xIdx fx)],[f0 (bj h7)],[]]) (λv4 v6 v7 h7 f1 aB=>gA [[(10,oL v1.xIdx fx)],[t0 (bk h7)]] (gG (λv9=>[(36,(aM v9))]) (λ_=>[.cells (aN v1).cells]) (cf (10,oE (gx (aW h7))) (aw (λh8=>gE [(7,bF (cb h8))] []) λh8=>aq λv8 h9=>gE [(7,bT (cW h8))] [(34,oE (gx (aW h7))),(43,cK tQ h9)])) λv9=>bB λbh=>gb aB () [[f0 bh],[(5,oq (bE h7 rfl h6))]] h7))))
def Ce(N:Nat)(v1:Int)(v3:Bool):aqz Int:=
 bif v3 then
  some (1:Int)
 else
  bif (v1==11)then
   some (3:Int)
  else
   some (2:Int)
def Gq(N:Nat)(v1:Int)(v2:Bool):aqz Int:=
 bif v2 then
  some (0:Int)
 else
  bif (v1==8)then
   Ce N v1 (v1==8)
  else
   bif (v1==12)then
    Ce N v1 (v1==12)
   else
    Ce N v1 (v1==18)
def Lm(N:Nat)(v1:Int):aqz Int:=
 bif (v1==1)then
  Gq N v1 (v1==1)
 else
  bif (v1==2)then
   Gq N v1 (v1==2)
  else
   Gq N v1 (v1==3)
theorem aid{N v1}:KO 251 [(ar v1)] ar (Lm N v1):=
 fw Tryz.func251 (eB 1 [[],[],[]] [3,4] 0 (λ(v2:Bool)=>⟨14,[(3,(ar v1)),(4,(aM v2))],[]⟩) (Gq N v1) (λf1 aB=>aw (λh6=>gm aB (v1==1) [[t0 h6]]) λh6=>gA [[f0 h6],[]] (aw (λh7=>gm aB (v1==2) [[t0 h7]]) λh7=>gm aB (v1==3) [[f0 h7],[]])) (λv2=>bB λh1=>eB 2 [[f0 h1],[]] [3,8] 0 (λ(v3:Bool)=>⟨14,[(3,(ar v1)),(8,(aM v3))],[]⟩) (Ce N v1) (λf2 ca=>aw (λh4=>gm ca (v1==8) [[t0 h4]]) λh4=>gA [[f0 h4],[]] (aw (λh5=>gm ca (v1==12) [[t0 h5]]) λh5=>gm ca (v1==18) [[f0 h5],[]])) (λv3=>dd λ_=>bB λh3=>gR [[f0 h3],[]])))
def Kc(N:Nat):aqx bH->Nat->aqz Bool
 |[],_=>
  some true
 |v6::v7,v4=>
  bif (decide ((v6.bO.length:Int)>6))then
   some false
  else
   (Kc N v7 (v4+1))
def KV(N:Nat)(v1:au):aqz Bool:=
 (Lm N v1.aJ).bind λv2=>
 Option.bind (bif ((v1.bp.length:Int) !=v2)then some true else some (decide ((v1.xIdx.length:Int)>6))) λv3=>
 bif v3 then
  some false
 else
  Kc N v1.xIdx 0
theorem alv{N v1}:KO 225 [(aN v1)] aM (KV N v1):=
 fw Tryz.func225 (gA [[]] (aq λv2 h1=>gG (λv3=>[(16,(aM v3))]) (λ_=>[.cells (aN v1).cells]) (cf (7,oL v1.bp gq) (cf (16,cK aid h1) (aw (λh2=>gE [(7,bT h2)] []) λh2=>gE [(7,bF h2)] [(31,oL v1.xIdx fx)]))) λv3=>dd λ_=>gB lX 0 11 v1.xIdx λh6=>dK 1 [] [1,3] 1 (λv4=>⟨32,[(1,(.ptr 0 0)),(3,(ar (v4:Int)))],[.cells (aN v1).cells]⟩) (λv4 h7 f1=>gR [[(10,oL v1.xIdx fx)],[f0 (bj h7)],[]]) (λv4 v6 v7 h7 f1 aB=>gA [[(10,oL v1.xIdx fx)],[t0 (bk h7)],[(10,oE (gx (aW h7))),(19,oL v6.bO dT)]] (bB λh8=>gb aB () [[f0 h8],[(5,oq (bE h7 rfl h6))]] h7))))
def Eg(N:Nat)(v1:au):aqz Bool:=
 Option.bind (bif (decide (v1.aJ>=13))then some (decide (v1.aJ<=18))else some false) λv2=>
 some v2
theorem Zc{N v1}:KO 155 [(aN v1)] aM (Eg N v1):=
 fw Tryz.func155 (gA [[]] (gG (λv2=>[(2,(aM v2))]) (λ_=>[.cells (aN v1).cells]) (aw (λh1=>gE [(3,bT h1)] []) λh1=>gE [(3,bF h1)] []) λv2=>gR []))
def Ms(N:Nat)(v1:Int)(v2:Int):aqz Bool:=
 Option.bind (bif (v1==11)then(bif (v2==0)then some true else(bif (v1==16)then some true else(bif (v1==17)then some true else some (v1==18))))else(bif (v1==16)then some true else(bif (v1==17)then some true else some (v1==18)))) λv3=>
 some v3
theorem aeG{N v1 v2}:KO 252 [(ar v1),(ar v2)] aM (Ms N v1 v2):=
 fw Tryz.func252 (gA [[]] (gG (λv3=>[(4,(aM v3))]) (λ_=>[]) (aw (λh1=>bU (2,bT h1) (aw (λh2=>gE [(6,bT h2),(10,bT rfl),(14,bT rfl)] []) λh2=>bU (6,bF h2) (aw (λh3=>gE [(10,bT h3),(14,bT rfl)] []) λh3=>bU (10,bF h3) (aw (λh4=>gE [(14,bT h4)] []) λh4=>gE [(14,bF h4)] [])))) λh1=>bU (2,bF h1) (bU (6,bF rfl) (aw (λh5=>gE [(10,bT h5),(14,bT rfl)] []) λh5=>bU (10,bF h5) (aw (λh6=>gE [(14,bT h6)] []) λh6=>gE [(14,bF h6)] [])))) λv3=>gR []))
def MO(N:Nat)(v1:au):aqx au->Nat->aqz Bool
 |[],_=>
  some true
 |v7::v8,v5=>
  (Eg N v7).bind λv9=>
  Option.bind (Ms N v1.aJ (v5:Int)) λv10=>
  bif (v9==v10)then
   (MO N v1 v8 (v5+1))
  else
   some false
def Ki(N:Nat)(v1:au):aqz Bool:=
 Option.bind (bif (v1.aJ==1)then (pP N v1.aO).bind λv2=>
 some (!v2)else(bif (v1.aJ==12)then (pP N v1.aO).bind λv3=>
 some (!v3)else some false)) λv4=>
 bif v4 then
  some false
 else
  MO N v1 v1.bp 0
theorem aie{N v1}:KO 226 [(aN v1)] aM (Ki N v1):=
 fw Tryz.func226 (gA [[]] (gG (λv4=>[(17,(aM v4))]) (λ_=>[.cells (aN v1).cells]) (aw (λh1=>aq λv2 h2=>gE [(3,bT h1),(8,bT rfl)] [(34,cK vO h2)]) λh1=>bU (3,bF h1) (aw (λh3=>aq λv3 h4=>gE [(8,bT h3)] [(34,cK vO h4)]) λh3=>gE [(8,bF h3)] [])) λv4=>dd λ_=>gB lK 0 12 v1.bp λh8=>dK 1 [] [1,3] 1 (λv5=>⟨36,[(1,(.ptr 0 0)),(3,(ar (v5:Int)))],[.cells (aN v1).cells]⟩) (λv5 h9 f1=>gR [[(10,oL v1.bp gq)],[f0 (bj h9)],[]]) (λv5 v7 v8 h9 f1 aB=>aq λv9 aU=>aq λv10 bh=>gA [[(10,oL v1.bp gq)],[t0 (bk h9)],[(10,oE (fX (aW h9))),(16,cK Zc aU),(28,cK aeG bh)]] (ff λbn=>gb aB () [[f0 (cb bn)],[(5,oq (bE h9 rfl h8))]] h9))))
def DD(N:Nat):Nat->Int64->Int64->aqz Int64
 |0,_,_=>none
 |v3+1,v4,v5=>
  bif (v5.toInt !=0)then
   (λbq fc=>DD N v3 bq fc) v5 (Int64.ofInt ((v4.toInt).tmod v5.toInt))
  else
   some v4
def NH(N:Nat)(v1:Int64)(v2:Int64):aqz Int64:=
 DD N N v1 v2
theorem anX{N v1 v2}:KO 268 [(cQ v1),(cQ v2)] cQ (NH N v1 v2):=
 fw Tryz.func268 (rT 1 [[]] [0,1] 0 (λ(v4:Int64)(v5:Int64)=>⟨12,[(0,(cQ v4)),(1,(cQ v5))],[]⟩) (DD N) (λv3 v4 v5 f1 aB=>gA [[]] (lT λh1=>nB aB (v5,(Int64.ofInt ((v4.toInt).tmod v5.toInt))) [[t0 h1],[(10,⟨_,_, .nz (b:=v5.toInt) (bne_iff_ne.1 h1)⟩),(11,⟨_,_, .eq (aku v4 v5.toInt)⟩)]])))
def x7(N:Nat)(v1:bA)(v2:dx):aqz Bool:=
 bif (v1.b7==2)then
  bif (decide ((0:Int)<=(bl (v1.cp-(1:Int)))))then
  Option.bind (bif (v2.xD.toInt==1)then(bif (decide (v2.xN.toInt>=(-(Int64.ofInt ((1:Int)*2^(min ((bl (v1.cp-(1:Int)))).toNat (IntKind.bits .i64))))).toInt))then some (decide (v2.xN.toInt<(Int64.ofInt ((1:Int)*2^(min ((bl (v1.cp-(1:Int)))).toNat (IntKind.bits .i64)))).toInt))else some false)else some false) λv3=>
  some v3
  else none
 else
  Option.bind (bif (decide (v2.xN.toInt>2147483647))then some true else(bif (decide (v2.xN.toInt<(-2147483647:Int)))then some true else(bif (decide (v2.xD.toInt<1))then some true else some (decide (v2.xD.toInt>2147483647))))) λv4=>
  bif v4 then
   some false
  else
   bif (v1.b7==3)then
    some (v2.xD.toInt==1)
   else
    Option.bind (NH N (AL v2.xN (-v2.xN)) v2.xD) λv5=>
    some (v5.toInt==1)
theorem Ni{N v1 v2}:KO 253 [(dH v1),(aVal v2)] aM (x7 N v1 v2):=
 fw Tryz.func253 (gA [[],[]] (aw (λh1=>aF λh2=>gA [[t0 h1],[(10,⟨_,_, .nn (b:=(bl (v1.cp-(1:Int)))) (of_decide_eq_true h2)⟩),(11,⟨_,_, .eq (nk ((1:Int)*2^(min ((bl (v1.cp-(1:Int)))).toNat (IntKind.bits .i64))))⟩)]] (gG (λv3=>[(4,(aM v3))]) (λ_=>[.cells (dH v1).cells, .cells (aVal v2).cells]) (aw (λh3=>bU (3,bT h3) (cf (23,⟨_,_, .eq (xy (Int64.ofInt ((1:Int)*2^(min ((bl (v1.cp-(1:Int)))).toNat (IntKind.bits .i64)))))⟩) (aw (λh4=>gE [(10,bT h4)] []) λh4=>gE [(10,bF h4)] []))) λh3=>gE [(3,bF h3),(10,bF rfl)] []) λv3=>gR [])) λh1=>gA [[f0 h1]] (gG (λv4=>[(46,(aM v4))]) (λ_=>[.cells (dH v1).cells, .cells (aVal v2).cells]) (aw (λh6=>gE [(3,bT h6),(8,bT rfl),(13,bT rfl)] []) λh6=>bU (3,bF h6) (aw (λh7=>gE [(8,bT h7),(13,bT rfl)] []) λh7=>bU (8,bF h7) (aw (λh8=>gE [(13,bT h8)] []) λh8=>gE [(13,bF h8)] []))) λv4=>dd λ_=>bB λbh=>aq λv5 bn=>gR [[f0 bh],[(14,⟨_,_, .eq (xy v2.xN)⟩),(17,⟨_,_, .eq (agY v2.xN (-v2.xN))⟩),(25,cK anX bn)]])))
def Ic(N:Nat)(fD:aqz Bool):aqx aR->Nat->aqz Bool
 |[],_=>
  fD
 |ba::b8,v11=>
  (nP N ba).bind λv15=>
  bif v15 then
   (Ic N fD b8 (v11+1))
  else
   some false
def Ky(N:Nat):aqx bH->Nat->aqz Bool
 |[],_=>
  some true
 |v8::v9,v6=>
  (nP N v8.aS).bind λv10=>
  bif v10 then
   Ic N (Ky N v9 (v6+1)) v8.bO 0
  else
   some false
def Ir(N:Nat)(v1:au):aqz Bool:=
 Option.bind (bif (v1.aJ==1)then (x7 N v1.aO v1.dM).bind λv2=>
 (bif v2 then (nP N v1.aS).bind λv3=>
 some (!v3)else some true)else (nP N v1.aS).bind λv4=>
 some (!v4)) λv5=>
 bif v5 then
  some false
 else
  Ky N v1.xIdx 0
theorem aoI{N v1}:KO 227 [(aN v1)] aM (Ir N v1):=
 fw Tryz.func227 (gA [[]] (gG (λv5=>[(21,(aM v5))]) (λ_=>[.cells (aN v1).cells]) (aw (λh1=>aq λv2 h2=>bU (3,bT h1) (cf (25,cK Ni h2) (aw (λh3=>aq λv3 h4=>gE [(11,bF (cb h3))] [(43,cK rJ h4)]) λh3=>gE [(11,bT (cW h3))] []))) λh1=>aq λv4 h5=>gE [(3,bF h1),(11,bF rfl)] [(43,cK rJ h5)]) λv5=>dd λ_=>gB lX 0 11 v1.xIdx λh9=>dK 1 [] [1,3] 1 (λv6=>⟨59,[(1,(.ptr 0 0)),(3,(ar (v6:Int)))],[.cells (aN v1).cells]⟩) (λv6 aU f1=>gR [[(10,oL v1.xIdx fx)],[f0 (bj aU)],[]]) (λv6 v8 v9 aU f1 aB=>aq λv10 bh=>gA [[(10,oL v1.xIdx fx)],[t0 (bk aU)],[(10,oE (gx (aW aU))),(19,cK rJ bh)]] (ff λbn=>gA [[f0 (cb bn)],[]] (OR (λ_=>(Lu 0 11 (cZ v1.xIdx) (by kernel_rfl) ·)) λb5=>have bZ:=Be dT (PB (j:=3) (d:= .sl (c6 v8.bO)) b5 (gx (aW aU)) rfl);dK 2 [] [1,3,4] 1 (λv11=>⟨59,[(1,(.ptr 0 0)),(3,(ar (v6:Int))),(4,(ar (v11:Int)))],[.cells (aN v1).cells]⟩) (λv11 bK f2=>gb aB () [[(13,oE (gx (aW aU))),(22,oL v8.bO dT)],[f0 (bj bK)],[(5,oq (bE aU rfl h9))]] aU) (λv11 ba b8 bK f2 ca=>aq λv15 bV=>gA [[(13,oE (gx (aW aU))),(22,oL v8.bO dT)],[t0 (bk bK)],[(10,oE (gx (aW aU))),(22,oE (k9 (aW bK))),(28,cK rJ bV)]] (ff λcA=>gb ca () [[f0 (cb cA)],[(5,oq (bE bK rfl bZ))]] bK)))))))
def MJ(N:Nat)(WW:au->aqz Int):aqx au->Nat->aqz Int
 |[],_=>
  some (0:Int)
 |v9::v10,v7=>
  (WW v9).bind λv11=>
  bif (v11 !=0)then
   some v11
  else
   (MJ N WW v10 (v7+1))
def wv(N:Nat):Nat->au->aqz Int
 |0,_=>none
 |d+1,v1=>
  (Io N v1).bind λv2=>
  bif v2 then
   (K3 N v1).bind λv3=>
   bif v3 then
    (KV N v1).bind λv4=>
    bif v4 then
     (Ki N v1).bind λv5=>
     bif v5 then
      (Ir N v1).bind λv6=>
      bif v6 then
       MJ N (wv N d) v1.bp 0
      else
       some (1:Int)
     else
      some (10:Int)
    else
     some (11:Int)
   else
    some (7:Int)
  else
   some (5:Int)
def NL(N:Nat)(v1:au):aqz Int:=wv N N v1
theorem agE(N:Nat):∀d:Nat,(∀{v1:au},KO 190 [(aN v1)] ar (wv N d v1)):=by
 intro d
 induction d with
 |zero=>intro v1 r J;rw[wv]at J;cases J
 |succ d ih=>
  have an3:= @ih;intro v1;rw[wv];exact fw Tryz.func190 (aq λv2 h1=>gA [[],[(4,cK ag0 h1)]] (ff λh2=>aq λv3 h3=>gA [[(0,bF (cb h2))],[(4,cK akX h3)]] (ff λh4=>aq λv4 h5=>gA [[(0,bF (cb h4))],[(4,cK alv h5)]] (ff λh6=>aq λv5 h7=>gA [[(0,bF (cb h6))],[(4,cK aie h7)]] (ff λh8=>aq λv6 h9=>gA [[(0,bF (cb h8))],[(4,cK aoI h9)]] (ff λaU=>gA [[(0,bF (cb aU))],[]] (gB lK 0 12 v1.bp λbn=>dK 1 [] [1,3] 1 (λv7=>⟨41,[(1,(.ptr 0 0)),(3,(ar (v7:Int)))],[.cells (aN v1).cells]⟩) (λv7 b5 f1=>gR [[(10,oL v1.bp gq)],[(0,bF (bj b5))],[]]) (λv7 v9 v10 b5 f1 aB=>aq λv11 bZ=>gA [[(10,oL v1.bp gq)],[(0,bT (bk b5))],[(10,oE (fX (aW b5))),(16,cK an3 bZ)],[]] (bB λbK=>gb aB () [[(0,bF bK)],[(5,oq (bE b5 rfl bn))]] b5)))))))))
theorem adF{N v1}:KO 190 [(aN v1)] ar (NL N v1):=(agE N N)
def qv(N:Nat)(v1:au):aqz Int:=
 (PF N v1).bind λv2=>
 bif (decide (v2>40))then
  some (13:Int)
 else
  (PN N v1).bind λv3=>
  bif (decide (v3>2000))then
   some (2:Int)
  else
   (NL N v1).bind λv4=>
   some v4
theorem Yr{N v1}:KO 154 [(aN v1)] ar (qv N v1):=
 fw Tryz.func154 (aq λv2 h1=>gA [[],[(4,cK afa h1)]] (bB λh2=>aq λv3 h3=>gA [[f0 h2],[(4,cK aeA h3)]] (bB λh4=>aq λv4 h5=>gR [[f0 h4],[(4,cK adF h5)]])))
def Ks(N:Nat)(v2:aqx aqy)(v1:aK):aqx aR->Nat->aqz Int
 |[],_=>
  some (0:Int)
 |v6::v7,v4=>
  (Fl N v6 v2 v1.aA).bind λv8=>
  bif v8 then
   (Ks N v2 v1 v7 (v4+1))
  else
   some (9:Int)
def JB(N:Nat)(v1:aK)(v2:aqx aqy)(v3:aqx aR):aqz Int:=
 Ks N v2 v1 v3 0
theorem VH{N v1 v2 v3}:KO 191 [(cX v1),(.d (.sl (b6 v2))),(.d (.sl (c6 v3)))] ar (JB N v1 v2 v3):=
 fw Tryz.func191 (gA [[],[]] (gT lh 2 v3 λh2=>dK 1 [] [1,2,3,7] 1 (λv4=>⟨23,[(1,(.d (.sl (b6 v2)))),(2,(.d (.sl (c6 v3)))),(3,(.ptr 0 0)),(7,(ar (v4:Int)))],[.cells (cX v1).cells]⟩) (λv4 h3 f1=>gR [[(7,oL v3 dT)],[f0 (bj h3)],[]]) (λv4 v6 v7 h3 f1 aB=>aq λv8 h4=>gA [[(7,oL v3 dT)],[t0 (bk h3)],[(7,oE (k9 (aW h3))),(22,cK Sx h4)]] (ff λh5=>gb aB () [[f0 (cb h5)],[(5,oq (bE h3 rfl h2))]] h3))))
def D9(N:Nat)(v9:bf):aqx cd->Nat->(aqx aR)->aqz (bA×(aqx aR)×Bool)
 |[],_,v15=>
  some (v9.aO,v15,true)
 |ba::b8,v11,v15=>
  bif (Nat.ble ((v15.length+1)*32) 140737488355328)then
  (λmu=>D9 N v9 b8 (v11+1) mu) (v15++[ba.cw])
  else none
def Lj(N:Nat)(v2:aqy):aqx bf->Nat->aqz (bA×(aqx aR)×Bool)
 |[],_=>
  some (gF,[],false)
 |v9::v10,v7=>
  bif (bL v9.ao==bL v2)then
   D9 N v9 v9.aP 0 []
  else
   (Lj N v2 v10 (v7+1))
def EP(N:Nat)(v2:aqy)(v1:aK):aqx cv->Nat->aqz (bA×(aqx aR)×Bool)
 |[],_=>
  Lj N v2 v1.ay 0
 |v5::v6,v3=>
  bif (bL v5.ao==bL v2)then
   some (v5.aO,v5.aP,true)
  else
   (EP N v2 v1 v6 (v3+1))
def D8(N:Nat)(v1:aK)(v2:aqy):aqz (bA×(aqx aR)×Bool):=
 EP N v2 v1 v1.aG 0
def OG(v1:aK)(l:aqx an):aqx an:= .cells (cX v1).cells:: .cells rF::l
theorem RC{N v1 v2}:KO 62 [(cX v1),(aC v2)] (λr=> .bz [(dH r.1),(.d (.sl (c6 r.2.1))),(aM r.2.2)]) (D8 N v1 v2):=
 fw Tryz.func62 (gA [[],[]] (gB ny 0 2 v1.aG λh2=>dK 1 [] [1,2,4,7] 2 (λv3=>⟨85,[(1,(aC v2)),(2,(.ptr 0 0)),(4,(.ptr 1 0)),(7,(ar (v3:Int)))],(OG v1 [])⟩) (λv3 h3 f1=>gA [[(10,oL v1.aG iy)],[f0 (bj h3)],[]] (gB nA 0 3 v1.ay λh5=>dK 2 [] [1,2,4,8] 2 (λv7=>⟨85,[(1,(aC v2)),(2,(.ptr 0 0)),(4,(.ptr 1 0)),(8,(ar (v7:Int)))],(OG v1 [])⟩) (λv7 h6 f2=>gR [[(10,oL v1.ay gY)],[f0 (bj h6)],[]]) (λv7 v9 v10 h6 f2 ca=>gA [[(10,oL v1.ay gY)],[t0 (bk h6)],[(10,oE (jH (aW h6)))]] (aw (λh7=>gA [[t0 h7],[],[]] (li (λ_=>(l8 9 52 2 [] (.inr (by kernel_rfl)) ·)) (OR (λ_=>(Lu 0 3 (gh v1.ay) (by kernel_rfl) ·)) λh8=>have h9:=Be dB (PB (j:=6) (d:= .sl (du v9.aP)) h8 (jH (aW h6)) rfl);eM 3 [] [2,4,8,9,10] 3 (λv11(v15:aqx aR)=>⟨85,[(2,(.ptr 0 0)),(4,(.ptr 1 0)),(8,(ar (v7:Int))),(9,(.own 2 (c6 v15))),(10,(ar (v11:Int)))],(OG v1 [.front 52 2 v15.length])⟩) (λv11 v15 aU f3=>gR [[(13,oE (jH (aW h6))),(22,oL v9.aP dB)],[f0 (bj aU)],[(10,oE (jH (aW h6)))]]) (λv11 ba b8 v15 aU f3 fu=>aF λbh=>gb fu (v15++[ba.cw]) [[(13,oE (jH (aW h6))),(22,oL v9.aP dB)],[t0 (bk aU)],[(13,oE (jH (aW h6))),(25,oE (iE (aW aU))),(37,oA lh v15 ([ba.cw]) bh)],[(5,oq (bE aU rfl h9))]] aU)))) λh7=>gb ca () [[f0 h7],[(5,oq (bE h6 rfl h5))]] h6)))) (λv3 v5 v6 h3 f1 aB=>gA [[(10,oL v1.aG iy)],[t0 (bk h3)],[(10,oE (jy (aW h3)))]] (aw (λbn=>gA [[t0 bn]] (li (λ_=>(V8 3 dJ [(5,(.d (.sl (c6 v5.aP)))),(6,(aM true))] [.cells (cX v1).cells, .cells (dH v5.aO).cells] ⟨[(10,oE (jy (aW h3))),(28,oE (jy (aW h3)))],by kernel_rfl⟩ ·)) (gR []))) λbn=>gb aB () [[f0 bn],[(5,oq (bE h3 rfl h2))]] h3))))
def CF(N:Nat)(v4:bA×(aqx aR)×Bool)(v2:aqx aqy)(v1:aK):aqx bH->Nat->aqz (bA×Int)
 |[],_=>
  some (v4.1,(0:Int))
 |v7::v8,v5=>
  bif (bL v7.bR==bL (bs []))then
   (Fl N v7.aS v2 v1.aA).bind λv9=>
   bif v9 then
    (CF N v4 v2 v1 v8 (v5+1))
   else
    some (gF,(9:Int))
  else
   (D8 N v1 v7.bR).bind λv10=>
   bif v10.2.2 then
    bif (v10.1.b7 !=3)then
     some (gF,(10:Int))
    else
     bif ((v10.2.1.length:Int) !=(v7.bO.length:Int))then
      some (gF,(11:Int))
     else
      (JB N v1 v2 v7.bO).bind λv11=>
      bif (v11 !=0)then
       some (gF,v11)
      else
       (CF N v4 v2 v1 v8 (v5+1))
   else
    some (gF,(9:Int))
def K4(N:Nat)(v1:aK)(v2:aqx aqy)(v3:au):aqz (bA×Int):=
 (D8 N v1 v3.ao).bind λv4=>
 bif v4.2.2 then
  bif ((v4.2.1.length:Int) !=(v3.xIdx.length:Int))then
   some (gF,(11:Int))
  else
   CF N v4 v2 v1 v3.xIdx 0
 else
  some (gF,(9:Int))
theorem afU{N v1 v2 v3}:KO 192 [(cX v1),(.d (.sl (b6 v2))),(aN v3)] (λr=> .bz [(dH r.1),(ar r.2)]) (K4 N v1 v2 v3):=
 fw Tryz.func192 (aq λv4 h1=>gA [[],[(10,cK RC h1)],[]] (ff λh2=>gA [[f0 (cb h2)],[(4,oL v4.2.1 dT),(13,oL v3.xIdx fx)]] (dd λ_=>gB lX 1 11 v3.xIdx λh5=>dK 1 [] [1,3,5,6,8,11] 4 (λv5=>⟨90,[(1,(.d (.sl (b6 v2)))),(3,(.ptr 0 0)),(5,(.ptr 1 0)),(6,(.ptr 2 0)),(8,(.ptr 3 0)),(11,(ar (v5:Int)))],[.cells (cX v1).cells, .cells (aN v3).cells, .cells rF, .cells (dH v4.1).cells]⟩) (λv5 h6 f1=>gR [[(10,oL v3.xIdx fx)],[f0 (bj h6)],[]]) (λv5 v7 v8 h6 f1 aB=>gA [[(10,oL v3.xIdx fx)],[t0 (bk h6)],[(10,oE (gx (aW h6)))],[]] (aw (λh7=>aq λv9 h8=>gA [[t0 h7],[(16,cK Sx h8)]] (ff λh9=>gb aB () [[f0 (cb h9)],[(5,oq (bE h6 rfl h5))]] h6)) λh7=>aq λv10 aU=>gA [[f0 h7],[(10,cK RC aU)],[]] (ff λbh=>gA [[f0 (cb bh)],[]] (bB λbn=>gA [[f0 bn],[(4,oL v10.2.1 dT),(13,oL v7.bO dT)]] (bB λb5=>aq λv11 bZ=>gA [[f0 b5],[(13,cK VH bZ)],[]] (bB λbK=>gb aB () [[f0 bK],[(5,oq (bE h6 rfl h5))]] h6)))))))))
def lH(N:Nat)(v3:au)(v1:aK)(v2:aqx aqy)(Yf:aK->(aqx aqy)->au->aqz (bA×Int)):aqx au->Nat->(aqx bA)->aqz (bA×Int)
 |[],_,v8=>
  Option.bind (bif (v3.aJ==1)then some true else some (v3.aJ==12)) λv9=>
  bif v9 then
   some (v3.aO,(0:Int))
  else
   bif (v3.aJ==2)then
    Option.bind (JB N v1 v2 [v3.aS]) λv10=>
    some ((⟨(3:Int),(0:Int),(0:Int),(0:Int),(0:Int)⟩:bA),v10)
   else
    bif (v3.aJ==3)then
     (K4 N v1 v2 v3).bind λv11=>
     some (v11.1,v11.2)
    else
     bif (v3.aJ==11)then
      Option.bind (v8[1]?) λv12=>
      Option.bind (v8[2]?) λba=>
      bif ((v12.b7==ba.b7)&&((v12.cp==ba.cp)&&((v12.cq==ba.cq)&&((v12.cU==ba.cU)&&((v12.cS==ba.cS)&&true)))))then
       some (v12,(0:Int))
      else
       some (gF,(10:Int))
     else
      bif (v3.aJ==8)then
       Option.bind (v8[0]?) λb8=>
       some (b8,(0:Int))
      else
       bif (decide (v3.aJ>=16))then
        some (gF,(0:Int))
       else
        Option.bind (v8[0]?) λv15=>
        Option.bind (v8[1]?) λcu=>
        bif ((v15.b7==cu.b7)&&((v15.cp==cu.cp)&&((v15.cq==cu.cq)&&((v15.cU==cu.cU)&&((v15.cS==cu.cS)&&true)))))then
         bif (decide (v3.aJ>=13))then
          some (gF,(0:Int))
         else
          some (v15,(0:Int))
        else
         some (gF,(10:Int))
 |v6::v7,v4,v8=>
  (Yf v1 v2 v6).bind λv17=>
  bif (v17.2 !=0)then
   some (gF,v17.2)
  else
   bif (Nat.ble ((v8.length+1)*40) 140737488355328)then
   (λbq=>lH N v3 v1 v2 Yf v7 (v4+1) bq) (v8++[v17.1])
   else none
def oO(N:Nat):Nat->aK->(aqx aqy)->au->aqz (bA×Int)
 |0,_,_,_=>none
 |d+1,v1,v2,v3=>
  lH N v3 v1 v2 (oO N d) v3.bp 0 []
def vH(N:Nat)(v1:aK)(v2:aqx aqy)(v3:au):aqz (bA×Int):=oO N N v1 v2 v3
theorem aez(N:Nat):∀d:Nat,(∀{v1:aK}{v2:aqx aqy}{v3:au},KO 156 [(cX v1),(.d (.sl (b6 v2))),(aN v3)] (λr=> .bz [(dH r.1),(ar r.2)]) (oO N d v1 v2 v3)):=by
 intro d
 induction d with
 |zero=>intro v1 v2 v3 r J;rw[oO]at J;cases J
 |succ d ih=>
  have aml:= @ih;intro v1 v2 v3;rw[oO];exact fw Tryz.func156 (gA [[],[],[]] (li (λ_=>(l8 8 56 5 [] (.inr (by kernel_rfl)) ·)) (gB lK 1 12 v3.bp λh2=>eM 1 [] [1,3,5,6,8,9] 4 (λv4(v8:aqx bA)=>⟨112,[(1,(.d (.sl (b6 v2)))),(3,(.ptr 0 0)),(5,(.ptr 1 0)),(6,(.ptr 2 0)),(8,(.own 3 (ox v8))),(9,(ar (v4:Int)))],[.cells (cX v1).cells, .cells (aN v3).cells, .cells rF, .front 56 5 v8.length]⟩) (λv4 v8 h3 f1=>gA [[(10,oL v3.bp gq)],[(0,bF (bj h3))]] (gG (λv9=>[(38,(aM v9))]) (λ_=>[.cells (cX v1).cells, .cells (aN v3).cells, .cells rF, .front 56 5 v8.length]) (aw (λh4=>gE [(3,bT h4)] []) λh4=>gE [(3,bF h4)] []) λv9=>dd λ_=>aw (λh7=>aq λv10 h8=>gR [[(0,bT h7)],[(19,cK VH h8)]]) λh7=>gA [[(0,bF h7)],[]] (aw (λh9=>aq λv11 aU=>gR [[(0,bT h9)],[(10,cK afU aU)]]) λh9=>gA [[(0,bF h9)],[]] (aw (λbh=>aq λv12 bn=>aq λba b5=>gA [[(0,bT bh)],[(4,oE (k:=1) (lS bn)),(13,oE (k:=2) (lS b5))]] (ff λbZ=>gR [[(0,bF (cb bZ))],[(4,oE (k:=1) (lS bn))]])) λbh=>gA [[(0,bF bh)],[]] (aw (λbK=>aq λb8 bV=>gR [[(0,bT bK)],[(4,oE (k:=0) (lS bV))]]) λbK=>gA [[(0,bF bK)],[]] (bB λcA=>aq λv15 dv=>aq λcu eu=>gA [[(0,bF cA)],[(4,oE (k:=0) (lS dv)),(13,oE (k:=1) (lS eu))]] (ff λcH=>gA [[(0,bF (cb cH))],[]] (bB λdN=>gR [[(0,bF dN)],[(4,oE (k:=0) (lS dv))]])))))))) (λv4 v6 v7 v8 h3 f1 aB=>aq λv17 fe=>gA [[(10,oL v3.bp gq)],[(0,bT (bk h3))],[(16,oE (fX (aW h3))),(22,cK aml fe)],[]] (bB λdQ=>aF λeG=>gb aB (v8++[v17.1]) [[(0,bF dQ)],[(10,oA XR v8 ([v17.1]) eG)],[(5,oq (bE h3 rfl h2))]] h3)))))
theorem ako{N v1 v2 v3}:KO 156 [(cX v1),(.d (.sl (b6 v2))),(aN v3)] (λr=> .bz [(dH r.1),(ar r.2)]) (vH N v1 v2 v3):=(aez N N)
def nW(N:Nat)(v1:aK)(v2:aqx aqy)(v3:au):aqz (bA×Int):=
 (qv N v3).bind λv4=>
 bif (v4 !=0)then
  some (gF,v4)
 else
  (Eg N v3).bind λv5=>
  bif v5 then
   some (gF,(10:Int))
  else
   (vH N v1 v2 v3).bind λv6=>
   bif (v6.2 !=0)then
    some (gF,v6.2)
   else
    some (v6.1,(0:Int))
theorem ak2{N v1 v2 v3}:KO 111 [(cX v1),(.d (.sl (b6 v2))),(aN v3)] (λr=> .bz [(dH r.1),(ar r.2)]) (nW N v1 v2 v3):=
 fw Tryz.func111 (aq λv4 h1=>gA [[],[(4,cK Yr h1)],[]] (bB λh2=>aq λv5 h3=>gA [[f0 h2],[(4,cK Zc h3)]] (bB λh4=>aq λv6 h5=>gA [[f0 h4],[(10,cK ako h5)],[]] (bB λh6=>gR [[f0 h6],[]]))))
def rz(N:Nat)(v1:aK)(v2:Int)(v3:aqx aqy):aqz Int:=
 bif (decide ((0:Int)<=v2))then
 Option.bind (v1.ay[(v2).toNat]?) λv4=>
 (xb N v4.ao v3).bind λv5=>
 bif (v5 !=0)then
  some v5
 else
  (pP N v4.aO).bind λv6=>
  bif v6 then
   Option.bind (bif (decide ((v4.aP.length:Int)>6))then some true else some (decide ((v4.aY.length:Int)>6))) λv7=>
   bif v7 then
    some (11:Int)
   else
    bif (Nat.ble ((0+v4.aP.length)*48) 140737488355328)then
    bif (Nat.ble ((v4.aP.length+v4.aY.length)*48) 140737488355328)then
    Option.bind (IC N (v4.aP++v4.aY) v1.aA) λv8=>
    bif (v8 !=0)then
     some v8
    else
     (JU N v4).bind λv9=>
     bif (v9 !=0)then
      some v9
     else
      bif (decide ((v2).toNat<=v1.ay.length))then
      (Dg N v4).bind λv10=>
      Option.bind (nW N (⟨v1.aA,[],v1.aG,((v1.ay.take (v2).toNat).drop 0),[]⟩:aK) v10 v4.cg) λv11=>
      bif (v11.2 !=0)then
       some v11.2
      else
       bif ((v11.1.b7==v4.aO.b7)&&((v11.1.cp==v4.aO.cp)&&((v11.1.cq==v4.aO.cq)&&((v11.1.cU==v4.aO.cU)&&((v11.1.cS==v4.aO.cS)&&true)))))then
        some (0:Int)
       else
        some (10:Int)
      else none
    else none
    else none
  else
   some (10:Int)
 else none
theorem ad7{N v1 v2 v3}:KO 61 [(cX v1),(ar v2),(.d (.sl (b6 v3)))] ar (rz N v1 v2 v3):=
 fw Tryz.func61 (aF λh2=>aq λv4 h1=>aq λv5 h3=>gA [[],[(10,⟨_,_, .el (xs:=gh v1.ay) (i:=v2) (of_decide_eq_true h2) (jH h1)⟩)],[(10,cK Jk h3)],[]] (bB λh4=>aq λv6 h5=>gA [[f0 h4],[(7,cK vO h5)]] (ff λh6=>gA [[f0 (cb h6)]] (gG (λv7=>[(38,(aM v7))]) (λ_=>[.cells (cX v1).cells, .cells (ep v4).cells]) (cf (7,oL v4.aP dB) (aw (λh7=>gE [(4,bT h7)] []) λh7=>gE [(4,bF h7)] [(22,oL v4.aY dB)])) λv7=>bB λh9=>aF λaU=>aF λbh=>aq λv8 bn=>gA [[f0 h9],[(10,oZ kW v4.aP aU),(19,oA kW v4.aP v4.aY bh),(28,cK anf bn)],[]] (bB λb5=>aq λv9 bZ=>gA [[f0 b5],[(4,cK adq bZ)],[]] (bB λbK=>aF λbV=>aq λv10 cA=>aq λv11 dv=>gA [[f0 bK],[(22,⟨_,_, .sub (xs:=gh v1.ay) (lo:=0) (hi:=v2) (by decide) (Nat.zero_le _) (of_decide_eq_true h2) (by rw[gY];exact(of_decide_eq_true bV)) RZ YT⟩),(31,cK acu cA),(40,cK ak2 dv)],[]] (dd λ_=>C8 λcH=>gR [[t0 (cW cH)],[]])))))))
def mQ(N:Nat)(v1:aK):aqx aqy->Nat->Int->aqz (Int×Int)
 |[],_,_=>
  some ((0:Int),(0:Int))
 |v21::v22,dy,v23=>
  (D8 N v1 v21).bind λv24=>
  bif v24.2.2 then
   bif (decide (((dy:Int)).toNat<=v1.b9.length))then
   Option.bind (vF N ((v1.b9.take ((dy:Int)).toNat).drop 0) v21) λv25=>
   bif v25 then
    some (v23,(8:Int))
   else
    (λnN=>mQ N v1 v22 (dy+1) nN) (bl (v23+(1:Int)))
   else none
  else
   some (v23,(9:Int))
def mj(N:Nat)(v1:aK):aqx bf->Nat->(aqx aqy)->Int->aqz (Int×Int)
 |[],_,_,cJ=>
  mQ N v1 v1.b9 0 cJ
 |v15::cu,ba,v17,cJ=>
  Option.bind (rz N v1 (ba:Int) v17) λv26=>
  bif (v26 !=0)then
   some (cJ,v26)
  else
   bif (Nat.ble ((v17.length+1)*16) 140737488355328)then
   (λmu PQ=>mj N v1 cu (ba+1) mu PQ) (v17++[v15.ao]) (bl (cJ+(1:Int)))
   else none
def oC(N:Nat)(v1:aK):aqx cv->Nat->(aqx aqy)->Int->aqz (Int×Int)
 |[],_,v11,v12=>
  mj N v1 v1.ay 0 v11 v12
 |v9::v10,v7,v11,v12=>
  (LV N v9 v1.aA v11).bind λcV=>
  bif (cV !=0)then
   some (v12,cV)
  else
   bif (Nat.ble ((v11.length+1)*16) 140737488355328)then
   (λiW amW=>oC N v1 v10 (v7+1) iW amW) (v11++[v9.ao]) (bl (v12+(1:Int)))
   else none
def E0(N:Nat)(v1:aK):aqx c8->Nat->aqz (Int×Int)
 |[],_=>
  bif (Nat.ble ((0+v1.aA.length)*16) 140737488355328)then
  oC N v1 v1.aG 0 v1.aA (2:Int)
  else none
 |v5::v6,v3=>
  (Bi N v5.aS v1.aA).bind λv28=>
  bif (v28 !=0)then
   some ((1:Int),v28)
  else
   (E0 N v1 v6 (v3+1))
def n9(N:Nat)(v1:aK):aqz (Int×Int):=
 (By N v1).bind λv2=>
 bif (v2 !=0)then
  some ((0:Int),v2)
 else
  E0 N v1 v1.cr 0
theorem ano{N v1}:KO 25 [(cX v1)] (λr=> .bz [(ar r.1),(ar r.2)]) (n9 N v1):=
 fw Tryz.func25 (aq λv2 h1=>gA [[],[(4,cK afX h1)],[]] (dd λ_=>gB rP 0 1 v1.cr λh4=>dK 1 [] [1,5] 1 (λv3=>⟨136,[(1,(.ptr 0 0)),(5,(ar (v3:Int)))],[.cells (cX v1).cells]⟩) (λv3 h5 f1=>aF λh6=>gA [[(10,oL v1.cr kg)],[f0 (bj h5)],[(10,oZ fb v1.aA h6)],[],[]] (gB ny 0 2 v1.aG λh8=>Hp 2 [] [1,7,8,9] 2 (λv7(v11:aqx aqy)(v12:Int)=>⟨136,[(1,(.ptr 0 0)),(7,(.own 1 (b6 v11))),(8,(ar v12)),(9,(ar (v7:Int)))],[.cells (cX v1).cells, .front 9 1 v11.length]⟩) (λv7 v11 v12 h9 f2=>gA [[(10,oL v1.aG iy)],[f0 (bj h9)],[]] (gB nA 0 3 v1.ay λbh=>Hp 3 [] [1,7,8,11] 2 (λba(v17:aqx aqy)(cJ:Int)=>⟨136,[(1,(.ptr 0 0)),(7,(.own 1 (b6 v17))),(8,(ar cJ)),(11,(ar (ba:Int)))],[.cells (cX v1).cells, .front 9 1 v17.length]⟩) (λba v17 cJ bn f3=>gA [[(10,oL v1.ay gY)],[f0 (bj bn)],[]] (gB fb 0 4 v1.b9 λbZ=>eM 4 [] [1,8,13] 2 (λdy(v23:Int)=>⟨136,[(1,(.ptr 0 0)),(8,(ar v23)),(13,(ar (dy:Int)))],[.cells (cX v1).cells, .front 9 1 v17.length]⟩) (λdy v23 bK f4=>gR [[(10,oL v1.b9 dX)],[f0 (bj bK)],[]]) (λdy v21 v22 v23 bK f4 iF=>aq λv24 bV=>gA [[(10,oL v1.b9 dX)],[t0 (bk bK)],[(13,oE (ik (aW bK))),(19,cK RC bV)],[]] (ff λcA=>aF λdv=>aq λv25 eu=>gA [[f0 (cb cA)],[(10,⟨_,_, .sub (xs:=b6 v1.b9) (lo:=0) (hi:=(dy:Int)) (by decide) (Nat.zero_le _) (of_decide_eq_true (aqq (Int.natCast_nonneg _))) (by rw[dX];exact(of_decide_eq_true dv)) Ko Np⟩),(22,oE (ik (aW bK))),(28,cK EN eu)]] (bB λcH=>gb iF (bl (v23+(1:Int))) [[f0 cH],[],[(5,oq (bE bK rfl bZ))]] bK))))) (λba v15 cu v17 cJ bn f3 fu=>aq λv26 dN=>gA [[(10,oL v1.ay gY)],[t0 (bk bn)],[(10,cK ad7 dN)],[]] (bB λfe=>aF λdQ=>gb fu ((v17++[v15.ao]),(bl (cJ+(1:Int)))) [[f0 fe],[(13,oE (jH (aW bn))),(25,oA fb v17 ([v15.ao]) dQ)],[],[(5,oq (bE bn rfl bh))]] bn)))) (λv7 v9 v10 v11 v12 h9 f2 ca=>aq λcV eG=>gA [[(10,oL v1.aG iy)],[t0 (bk h9)],[(10,oE (jy (aW h9))),(25,cK agT eG)],[]] (bB λfQ=>aF λe9=>gb ca ((v11++[v9.ao]),(bl (v12+(1:Int)))) [[f0 fQ],[(13,oE (jy (aW h9))),(25,oA fb v11 ([v9.ao]) e9)],[],[(5,oq (bE h9 rfl h8))]] h9)))) (λv3 v5 v6 h5 f1 aB=>aq λv28 fG=>gA [[(10,oL v1.cr kg)],[t0 (bk h5)],[(10,oE (pI (aW h5))),(25,cK R1 fG)],[]] (bB λgg=>gb aB () [[f0 gg],[(5,oq (bE h5 rfl h4))]] h5))))
def BN(N:Nat)(v1:Int64):aqz Int:=
 bif (decide (v1.toInt<0))then
  some (IntKind.u64.wrap ((IntKind.u64.wrap (-(v1+(1:Int64))).toInt)+(1:Int)))
 else
  some (IntKind.u64.wrap v1.toInt)
theorem I6{N v1}:KO 91 [(cQ v1)] (λr=> .d (.v (.int .u64 r))) (BN N v1):=
 fw Tryz.func91 (gA [[],[]] (lT λh1=>gR [[t0 h1],[(5,⟨_,_, .eq (UX v1 (1:Int64))⟩),(8,⟨_,_, .eq (xy (v1+(1:Int64)))⟩)]]))
def Ch(N:Nat):Nat->Int->aqy->aqz aqy
 |0,_,_=>none
 |v2+1,v3,v4=>
  bif (decide (v3>=10))then
   bif (decide ((0:Int)<=((v3).tmod (10:Int))))then
   bif (decide ((0:Int)<=(IntKind.u64.wrap (((v3).tmod (10:Int))+(1:Int)))))then
   bif (decide ((((v3).tmod (10:Int))).toNat<=((IntKind.u64.wrap (((v3).tmod (10:Int))+(1:Int)))).toNat))then
   bif (decide (((IntKind.u64.wrap (((v3).tmod (10:Int))+(1:Int)))).toNat<=(bs [48,49,50,51,52,53,54,55,56,57]).size))then
   bif (Nat.ble (((bs [48,49,50,51,52,53,54,55,56,57]).extract (((v3).tmod (10:Int))).toNat ((IntKind.u64.wrap (((v3).tmod (10:Int))+(1:Int)))).toNat).size+v4.size) 9223372036854775807)then
   (λbq fc=>Ch N v2 bq fc) (IntKind.u64.wrap ((v3).tdiv (10:Int))) (((bs [48,49,50,51,52,53,54,55,56,57]).extract (((v3).tmod (10:Int))).toNat ((IntKind.u64.wrap (((v3).tmod (10:Int))+(1:Int)))).toNat)++v4)
   else none
   else none
   else none
   else none
   else none
  else
   bif (decide ((0:Int)<=v3))then
   bif (decide ((0:Int)<=(IntKind.u64.wrap (v3+(1:Int)))))then
   bif (decide ((v3).toNat<=((IntKind.u64.wrap (v3+(1:Int)))).toNat))then
   bif (decide (((IntKind.u64.wrap (v3+(1:Int)))).toNat<=(bs [48,49,50,51,52,53,54,55,56,57]).size))then
   bif (Nat.ble (((bs [48,49,50,51,52,53,54,55,56,57]).extract (v3).toNat ((IntKind.u64.wrap (v3+(1:Int)))).toNat).size+v4.size) 9223372036854775807)then
   some (((bs [48,49,50,51,52,53,54,55,56,57]).extract (v3).toNat ((IntKind.u64.wrap (v3+(1:Int)))).toNat)++v4)
   else none
   else none
   else none
   else none
   else none
def J5(N:Nat)(v1:Int):aqz aqy:=
 Ch N N v1 (bs [])
theorem Uo{N v1}:KO 90 [(.d (.v (.int .u64 v1)))] aC (J5 N v1):=
 fw Tryz.func90 (rT 1 [[],[]] [0,3] 0 (λ(v3:Int)(v4:aqy)=>⟨22,[(0,(.d (.v (.int .u64 v3)))),(3,(aC v4))],[]⟩) (Ch N) (λv2 v3 v4 f1 aB=>gA [[]] (aw (λh1=>aF λh2=>aF λh3=>aF λh4=>aF λh5=>aF λh6=>nB aB ((IntKind.u64.wrap ((v3).tdiv (10:Int))),(((bs [48,49,50,51,52,53,54,55,56,57]).extract (((v3).tmod (10:Int))).toNat ((IntKind.u64.wrap (((v3).tmod (10:Int))+(1:Int)))).toNat)++v4)) [[t0 h1],[(4,⟨_,_, .nz (b:=10) (by decide)⟩),(10,⟨_,_, .nz (b:=10) (by decide)⟩),(16,⟨_,_, .str (b:=(bs [48,49,50,51,52,53,54,55,56,57])) (lo:=((v3).tmod (10:Int))) (hi:=(IntKind.u64.wrap (((v3).tmod (10:Int))+(1:Int)))) (of_decide_eq_true h2) (of_decide_eq_true h4) (of_decide_eq_true h3) (of_decide_eq_true h5)⟩),(22,⟨_,_, .cat (n:=((bs [48,49,50,51,52,53,54,55,56,57]).extract (((v3).tmod (10:Int))).toNat ((IntKind.u64.wrap (((v3).tmod (10:Int))+(1:Int)))).toNat).size+v4.size) (aZ h6)⟩)],[(4,⟨_,_, .nz (b:=10) (by decide)⟩)]]) λh1=>aF λh7=>aF λh8=>aF λh9=>aF λaU=>aF λbh=>gR [[f0 h1],[(10,⟨_,_, .str (b:=(bs [48,49,50,51,52,53,54,55,56,57])) (lo:=v3) (hi:=(IntKind.u64.wrap (v3+(1:Int)))) (of_decide_eq_true h7) (of_decide_eq_true h9) (of_decide_eq_true h8) (of_decide_eq_true aU)⟩),(16,⟨_,_, .cat (n:=((bs [48,49,50,51,52,53,54,55,56,57]).extract (v3).toNat ((IntKind.u64.wrap (v3+(1:Int)))).toNat).size+v4.size) (aZ bh)⟩)]])))
def nU(N:Nat)(v1:Int64):aqz aqy:=
 bif (decide (v1.toInt<0))then
  (BN N v1).bind λv2=>
  (J5 N v2).bind λv3=>
  bif (Nat.ble ((bs [45]).size+v3.size) 9223372036854775807)then
  some ((bs [45])++v3)
  else none
 else
  (BN N v1).bind λv4=>
  (J5 N v4).bind λv5=>
  some v5
theorem vY{N v1}:KO 35 [(cQ v1)] aC (nU N v1):=
 fw Tryz.func35 (gA [[],[]] (aw (λh1=>aq λv2 h2=>aq λv3 h3=>aF λh4=>gR [[t0 h1],[(4,cK I6 h2),(7,cK Uo h3),(10,⟨_,_, .cat (n:=(bs [45]).size+v3.size) (aZ h4)⟩)]]) λh1=>aq λv4 h5=>aq λv5 h6=>gR [[f0 h1],[(4,cK I6 h5),(7,cK Uo h6)]]))
def L6(N:Nat)(v1:aqy)(v2:Int):aqz aqy:=
 bif (bl v2==v2)then
 Option.bind (nU N (Int64.ofInt v2)) λv3=>
 bif (Nat.ble (v1.size+v3.size) 9223372036854775807)then
 some (v1++v3)
 else none
 else none
theorem aoN{N v1 v2}:KO 98 [(aC v1),(ar v2)] aC (L6 N v1 v2):=
 fw Tryz.func98 (aF λh1=>aq λv3 h2=>aF λh3=>gR [[],[(5,⟨_,_, .eq (BV (beq_iff_eq.1 h1))⟩),(7,cK vY h2),(10,⟨_,_, .cat (n:=v1.size+v3.size) (aZ h3)⟩)]])
end Go.Proofs.YtmkmibahjanejaaGreatDoor
