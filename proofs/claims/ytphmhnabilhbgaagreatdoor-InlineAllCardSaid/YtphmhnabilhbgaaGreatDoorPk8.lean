/-
  Part 8 of the proof: PQ2.
-/
import Derived.Test.YtphmhnabilhbgaaGreatDoorPk7
namespace Go.Proofs.YtphmhnabilhbgaaGreatDoor
open Go.RowKit
set_option maxRecDepth 100000
set_option maxHeartbeats 0
set_option linter.unusedVariables false
def jg:aiE AV:=[(ak (0:Int)),(ak (0:Int)),(ak (0:Int)),(ak (0:Int)),(ak (0:Int))]
def xu(N:Nat)(v1:aG)(v2:Bool):aiG Int:=
 bif v2 then
  bif ((v1.bz.length:Int)==(0:Int))then
   some (11:Int)
  else
   some (0:Int)
 else
  bif (v1.cP==(5:Int))then
   Option.bind (bif (decide ((v1.bz.length:Int)>(0:Int)))then some true else some ((v1.aI.length:Int)==(0:Int))) fun v3=>
   bif v3 then
    some (11:Int)
   else
    some (0:Int)
  else
   some (1:Int)
def CX(N:Nat)(v1:aG):aiG Int:=
 bif (v1.cP==(0:Int))then
  bif (decide ((v1.bz.length:Int)>(0:Int)))then
   some (11:Int)
  else
   some (0:Int)
 else
  bif (v1.cP==(1:Int))then
   xu N v1 (v1.cP==(1:Int))
  else
   bif (v1.cP==(2:Int))then
    xu N v1 (v1.cP==(2:Int))
   else
    bif (v1.cP==(3:Int))then
     xu N v1 (v1.cP==(3:Int))
    else
     xu N v1 (v1.cP==(4:Int))
theorem W5(N:Nat)(v1:aG)(r:Int)(J:CX N v1=some r):bg Tryz.prog 101 [(cy v1)] (·=(ak r)):=by
 rw[CX]at J;refine bD Tryz.func101 (by kernel_rfl) (by kernel_rfl) ?_;refine au af [[],[],[]] ?_;refine bc J (fun h1 J=> ?_) fun h1 J=> ?_
 ·refine au af [[(0,bT h1)],[(7,oL v1.bz b5)]] ?_;refine bc J (fun h2 J=> ?_) fun h2 J=> ?_
  ·cases J;exact wr af [[(0,bT h2)],[]]
  cases J;exact wr af [[(0,bF h2)],[]]
 refine l0 af 1 [[(0,bF h1)],[]] [1,4,11] 1 (fun(v2:Bool)=>⟨32,[(1,(.ptr 0 0)),(4,(ak v1.cP)),(11,(aJ v2))],[.cells (cy v1).cells]⟩) (fun(v2:Bool)=>xu N v1 v2=some r) ?_ ?_
 ·intro f1 aN;refine bc J (fun h9 J=> ?_) fun h9 J=> ?_
  ·exact dR af aN (v1.cP==(1:Int)) [[(0,bT h9)]] J
  refine au af [[(0,bF h9)],[]] ?_;refine bc J (fun aA J=> ?_) fun aA J=> ?_
  ·exact dR af aN (v1.cP==(2:Int)) [[(0,bT aA)]] J
  refine au af [[(0,bF aA)],[]] ?_;refine bc J (fun a7 J=> ?_) fun a7 J=> ?_
  ·exact dR af aN (v1.cP==(3:Int)) [[(0,bT a7)]] J
  exact dR af aN (v1.cP==(4:Int)) [[(0,bF a7)],[]] J
 rintro v2 J
 try dsimp only at J
 rw[xu]at J;refine bc J (fun h3 J=> ?_) fun h3 J=> ?_
 ·refine au af [[(0,bT h3)],[(7,oL v1.bz b5)]] ?_;refine bc J (fun h4 J=> ?_) fun h4 J=> ?_
  ·cases J;exact wr af [[(0,bT h4)],[]]
  cases J;exact wr af [[(0,bF h4)],[]]
 refine au af [[(0,bF h3)],[]] ?_;refine bc J (fun h5 J=> ?_) fun h5 J=> ?_
 ·refine au af [[(0,bT h5)]] ?_;obtain⟨v3,h7,J⟩:=ar J;refine cM af [(31,(aJ v3))] [.cells (cy v1).cells] ?_ ?_
  ·refine bc h7 (fun h6 h7=> ?_) fun h6 h7=> ?_
   ·cases h7;exact⟨so (os [15,18,21,24,28] (bT h6) [(7,oL v1.bz b5)]),by kernel_rfl⟩
   cases h7;exact⟨so (os [15,18,21,24,28] (bF h6) [(7,oL v1.bz b5),(22,oL v1.aI b5)]),by kernel_rfl⟩
  refine bc J (fun h8 J=> ?_) fun h8 J=> ?_
  ·cases J;exact wr af [[(0,bT h8)],[]]
  cases J;exact wr af [[(0,bF h8)],[]]
 cases J;exact wr af [[(0,bF h5)],[]]
def tW(N:Nat):aiE bj→Nat→(aiE aiF)→aiG ((aiE aiF))
 |[],_,v7=>
  some v7
 |v5::v6,v3,v7=>
  bif (Nat.ble ((v7.length+1)*16) 140737488355328)then
  (fun b6=>tW N v6 (v3+1) b6) (v7++[v5.ao])
  else none
def Cb(N:Nat)(v1:aG):aiG ((aiE aiF)):=
 Option.bind (zC N ([v1.aI,v1.bz])) fun v2=>
 tW N v2 0 []
theorem afp(N:Nat)(v1:aG)(r:(aiE aiF))(J:Cb N v1=some r):bg Tryz.prog 103 [(cy v1)] (·=(.d (.sl (aB r)))):=by
 rw[Cb]at J;refine bD Tryz.func103 (by kernel_rfl) (by kernel_rfl) ?_;obtain⟨v2,h1,J⟩:=ar J;refine au af [[],[],[(16,cL (Pn N ([v1.aI,v1.bz]) v2 h1)),(19,oL v2 b5)]] ?_;refine nV 3 9 1 [] (.inr (by kernel_rfl)) ?_;refine dq 11 (cu v2) (by kernel_rfl) fun h2=> ?_;have h3:=cd b5 h2;refine cx af 1 [] [3,11,12,13] 2 (fun((v3,v4,v7):Nat×(aiE bj)×(aiE aiF))=>⟨24,[(3,(.own 1 (aB v7))),(11,(.d (.sl (cu v2)))),(12,(ak (v2.length:Int))),(13,(ak (v3:Int)))],[.cells (cy v1).cells, .front 9 1 v7.length]⟩) (fun((v3,v4,v7):Nat×(aiE bj)×(aiE aiF))=>v2.drop v3=v4∧tW N v4 v3 v7=some r) (fun((v3,v4,v7):Nat×(aiE bj)×(aiE aiF))=>v4.length) (0,v2,[]) ⟨rfl,J⟩ ?_;rintro⟨v3,v4,v7⟩ ⟨h4,J⟩ f1 aN;cases v4 with
 |nil=>
  rw[tW]at J;cases J;exact wr af [[],[(0,bF (bO h4))],[]]
 |cons v5 v6=>
  rw[tW]at J;obtain⟨h5,J⟩:=dg J;exact ct af aN (v3+1,v6,(v7++[v5.ao])) [[],[(0,bT (bN h4))],[(1,oE (jK (aU h4)))],[(13,⟨_,_, .app (xs:=aB v7) (ys:=aB [v5.ao]) (zs:=aB (v7++[v5.ao])) (n:=(v7++[v5.ao]).length) bC.symm jq jq (by rw[(bC (l:=v7)),(bC (l:=[v5.ao]))];exact(de h5 (by decide)).1) (by rw[(bC (l:=v7)),(bC (l:=[v5.ao]))];exact(de h5 (by decide)).2) Aq (by first|(rw[(bC (l:=v7)),(bC (l:=[v5.ao]))];done)|(rw[(bC (l:=v7)),(bC (l:=[v5.ao]))];rfl)|(rw[(bC (l:=v7)),(bC (l:=[v5.ao])),ahQ];done)|(rw[(bC (l:=v7)),(bC (l:=[v5.ao])),ahQ];rfl)|(rw[(bC (l:=v7)),(bC (l:=[v5.ao])),ah9]))⟩)],[(2,oq (bV h4 rfl h3))]] ⟨bR h4,J⟩
def vf(N:Nat)(Qz:aq→Int→aiG Int)(v2:Int):aiE aq→Nat→Int→aiG Int
 |[],_,v7=>
  some v7
 |v5::v6,v3,v7=>
  Option.bind (Qz v5 (aV (v2-(1:Int)))) fun v8=>
  (fun b6=>vf N Qz v2 v6 (v3+1) b6) (if(aV ((1:Int)+v8))>v7 then(aV ((1:Int)+v8))else v7)
def nx(N:Nat):Nat→aq→Int→aiG Int
 |0,_,_=>none
 |d+1,v1,v2=>
  bif (decide (v2≤(1:Int)))then
   some v2
  else
   vf N (nx N d) v2 v1.aM 0 (1:Int)
def Lw(N:Nat)(v1:aq)(v2:Int):aiG Int:=nx N N v1 v2
theorem aam(N:Nat):∀d:Nat,(∀(v1:aq)(v2:Int)(r:Int),nx N d v1 v2=some r→bg Tryz.prog 199 [(aF v1),(ak v2)] (·=(ak r))):=by
 intro d
 induction d with
 |zero=>intro v1 v2 r J;rw[nx]at J;cases J
 |succ d ih=>
  have ahp:=ih;intro v1 v2 r J;rw[nx]at J;refine bD Tryz.func199 (by kernel_rfl) (by kernel_rfl) ?_;refine au af [[],[]] ?_;refine bc J (fun h1 J=> ?_) fun h1 J=> ?_
  ·cases J;exact wr af [[(0,bT h1)],[]]
  refine au af [[(0,bF h1)],[],[(7,oL v1.aM b7)]] ?_;refine dq 12 (cT v1.aM) (by kernel_rfl) fun h2=> ?_;have h3:=cd b7 h2;refine cx af 1 [] [1,5,12,13,14] 1 (fun((v3,v4,v7):Nat×(aiE aq)×Int)=>⟨27,[(1,(ak v2)),(5,(ak v7)),(12,(.d (.sl (cT v1.aM)))),(13,(ak (v1.aM.length:Int))),(14,(ak (v3:Int)))],[.cells (aF v1).cells]⟩) (fun((v3,v4,v7):Nat×(aiE aq)×Int)=>v1.aM.drop v3=v4∧vf N (nx N d) v2 v4 v3 v7=some r) (fun((v3,v4,v7):Nat×(aiE aq)×Int)=>v4.length) (0,v1.aM,(1:Int)) ⟨rfl,J⟩ ?_;rintro⟨v3,v4,v7⟩ ⟨h4,J⟩ f1 aN;cases v4 with
  |nil=>
   rw[vf]at J;cases J;exact wr af [[],[(0,bF (bO h4))],[]]
  |cons v5 v6=>
   rw[vf]at J;obtain⟨v8,h5,J⟩:=ar J;exact ct af aN (v3+1,v6,(if(aV ((1:Int)+v8))>v7 then(aV ((1:Int)+v8))else v7)) [[],[(0,bT (bN h4))],[(1,oE (ik (aU h4)))],[(13,cL (ahp v5 (aV (v2-(1:Int))) v8 h5))],[(2,oq (bV h4 rfl h3))]] ⟨bR h4,J⟩
theorem aeG(N:Nat)(v1:aq)(v2:Int)(r:Int)(J:Lw N v1 v2=some r):bg Tryz.prog 199 [(aF v1),(ak v2)] (·=(ak r)):=(aam N N) v1 v2 r J
def Ig(N:Nat)(v1:aq):aiG Int:=
 Option.bind (Lw N v1 (41:Int)) fun v2=>
 some v2
theorem Yw(N:Nat)(v1:aq)(r:Int)(J:Ig N v1=some r):bg Tryz.prog 166 [(aF v1)] (·=(ak r)):=by
 rw[Ig]at J;refine bD Tryz.func166 (by kernel_rfl) (by kernel_rfl) ?_;obtain⟨v2,h1,J⟩:=ar J;obtain rfl:=sj J;exact wr af [[],[(4,cL (aeG N v1 (41:Int) v2 h1))]]
def ze(N:Nat)(v1:aq):aiG aq:=some v1
theorem Kc(N:Nat)(v1 r:aq)(J:ze N v1=some r):bg Tryz.prog 34 [(aF v1)] (·=(.fn 70 [(.bt [dy r] 0 0)])):=by
 cases J;exact Y0 v1
def uq(N:Nat):aiE aq→Int→aiG Int
 |[],v3=>
  some v3
 |_::v5,v3=>
  bif (decide ((aV (v3+(1:Int)))>(2000:Int)))then
   some (aV (v3+(1:Int)))
  else
   (fun b6=>uq N v5 b6) (aV (v3+(1:Int)))
def Dw(N:Nat)(v1:aq):aiG Int:=
 Option.bind (ze N v1) fun v2=>
 uq N (dJ v2) (0:Int)
theorem WQ(N:Nat)(v1:aq)(r:Int)(J:Dw N v1=some r):bg Tryz.prog 167 [(aF v1)] (·=(ak r)):=by
 rw[Dw]at J;refine qg Tryz.func167 rfl (by kernel_rfl) ?_;refine gF [0] 0 (ah0 _) (s':=⟨12,[(0,(aF v1))],[]⟩) (by kernel_rfl) ?_;refine aR ?_;refine rg [] [(1,(.ptr 0 0))] [.cells (aF v1).cells] (by kernel_rfl) ?_;refine aR ?_;refine rg [] [(3,(.ptr 1 0))] [.cells (aF v1).cells, .cells [(ak (0:Int))]] (by kernel_rfl) ?_;refine aR ?_;refine aR ?_;obtain⟨v2,h1,J⟩:=ar J;refine rg [(4,cL (Kc N v1 v2 h1))] [(5,(.fn 70 [(.bt [dy v2] 0 0)]))] [.cells (aF v1).cells, .cells [(ak (0:Int))]] (by kernel_rfl) ?_;refine fe ?_;refine gF [3,5] 2 (ahX rfl) (s':=⟨12,[(3,(.ptr 1 0)),(5,(.fn 70 [(.bt [dy v2] 0 0)]))],[.cells (aF v1).cells, .cells [(ak (0:Int))]]⟩) (by kernel_rfl) ?_;refine HO (m:=2) (enc:=aF) (xs:=(dJ v2)) (by kernel_rfl) (Lm v2) (fun(v3:Int)=>[.cells (aF v1).cells, .cells [(ak v3)]]) (fun(v3:Int) l=>uq N l v3=some r) (0:Int) (by kernel_rfl) J (by rintro v3;rfl) (by rintro v3;kernel_rfl) (by kernel_rfl) rfl ?_ ?_
 ·rintro v3 v4 v5 J h2 kr kt
  try dsimp only at J
  rw[uq]at J;refine gF [3] 3 (ah0 _) (s':=⟨12,[(3,(.ptr 1 0))],[.cells (aF v1).cells, .cells [(ak v3)], .lp .ready 6 kr kt (dM 12 [(3,(.ptr 1 0)),(5,(.fn 70 [(.bt [dy v2] 0 0)]))])]⟩) (by kernel_rfl) ?_;refine et ?_;refine cv ?_;refine⟨[.cells (aF v1).cells, .cells [(ak v3)]],[],rfl,(by kernel_rfl),?_⟩;refine gF [3] 3 (ahX rfl) (s':=⟨12,[(3,(.ptr 1 0))],[.cells (aF v1).cells, .cells [(ak v3)], .lp .busy 6 kr kt (dM 12 [(3,(.ptr 1 0)),(5,(.fn 70 [(.bt [dy v2] 0 0)]))])]⟩) (by kernel_rfl) ?_;refine fe ?_;refine aR ?_;refine rg [] [] [.cells (aF v1).cells, .cells [(ak (aV (v3+(1:Int))))], .lp .busy 6 kr kt (dM 12 [(3,(.ptr 1 0)),(5,(.fn 70 [(.bt [dy v2] 0 0)]))])] (by kernel_rfl) ?_;refine aR ?_;refine rg [] [(10,(aJ (decide ((aV (v3+(1:Int)))>(2000:Int)))))] [.cells (aF v1).cells, .cells [(ak (aV (v3+(1:Int))))], .lp .busy 6 kr kt (dM 12 [(3,(.ptr 1 0)),(5,(.fn 70 [(.bt [dy v2] 0 0)]))])] (by kernel_rfl) ?_;rcases fQ (decide ((aV (v3+(1:Int)))>(2000:Int)))with h3|h3
  ·replace J:=(dA h3).symm.trans J;refine fB (t:=(decide ((aV (v3+(1:Int)))>(2000:Int)))) (by kernel_rfl) h3 ?_;refine kZ (WZ rfl ?_);refine ZR [.cells (aF v1).cells, .cells [(ak (aV (v3+(1:Int))))]] rfl (by kernel_rfl) (by kernel_rfl) ?_;refine(lJ rfl ?_);refine cv ?_;refine aR ?_;refine rg [] [(2,(ak (aV (v3+(1:Int)))))] [.cells (aF v1).cells, .cells [(ak (aV (v3+(1:Int))))], .gone] (by kernel_rfl) ?_;refine dN ?_;have hr:=ah8 J;subst hr;exact gn (by kernel_rfl)
  replace J:=(fS h3).symm.trans J;refine fv (t:=(decide ((aV (v3+(1:Int)))>(2000:Int)))) (by kernel_rfl) h3 ?_;refine et ?_;refine iA ?_;refine E8 [.cells (aF v1).cells, .cells [(ak (aV (v3+(1:Int))))]] rfl (by kernel_rfl) (by kernel_rfl) ?_;exact⟨(aV (v3+(1:Int))),(by kernel_rfl),J⟩
 rintro v3 J
 try dsimp only at J
 rw[uq]at J;refine iA ?_;refine cv ?_;refine aR ?_;refine rg [] [(2,(ak v3))] [.cells (aF v1).cells, .cells [(ak v3)], .gone] (by kernel_rfl) ?_;refine dN ?_;have hr:=ah8 J;subst hr;exact gn (by kernel_rfl)
def zG(N:Nat)(v1:ax):aiG Bool:=
 Option.bind (bif (v1.xK.toInt==(0:Int))then some ((v1.xL.length:Int)==(0:Int))else some false) fun v2=>
 some v2
theorem Ol(N:Nat)(v1:ax)(r:Bool)(J:zG N v1=some r):bg Tryz.prog 228 [(b9 v1)] (·=(aJ r)):=by
 rw[zG]at J;refine bD Tryz.func228 (by kernel_rfl) (by kernel_rfl) ?_;refine au af [[]] ?_;obtain⟨v2,h2,J⟩:=ar J;refine cM af [(2,(aJ v2))] [.cells (b9 v1).cells] ?_ ?_
 ·refine bc h2 (fun h1 h2=> ?_) fun h1 h2=> ?_
  ·cases h2;exact⟨so (os [12,15,18,21,25] (bT h1) [(19,oL v1.xL bZ)]),by kernel_rfl⟩
  cases h2;exact⟨so (os [12,15,18,21,25] (bF h1) []),by kernel_rfl⟩
 cases J;exact wr af []
def BA(N:Nat)(v1:az):aiG Bool:=
 bif (bL v1.bn==bL (bs []))then
  some ((v1.bp.length:Int)==(0:Int))
 else
  Option.bind (zG N v1.aK) fun v2=>
  some v2
theorem aby(N:Nat)(v1:az)(r:Bool)(J:BA N v1=some r):bg Tryz.prog 230 [(fx v1)] (·=(aJ r)):=by
 rw[BA]at J;refine bD Tryz.func230 (by kernel_rfl) (by kernel_rfl) ?_;refine au af [[],[]] ?_;refine bc J (fun h1 J=> ?_) fun h1 J=> ?_
 ·cases J;exact wr af [[(0,bT h1)],[(7,oL v1.bp bM)]]
 obtain⟨v2,h2,J⟩:=ar J;obtain rfl:=sj J;exact wr af [[(0,bF h1)],[(7,cL (Ol N v1.aK v2 h2))]]
def HV(N:Nat)(v1:az):aiG Bool:=
 Option.bind (BA N v1) fun v2=>
 some (!v2)
theorem acv(N:Nat)(v1:az)(r:Bool)(J:HV N v1=some r):bg Tryz.prog 229 [(fx v1)] (·=(aJ r)):=by
 rw[HV]at J;refine bD Tryz.func229 (by kernel_rfl) (by kernel_rfl) ?_;obtain⟨v2,h1,J⟩:=ar J;cases J;exact wr af [[],[(4,cL (aby N v1 v2 h1))]]
def we(N:Nat):aiE az→Nat→aiG Int
 |[],_=>
  some (-1:Int)
 |v4::v5,v2=>
  Option.bind (HV N v4) fun v6=>
  bif v6 then
   some (v2:Int)
  else
   (we N v5 (v2+1))
def Hb(N:Nat)(v1:aiE az):aiG Int:=
 we N v1 0
theorem afH(N:Nat)(v1:aiE az)(r:Int)(J:Hb N v1=some r):bY Tryz.prog 72 [(.d (.sl (bJ v1))),(.fn 229 [])] [] fun r1 h1=>r1=(ak r)∧h1=[]:=by
 rw[Hb]at J;refine eu 0 Tryz.func72 (by kernel_rfl) (by kernel_rfl) (ahX rfl) ?_;refine au af [[],[(4,oL v1 cn)]] ?_;refine dq 0 (bJ v1) (by kernel_rfl) fun h1=> ?_;have h2:=cd cn h1;refine cx af 1 [] [0,1,7,8] 0 (fun((v2,v3):Nat×(aiE az))=>⟨19,[(0,(.d (.sl (bJ v1)))),(1,(.fn 229 [])),(7,(ak (v1.length:Int))),(8,(ak (v2:Int)))],[]⟩) (fun((v2,v3):Nat×(aiE az))=>v1.drop v2=v3∧we N v3 v2=some r) (fun((v2,v3):Nat×(aiE az))=>v3.length) (0,v1) ⟨rfl,J⟩ ?_;rintro⟨v2,v3⟩ ⟨h3,J⟩ f1 aN;cases v3 with
 |nil=>
  rw[we]at J;cases J;exact ca af [[],[(0,bF (bO h3))],[]]
 |cons v4 v5=>
  rw[we]at J;obtain⟨v6,h4,J⟩:=ar J;refine au af [[],[(0,bT (bN h3))],[],[(10,oE (eH (aU h3))),(16,cL (acv N v4 v6 h4))]] ?_;refine bc J (fun h5 J=> ?_) fun h5 J=> ?_
  ·cases J;exact ca af [[(0,bT h5)],[]]
  exact ct af aN (v2+1,v5) [[(0,bF h5)],[(2,oq (bV h3 rfl h2))]] ⟨bR h3,J⟩
def DS(N:Nat)(v1:aiE az):aiG Bool:=
 Option.bind (Hb N v1) fun v2=>
 some (decide (v2≥(0:Int)))
theorem Xz(N:Nat)(v1:aiE az)(r:Bool)(J:DS N v1=some r):bY Tryz.prog 36 [(.d (.sl (bJ v1))),(.fn 229 [])] [] fun r1 h1=>r1=(aJ r)∧h1=[]:=by
 rw[DS]at J;refine eu 0 Tryz.func36 (by kernel_rfl) (by kernel_rfl) (ahX rfl) ?_;obtain⟨v2,h1,J⟩:=ar J;cases J;exact ca af [[],[(7,⟨_,_, .rq (cQ:=[(.d (.sl (bJ v1))),(.fn 229 [])]) (h:=[]) (l:=[]) (by kernel_rfl) (by kernel_rfl) (by kernel_rfl) (by kernel_rfl) (afH N v1 v2 h1)⟩)]]
def EE(N:Nat)(v1:aq):aiG Bool:=
 Option.bind (bif (v1.aX==(1:Int))then some true else some (v1.aX==(12:Int))) fun v2=>
 Option.bind (bif (decide (v1.aX<(1:Int)))then some true else some (decide (v1.aX>(18:Int)))) fun v3=>
 bif v3 then
  some false
 else
  Option.bind (bif (v1.aX==(1:Int))then some false else some (!((v1.db.xN.toInt==(0:Int64).toInt)&&((v1.db.xD.toInt==(0:Int64).toInt)&&true)))) fun v4=>
  bif v4 then
   some false
  else
   Option.bind (bif v2 then some false else some (!((v1.aw.ck==(0:Int))&&((v1.aw.cq==(0:Int))&&((v1.aw.cJ==(0:Int))&&((v1.aw.cH==(0:Int))&&((v1.aw.cK==(0:Int))&&true))))))) fun v5=>
   bif v5 then
    some false
   else
    Option.bind (bif (v1.aX==(2:Int))then some false else Option.bind (zG N v1.aK) fun v6=>
    some (!v6)) fun v7=>
    bif v7 then
     some false
    else
     Option.bind (bif (v1.aX==(3:Int))then some false else(bif (bL v1.ao==bL (bs []))then some (decide ((v1.xIdx.length:Int)>(0:Int)))else some true)) fun v8=>
     bif v8 then
      some false
     else
      Option.bind (DS N v1.xIdx) fun v9=>
      some (!v9)
theorem agL(N:Nat)(v1:aq)(r:Bool)(J:EE N v1=some r):bg Tryz.prog 200 [(aF v1)] (·=(aJ r)):=by
 rw[EE]at J;refine bD Tryz.func200 (by kernel_rfl) (by kernel_rfl) ?_;refine au af [[]] ?_;obtain⟨v2,h2,J⟩:=ar J;refine cM af [(3,(aJ (v1.aX==(1:Int)))),(4,(aJ v2))] [.cells (aF v1).cells] ?_ ?_
 ·refine bc h2 (fun h1 h2=> ?_) fun h1 h2=> ?_
  ·cases h2;exact⟨so (os [21,24,27,31] (bT h1) []),by kernel_rfl⟩
  cases h2;exact⟨so (os [21,24,27,31] (bF h1) []),by kernel_rfl⟩
 refine au af [[]] ?_;obtain⟨v3,h4,J⟩:=ar J;refine cM af [(24,(aJ v3))] [.cells (aF v1).cells] ?_ ?_
 ·refine bc h4 (fun h3 h4=> ?_) fun h3 h4=> ?_
  ·cases h4;exact⟨so (os [12,15,18,22] (bT h3) []),by kernel_rfl⟩
  cases h4;exact⟨so (os [12,15,18,22] (bF h3) []),by kernel_rfl⟩
 refine bc J (fun h5 J=> ?_) fun h5 J=> ?_
 ·cases J;exact wr af [[(0,bT h5)],[]]
 refine au af [[(0,bF h5)]] ?_;obtain⟨v4,h7,J⟩:=ar J;refine cM af [(33,(aJ v4))] [.cells (aF v1).cells] ?_ ?_
 ·refine bc h7 (fun h6 h7=> ?_) fun h6 h7=> ?_
  ·cases h7;exact⟨so (os [9,12,15,18,22] (bF (cG h6)) []),by kernel_rfl⟩
  cases h7;exact⟨so (os [9,12,15,18,22] (bT (cU h6)) []),by kernel_rfl⟩
 refine bc J (fun h8 J=> ?_) fun h8 J=> ?_
 ·cases J;exact wr af [[(0,bT h8)],[]]
 refine au af [[(0,bF h8)]] ?_;obtain⟨v5,aA,J⟩:=ar J;refine cM af [(42,(aJ v5))] [.cells (aF v1).cells] ?_ ?_
 ·refine bc aA (fun h9 aA=> ?_) fun h9 aA=> ?_
  ·cases aA;exact⟨so (os [9,12,15,18,22] (bF (cG h9)) []),by kernel_rfl⟩
  cases aA;exact⟨so (os [9,12,15,18,22] (bT (cU h9)) []),by kernel_rfl⟩
 refine bc J (fun a7 J=> ?_) fun a7 J=> ?_
 ·cases J;exact wr af [[(0,bT a7)],[]]
 refine au af [[(0,bF a7)]] ?_;obtain⟨v7,bm,J⟩:=ar J;refine cM af [(51,(aJ v7))] [.cells (aF v1).cells] ?_ ?_
 ·refine bc bm (fun bk bm=> ?_) fun bk bm=> ?_
  ·cases bm;exact⟨so (os [9,12,15,18,22] (bF (cG bk)) []),by kernel_rfl⟩
  obtain⟨v6,cg,bm⟩:=ar bm;cases bm;exact⟨so (os [9,12,15,18,22] (bT (cU bk)) [(16,cL (Ol N v1.aK v6 cg))]),by kernel_rfl⟩
 refine bc J (fun bQ J=> ?_) fun bQ J=> ?_
 ·cases J;exact wr af [[(0,bT bQ)],[]]
 refine au af [[(0,bF bQ)]] ?_;obtain⟨v8,bW,J⟩:=ar J;refine cM af [(60,(aJ v8))] [.cells (aF v1).cells] ?_ ?_
 ·refine bc bW (fun bo bW=> ?_) fun bo bW=> ?_
  ·cases bW;exact⟨so (os [9,12,15,18,33,37] (bF (cG bo)) (os [21,24,27,30] uN [])),by kernel_rfl⟩
  refine bc bW (fun cC bW=> ?_) fun cC bW=> ?_
  ·cases bW;exact⟨so (os [9,12,15,18,33,37] (bT (cU bo)) (os [21,24,27,30,34] (bF (cG cC)) [(28,oL v1.xIdx cn)])),by kernel_rfl⟩
  cases bW;exact⟨so (os [9,12,15,18,33,37] (bT (cU bo)) (os [21,24,27,30,34] (bT (cU cC)) [])),by kernel_rfl⟩
 refine bc J (fun dh J=> ?_) fun dh J=> ?_
 ·cases J;exact wr af [[(0,bT dh)],[]]
 obtain⟨v9,dH,J⟩:=ar J;cases J;exact wr af [[(0,bF dh)],[(7,⟨_,_, .rq (cQ:=[(.d (.sl (bJ v1.xIdx))),(.fn 229 [])]) (h:=[.cells (aF v1).cells]) (l:=[]) (by kernel_rfl) (by kernel_rfl) (by kernel_rfl) (by kernel_rfl) (Xz N v1.xIdx v9 dH)⟩)]]
def DW(N:Nat)(v1:az):aiG Bool:=
 Option.bind (bif (bL v1.bn==bL (bs []))then some false else Option.bind (ur N v1.bn) fun v2=>
 some (!v2)) fun v3=>
 some v3
theorem WY(N:Nat)(v1:az)(r:Bool)(J:DW N v1=some r):bg Tryz.prog 231 [(fx v1)] (·=(aJ r)):=by
 rw[DW]at J;refine bD Tryz.func231 (by kernel_rfl) (by kernel_rfl) ?_;refine au af [[]] ?_;obtain⟨v3,h3,J⟩:=ar J;refine cM af [(2,(aJ v3))] [.cells (fx v1).cells] ?_ ?_
 ·refine bc h3 (fun h1 h3=> ?_) fun h1 h3=> ?_
  ·cases h3;exact⟨so (os [12,15,18,21,25] (bF (cG h1)) []),by kernel_rfl⟩
  obtain⟨v2,h2,h3⟩:=ar h3;cases h3;exact⟨so (os [12,15,18,21,25] (bT (cU h1)) [(19,cL (EU N v1.bn v2 h2))]),by kernel_rfl⟩
 cases J;exact wr af []
def u4(N:Nat):aiE az→Nat→aiG Int
 |[],_=>
  some (-1:Int)
 |v4::v5,v2=>
  Option.bind (DW N v4) fun v6=>
  bif v6 then
   some (v2:Int)
  else
   (u4 N v5 (v2+1))
def Iz(N:Nat)(v1:aiE az):aiG Int:=
 u4 N v1 0
theorem Ys(N:Nat)(v1:aiE az)(r:Int)(J:Iz N v1=some r):bY Tryz.prog 72 [(.d (.sl (bJ v1))),(.fn 231 [])] [] fun r1 h1=>r1=(ak r)∧h1=[]:=by
 rw[Iz]at J;refine eu 0 Tryz.func72 (by kernel_rfl) (by kernel_rfl) (ahX rfl) ?_;refine au af [[],[(4,oL v1 cn)]] ?_;refine dq 0 (bJ v1) (by kernel_rfl) fun h1=> ?_;have h2:=cd cn h1;refine cx af 1 [] [0,1,7,8] 0 (fun((v2,v3):Nat×(aiE az))=>⟨19,[(0,(.d (.sl (bJ v1)))),(1,(.fn 231 [])),(7,(ak (v1.length:Int))),(8,(ak (v2:Int)))],[]⟩) (fun((v2,v3):Nat×(aiE az))=>v1.drop v2=v3∧u4 N v3 v2=some r) (fun((v2,v3):Nat×(aiE az))=>v3.length) (0,v1) ⟨rfl,J⟩ ?_;rintro⟨v2,v3⟩ ⟨h3,J⟩ f1 aN;cases v3 with
 |nil=>
  rw[u4]at J;cases J;exact ca af [[],[(0,bF (bO h3))],[]]
 |cons v4 v5=>
  rw[u4]at J;obtain⟨v6,h4,J⟩:=ar J;refine au af [[],[(0,bT (bN h3))],[],[(10,oE (eH (aU h3))),(16,cL (WY N v4 v6 h4))]] ?_;refine bc J (fun h5 J=> ?_) fun h5 J=> ?_
  ·cases J;exact ca af [[(0,bT h5)],[]]
  exact ct af aN (v2+1,v5) [[(0,bF h5)],[(2,oq (bV h3 rfl h2))]] ⟨bR h3,J⟩
def Fi(N:Nat)(v1:aiE az):aiG Bool:=
 Option.bind (Iz N v1) fun v2=>
 some (decide (v2≥(0:Int)))
theorem afX(N:Nat)(v1:aiE az)(r:Bool)(J:Fi N v1=some r):bY Tryz.prog 36 [(.d (.sl (bJ v1))),(.fn 231 [])] [] fun r1 h1=>r1=(aJ r)∧h1=[]:=by
 rw[Fi]at J;refine eu 0 Tryz.func36 (by kernel_rfl) (by kernel_rfl) (ahX rfl) ?_;obtain⟨v2,h1,J⟩:=ar J;cases J;exact ca af [[],[(7,⟨_,_, .rq (cQ:=[(.d (.sl (bJ v1))),(.fn 231 [])]) (h:=[]) (l:=[]) (by kernel_rfl) (by kernel_rfl) (by kernel_rfl) (by kernel_rfl) (Ys N v1 v2 h1)⟩)]]
def Dk(N:Nat)(v1:aq):aiG Bool:=
 Option.bind (bif (v1.aX==(3:Int))then Option.bind (ur N v1.ao) fun v2=>
 some (!v2)else some false) fun v3=>
 bif v3 then
  some false
 else
  Option.bind (Fi N v1.xIdx) fun v4=>
  some (!v4)
theorem Zn(N:Nat)(v1:aq)(r:Bool)(J:Dk N v1=some r):bg Tryz.prog 201 [(aF v1)] (·=(aJ r)):=by
 rw[Dk]at J;refine bD Tryz.func201 (by kernel_rfl) (by kernel_rfl) ?_;refine au af [[]] ?_;obtain⟨v3,h3,J⟩:=ar J;refine cM af [(11,(aJ v3))] [.cells (aF v1).cells] ?_ ?_
 ·refine bc h3 (fun h1 h3=> ?_) fun h1 h3=> ?_
  ·obtain⟨v2,h2,h3⟩:=ar h3;cases h3;exact⟨so (os [12,15,18,21,25] (bT h1) [(19,cL (EU N v1.ao v2 h2))]),by kernel_rfl⟩
  cases h3;exact⟨so (os [12,15,18,21,25] (bF h1) []),by kernel_rfl⟩
 refine bc J (fun h4 J=> ?_) fun h4 J=> ?_
 ·cases J;exact wr af [[(0,bT h4)],[]]
 obtain⟨v4,h5,J⟩:=ar J;cases J;exact wr af [[(0,bF h4)],[(7,⟨_,_, .rq (cQ:=[(.d (.sl (bJ v1.xIdx))),(.fn 231 [])]) (h:=[.cells (aF v1).cells]) (l:=[]) (by kernel_rfl) (by kernel_rfl) (by kernel_rfl) (by kernel_rfl) (afX N v1.xIdx v4 h5)⟩)]]
def yi(N:Nat)(v1:Int)(v3:Bool):aiG Int:=
 bif v3 then
  some (1:Int)
 else
  bif (v1==(11:Int))then
   some (3:Int)
  else
   some (2:Int)
def yK(N:Nat)(v1:Int)(v2:Bool):aiG Int:=
 bif v2 then
  some (0:Int)
 else
  bif (v1==(8:Int))then
   yi N v1 (v1==(8:Int))
  else
   bif (v1==(12:Int))then
    yi N v1 (v1==(12:Int))
   else
    yi N v1 (v1==(18:Int))
def CE(N:Nat)(v1:Int):aiG Int:=
 bif (v1==(1:Int))then
  yK N v1 (v1==(1:Int))
 else
  bif (v1==(2:Int))then
   yK N v1 (v1==(2:Int))
  else
   yK N v1 (v1==(3:Int))
theorem UT(N:Nat)(v1:Int)(r:Int)(J:CE N v1=some r):bg Tryz.prog 232 [(ak v1)] (·=(ak r)):=by
 rw[CE]at J;refine bD Tryz.func232 (by kernel_rfl) (by kernel_rfl) ?_;refine l0 af 1 [[],[],[]] [3,4] 0 (fun(v2:Bool)=>⟨14,[(3,(ak v1)),(4,(aJ v2))],[]⟩) (fun(v2:Bool)=>yK N v1 v2=some r) ?_ ?_
 ·intro f1 aN;refine bc J (fun h6 J=> ?_) fun h6 J=> ?_
  ·exact dR af aN (v1==(1:Int)) [[(0,bT h6)]] J
  refine au af [[(0,bF h6)],[]] ?_;refine bc J (fun h7 J=> ?_) fun h7 J=> ?_
  ·exact dR af aN (v1==(2:Int)) [[(0,bT h7)]] J
  exact dR af aN (v1==(3:Int)) [[(0,bF h7)],[]] J
 rintro v2 J
 try dsimp only at J
 rw[yK]at J;refine bc J (fun h1 J=> ?_) fun h1 J=> ?_
 ·cases J;exact wr af [[(0,bT h1)],[]]
 refine l0 af 2 [[(0,bF h1)],[]] [3,8] 0 (fun(v3:Bool)=>⟨14,[(3,(ak v1)),(8,(aJ v3))],[]⟩) (fun(v3:Bool)=>yi N v1 v3=some r) ?_ ?_
 ·intro f2 dU;refine bc J (fun h4 J=> ?_) fun h4 J=> ?_
  ·exact dR af dU (v1==(8:Int)) [[(0,bT h4)]] J
  refine au af [[(0,bF h4)],[]] ?_;refine bc J (fun h5 J=> ?_) fun h5 J=> ?_
  ·exact dR af dU (v1==(12:Int)) [[(0,bT h5)]] J
  exact dR af dU (v1==(18:Int)) [[(0,bF h5)],[]] J
 rintro v3 J
 try dsimp only at J
 rw[yi]at J;refine bc J (fun h2 J=> ?_) fun h2 J=> ?_
 ·cases J;exact wr af [[(0,bT h2)],[]]
 refine au af [[(0,bF h2)],[]] ?_;refine bc J (fun h3 J=> ?_) fun h3 J=> ?_
 ·cases J;exact wr af [[(0,bT h3)],[]]
 cases J;exact wr af [[(0,bF h3)],[]]
def E7(N:Nat)(v1:az):aiG Bool:=
 some (decide ((v1.bp.length:Int)>(6:Int)))
theorem afd(N:Nat)(v1:az)(r:Bool)(J:E7 N v1=some r):bg Tryz.prog 233 [(fx v1)] (·=(aJ r)):=by
 rw[E7]at J;refine bD Tryz.func233 (by kernel_rfl) (by kernel_rfl) ?_;cases J;exact wr af [[],[(7,oL v1.bp bM)]]
def xO(N:Nat):aiE az→Nat→aiG Int
 |[],_=>
  some (-1:Int)
 |v4::v5,v2=>
  Option.bind (E7 N v4) fun v6=>
  bif v6 then
   some (v2:Int)
  else
   (xO N v5 (v2+1))
def F6(N:Nat)(v1:aiE az):aiG Int:=
 xO N v1 0
theorem agO(N:Nat)(v1:aiE az)(r:Int)(J:F6 N v1=some r):bY Tryz.prog 72 [(.d (.sl (bJ v1))),(.fn 233 [])] [] fun r1 h1=>r1=(ak r)∧h1=[]:=by
 rw[F6]at J;refine eu 0 Tryz.func72 (by kernel_rfl) (by kernel_rfl) (ahX rfl) ?_;refine au af [[],[(4,oL v1 cn)]] ?_;refine dq 0 (bJ v1) (by kernel_rfl) fun h1=> ?_;have h2:=cd cn h1;refine cx af 1 [] [0,1,7,8] 0 (fun((v2,v3):Nat×(aiE az))=>⟨19,[(0,(.d (.sl (bJ v1)))),(1,(.fn 233 [])),(7,(ak (v1.length:Int))),(8,(ak (v2:Int)))],[]⟩) (fun((v2,v3):Nat×(aiE az))=>v1.drop v2=v3∧xO N v3 v2=some r) (fun((v2,v3):Nat×(aiE az))=>v3.length) (0,v1) ⟨rfl,J⟩ ?_;rintro⟨v2,v3⟩ ⟨h3,J⟩ f1 aN;cases v3 with
 |nil=>
  rw[xO]at J;cases J;exact ca af [[],[(0,bF (bO h3))],[]]
 |cons v4 v5=>
  rw[xO]at J;obtain⟨v6,h4,J⟩:=ar J;refine au af [[],[(0,bT (bN h3))],[],[(10,oE (eH (aU h3))),(16,cL (afd N v4 v6 h4))]] ?_;refine bc J (fun h5 J=> ?_) fun h5 J=> ?_
  ·cases J;exact ca af [[(0,bT h5)],[]]
  exact ct af aN (v2+1,v5) [[(0,bF h5)],[(2,oq (bV h3 rfl h2))]] ⟨bR h3,J⟩
def Hu(N:Nat)(v1:aiE az):aiG Bool:=
 Option.bind (F6 N v1) fun v2=>
 some (decide (v2≥(0:Int)))
theorem agE(N:Nat)(v1:aiE az)(r:Bool)(J:Hu N v1=some r):bY Tryz.prog 36 [(.d (.sl (bJ v1))),(.fn 233 [])] [] fun r1 h1=>r1=(aJ r)∧h1=[]:=by
 rw[Hu]at J;refine eu 0 Tryz.func36 (by kernel_rfl) (by kernel_rfl) (ahX rfl) ?_;obtain⟨v2,h1,J⟩:=ar J;cases J;exact ca af [[],[(7,⟨_,_, .rq (cQ:=[(.d (.sl (bJ v1))),(.fn 233 [])]) (h:=[]) (l:=[]) (by kernel_rfl) (by kernel_rfl) (by kernel_rfl) (by kernel_rfl) (agO N v1 v2 h1)⟩)]]
def Ek(N:Nat)(v1:aq):aiG Bool:=
 Option.bind (CE N v1.aX) fun v2=>
 Option.bind (bif ((v1.aM.length:Int) !=v2)then some true else some (decide ((v1.xIdx.length:Int)>(6:Int)))) fun v3=>
 bif v3 then
  some false
 else
  Option.bind (Hu N v1.xIdx) fun v4=>
  some (!v4)
theorem WC(N:Nat)(v1:aq)(r:Bool)(J:Ek N v1=some r):bg Tryz.prog 202 [(aF v1)] (·=(aJ r)):=by
 rw[Ek]at J;refine bD Tryz.func202 (by kernel_rfl) (by kernel_rfl) ?_;refine au af [[]] ?_;obtain⟨v2,h1,J⟩:=ar J;obtain⟨v3,h3,J⟩:=ar J;refine cM af [(15,(aJ v3))] [.cells (aF v1).cells] ?_ ?_
 ·refine bc h3 (fun h2 h3=> ?_) fun h2 h3=> ?_
  ·cases h3;exact⟨so (os [24,27,30,33,37] (bT h2) [(7,oL v1.aM b7),(16,cL (UT N v1.aX v2 h1))]),by kernel_rfl⟩
  cases h3;exact⟨so (os [24,27,30,33,37] (bF h2) [(7,oL v1.aM b7),(16,cL (UT N v1.aX v2 h1)),(31,oL v1.xIdx cn)]),by kernel_rfl⟩
 refine bc J (fun h4 J=> ?_) fun h4 J=> ?_
 ·cases J;exact wr af [[(0,bT h4)],[]]
 obtain⟨v4,h5,J⟩:=ar J;cases J;exact wr af [[(0,bF h4)],[(7,⟨_,_, .rq (cQ:=[(.d (.sl (bJ v1.xIdx))),(.fn 233 [])]) (h:=[.cells (aF v1).cells]) (l:=[]) (by kernel_rfl) (by kernel_rfl) (by kernel_rfl) (by kernel_rfl) (agE N v1.xIdx v4 h5)⟩)]]
def y8(N:Nat)(v1:aq):aiG Bool:=
 Option.bind (bif (decide ((13:Int)≤v1.aX))then some (decide (v1.aX≤(18:Int)))else some false) fun v2=>
 some v2
theorem SM(N:Nat)(v1:aq)(r:Bool)(J:y8 N v1=some r):bg Tryz.prog 137 [(aF v1)] (·=(aJ r)):=by
 rw[y8]at J;refine bD Tryz.func137 (by kernel_rfl) (by kernel_rfl) ?_;refine au af [[]] ?_;obtain⟨v2,h2,J⟩:=ar J;refine cM af [(2,(aJ v2))] [.cells (aF v1).cells] ?_ ?_
 ·refine bc h2 (fun h1 h2=> ?_) fun h1 h2=> ?_
  ·cases h2;exact⟨so (os [12,15,18,22] (bT h1) []),by kernel_rfl⟩
  cases h2;exact⟨so (os [12,15,18,22] (bF h1) []),by kernel_rfl⟩
 cases J;exact wr af []
def yr(N:Nat)(v1:Int)(v2:Int)(v3:Bool):aiG Bool:=
 bif v3 then
  some true
 else
  Option.bind (bif (v1==(11:Int))then some (v2==(0:Int))else some false) fun v4=>
  some v4
def DG(N:Nat)(v1:Int)(v2:Int):aiG Bool:=
 bif (v1==(16:Int))then
  yr N v1 v2 (v1==(16:Int))
 else
  bif (v1==(17:Int))then
   yr N v1 v2 (v1==(17:Int))
  else
   yr N v1 v2 (v1==(18:Int))
theorem XG(N:Nat)(v1:Int)(v2:Int)(r:Bool)(J:DG N v1 v2=some r):bg Tryz.prog 234 [(ak v1),(ak v2)] (·=(aJ r)):=by
 rw[DG]at J;refine bD Tryz.func234 (by kernel_rfl) (by kernel_rfl) ?_;refine l0 af 1 [[],[],[]] [0,1,6] 0 (fun(v3:Bool)=>⟨16,[(0,(ak v1)),(1,(ak v2)),(6,(aJ v3))],[]⟩) (fun(v3:Bool)=>yr N v1 v2 v3=some r) ?_ ?_
 ·intro f1 aN;refine bc J (fun h4 J=> ?_) fun h4 J=> ?_
  ·exact dR af aN (v1==(16:Int)) [[(0,bT h4)]] J
  refine au af [[(0,bF h4)],[]] ?_;refine bc J (fun h5 J=> ?_) fun h5 J=> ?_
  ·exact dR af aN (v1==(17:Int)) [[(0,bT h5)]] J
  exact dR af aN (v1==(18:Int)) [[(0,bF h5)],[]] J
 rintro v3 J
 try dsimp only at J
 rw[yr]at J;refine bc J (fun h1 J=> ?_) fun h1 J=> ?_
 ·cases J;exact wr af [[(0,bT h1)],[]]
 refine au af [[(0,bF h1)]] ?_;obtain⟨v4,h3,J⟩:=ar J;refine cM af [(4,(aJ v4))] [] ?_ ?_
 ·refine bc h3 (fun h2 h3=> ?_) fun h2 h3=> ?_
  ·cases h3;exact⟨so (os [9,12,16] (bT h2) []),by kernel_rfl⟩
  cases h3;exact⟨so (os [9,12,16] (bF h2) []),by kernel_rfl⟩
 cases J;exact wr af []
def wo(N:Nat)(v1:aq):aiE aq→Nat→aiG Bool
 |[],_=>
  some true
 |v7::v8,v5=>
  Option.bind (y8 N v7) fun v9=>
  Option.bind (DG N v1.aX (v5:Int)) fun v10=>
  bif (v9==v10)then
   (wo N v1 v8 (v5+1))
  else
   some false
def C5(N:Nat)(v1:aq):aiG Bool:=
 Option.bind (bif (v1.aX==(1:Int))then Option.bind (rT N v1.aw) fun v2=>
 some (v2 !=(0:Int))else(bif (v1.aX==(12:Int))then Option.bind (rT N v1.aw) fun v3=>
 some (v3 !=(0:Int))else some false)) fun v4=>
 bif v4 then
  some false
 else
  wo N v1 v1.aM 0
theorem YB(N:Nat)(v1:aq)(r:Bool)(J:C5 N v1=some r):bg Tryz.prog 203 [(aF v1)] (·=(aJ r)):=by
 rw[C5]at J;refine bD Tryz.func203 (by kernel_rfl) (by kernel_rfl) ?_;refine au af [[]] ?_;obtain⟨v4,h5,J⟩:=ar J;refine cM af [(18,(aJ v4))] [.cells (aF v1).cells] ?_ ?_
 ·refine bc h5 (fun h1 h5=> ?_) fun h1 h5=> ?_
  ·obtain⟨v2,h2,h5⟩:=ar h5;cases h5;exact⟨so (os [12,15,18,22] (bT h1) (os [27,30,33,36,40] (bT rfl) [(34,cL (HI N v1.aw v2 h2))])),by kernel_rfl⟩
  refine bc h5 (fun h3 h5=> ?_) fun h3 h5=> ?_
  ·obtain⟨v3,h4,h5⟩:=ar h5;cases h5;exact⟨so (os [12,15,18,22] (bF h1) (os [27,30,33,36,40] (bT h3) [(34,cL (HI N v1.aw v3 h4))])),by kernel_rfl⟩
  cases h5;exact⟨so (os [12,15,18,22] (bF h1) (os [27,30,33,36,40] (bF h3) [])),by kernel_rfl⟩
 refine bc J (fun h6 J=> ?_) fun h6 J=> ?_
 ·cases J;exact wr af [[(0,bT h6)],[]]
 refine au af [[(0,bF h6)],[(7,oL v1.aM b7)]] ?_;refine dq 20 (cT v1.aM) (by kernel_rfl) fun h7=> ?_;have h8:=cd b7 h7;refine cx af 1 [] [1,20,21,22] 1 (fun((v5,v6):Nat×(aiE aq))=>⟨35,[(1,(.ptr 0 0)),(20,(.d (.sl (cT v1.aM)))),(21,(ak (v1.aM.length:Int))),(22,(ak (v5:Int)))],[.cells (aF v1).cells]⟩) (fun((v5,v6):Nat×(aiE aq))=>v1.aM.drop v5=v6∧wo N v1 v6 v5=some r) (fun((v5,v6):Nat×(aiE aq))=>v6.length) (0,v1.aM) ⟨rfl,J⟩ ?_;rintro⟨v5,v6⟩ ⟨h9,J⟩ f1 aN;cases v6 with
 |nil=>
  rw[wo]at J;cases J;exact wr af [[],[(0,bF (bO h9))],[]]
 |cons v7 v8=>
  rw[wo]at J;obtain⟨v9,aA,J⟩:=ar J;obtain⟨v10,a7,J⟩:=ar J;refine au af [[],[(0,bT (bN h9))],[(4,oE (ik (aU h9)))],[(4,cL (SM N v7 v9 aA)),(16,cL (XG N v1.aX (v5:Int) v10 a7))]] ?_;refine bc J (fun bk J=> ?_) fun bk J=> ?_
  ·exact ct af aN (v5+1,v8) [[(0,bF (cG bk))],[(2,oq (bV h9 rfl h8))]] ⟨bR h9,J⟩
  cases J;exact wr af [[(0,bT (cU bk))],[]]
def B3(N:Nat)(v1:Int):aiG Bool:=
 Option.bind (bif (decide (v1≥(2:Int)))then some (decide (v1≤(31:Int)))else some false) fun v2=>
 some v2
theorem OH(N:Nat)(v1:Int)(r:Bool)(J:B3 N v1=some r):bg Tryz.prog 253 [(ak v1)] (·=(aJ r)):=by
 rw[B3]at J;refine bD Tryz.func253 (by kernel_rfl) (by kernel_rfl) ?_;refine au af [[]] ?_;obtain⟨v2,h2,J⟩:=ar J;refine cM af [(2,(aJ v2))] [] ?_ ?_
 ·refine bc h2 (fun h1 h2=> ?_) fun h1 h2=> ?_
  ·cases h2;exact⟨so (os [9,12,16] (bT h1) []),by kernel_rfl⟩
  cases h2;exact⟨so (os [9,12,16] (bF h1) []),by kernel_rfl⟩
 cases J;exact wr af []
def G4(N:Nat)(v1:Int):aiG Int64:=
 Option.bind (B3 N v1) fun v2=>
 bif v2 then
  bif (decide ((0:Int)≤(IntKind.u64.wrap (aV (v1-(1:Int))))))then
  some (-(Int64.ofInt ((1:Int)*2^(min ((IntKind.u64.wrap (aV (v1-(1:Int))))).toNat (IntKind.bits .i64)))))
  else none
 else
  some (0:Int64)
theorem Sy(N:Nat)(v1:Int)(r:Int64)(J:G4 N v1=some r):bg Tryz.prog 245 [(ak v1)] (·=(bu r)):=by
 rw[G4]at J;refine bD Tryz.func245 (by kernel_rfl) (by kernel_rfl) ?_;obtain⟨v2,h1,J⟩:=ar J;refine au af [[],[(4,cL (OH N v1 v2 h1))]] ?_;refine bc J (fun h2 J=> ?_) fun h2 J=> ?_
 ·obtain⟨h3,J⟩:=dg J;cases J;exact wr af [[(0,bF (cG h2))],[(10,⟨_,_, .nn (b:=(IntKind.u64.wrap (aV (v1-(1:Int))))) (of_decide_eq_true h3)⟩),(11,⟨_,_, .eq (nF ((1:Int)*2^(min ((IntKind.u64.wrap (aV (v1-(1:Int))))).toNat (IntKind.bits .i64))))⟩),(14,⟨_,_, .eq (GZ (Int64.ofInt ((1:Int)*2^(min ((IntKind.u64.wrap (aV (v1-(1:Int))))).toNat (IntKind.bits .i64)))))⟩)]]
 cases J;exact wr af [[(0,bT (cU h2))],[]]
def GF(N:Nat)(v1:Int):aiG Int64:=
 Option.bind (B3 N v1) fun v2=>
 bif v2 then
  bif (decide ((0:Int)≤(IntKind.u64.wrap (aV (v1-(1:Int))))))then
  some ((Int64.ofInt ((1:Int)*2^(min ((IntKind.u64.wrap (aV (v1-(1:Int))))).toNat (IntKind.bits .i64))))-(1:Int64))
  else none
 else
  some (0:Int64)
theorem aaW(N:Nat)(v1:Int)(r:Int64)(J:GF N v1=some r):bg Tryz.prog 246 [(ak v1)] (·=(bu r)):=by
 rw[GF]at J;refine bD Tryz.func246 (by kernel_rfl) (by kernel_rfl) ?_;obtain⟨v2,h1,J⟩:=ar J;refine au af [[],[(4,cL (OH N v1 v2 h1))]] ?_;refine bc J (fun h2 J=> ?_) fun h2 J=> ?_
 ·obtain⟨h3,J⟩:=dg J;cases J;exact wr af [[(0,bF (cG h2))],[(10,⟨_,_, .nn (b:=(IntKind.u64.wrap (aV (v1-(1:Int))))) (of_decide_eq_true h3)⟩),(11,⟨_,_, .eq (nF ((1:Int)*2^(min ((IntKind.u64.wrap (aV (v1-(1:Int))))).toNat (IntKind.bits .i64))))⟩),(14,⟨_,_, .eq (u3 (Int64.ofInt ((1:Int)*2^(min ((IntKind.u64.wrap (aV (v1-(1:Int))))).toNat (IntKind.bits .i64)))) (1:Int64))⟩)]]
 cases J;exact wr af [[(0,bT (cU h2))],[]]
def A3(N:Nat)(v1:bB)(v2:gg):aiG Bool:=
 Option.bind (zo N v1) fun v3=>
 Option.bind (bif (v3==(0:Int))then(bif (v2.xD.toInt==(1:Int))then Option.bind (G4 N v1.cq) fun v4=>
 (bif (decide (v2.xN.toInt≥v4.toInt))then Option.bind (GF N v1.cq) fun v5=>
 some (decide (v2.xN.toInt≤v5.toInt))else some false)else some false)else some false) fun v6=>
 some v6
theorem adN(N:Nat)(v1:bB)(v2:gg)(r:Bool)(J:A3 N v1 v2=some r):bg Tryz.prog 235 [(eZ v1),(pW v2)] (·=(aJ r)):=by
 rw[A3]at J;refine bD Tryz.func235 (by kernel_rfl) (by kernel_rfl) ?_;refine au af [[]] ?_;obtain⟨v3,h1,J⟩:=ar J;obtain⟨v6,h7,J⟩:=ar J;refine cM af [(4,(aJ v6))] [.cells (eZ v1).cells, .cells (pW v2).cells] ?_ ?_
 ·refine bc h7 (fun h2 h7=> ?_) fun h2 h7=> ?_
  ·refine bc h7 (fun h3 h7=> ?_) fun h3 h7=> ?_
   ·obtain⟨v4,h4,h7⟩:=ar h7;refine bc h7 (fun h5 h7=> ?_) fun h5 h7=> ?_
    ·obtain⟨v5,h6,h7⟩:=ar h7;cases h7;exact⟨so (os [12,15,18,22] (bT h2) (os [27,30,33,36,39,42,46] (bT h3) (os [51,54,57,60,63,66,70] (bT h5) [(4,cL (AQ N v1 v3 h1)),(40,cL (Sy N v1.cq v4 h4)),(64,cL (aaW N v1.cq v5 h6))]))),by kernel_rfl⟩
    cases h7;exact⟨so (os [12,15,18,22] (bT h2) (os [27,30,33,36,39,42,46] (bT h3) (os [51,54,57,60,63,66,70] (bF h5) [(4,cL (AQ N v1 v3 h1)),(40,cL (Sy N v1.cq v4 h4))]))),by kernel_rfl⟩
   cases h7;exact⟨so (os [12,15,18,22] (bT h2) (os [27,30,33,36,39,42,46] (bF h3) (os [51,54,57,60,63,66,70] (bF rfl) [(4,cL (AQ N v1 v3 h1))]))),by kernel_rfl⟩
  cases h7;exact⟨so (os [12,15,18,22] (bF h2) (os [27,30,33,36,39,42,46,51,54,57,60,63,66,70] (bF rfl) [(4,cL (AQ N v1 v3 h1))])),by kernel_rfl⟩
 cases J;exact wr af []
def E9(N:Nat)(v1:Int64):aiG Bool:=
 Option.bind (bif (decide (v1.toInt≥(-2147483647:Int)))then some (decide (v1.toInt≤(2147483647:Int)))else some false) fun v2=>
 some v2
theorem Zd(N:Nat)(v1:Int64)(r:Bool)(J:E9 N v1=some r):bg Tryz.prog 236 [(bu v1)] (·=(aJ r)):=by
 rw[E9]at J;refine bD Tryz.func236 (by kernel_rfl) (by kernel_rfl) ?_;refine au af [[]] ?_;obtain⟨v2,h2,J⟩:=ar J;refine cM af [(2,(aJ v2))] [] ?_ ?_
 ·refine bc h2 (fun h1 h2=> ?_) fun h1 h2=> ?_
  ·cases h2;exact⟨so (os [9,12,16] (bT h1) []),by kernel_rfl⟩
  cases h2;exact⟨so (os [9,12,16] (bF h1) []),by kernel_rfl⟩
 cases J;exact wr af []
def HG(N:Nat)(v1:Int64):aiG Bool:=
 Option.bind (bif (decide (v1.toInt≥(-2147483647:Int)))then some (decide (v1.toInt≤(2147483647:Int)))else some false) fun v2=>
 some v2
theorem RW(N:Nat)(v1:Int64)(r:Bool)(J:HG N v1=some r):bg Tryz.prog 247 [(bu v1)] (·=(aJ r)):=by
 rw[HG]at J;refine bD Tryz.func247 (by kernel_rfl) (by kernel_rfl) ?_;refine au af [[]] ?_;obtain⟨v2,h2,J⟩:=ar J;refine cM af [(2,(aJ v2))] [] ?_ ?_
 ·refine bc h2 (fun h1 h2=> ?_) fun h1 h2=> ?_
  ·cases h2;exact⟨so (os [9,12,16] (bT h1) []),by kernel_rfl⟩
  cases h2;exact⟨so (os [9,12,16] (bF h1) []),by kernel_rfl⟩
 cases J;exact wr af []
def DU(N:Nat)(v1:Int64):aiG Int:=
 bif (decide (v1.toInt<(0:Int)))then
  some (IntKind.u64.wrap (0-(IntKind.u64.wrap v1.toInt)))
 else
  some (IntKind.u64.wrap v1.toInt)
theorem acY(N:Nat)(v1:Int64)(r:Int)(J:DU N v1=some r):bg Tryz.prog 249 [(bu v1)] (·=(.d (.v (.int .u64 r)))):=by
 rw[DU]at J;refine bD Tryz.func249 (by kernel_rfl) (by kernel_rfl) ?_;refine au af [[],[]] ?_;refine bc J (fun h1 J=> ?_) fun h1 J=> ?_
 ·cases J;exact wr af [[(0,bT h1)],[]]
 cases J;exact wr af [[(0,bF h1)],[]]
def vx(N:Nat):Nat→Int→Int→aiG Int
 |0,_,_=>none
 |v3+1,v4,v5=>
  bif (v5 !=(0:Int))then
   (fun b6 dZ=>vx N v3 b6 dZ) v5 ((v4).tmod v5)
  else
   some v4
def Gd(N:Nat)(v1:Int)(v2:Int):aiG Int:=
 vx N N v1 v2
theorem aeL(N:Nat)(v1:Int)(v2:Int)(r:Int)(J:Gd N v1 v2=some r):bg Tryz.prog 248 [(.d (.v (.int .u64 v1))),(.d (.v (.int .u64 v2)))] (·=(.d (.v (.int .u64 r)))):=by
 rw[Gd]at J;refine bD Tryz.func248 (by kernel_rfl) (by kernel_rfl) ?_;refine cx af 1 [[]] [0,1] 0 (fun((v3,v4,v5):Nat×Int×Int)=>⟨12,[(0,(.d (.v (.int .u64 v4)))),(1,(.d (.v (.int .u64 v5))))],[]⟩) (fun((v3,v4,v5):Nat×Int×Int)=>vx N v3 v4 v5=some r) (fun((v3,v4,v5):Nat×Int×Int)=>v3) (N,v1,v2) J ?_;rintro⟨v3,v4,v5⟩ J f1 aN
 try dsimp only at J
 cases v3 with
 |zero=>
  rw[vx]at J;cases J
 |succ v3=>
  rw[vx]at J;refine au af [[]] ?_;refine bc J (fun h1 J=> ?_) fun h1 J=> ?_
  ·exact ct af aN (v3,v5,((v4).tmod v5)) [[(0,bT h1)],[(10,⟨_,_, .nz (b:=v5) (bne_iff_ne.1 h1)⟩)]] J
  cases J;exact wr af [[(0,bF h1)],[]]
def HK(N:Nat)(v1:gg):aiG Bool:=
 Option.bind (bif (decide (v1.xD.toInt≥(1:Int)))then(bif (decide (v1.xD.toInt≤(2147483647:Int)))then Option.bind (HG N v1.xN) fun v2=>
 (bif v2 then Option.bind (DU N v1.xN) fun v3=>
 Option.bind (Gd N v3 (IntKind.u64.wrap v1.xD.toInt)) fun v4=>
 some (v4==(1:Int))else some false)else some false)else some false) fun v5=>
 some v5
theorem XO(N:Nat)(v1:gg)(r:Bool)(J:HK N v1=some r):bg Tryz.prog 237 [(pW v1)] (·=(aJ r)):=by
 rw[HK]at J;refine bD Tryz.func237 (by kernel_rfl) (by kernel_rfl) ?_;refine au af [[]] ?_;obtain⟨v5,h7,J⟩:=ar J;refine cM af [(2,(aJ v5))] [.cells (pW v1).cells] ?_ ?_
 ·refine bc h7 (fun h1 h7=> ?_) fun h1 h7=> ?_
  ·refine bc h7 (fun h2 h7=> ?_) fun h2 h7=> ?_
   ·obtain⟨v2,h3,h7⟩:=ar h7;refine bc h7 (fun h4 h7=> ?_) fun h4 h7=> ?_
    ·obtain⟨v3,h5,h7⟩:=ar h7;obtain⟨v4,h6,h7⟩:=ar h7;cases h7;exact⟨so (os [12,15,18,22] (bT h1) (os [27,30,33,37] (bT h2) (os [42,45,48,51,54,57,60,63,67] (bT h4) [(34,cL (RW N v1.xN v2 h3)),(49,cL (acY N v1.xN v3 h5)),(61,cL (aeL N v3 (IntKind.u64.wrap v1.xD.toInt) v4 h6))]))),by kernel_rfl⟩
    cases h7;exact⟨so (os [12,15,18,22] (bT h1) (os [27,30,33,37] (bT h2) (os [42,45,48,51,54,57,60,63,67] (bF h4) [(34,cL (RW N v1.xN v2 h3))]))),by kernel_rfl⟩
   cases h7;exact⟨so (os [12,15,18,22] (bT h1) (os [27,30,33,37] (bF h2) (os [42,45,48,51,54,57,60,63,67] (bF rfl) []))),by kernel_rfl⟩
  cases h7;exact⟨so (os [12,15,18,22] (bF h1) (os [27,30,33,37,42,45,48,51,54,57,60,63,67] (bF rfl) [])),by kernel_rfl⟩
 cases J;exact wr af []
def CK(N:Nat)(v1:bB)(v2:gg):aiG Bool:=
 Option.bind (rT N v1) fun v3=>
 bif (v3 !=(0:Int))then
  some false
 else
  bif (v1.ck==(2:Int))then
   Option.bind (A3 N v1 v2) fun v4=>
   some v4
  else
   bif (v1.ck==(3:Int))then
    Option.bind (bif (v2.xD.toInt==(1:Int))then Option.bind (E9 N v2.xN) fun v5=>
    some v5 else some false) fun v6=>
    some v6
   else
    Option.bind (HK N v2) fun v7=>
    some v7
theorem aeI(N:Nat)(v1:bB)(v2:gg)(r:Bool)(J:CK N v1 v2=some r):bg Tryz.prog 204 [(eZ v1),(pW v2)] (·=(aJ r)):=by
 rw[CK]at J;refine bD Tryz.func204 (by kernel_rfl) (by kernel_rfl) ?_;obtain⟨v3,h1,J⟩:=ar J;refine au af [[],[(4,cL (HI N v1 v3 h1))]] ?_;refine bc J (fun h2 J=> ?_) fun h2 J=> ?_
 ·cases J;exact wr af [[(0,bT h2)],[]]
 refine au af [[(0,bF h2)],[],[]] ?_;refine bc J (fun h3 J=> ?_) fun h3 J=> ?_
 ·obtain⟨v4,h4,J⟩:=ar J;obtain rfl:=sj J;exact wr af [[(0,bT h3)],[(7,cL (adN N v1 v2 v4 h4))]]
 refine au af [[(0,bF h3)],[]] ?_;refine bc J (fun h5 J=> ?_) fun h5 J=> ?_
 ·refine au af [[(0,bT h5)]] ?_;obtain⟨v6,h8,J⟩:=ar J;refine cM af [(4,(aJ v6))] [.cells (eZ v1).cells, .cells (pW v2).cells] ?_ ?_
  ·refine bc h8 (fun h6 h8=> ?_) fun h6 h8=> ?_
   ·obtain⟨v5,h7,h8⟩:=ar h8;obtain rfl:=sj h8;exact⟨so (os [12,15,18,22] (bT h6) [(19,cL (Zd N v2.xN v5 h7))]),by kernel_rfl⟩
   cases h8;exact⟨so (os [12,15,18,22] (bF h6) []),by kernel_rfl⟩
  cases J;exact wr af []
 obtain⟨v7,h9,J⟩:=ar J;obtain rfl:=sj J;exact wr af [[(0,bF h5)],[(4,cL (XO N v2 v7 h9))]]
def Kr(N:Nat)(v1:aq):aiG aq:=some v1
theorem WE(N:Nat)(v1 r:aq)(J:Kr N v1=some r):bg Tryz.prog 205 [(aF v1)] (·=(.fn 238 [(.bt [dy r] 0 0)])):=by
 cases J;exact Zu v1
def uA(N:Nat):aiE ax→aiG Int
 |[]=>
  some (0:Int)
 |v9::v10=>
  Option.bind (rk N v9) fun v11=>
  bif (v11 !=(0:Int))then
   some (1:Int)
  else
   (uA N v10)
def Ed(N:Nat)(v1:aq):aiG Int:=
 Option.bind (EE N v1) fun v2=>
 bif v2 then
  Option.bind (Dk N v1) fun v3=>
  bif v3 then
   Option.bind (Ek N v1) fun v4=>
   bif v4 then
    Option.bind (C5 N v1) fun v5=>
    bif v5 then
     Option.bind (bif (v1.aX==(1:Int))then Option.bind (CK N v1.aw v1.db) fun v6=>
     some (!v6)else some false) fun v7=>
     bif v7 then
      some (1:Int)
     else
      Option.bind (Kr N v1) fun v8=>
      uA N (kh v8)
    else
     some (10:Int)
   else
    some (11:Int)
  else
   some (7:Int)
 else
  some (5:Int)
theorem Yz(N:Nat)(v1:aq)(r:Int)(J:Ed N v1=some r):bg Tryz.prog 168 [(aF v1)] (·=(ak r)):=by
 rw[Ed]at J;refine qg Tryz.func168 rfl (by kernel_rfl) ?_;refine gF [0] 0 (ah0 _) (s':=⟨38,[(0,(aF v1))],[]⟩) (by kernel_rfl) ?_;refine aR ?_;refine rg [] [(1,(.ptr 0 0)),(2,(.ptr 1 0))] [.cells (aF v1).cells, .cells [(ak (0:Int))]] (by kernel_rfl) ?_;refine aR ?_;refine fe ?_;refine aR ?_;obtain⟨v2,h1,J⟩:=ar J;refine rg [(4,cL (agL N v1 v2 h1))] [(4,(aJ (!v2)))] [.cells (aF v1).cells, .cells [(ak (0:Int))]] (by kernel_rfl) ?_;rcases fQ v2 with h2|h2
 ·replace J:=(dA h2).symm.trans J;refine fv (t:=(!v2)) (by kernel_rfl) (cG h2) ?_;refine aR ?_;obtain⟨v3,h3,J⟩:=ar J;refine rg [(4,cL (Zn N v1 v3 h3))] [(8,(aJ (!v3)))] [.cells (aF v1).cells, .cells [(ak (0:Int))]] (by kernel_rfl) ?_;rcases fQ v3 with h4|h4
  ·replace J:=(dA h4).symm.trans J;refine fv (t:=(!v3)) (by kernel_rfl) (cG h4) ?_;refine aR ?_;obtain⟨v4,h5,J⟩:=ar J;refine rg [(4,cL (WC N v1 v4 h5))] [(12,(aJ (!v4)))] [.cells (aF v1).cells, .cells [(ak (0:Int))]] (by kernel_rfl) ?_;rcases fQ v4 with h6|h6
   ·replace J:=(dA h6).symm.trans J;refine fv (t:=(!v4)) (by kernel_rfl) (cG h6) ?_;refine aR ?_;obtain⟨v5,h7,J⟩:=ar J;refine rg [(4,cL (YB N v1 v5 h7))] [(16,(aJ (!v5)))] [.cells (aF v1).cells, .cells [(ak (0:Int))]] (by kernel_rfl) ?_;rcases fQ v5 with h8|h8
    ·replace J:=(dA h8).symm.trans J;refine fv (t:=(!v5)) (by kernel_rfl) (cG h8) ?_;refine aR ?_;obtain⟨v7,a7,J⟩:=ar J;refine VS [(20,(aJ v7))] [.cells (aF v1).cells, .cells [(ak (0:Int))]] ?_ ?_
     ·rcases fQ (v1.aX==(1:Int))with h9|h9
      ·replace a7:=(dA h9).symm.trans a7;obtain⟨v6,aA,a7⟩:=ar a7;have he:=ah8 a7;subst he;exact⟨[(12,bT h9),(15,bT h9),(18,bT h9),(21,bT h9),(24,bT h9),(25,cL (aeI N v1.aw v1.db v6 aA)),(27,bT h9),(31,bT h9)],by kernel_rfl⟩
      replace a7:=(fS h9).symm.trans a7;have he:=ah8 a7;subst he;exact⟨[(12,bF h9),(15,bF h9),(18,bF h9),(21,bF h9),(24,bF h9),(27,bF h9),(31,bF h9)],by kernel_rfl⟩
     rcases fQ v7 with bk|bk
     ·replace J:=(dA bk).symm.trans J;refine fB (t:=v7) (by kernel_rfl) bk ?_;refine aR ?_;refine rg [] [] [.cells (aF v1).cells, .cells [(ak (1:Int))]] (by kernel_rfl) ?_;refine dN (fq (ej ?_));have hr:=ah8 J;subst hr;exact gn (by kernel_rfl)
     replace J:=(fS bk).symm.trans J;refine fv (t:=v7) (by kernel_rfl) bk ?_;refine et ?_;refine iA ?_;refine cv ?_;refine aR ?_;refine aR ?_;obtain⟨v8,cg,J⟩:=ar J;refine rg [(4,cL (WE N v1 v8 cg))] [(33,(.fn 238 [(.bt [dy v8] 0 0)]))] [.cells (aF v1).cells, .cells [(ak (0:Int))]] (by kernel_rfl) ?_;refine fe ?_;refine gF [2,33] 2 (ahX rfl) (s':=⟨38,[(2,(.ptr 1 0)),(33,(.fn 238 [(.bt [dy v8] 0 0)]))],[.cells (aF v1).cells, .cells [(ak (0:Int))]]⟩) (by kernel_rfl) ?_;refine HO (m:=2) (enc:=b9) (xs:=(kh v8)) (by kernel_rfl) (ad4 v8) (fun(_:Unit)=>[.cells (aF v1).cells, .cells [(ak (0:Int))]]) (fun(_:Unit) l=>uA N l=some r) () (by kernel_rfl) J (by rintro _;rfl) (by rintro _;kernel_rfl) (by kernel_rfl) rfl ?_ ?_
     ·rintro _ v9 v10 J bm kr kt
      try dsimp only at J
      rw[uA]at J;refine gF [2,34] 3 (ah0 _) (s':=⟨38,[(2,(.ptr 1 0)),(34,(b9 v9))],[.cells (aF v1).cells, .cells [(ak (0:Int))], .lp .ready 34 kr kt (dM 38 [(2,(.ptr 1 0)),(33,(.fn 238 [(.bt [dy v8] 0 0)]))])]⟩) (by kernel_rfl) ?_;refine re [] [(3,(.ptr 3 0))] [.cells (aF v1).cells, .cells [(ak (0:Int))], .lp .ready 34 kr kt (dM 38 [(2,(.ptr 1 0)),(33,(.fn 238 [(.bt [dy v8] 0 0)]))]), .cells (b9 v9).cells] (by kernel_rfl) ?_;refine cv ?_;refine⟨[.cells (aF v1).cells, .cells [(ak (0:Int))]],[.cells (b9 v9).cells],rfl,(by kernel_rfl),?_⟩;refine gF [2,3] 4 (ahX rfl) (s':=⟨38,[(2,(.ptr 1 0)),(3,(.ptr 3 0))],[.cells (aF v1).cells, .cells [(ak (0:Int))], .lp .busy 34 kr kt (dM 38 [(2,(.ptr 1 0)),(33,(.fn 238 [(.bt [dy v8] 0 0)]))]), .cells (b9 v9).cells]⟩) (by kernel_rfl) ?_;refine fe ?_;refine aR ?_;obtain⟨v11,bQ,J⟩:=ar J;refine rg [(4,cL (vK N v9 v11 bQ))] [(37,(aJ (v11 !=(0:Int))))] [.cells (aF v1).cells, .cells [(ak (0:Int))], .lp .busy 34 kr kt (dM 38 [(2,(.ptr 1 0)),(33,(.fn 238 [(.bt [dy v8] 0 0)]))]), .cells (b9 v9).cells] (by kernel_rfl) ?_;rcases fQ (v11 !=(0:Int))with bo|bo
      ·replace J:=(dA bo).symm.trans J;refine fB (t:=(v11 !=(0:Int))) (by kernel_rfl) bo ?_;refine aR ?_;refine rg [] [] [.cells (aF v1).cells, .cells [(ak (1:Int))], .lp .busy 34 kr kt (dM 38 [(2,(.ptr 1 0)),(33,(.fn 238 [(.bt [dy v8] 0 0)]))]), .cells (b9 v9).cells] (by kernel_rfl) ?_;refine dN (fq ?_);refine Jj [.cells (aF v1).cells, .cells [(ak (1:Int))]] rfl (by kernel_rfl) (by kernel_rfl) ?_;refine(fq (ej ?_));have hr:=ah8 J;subst hr;exact gn (by kernel_rfl)
      replace J:=(fS bo).symm.trans J;refine fv (t:=(v11 !=(0:Int))) (by kernel_rfl) bo ?_;refine et ?_;refine iA ?_;refine E8 [.cells (aF v1).cells, .cells [(ak (0:Int))]] rfl (by kernel_rfl) (by kernel_rfl) ?_;exact⟨(),(by kernel_rfl),J⟩
     rintro _ J
     try dsimp only at J
     rw[uA]at J;refine iA ?_;refine cv ?_;refine aR ?_;refine rg [] [] [.cells (aF v1).cells, .cells [(ak (0:Int))], .gone] (by kernel_rfl) ?_;refine dN ?_;have hr:=ah8 J;subst hr;exact gn (by kernel_rfl)
    replace J:=(fS h8).symm.trans J;refine fB (t:=(!v5)) (by kernel_rfl) (cU h8) ?_;refine aR ?_;refine rg [] [] [.cells (aF v1).cells, .cells [(ak (10:Int))]] (by kernel_rfl) ?_;refine dN (fq (ej ?_));have hr:=ah8 J;subst hr;exact gn (by kernel_rfl)
   replace J:=(fS h6).symm.trans J;refine fB (t:=(!v4)) (by kernel_rfl) (cU h6) ?_;refine aR ?_;refine rg [] [] [.cells (aF v1).cells, .cells [(ak (11:Int))]] (by kernel_rfl) ?_;refine dN (fq (ej ?_));have hr:=ah8 J;subst hr;exact gn (by kernel_rfl)
  replace J:=(fS h4).symm.trans J;refine fB (t:=(!v3)) (by kernel_rfl) (cU h4) ?_;refine aR ?_;refine rg [] [] [.cells (aF v1).cells, .cells [(ak (7:Int))]] (by kernel_rfl) ?_;refine dN (fq (ej ?_));have hr:=ah8 J;subst hr;exact gn (by kernel_rfl)
 replace J:=(fS h2).symm.trans J;refine fB (t:=(!v2)) (by kernel_rfl) (cU h2) ?_;refine aR ?_;refine rg [] [] [.cells (aF v1).cells, .cells [(ak (5:Int))]] (by kernel_rfl) ?_;refine dN (fq (ej ?_));have hr:=ah8 J;subst hr;exact gn (by kernel_rfl)
def xc(N:Nat):aiE aq→aiG Int
 |[]=>
  some (0:Int)
 |v5::v6=>
  Option.bind (Ed N v5) fun v7=>
  bif (v7 !=(0:Int))then
   some v7
  else
   (xc N v6)
def BF(N:Nat)(v1:aq):aiG Int:=
 Option.bind (Ig N v1) fun v2=>
 bif (decide (v2>(40:Int)))then
  some (13:Int)
 else
  Option.bind (Dw N v1) fun v3=>
  bif (decide (v3>(2000:Int)))then
   some (2:Int)
  else
   Option.bind (ze N v1) fun v4=>
   xc N (dJ v4)
theorem Yu(N:Nat)(v1:aq)(r:Int)(J:BF N v1=some r):bg Tryz.prog 136 [(aF v1)] (·=(ak r)):=by
 rw[BF]at J;refine qg Tryz.func136 rfl (by kernel_rfl) ?_;refine gF [0] 0 (ah0 _) (s':=⟨19,[(0,(aF v1))],[]⟩) (by kernel_rfl) ?_;refine aR ?_;refine rg [] [(1,(.ptr 0 0)),(2,(.ptr 1 0))] [.cells (aF v1).cells, .cells [(ak (0:Int))]] (by kernel_rfl) ?_;refine aR ?_;refine aR ?_;obtain⟨v2,h1,J⟩:=ar J;refine rg [(4,cL (Yw N v1 v2 h1))] [(7,(aJ (decide (v2>(40:Int)))))] [.cells (aF v1).cells, .cells [(ak (0:Int))]] (by kernel_rfl) ?_;rcases fQ (decide (v2>(40:Int)))with h2|h2
 ·replace J:=(dA h2).symm.trans J;refine fB (t:=(decide (v2>(40:Int)))) (by kernel_rfl) h2 ?_;refine aR ?_;refine rg [] [] [.cells (aF v1).cells, .cells [(ak (13:Int))]] (by kernel_rfl) ?_;refine dN (ej ?_);have hr:=ah8 J;subst hr;exact gn (by kernel_rfl)
 replace J:=(fS h2).symm.trans J;refine fv (t:=(decide (v2>(40:Int)))) (by kernel_rfl) h2 ?_;refine et ?_;refine cv ?_;refine aR ?_;refine aR ?_;obtain⟨v3,h3,J⟩:=ar J;refine rg [(4,cL (WQ N v1 v3 h3))] [(10,(aJ (decide (v3>(2000:Int)))))] [.cells (aF v1).cells, .cells [(ak (0:Int))]] (by kernel_rfl) ?_;rcases fQ (decide (v3>(2000:Int)))with h4|h4
 ·replace J:=(dA h4).symm.trans J;refine fB (t:=(decide (v3>(2000:Int)))) (by kernel_rfl) h4 ?_;refine aR ?_;refine rg [] [] [.cells (aF v1).cells, .cells [(ak (2:Int))]] (by kernel_rfl) ?_;refine dN (ej ?_);have hr:=ah8 J;subst hr;exact gn (by kernel_rfl)
 replace J:=(fS h4).symm.trans J;refine fv (t:=(decide (v3>(2000:Int)))) (by kernel_rfl) h4 ?_;refine et ?_;refine cv ?_;refine aR ?_;refine aR ?_;obtain⟨v4,h5,J⟩:=ar J;refine rg [(4,cL (Kc N v1 v4 h5))] [(12,(.fn 70 [(.bt [dy v4] 0 0)]))] [.cells (aF v1).cells, .cells [(ak (0:Int))]] (by kernel_rfl) ?_;refine fe ?_;refine gF [2,12] 2 (ahX rfl) (s':=⟨19,[(2,(.ptr 1 0)),(12,(.fn 70 [(.bt [dy v4] 0 0)]))],[.cells (aF v1).cells, .cells [(ak (0:Int))]]⟩) (by kernel_rfl) ?_;refine HO (m:=2) (enc:=aF) (xs:=(dJ v4)) (by kernel_rfl) (Lm v4) (fun(_:Unit)=>[.cells (aF v1).cells, .cells [(ak (0:Int))]]) (fun(_:Unit) l=>xc N l=some r) () (by kernel_rfl) J (by rintro _;rfl) (by rintro _;kernel_rfl) (by kernel_rfl) rfl ?_ ?_
 ·rintro _ v5 v6 J h6 kr kt
  try dsimp only at J
  rw[xc]at J;refine gF [2,13] 3 (ah0 _) (s':=⟨19,[(2,(.ptr 1 0)),(13,(aF v5))],[.cells (aF v1).cells, .cells [(ak (0:Int))], .lp .ready 13 kr kt (dM 19 [(2,(.ptr 1 0)),(12,(.fn 70 [(.bt [dy v4] 0 0)]))])]⟩) (by kernel_rfl) ?_;refine re [] [(3,(.ptr 3 0))] [.cells (aF v1).cells, .cells [(ak (0:Int))], .lp .ready 13 kr kt (dM 19 [(2,(.ptr 1 0)),(12,(.fn 70 [(.bt [dy v4] 0 0)]))]), .cells (aF v5).cells] (by kernel_rfl) ?_;refine cv ?_;refine⟨[.cells (aF v1).cells, .cells [(ak (0:Int))]],[.cells (aF v5).cells],rfl,(by kernel_rfl),?_⟩;refine gF [2,3] 4 (ahX rfl) (s':=⟨19,[(2,(.ptr 1 0)),(3,(.ptr 3 0))],[.cells (aF v1).cells, .cells [(ak (0:Int))], .lp .busy 13 kr kt (dM 19 [(2,(.ptr 1 0)),(12,(.fn 70 [(.bt [dy v4] 0 0)]))]), .cells (aF v5).cells]⟩) (by kernel_rfl) ?_;refine fe ?_;refine aR ?_;obtain⟨v7,h7,J⟩:=ar J;refine rg [(4,cL (Yz N v5 v7 h7))] [(4,(ak v7))] [.cells (aF v1).cells, .cells [(ak (0:Int))], .lp .busy 13 kr kt (dM 19 [(2,(.ptr 1 0)),(12,(.fn 70 [(.bt [dy v4] 0 0)]))]), .cells (aF v5).cells] (by kernel_rfl) ?_;refine aR ?_;refine rg [] [(17,(aJ (v7 !=(0:Int))))] [.cells (aF v1).cells, .cells [(ak (0:Int))], .lp .busy 13 kr kt (dM 19 [(2,(.ptr 1 0)),(12,(.fn 70 [(.bt [dy v4] 0 0)]))]), .cells (aF v5).cells] (by kernel_rfl) ?_
  rcases fQ (v7 !=(0:Int))with h8|h8
  ·replace J:=(dA h8).symm.trans J;refine fB (t:=(v7 !=(0:Int))) (by kernel_rfl) h8 ?_;refine aR ?_;refine rg [] [] [.cells (aF v1).cells, .cells [(ak v7)], .lp .busy 13 kr kt (dM 19 [(2,(.ptr 1 0)),(12,(.fn 70 [(.bt [dy v4] 0 0)]))]), .cells (aF v5).cells] (by kernel_rfl) ?_;refine dN (fq ?_);refine Jj [.cells (aF v1).cells, .cells [(ak v7)]] rfl (by kernel_rfl) (by kernel_rfl) ?_;refine(fq (ej ?_));have hr:=ah8 J;subst hr;exact gn (by kernel_rfl)
  replace J:=(fS h8).symm.trans J;refine fv (t:=(v7 !=(0:Int))) (by kernel_rfl) h8 ?_;refine et ?_;refine iA ?_;refine E8 [.cells (aF v1).cells, .cells [(ak (0:Int))]] rfl (by kernel_rfl) (by kernel_rfl) ?_;exact⟨(),(by kernel_rfl),J⟩
 rintro _ J
 try dsimp only at J
 rw[xc]at J;refine iA ?_;refine cv ?_;refine aR ?_;refine rg [] [] [.cells (aF v1).cells, .cells [(ak (0:Int))], .gone] (by kernel_rfl) ?_;refine dN ?_;have hr:=ah8 J;subst hr;exact gn (by kernel_rfl)
def vc(N:Nat)(v3:aiE (aiF×Int)):aiE aD→Nat→aiG Int
 |[],_=>
  some (0:Int)
 |v6::v7,v4=>
  bif ((gL v3 v6.ao 0)==(0:Int))then
   some (9:Int)
  else
   (vc N v3 v7 (v4+1))
def yE(N:Nat)(v1:ax)(v2:aQ)(v3:aiE (aiF×Int)):aiG Int:=
 vc N v3 v1.xL 0
theorem IJ(N:Nat)(v1:ax)(v2:aQ)(v3:aiE (aiF×Int))(r:Int)(J:yE N v1 v2 v3=some r):bY Tryz.prog 170 [(.ptr 0 0),(b9 v1)] [.cells (dL v2 [(.mp 1)]), .map (dC v3)] fun r1 h1=>r1=(ak r)∧h1=[.cells (dL v2 [(.mp 1)]), .map (dC v3)]:=by
 rw[yE]at J;refine eu 2 Tryz.func170 (by kernel_rfl) (by kernel_rfl) (ahX rfl) ?_;refine au af [[],[(7,oL v1.xL bZ)]] ?_;refine dq 8 (bP v1.xL) (by kernel_rfl) fun h1=> ?_;have h2:=cd bZ h1;refine cx af 1 [] [0,8,9,10] 3 (fun((v4,v5):Nat×(aiE aD))=>⟨23,[(0,(.ptr 0 0)),(8,(.d (.sl (bP v1.xL)))),(9,(ak (v1.xL.length:Int))),(10,(ak (v4:Int)))],[.cells (dL v2 [(.mp 1)]), .map (dC v3), .cells (b9 v1).cells]⟩) (fun((v4,v5):Nat×(aiE aD))=>v1.xL.drop v4=v5∧vc N v3 v5 v4=some r) (fun((v4,v5):Nat×(aiE aD))=>v5.length) (0,v1.xL) ⟨rfl,J⟩ ?_;rintro⟨v4,v5⟩ ⟨h3,J⟩ f1 aN;cases v5 with
 |nil=>
  rw[vc]at J;cases J;exact ca af [[],[(0,bF (bO h3))],[]]
 |cons v6 v7=>
  rw[vc]at J;refine au af [[],[(0,bT (bN h3))],[(1,oE (eY (aU h3)))],[(20,⟨_,_, .eq (Du false v3 v6.ao)⟩)]] ?_;refine bc J (fun h4 J=> ?_) fun h4 J=> ?_
  ·cases J;exact ca af [[(0,bT h4)],[]]
  exact ct af aN (v4+1,v7) [[(0,bF h4)],[(2,oq (bV h3 rfl h2))]] ⟨bR h3,J⟩
def Ds(N:Nat)(v1:aiE aD):aiG (aiE aD):=bif Nat.ble (v1.length*24) 140737488355328 then some v1 else none
theorem VY(N:Nat)(v1 r:aiE aD)(J:Ds N v1=some r):bg Tryz.prog 85 [(.d (.sl (bP v1)))] (·=(.d (.sl (bP r)))):=by
 obtain⟨hb,rfl⟩:=eh J;have hc:=de hb (by decide);exact adl mm (by rw[bZ];exact hc.1) (by rw[bZ];exact hc.2)
def ub(N:Nat)(v1:ax):aiG ax:=
 Option.bind (Ds N v1.xL) fun v2=>
 some (⟨v1.xK,v2⟩:ax)
theorem ET(N:Nat)(v1:ax)(r:ax)(J:ub N v1=some r):bg Tryz.prog 52 [(b9 v1)] (·=(b9 r)):=by
 rw[ub]at J;refine bD Tryz.func52 (by kernel_rfl) (by kernel_rfl) ?_;obtain⟨v2,h1,J⟩:=ar J;cases J;exact wr af [[],[(13,cL (VY N v1.xL v2 h1))]]
def s6(N:Nat):aiE ax→Nat→(aiE ax)→aiG ((aiE ax))
 |[],_,v6=>
  some v6
 |v4::v5,v2,v6=>
  Option.bind (ub N v4) fun v7=>
  bif (Nat.ble ((v6.length+1)*32) 140737488355328)then
  (fun b6=>s6 N v5 (v2+1) b6) (v6++[v7])
  else none
def AG(N:Nat)(v1:aiE ax):aiG ((aiE ax)):=
 s6 N v1 0 []
theorem VF(N:Nat)(v1:aiE ax)(r:(aiE ax))(J:AG N v1=some r):bg Tryz.prog 53 [(.d (.sl (cz v1)))] (·=(.d (.sl (cz r)))):=by
 rw[AG]at J;refine bD Tryz.func53 (by kernel_rfl) (by kernel_rfl) ?_;refine au af [[],[],[(4,oL v1 bM)]] ?_;refine nV 3 48 2 [] (.inr (by kernel_rfl)) ?_;refine dq 0 (cz v1) (by kernel_rfl) fun h1=> ?_;have h2:=cd bM h1;refine cx af 1 [] [3,6,7,8] 1 (fun((v2,v3,v6):Nat×(aiE ax)×(aiE ax))=>⟨19,[(3,(.own 0 (cz v6))),(6,(.d (.sl (cz v1)))),(7,(ak (v1.length:Int))),(8,(ak (v2:Int)))],[.front 48 2 v6.length]⟩) (fun((v2,v3,v6):Nat×(aiE ax)×(aiE ax))=>v1.drop v2=v3∧s6 N v3 v2 v6=some r) (fun((v2,v3,v6):Nat×(aiE ax)×(aiE ax))=>v3.length) (0,v1,[]) ⟨rfl,J⟩ ?_;rintro⟨v2,v3,v6⟩ ⟨h3,J⟩ f1 aN;cases v3 with
 |nil=>
  rw[s6]at J;cases J;exact wr af [[],[(0,bF (bO h3))],[]]
 |cons v4 v5=>
  rw[s6]at J;obtain⟨v7,h4,J⟩:=ar J;obtain⟨h5,J⟩:=dg J;exact ct af aN (v2+1,v5,(v6++[v7])) [[],[(0,bT (bN h3))],[(1,oE (hY (aU h3)))],[(7,cL (ET N v4 v7 h4)),(13,⟨_,_, .app (xs:=cz v6) (ys:=cz [v7]) (zs:=cz (v6++[v7])) (n:=(v6++[v7]).length) bM.symm nI nI (by rw[(bM (l:=v6)),(bM (l:=[v7]))];exact(de h5 (by decide)).1) (by rw[(bM (l:=v6)),(bM (l:=[v7]))];exact(de h5 (by decide)).2) Bw (by first|(rw[(bM (l:=v6)),(bM (l:=[v7]))];done)|(rw[(bM (l:=v6)),(bM (l:=[v7]))];rfl)|(rw[(bM (l:=v6)),(bM (l:=[v7])),ahQ];done)|(rw[(bM (l:=v6)),(bM (l:=[v7])),ahQ];rfl)|(rw[(bM (l:=v6)),(bM (l:=[v7])),ah9]))⟩)],[(2,oq (bV h3 rfl h2))]] ⟨bR h3,J⟩
def zX(N:Nat)(v1:aG)(v2:aiF):aiG Bool:=
 some (bL v1.ao==bL v2)
theorem Wb(N:Nat)(v1:aG)(v2:aiF)(r:Bool)(J:zX N v1 v2=some r):bY Tryz.prog 46 [(cy v1),(.ptr 0 0)] [.cells [(bw v2)]] fun r1 h1=>r1=(aJ r)∧h1=[.cells [(bw v2)]]:=by
 rw[zX]at J;refine eu 1 Tryz.func46 (by kernel_rfl) (by kernel_rfl) (ahX rfl) ?_;cases J;exact ca af [[],[]]
def vU(N:Nat)(v2:aiF):aiE aG→Nat→aiG Int
 |[],_=>
  some (-1:Int)
 |v5::v6,v3=>
  Option.bind (zX N v5 v2) fun v7=>
  bif v7 then
   some (v3:Int)
  else
   (vU N v2 v6 (v3+1))
def Fa(N:Nat)(v1:aiE aG)(v2:aiF):aiG Int:=
 vU N v2 v1 0
theorem aci(N:Nat)(v1:aiE aG)(v2:aiF)(r:Int)(J:Fa N v1 v2=some r):bY Tryz.prog 45 [(.d (.sl (b8 v1))),(.fn 46 [(.ptr 0 0)])] [.cells [(bw v2)]] fun r1 h1=>r1=(ak r)∧h1=[.cells [(bw v2)]]:=by
 rw[Fa]at J;refine eu 1 Tryz.func45 (by kernel_rfl) (by kernel_rfl) (ahX rfl) ?_;refine au af [[],[(4,oL v1 du)]] ?_;refine dq 0 (b8 v1) (by kernel_rfl) fun h1=> ?_;have h2:=cd du h1;refine cx af 1 [] [0,1,7,8] 1 (fun((v3,v4):Nat×(aiE aG))=>⟨19,[(0,(.d (.sl (b8 v1)))),(1,(.fn 46 [(.ptr 0 0)])),(7,(ak (v1.length:Int))),(8,(ak (v3:Int)))],[.cells [(bw v2)]]⟩) (fun((v3,v4):Nat×(aiE aG))=>v1.drop v3=v4∧vU N v2 v4 v3=some r) (fun((v3,v4):Nat×(aiE aG))=>v4.length) (0,v1) ⟨rfl,J⟩ ?_;rintro⟨v3,v4⟩ ⟨h3,J⟩ f1 aN;cases v4 with
 |nil=>
  rw[vU]at J;cases J;exact ca af [[],[(0,bF (bO h3))],[]]
 |cons v5 v6=>
  rw[vU]at J;obtain⟨v7,h4,J⟩:=ar J;refine au af [[],[(0,bT (bN h3))],[],[(10,oE (fW (aU h3))),(16,⟨_,_, .rq (cQ:=[(cy v5),(.ptr 0 0)]) (h:=[.cells [(bw v2)]]) (l:=[0]) (by kernel_rfl) (by kernel_rfl) (by kernel_rfl) (by kernel_rfl) (Wb N v5 v2 v7 h4)⟩)]] ?_;refine bc J (fun h5 J=> ?_) fun h5 J=> ?_
  ·cases J;exact ca af [[(0,bT h5)],[]]
  exact ct af aN (v3+1,v6) [[(0,bF h5)],[(2,oq (bV h3 rfl h2))]] ⟨bR h3,J⟩
def wB(N:Nat)(v1:aQ)(v2:aiF):aiG Int:=
 Option.bind (Fa N v1.ay v2) fun v3=>
 some v3
theorem J0(N:Nat)(v1:aQ)(v2:aiF)(r:Int)(J:wB N v1 v2=some r):bg Tryz.prog 16 [(aS v1),(bw v2)] (·=(ak r)):=by
 rw[wB]at J;refine bD Tryz.func16 (by kernel_rfl) (by kernel_rfl) ?_;obtain⟨v3,h1,J⟩:=ar J;obtain rfl:=sj J;exact wr af [[],[(10,⟨_,_, .rq (cQ:=[(.d (.sl (b8 v1.ay))),(.fn 46 [(.ptr 1 0)])]) (h:=[.cells (aS v1).cells, .cells [(bw v2)]]) (l:=[1]) (by kernel_rfl) (by kernel_rfl) (by kernel_rfl) (by kernel_rfl) (aci N v1.ay v2 v3 h1)⟩)]]
def tM(N:Nat)(v8:aG):aiE bj→Nat→(aiE ax)→aiG (bB×(aiE ax)×Bool)
 |[],_,aE=>
  some (v8.aw,aE,true)
 |v11::v12,v9,aE=>
  Option.bind (ub N v11.dB) fun aC=>
  bif (Nat.ble ((aE.length+1)*32) 140737488355328)then
  (fun fI=>tM N v8 v12 (v9+1) fI) (aE++[aC])
  else none
def sJ(N:Nat)(v1:aQ)(v2:aiF):aiE bX→Nat→aiG (bB×(aiE ax)×Bool)
 |[],_=>
  Option.bind (wB N v1 v2) fun v7=>
  bif (decide (v7≥(0:Int)))then
   bif (decide ((0:Int)≤v7))then
   Option.bind (v1.ay[(v7).toNat]?) fun v8=>
   tM N v8 v8.aI 0 []
   else none
  else
   some (fA,[],false)
 |v5::v6,v3=>
  bif (bL v5.ao==bL v2)then
   Option.bind (AG N v5.aI) fun aP=>
   some (v5.aw,aP,true)
  else
   (sJ N v1 v2 v6 (v3+1))
def Bf(N:Nat)(v1:aQ)(v2:aiF):aiG (bB×(aiE ax)×Bool):=
 sJ N v1 v2 v1.a8 0
theorem PG(N:Nat)(v1:aQ)(v2:aiF)(r:bB×(aiE ax)×Bool)(J:Bf N v1 v2=some r):bg Tryz.prog 206 [(aS v1),(bw v2)] (·=(.cb [(eZ r.1),(.d (.sl (cz r.2.1))),(aJ r.2.2)])):=by
 rw[Bf]at J;refine bD Tryz.func206 (by kernel_rfl) (by kernel_rfl) ?_;refine au af [[],[(7,oL v1.a8 ee)]] ?_;refine dq 14 (bI v1.a8) (by kernel_rfl) fun h1=> ?_;have h2:=cd ee h1;refine cx af 1 [] [1,2,4,14,15,16] 2 (fun((v3,v4):Nat×(aiE bX))=>⟨61,[(1,(bw v2)),(2,(.ptr 0 0)),(4,(.ptr 1 0)),(14,(.d (.sl (bI v1.a8)))),(15,(ak (v1.a8.length:Int))),(16,(ak (v3:Int)))],[.cells (aS v1).cells, .cells jg]⟩) (fun((v3,v4):Nat×(aiE bX))=>v1.a8.drop v3=v4∧sJ N v1 v2 v4 v3=some r) (fun((v3,v4):Nat×(aiE bX))=>v4.length) (0,v1.a8) ⟨rfl,J⟩ ?_;rintro⟨v3,v4⟩ ⟨h3,J⟩ f1 aN;cases v4 with
 |nil=>
  rw[sJ]at J;obtain⟨v7,h4,J⟩:=ar J;refine au af [[],[(0,bF (bO h3))],[(7,cL (J0 N v1 v2 v7 h4))],[]] ?_;refine bc J (fun h5 J=> ?_) fun h5 J=> ?_
  ·obtain⟨h7,J⟩:=dg J;obtain⟨v8,h6,J⟩:=ar J;refine au af [[(0,bT h5)],[],[(10,⟨_,_, .el (xs:=b8 v1.ay) (i:=v7) (of_decide_eq_true h7) (fW h6)⟩),(19,oL v8.aI b5)]] ?_;refine nV 10 48 2 [] (.inr (by kernel_rfl)) ?_;refine dq 40 (cu v8.aI) (by kernel_rfl) fun h8=> ?_;have h9:=cd b5 h8;refine cx af 2 [] [2,4,9,10,40,41,42] 3 (fun((v9,v10,aE):Nat×(aiE bj)×(aiE ax))=>⟨61,[(2,(.ptr 0 0)),(4,(.ptr 1 0)),(9,(ak v7)),(10,(.own 2 (cz aE))),(40,(.d (.sl (cu v8.aI)))),(41,(ak (v8.aI.length:Int))),(42,(ak (v9:Int)))],[.cells (aS v1).cells, .cells jg, .front 48 2 aE.length]⟩) (fun((v9,v10,aE):Nat×(aiE bj)×(aiE ax))=>v8.aI.drop v9=v10∧tM N v8 v10 v9 aE=some r) (fun((v9,v10,aE):Nat×(aiE bj)×(aiE ax))=>v10.length) (0,v8.aI,[]) ⟨rfl,J⟩ ?_;rintro⟨v9,v10,aE⟩ ⟨aA,J⟩ f2 dU;cases v10 with
   |nil=>
    rw[tM]at J;cases J;exact wr af [[],[(0,bF (bO aA))],[(10,⟨_,_, .el (xs:=b8 v1.ay) (i:=v7) (of_decide_eq_true h7) (fW h6)⟩)]]
   |cons v11 v12=>
    rw[tM]at J;obtain⟨aC,a7,J⟩:=ar J;obtain⟨bk,J⟩:=dg J;exact ct af dU (v9+1,v12,(aE++[aC])) [[],[(0,bT (bN aA))],[(1,oE (jK (aU aA)))],[(10,cL (ET N v11.dB aC a7)),(16,⟨_,_, .app (xs:=cz aE) (ys:=cz [aC]) (zs:=cz (aE++[aC])) (n:=(aE++[aC]).length) bM.symm nI nI (by rw[(bM (l:=aE)),(bM (l:=[aC]))];exact(de bk (by decide)).1) (by rw[(bM (l:=aE)),(bM (l:=[aC]))];exact(de bk (by decide)).2) Bw (by first|(rw[(bM (l:=aE)),(bM (l:=[aC]))];done)|(rw[(bM (l:=aE)),(bM (l:=[aC]))];rfl)|(rw[(bM (l:=aE)),(bM (l:=[aC])),ahQ];done)|(rw[(bM (l:=aE)),(bM (l:=[aC])),ahQ];rfl)|(rw[(bM (l:=aE)),(bM (l:=[aC])),ah9]))⟩)],[(2,oq (bV aA rfl h9))]] ⟨bR aA,J⟩
  cases J;exact wr af [[(0,bF h5)],[]]
 |cons v5 v6=>
  rw[sJ]at J;refine au af [[],[(0,bT (bN h3))],[(1,oE (jV (aU h3)))],[]] ?_;refine bc J (fun cg J=> ?_) fun cg J=> ?_
  ·obtain⟨aP,bm,J⟩:=ar J;cases J;exact wr af [[(0,bT cg)],[(13,cL (VF N v5.aI aP bm))]]
  exact ct af aN (v3+1,v6) [[(0,bF cg)],[(2,oq (bV h3 rfl h2))]] ⟨bR h3,J⟩
def wi(N:Nat)(v2:aQ)(v3:aiE (aiF×Int)):aiE ax→Nat→aiG Int
 |[],_=>
  some (0:Int)
 |v8::v9,v6=>
  Option.bind (yE N v8 v2 v3) fun v10=>
  bif (v10 !=(0:Int))then
   some v10
  else
   (wi N v2 v3 v9 (v6+1))
def C8(N:Nat)(v1:az)(v2:aQ)(v3:aiE (aiF×Int)):aiG Int:=
 bif (bL v1.bn==bL (bs []))then
  Option.bind (yE N v1.aK v2 v3) fun v4=>
  some v4
 else
  Option.bind (Bf N v2 v1.bn) fun v5=>
  bif v5.2.2 then
   bif (v5.1.ck !=(3:Int))then
    some (10:Int)
   else
    bif ((v1.bp.length:Int) !=(v5.2.1.length:Int))then
     some (11:Int)
    else
     wi N v2 v3 v1.bp 0
  else
   some (9:Int)
theorem X0(N:Nat)(v1:az)(v2:aQ)(v3:aiE (aiF×Int))(r:Int)(J:C8 N v1 v2 v3=some r):bY Tryz.prog 207 [(.ptr 0 0),(fx v1)] [.cells (dL v2 [(.mp 1)]), .map (dC v3)] fun r1 h1=>r1=(ak r)∧h1=[.cells (dL v2 [(.mp 1)]), .map (dC v3)]:=by
 rw[C8]at J;refine eu 2 Tryz.func207 (by kernel_rfl) (by kernel_rfl) (ahX rfl) ?_;refine au af [[],[]] ?_;refine bc J (fun h1 J=> ?_) fun h1 J=> ?_
 ·obtain⟨v4,h2,J⟩:=ar J;obtain rfl:=sj J;exact ca af [[(0,bT h1)],[(10,⟨_,_, .rq (cQ:=[(.ptr 0 0),(b9 v1.aK)]) (h:=[.cells (dL v2 [(.mp 1)]), .map (dC v3), .cells (fx v1).cells]) (l:=[0,1]) (by kernel_rfl) (by kernel_rfl) (by kernel_rfl) (by kernel_rfl) (IJ N v1.aK v2 v3 v4 h2)⟩)]]
 obtain⟨v5,h3,J⟩:=ar J;refine au af [[(0,bF h1)],[(19,cL (PG N v2 v1.bn v5 h3))],[]] ?_;refine bc J (fun h4 J=> ?_) fun h4 J=> ?_
 ·refine au af [[(0,bF (cG h4))],[]] ?_;refine bc J (fun h5 J=> ?_) fun h5 J=> ?_
  ·cases J;exact ca af [[(0,bT h5)],[]]
  refine au af [[(0,bF h5)],[(7,oL v1.bp bM),(13,oL v5.2.1 bM)]] ?_;refine bc J (fun h6 J=> ?_) fun h6 J=> ?_
  ·cases J;exact ca af [[(0,bT h6)],[]]
  refine au af [[(0,bF h6)],[(7,oL v1.bp bM)]] ?_;refine dq 44 (cz v1.bp) (by kernel_rfl) fun h7=> ?_;have h8:=cd bM h7;refine cx af 1 [] [0,44,45,46] 4 (fun((v6,v7):Nat×(aiE ax))=>⟨57,[(0,(.ptr 0 0)),(44,(.d (.sl (cz v1.bp)))),(45,(ak (v1.bp.length:Int))),(46,(ak (v6:Int)))],[.cells (dL v2 [(.mp 1)]), .map (dC v3), .cells (fx v1).cells, .cells (eZ v5.1).cells]⟩) (fun((v6,v7):Nat×(aiE ax))=>v1.bp.drop v6=v7∧wi N v2 v3 v7 v6=some r) (fun((v6,v7):Nat×(aiE ax))=>v7.length) (0,v1.bp) ⟨rfl,J⟩ ?_;rintro⟨v6,v7⟩ ⟨h9,J⟩ f1 aN;cases v7 with
  |nil=>
   rw[wi]at J;cases J;exact ca af [[],[(0,bF (bO h9))],[]]
  |cons v8 v9=>
   rw[wi]at J;obtain⟨v10,aA,J⟩:=ar J;refine au af [[],[(0,bT (bN h9))],[(1,oE (hY (aU h9)))],[(7,⟨_,_, .rq (cQ:=[(.ptr 0 0),(b9 v8)]) (h:=[.cells (dL v2 [(.mp 1)]), .map (dC v3), .cells (fx v1).cells, .cells (eZ v5.1).cells, .cells (b9 v8).cells]) (l:=[0,1]) (by kernel_rfl) (by kernel_rfl) (by kernel_rfl) (by kernel_rfl) (IJ N v8 v2 v3 v10 aA)⟩)],[]] ?_;refine bc J (fun a7 J=> ?_) fun a7 J=> ?_
   ·cases J;exact ca af [[(0,bT a7)],[]]
   exact ct af aN (v6+1,v9) [[(0,bF a7)],[(2,oq (bV h9 rfl h8))]] ⟨bR h9,J⟩
 cases J;exact ca af [[(0,bT (cU h4))],[]]
end Go.Proofs.YtphmhnabilhbgaaGreatDoor
