/-
  Part 8 of the proof: PQ2.
-/
import Derived.Test.YtphmhnabilhbgaaGreatDoorPm7
namespace Go.Proofs.YtphmhnabilhbgaaGreatDoor
open Go.RowKit
set_option maxRecDepth 100000
set_option maxHeartbeats 0
set_option linter.unusedVariables false
def ld:agU AV:=[(ao (0:Int)),(ao (0:Int)),(ao (0:Int)),(ao (0:Int)),(ao (0:Int))]
def u9(N:Nat)(v1:aG)(v2:Bool):agW Int:=
 bif v2 then
  bif ((v1.bI.length:Int)==(0:Int))then
   some (11:Int)
  else
   some (0:Int)
 else
  bif (v1.cG==(5:Int))then
   Option.bind (bif (decide ((v1.bI.length:Int)>(0:Int)))then some true else some ((v1.aS.length:Int)==(0:Int))) fun v3=>
   bif v3 then
    some (11:Int)
   else
    some (0:Int)
  else
   some (1:Int)
def Ba(N:Nat)(v1:aG):agW Int:=
 bif (v1.cG==(0:Int))then
  bif (decide ((v1.bI.length:Int)>(0:Int)))then
   some (11:Int)
  else
   some (0:Int)
 else
  bif (v1.cG==(1:Int))then
   u9 N v1 (v1.cG==(1:Int))
  else
   bif (v1.cG==(2:Int))then
    u9 N v1 (v1.cG==(2:Int))
   else
    bif (v1.cG==(3:Int))then
     u9 N v1 (v1.cG==(3:Int))
    else
     u9 N v1 (v1.cG==(4:Int))
theorem ZU(N:Nat)(v1:aG)(r:Int)(J:Ba N v1=some r):bA Tryz.prog 101 [(cp v1)] (·=(ao r)):=by
 rw[Ba]at J;refine bZ Tryz.func101 (by kernel_rfl) (by kernel_rfl) ?_;refine ax ak [[],[],[]] ?_;refine bc J (fun h1 J=> ?_) fun h1 J=> ?_
 ·refine ax ak [[(0,bT h1)],[(7,oL v1.bI cK)]] ?_;refine bc J (fun h2 J=> ?_) fun h2 J=> ?_
  ·cases J;exact wr ak [[(0,bT h2)],[]]
  cases J;exact wr ak [[(0,bF h2)],[]]
 refine ni ak 1 [[(0,bF h1)],[]] [1,4,11] 1 (fun(v2:Bool)=>⟨32,[(1,(.ptr 0 0)),(4,(ao v1.cG)),(11,(aU v2))],[.cells (cp v1).cells]⟩) (fun(v2:Bool)=>u9 N v1 v2=some r) ?_ ?_
 ·intro f1 ba;refine bc J (fun h9 J=> ?_) fun h9 J=> ?_
  ·exact dN ak ba (v1.cG==(1:Int)) [[(0,bT h9)]] J
  refine ax ak [[(0,bF h9)],[]] ?_;refine bc J (fun aJ J=> ?_) fun aJ J=> ?_
  ·exact dN ak ba (v1.cG==(2:Int)) [[(0,bT aJ)]] J
  refine ax ak [[(0,bF aJ)],[]] ?_;refine bc J (fun bQ J=> ?_) fun bQ J=> ?_
  ·exact dN ak ba (v1.cG==(3:Int)) [[(0,bT bQ)]] J
  exact dN ak ba (v1.cG==(4:Int)) [[(0,bF bQ)],[]] J
 rintro v2 J
 try dsimp only at J
 rw[u9]at J;refine bc J (fun h3 J=> ?_) fun h3 J=> ?_
 ·refine ax ak [[(0,bT h3)],[(7,oL v1.bI cK)]] ?_;refine bc J (fun h4 J=> ?_) fun h4 J=> ?_
  ·cases J;exact wr ak [[(0,bT h4)],[]]
  cases J;exact wr ak [[(0,bF h4)],[]]
 refine ax ak [[(0,bF h3)],[]] ?_;refine bc J (fun h5 J=> ?_) fun h5 J=> ?_
 ·refine ax ak [[(0,bT h5)]] ?_;obtain⟨v3,h7,J⟩:=au J;refine dn ak [(31,(aU v3))] [.cells (cp v1).cells] ?_ ?_
  ·refine bc h7 (fun h6 h7=> ?_) fun h6 h7=> ?_
   ·cases h7;exact⟨so (os [15,18,21,24,28] (bT h6) [(7,oL v1.bI cK)]),by kernel_rfl⟩
   cases h7;exact⟨so (os [15,18,21,24,28] (bF h6) [(7,oL v1.bI cK),(22,oL v1.aS cK)]),by kernel_rfl⟩
  refine bc J (fun h8 J=> ?_) fun h8 J=> ?_
  ·cases J;exact wr ak [[(0,bT h8)],[]]
  cases J;exact wr ak [[(0,bF h8)],[]]
 cases J;exact wr ak [[(0,bF h5)],[]]
def sC(N:Nat):agU bf→Nat→(agU agV)→agW ((agU agV))
 |[],_,v7=>
  some v7
 |v5::v6,v3,v7=>
  bif (Nat.ble ((v7.length+1)*16) 140737488355328)then
  (fun bE=>sC N v6 (v3+1) bE) (v7++[v5.aq])
  else none
def Aw(N:Nat)(v1:aG):agW ((agU agV)):=
 Option.bind (w6 N ([v1.aS,v1.bI])) fun v2=>
 sC N v2 0 []
theorem afl(N:Nat)(v1:aG)(r:(agU agV))(J:Aw N v1=some r):bA Tryz.prog 103 [(cp v1)] (·=(.d (.sl (aB r)))):=by
 rw[Aw]at J;refine bZ Tryz.func103 (by kernel_rfl) (by kernel_rfl) ?_;obtain⟨v2,h1,J⟩:=au J;refine ax ak [[],[],[(16,cL (Qt N ([v1.aS,v1.bI]) v2 h1)),(19,oL v2 cK)]] ?_;refine qQ 3 9 1 [] (.inr (by kernel_rfl)) ?_;refine dj 11 (cm v2) (by kernel_rfl) fun h2=> ?_;have h3:=cP cK h2;refine c9 ak 1 [] [3,11,12,13] 2 (fun((v3,v4,v7):Nat×(agU bf)×(agU agV))=>⟨24,[(3,(.own 1 (aB v7))),(11,(.d (.sl (cm v2)))),(12,(ao (v2.length:Int))),(13,(ao (v3:Int)))],[.cells (cp v1).cells, .front 9 1 v7.length]⟩) (fun((v3,v4,v7):Nat×(agU bf)×(agU agV))=>v2.drop v3=v4∧sC N v4 v3 v7=some r) (fun((v3,v4,v7):Nat×(agU bf)×(agU agV))=>v4.length) (0,v2,[]) ⟨rfl,J⟩ ?_;rintro⟨v3,v4,v7⟩ ⟨h4,J⟩ f1 ba;cases v4 with
 |nil=>
  rw[sC]at J;cases J;exact wr ak [[],[(0,bF (ck h4))],[]]
 |cons v5 v6=>
  rw[sC]at J;obtain⟨h5,J⟩:=dO J;exact cU ak ba (v3+1,v6,(v7++[v5.aq])) [[],[(0,bT (cf h4))],[(1,oE (rB (bS h4)))],[(13,⟨_,_, .app (xs:=aB v7) (ys:=aB [v5.aq]) (zs:=aB (v7++[v5.aq])) (n:=(v7++[v5.aq]).length) dz.symm wO wO (by rw[(dz (l:=v7)),(dz (l:=[v5.aq]))];exact(dQ h5 (by decide)).1) (by rw[(dz (l:=v7)),(dz (l:=[v5.aq]))];exact(dQ h5 (by decide)).2) abp (by first|(rw[(dz (l:=v7)),(dz (l:=[v5.aq]))];done)|(rw[(dz (l:=v7)),(dz (l:=[v5.aq]))];rfl)|(rw[(dz (l:=v7)),(dz (l:=[v5.aq])),af6];done)|(rw[(dz (l:=v7)),(dz (l:=[v5.aq])),af6];rfl)|(rw[(dz (l:=v7)),(dz (l:=[v5.aq])),agq]))⟩)],[(2,oq (cx h4 rfl h3))]] ⟨ct h4,J⟩
def vi(N:Nat)(Pj:ar→Int→agW Int)(v2:Int):agU ar→Nat→Int→agW Int
 |[],_,v7=>
  some v7
 |v5::v6,v3,v7=>
  Option.bind (Pj v5 (a8 (v2-(1:Int)))) fun v8=>
  (fun bE=>vi N Pj v2 v6 (v3+1) bE) (if(a8 ((1:Int)+v8))>v7 then(a8 ((1:Int)+v8))else v7)
def m0(N:Nat):Nat→ar→Int→agW Int
 |0,_,_=>none
 |d+1,v1,v2=>
  bif (decide (v2≤(1:Int)))then
   some v2
  else
   vi N (m0 N d) v2 v1.a7 0 (1:Int)
def ID(N:Nat)(v1:ar)(v2:Int):agW Int:=m0 N N v1 v2
theorem acx(N:Nat):∀d:Nat,(∀(v1:ar)(v2:Int)(r:Int),m0 N d v1 v2=some r→bA Tryz.prog 199 [(aD v1),(ao v2)] (·=(ao r))):=by
 intro d
 induction d with
 |zero=>intro v1 v2 r J;rw[m0]at J;cases J
 |succ d ih=>
  have W3:=ih;intro v1 v2 r J;rw[m0]at J;refine bZ Tryz.func199 (by kernel_rfl) (by kernel_rfl) ?_;refine ax ak [[],[]] ?_;refine bc J (fun h1 J=> ?_) fun h1 J=> ?_
  ·cases J;exact wr ak [[(0,bT h1)],[]]
  refine ax ak [[(0,bF h1)],[],[(7,oL v1.a7 da)]] ?_;refine dj 12 (cQ v1.a7) (by kernel_rfl) fun h2=> ?_;have h3:=cP da h2;refine c9 ak 1 [] [1,5,12,13,14] 1 (fun((v3,v4,v7):Nat×(agU ar)×Int)=>⟨27,[(1,(ao v2)),(5,(ao v7)),(12,(.d (.sl (cQ v1.a7)))),(13,(ao (v1.a7.length:Int))),(14,(ao (v3:Int)))],[.cells (aD v1).cells]⟩) (fun((v3,v4,v7):Nat×(agU ar)×Int)=>v1.a7.drop v3=v4∧vi N (m0 N d) v2 v4 v3 v7=some r) (fun((v3,v4,v7):Nat×(agU ar)×Int)=>v4.length) (0,v1.a7,(1:Int)) ⟨rfl,J⟩ ?_;rintro⟨v3,v4,v7⟩ ⟨h4,J⟩ f1 ba;cases v4 with
  |nil=>
   rw[vi]at J;cases J;exact wr ak [[],[(0,bF (ck h4))],[]]
  |cons v5 v6=>
   rw[vi]at J;obtain⟨v8,h5,J⟩:=au J;exact cU ak ba (v3+1,v6,(if(a8 ((1:Int)+v8))>v7 then(a8 ((1:Int)+v8))else v7)) [[],[(0,bT (cf h4))],[(1,oE (lh (bS h4)))],[(13,cL (W3 v5 (a8 (v2-(1:Int))) v8 h5))],[(2,oq (cx h4 rfl h3))]] ⟨ct h4,J⟩
theorem aca(N:Nat)(v1:ar)(v2:Int)(r:Int)(J:ID N v1 v2=some r):bA Tryz.prog 199 [(aD v1),(ao v2)] (·=(ao r)):=(acx N N) v1 v2 r J
def CX(N:Nat)(v1:ar):agW Int:=
 Option.bind (ID N v1 (41:Int)) fun v2=>
 some v2
theorem aeD(N:Nat)(v1:ar)(r:Int)(J:CX N v1=some r):bA Tryz.prog 166 [(aD v1)] (·=(ao r)):=by
 rw[CX]at J;refine bZ Tryz.func166 (by kernel_rfl) (by kernel_rfl) ?_;obtain⟨v2,h1,J⟩:=au J;obtain rfl:=sj J;exact wr ak [[],[(4,cL (aca N v1 (41:Int) v2 h1))]]
def sm(N:Nat)(v1:ar):agW ar:=some v1
theorem CQ(N:Nat)(v1 r:ar)(J:sm N v1=some r):bA Tryz.prog 34 [(aD v1)] (·=(.fn 70 [(.aW [cB r] 0 0)])):=by
 cases J;exact V5 v1
def rZ(N:Nat):agU ar→Int→agW Int
 |[],v3=>
  some v3
 |_::v5,v3=>
  bif (decide ((a8 (v3+(1:Int)))>(2000:Int)))then
   some (a8 (v3+(1:Int)))
  else
   (fun bE=>rZ N v5 bE) (a8 (v3+(1:Int)))
def yy(N:Nat)(v1:ar):agW Int:=
 Option.bind (sm N v1) fun v2=>
 rZ N (dd v2) (0:Int)
theorem ZZ(N:Nat)(v1:ar)(r:Int)(J:yy N v1=some r):bA Tryz.prog 167 [(aD v1)] (·=(ao r)):=by
 rw[yy]at J;refine pk Tryz.func167 rfl (by kernel_rfl) ?_;refine gk [0] 0 (agh _) (s':=⟨12,[(0,(aD v1))],[]⟩) (by kernel_rfl) ?_;refine aP ?_;refine rg [] [(1,(.ptr 0 0))] [.cells (aD v1).cells] (by kernel_rfl) ?_;refine aP ?_;refine rg [] [(3,(.ptr 1 0))] [.cells (aD v1).cells, .cells [(ao (0:Int))]] (by kernel_rfl) ?_;refine aP ?_;refine aP ?_;obtain⟨v2,h1,J⟩:=au J;refine rg [(4,cL (CQ N v1 v2 h1))] [(5,(.fn 70 [(.aW [cB v2] 0 0)]))] [.cells (aD v1).cells, .cells [(ao (0:Int))]] (by kernel_rfl) ?_;refine fi ?_;refine gk [3,5] 2 (agd rfl) (s':=⟨12,[(3,(.ptr 1 0)),(5,(.fn 70 [(.aW [cB v2] 0 0)]))],[.cells (aD v1).cells, .cells [(ao (0:Int))]]⟩) (by kernel_rfl) ?_;refine CA (m:=2) (enc:=aD) (xs:=(dd v2)) (by kernel_rfl) (F7 v2) (fun(v3:Int)=>[.cells (aD v1).cells, .cells [(ao v3)]]) (fun(v3:Int) l=>rZ N l v3=some r) (0:Int) (by kernel_rfl) J (by rintro v3;rfl) (by rintro v3;kernel_rfl) (by kernel_rfl) rfl ?_ ?_
 ·rintro v3 v4 v5 J h2 eW eS
  try dsimp only at J
  rw[rZ]at J;refine gk [3] 3 (agh _) (s':=⟨12,[(3,(.ptr 1 0))],[.cells (aD v1).cells, .cells [(ao v3)], .lp .ready 6 eW eS (cX 12 [(3,(.ptr 1 0)),(5,(.fn 70 [(.aW [cB v2] 0 0)]))])]⟩) (by kernel_rfl) ?_;refine eo ?_;refine bX ?_;refine⟨[.cells (aD v1).cells, .cells [(ao v3)]],[],rfl,(by kernel_rfl),?_⟩;refine gk [3] 3 (agd rfl) (s':=⟨12,[(3,(.ptr 1 0))],[.cells (aD v1).cells, .cells [(ao v3)], .lp .busy 6 eW eS (cX 12 [(3,(.ptr 1 0)),(5,(.fn 70 [(.aW [cB v2] 0 0)]))])]⟩) (by kernel_rfl) ?_;refine fi ?_;refine aP ?_;refine rg [] [] [.cells (aD v1).cells, .cells [(ao (a8 (v3+(1:Int))))], .lp .busy 6 eW eS (cX 12 [(3,(.ptr 1 0)),(5,(.fn 70 [(.aW [cB v2] 0 0)]))])] (by kernel_rfl) ?_;refine aP ?_;refine rg [] [(10,(aU (decide ((a8 (v3+(1:Int)))>(2000:Int)))))] [.cells (aD v1).cells, .cells [(ao (a8 (v3+(1:Int))))], .lp .busy 6 eW eS (cX 12 [(3,(.ptr 1 0)),(5,(.fn 70 [(.aW [cB v2] 0 0)]))])] (by kernel_rfl) ?_;rcases fS (decide ((a8 (v3+(1:Int)))>(2000:Int)))with h3|h3
  ·replace J:=(dM h3).symm.trans J;refine fy (t:=(decide ((a8 (v3+(1:Int)))>(2000:Int)))) (by kernel_rfl) h3 ?_;refine lL (abG rfl ?_);refine Zi [.cells (aD v1).cells, .cells [(ao (a8 (v3+(1:Int))))]] rfl (by kernel_rfl) (by kernel_rfl) ?_;refine(nb rfl ?_);refine bX ?_;refine aP ?_;refine rg [] [(2,(ao (a8 (v3+(1:Int)))))] [.cells (aD v1).cells, .cells [(ao (a8 (v3+(1:Int))))], .gone] (by kernel_rfl) ?_;refine dD ?_;have hr:=agp J;subst hr;exact fJ (by kernel_rfl)
  replace J:=(fP h3).symm.trans J;refine fp (t:=(decide ((a8 (v3+(1:Int)))>(2000:Int)))) (by kernel_rfl) h3 ?_;refine eo ?_;refine ie ?_;refine EY [.cells (aD v1).cells, .cells [(ao (a8 (v3+(1:Int))))]] rfl (by kernel_rfl) (by kernel_rfl) ?_;exact⟨(a8 (v3+(1:Int))),(by kernel_rfl),J⟩
 rintro v3 J
 try dsimp only at J
 rw[rZ]at J;refine ie ?_;refine bX ?_;refine aP ?_;refine rg [] [(2,(ao v3))] [.cells (aD v1).cells, .cells [(ao v3)], .gone] (by kernel_rfl) ?_;refine dD ?_;have hr:=agp J;subst hr;exact fJ (by kernel_rfl)
def x6(N:Nat)(v1:aw):agW Bool:=
 Option.bind (bif (v1.xK.toInt==(0:Int))then some ((v1.xL.length:Int)==(0:Int))else some false) fun v2=>
 some v2
theorem SZ(N:Nat)(v1:aw)(r:Bool)(J:x6 N v1=some r):bA Tryz.prog 228 [(bY v1)] (·=(aU r)):=by
 rw[x6]at J;refine bZ Tryz.func228 (by kernel_rfl) (by kernel_rfl) ?_;refine ax ak [[]] ?_;obtain⟨v2,h2,J⟩:=au J;refine dn ak [(2,(aU v2))] [.cells (bY v1).cells] ?_ ?_
 ·refine bc h2 (fun h1 h2=> ?_) fun h1 h2=> ?_
  ·cases h2;exact⟨so (os [12,15,18,21,25] (bT h1) [(19,oL v1.xL cS)]),by kernel_rfl⟩
  cases h2;exact⟨so (os [12,15,18,21,25] (bF h1) []),by kernel_rfl⟩
 cases J;exact wr ak []
def Ah(N:Nat)(v1:az):agW Bool:=
 bif (bL v1.aV==bL (bs []))then
  some ((v1.bj.length:Int)==(0:Int))
 else
  Option.bind (x6 N v1.aL) fun v2=>
  some v2
theorem abq(N:Nat)(v1:az)(r:Bool)(J:Ah N v1=some r):bA Tryz.prog 230 [(eC v1)] (·=(aU r)):=by
 rw[Ah]at J;refine bZ Tryz.func230 (by kernel_rfl) (by kernel_rfl) ?_;refine ax ak [[],[]] ?_;refine bc J (fun h1 J=> ?_) fun h1 J=> ?_
 ·cases J;exact wr ak [[(0,bT h1)],[(7,oL v1.bj cd)]]
 obtain⟨v2,h2,J⟩:=au J;obtain rfl:=sj J;exact wr ak [[(0,bF h1)],[(7,cL (SZ N v1.aL v2 h2))]]
def Gg(N:Nat)(v1:az):agW Bool:=
 Option.bind (Ah N v1) fun v2=>
 some (!v2)
theorem abz(N:Nat)(v1:az)(r:Bool)(J:Gg N v1=some r):bA Tryz.prog 229 [(eC v1)] (·=(aU r)):=by
 rw[Gg]at J;refine bZ Tryz.func229 (by kernel_rfl) (by kernel_rfl) ?_;obtain⟨v2,h1,J⟩:=au J;cases J;exact wr ak [[],[(4,cL (abq N v1 v2 h1))]]
def sZ(N:Nat):agU az→Nat→agW Int
 |[],_=>
  some (-1:Int)
 |v4::v5,v2=>
  Option.bind (Gg N v4) fun v6=>
  bif v6 then
   some (v2:Int)
  else
   (sZ N v5 (v2+1))
def ER(N:Nat)(v1:agU az):agW Int:=
 sZ N v1 0
theorem WE(N:Nat)(v1:agU az)(r:Int)(J:ER N v1=some r):bD Tryz.prog 72 [(.d (.sl (bC v1))),(.fn 229 [])] [] fun r1 h1=>r1=(ao r)∧h1=[]:=by
 rw[ER]at J;refine dS 0 Tryz.func72 (by kernel_rfl) (by kernel_rfl) (agd rfl) ?_;refine ax ak [[],[(4,oL v1 cW)]] ?_;refine dj 0 (bC v1) (by kernel_rfl) fun h1=> ?_;have h2:=cP cW h1;refine c9 ak 1 [] [0,1,7,8] 0 (fun((v2,v3):Nat×(agU az))=>⟨19,[(0,(.d (.sl (bC v1)))),(1,(.fn 229 [])),(7,(ao (v1.length:Int))),(8,(ao (v2:Int)))],[]⟩) (fun((v2,v3):Nat×(agU az))=>v1.drop v2=v3∧sZ N v3 v2=some r) (fun((v2,v3):Nat×(agU az))=>v3.length) (0,v1) ⟨rfl,J⟩ ?_;rintro⟨v2,v3⟩ ⟨h3,J⟩ f1 ba;cases v3 with
 |nil=>
  rw[sZ]at J;cases J;exact bH ak [[],[(0,bF (ck h3))],[]]
 |cons v4 v5=>
  rw[sZ]at J;obtain⟨v6,h4,J⟩:=au J;refine ax ak [[],[(0,bT (cf h3))],[],[(10,oE (ik (bS h3))),(16,cL (abz N v4 v6 h4))]] ?_;refine bc J (fun h5 J=> ?_) fun h5 J=> ?_
  ·cases J;exact bH ak [[(0,bT h5)],[]]
  exact cU ak ba (v2+1,v5) [[(0,bF h5)],[(2,oq (cx h3 rfl h2))]] ⟨ct h3,J⟩
def Bh(N:Nat)(v1:agU az):agW Bool:=
 Option.bind (ER N v1) fun v2=>
 some (decide (v2≥(0:Int)))
theorem Xd(N:Nat)(v1:agU az)(r:Bool)(J:Bh N v1=some r):bD Tryz.prog 36 [(.d (.sl (bC v1))),(.fn 229 [])] [] fun r1 h1=>r1=(aU r)∧h1=[]:=by
 rw[Bh]at J;refine dS 0 Tryz.func36 (by kernel_rfl) (by kernel_rfl) (agd rfl) ?_;obtain⟨v2,h1,J⟩:=au J;cases J;exact bH ak [[],[(7,⟨_,_, .rq (cb:=[(.d (.sl (bC v1))),(.fn 229 [])]) (h:=[]) (l:=[]) (by kernel_rfl) (by kernel_rfl) (by kernel_rfl) (by kernel_rfl) (WE N v1 v2 h1)⟩)]]
def yX(N:Nat)(v1:ar):agW Bool:=
 Option.bind (bif (v1.aQ==(1:Int))then some true else some (v1.aQ==(12:Int))) fun v2=>
 Option.bind (bif (decide (v1.aQ<(1:Int)))then some true else some (decide (v1.aQ>(18:Int)))) fun v3=>
 bif v3 then
  some false
 else
  Option.bind (bif (v1.aQ==(1:Int))then some false else some (!((v1.dm.xN.toInt==(0:Int64).toInt)&&((v1.dm.xD.toInt==(0:Int64).toInt)&&true)))) fun v4=>
  bif v4 then
   some false
  else
   Option.bind (bif v2 then some false else some (!((v1.aC.bW==(0:Int))&&((v1.aC.ca==(0:Int))&&((v1.aC.cF==(0:Int))&&((v1.aC.cE==(0:Int))&&((v1.aC.cJ==(0:Int))&&true))))))) fun v5=>
   bif v5 then
    some false
   else
    Option.bind (bif (v1.aQ==(2:Int))then some false else Option.bind (x6 N v1.aL) fun v6=>
    some (!v6)) fun v7=>
    bif v7 then
     some false
    else
     Option.bind (bif (v1.aQ==(3:Int))then some false else(bif (bL v1.aq==bL (bs []))then some (decide ((v1.xIdx.length:Int)>(0:Int)))else some true)) fun v8=>
     bif v8 then
      some false
     else
      Option.bind (Bh N v1.xIdx) fun v9=>
      some (!v9)
theorem Vj(N:Nat)(v1:ar)(r:Bool)(J:yX N v1=some r):bA Tryz.prog 200 [(aD v1)] (·=(aU r)):=by
 rw[yX]at J;refine bZ Tryz.func200 (by kernel_rfl) (by kernel_rfl) ?_;refine ax ak [[]] ?_;obtain⟨v2,h2,J⟩:=au J;refine dn ak [(3,(aU (v1.aQ==(1:Int)))),(4,(aU v2))] [.cells (aD v1).cells] ?_ ?_
 ·refine bc h2 (fun h1 h2=> ?_) fun h1 h2=> ?_
  ·cases h2;exact⟨so (os [21,24,27,31] (bT h1) []),by kernel_rfl⟩
  cases h2;exact⟨so (os [21,24,27,31] (bF h1) []),by kernel_rfl⟩
 refine ax ak [[]] ?_;obtain⟨v3,h4,J⟩:=au J;refine dn ak [(24,(aU v3))] [.cells (aD v1).cells] ?_ ?_
 ·refine bc h4 (fun h3 h4=> ?_) fun h3 h4=> ?_
  ·cases h4;exact⟨so (os [12,15,18,22] (bT h3) []),by kernel_rfl⟩
  cases h4;exact⟨so (os [12,15,18,22] (bF h3) []),by kernel_rfl⟩
 refine bc J (fun h5 J=> ?_) fun h5 J=> ?_
 ·cases J;exact wr ak [[(0,bT h5)],[]]
 refine ax ak [[(0,bF h5)]] ?_;obtain⟨v4,h7,J⟩:=au J;refine dn ak [(33,(aU v4))] [.cells (aD v1).cells] ?_ ?_
 ·refine bc h7 (fun h6 h7=> ?_) fun h6 h7=> ?_
  ·cases h7;exact⟨so (os [9,12,15,18,22] (bF (dH h6)) []),by kernel_rfl⟩
  cases h7;exact⟨so (os [9,12,15,18,22] (bT (dK h6)) []),by kernel_rfl⟩
 refine bc J (fun h8 J=> ?_) fun h8 J=> ?_
 ·cases J;exact wr ak [[(0,bT h8)],[]]
 refine ax ak [[(0,bF h8)]] ?_;obtain⟨v5,aJ,J⟩:=au J;refine dn ak [(42,(aU v5))] [.cells (aD v1).cells] ?_ ?_
 ·refine bc aJ (fun h9 aJ=> ?_) fun h9 aJ=> ?_
  ·cases aJ;exact⟨so (os [9,12,15,18,22] (bF (dH h9)) []),by kernel_rfl⟩
  cases aJ;exact⟨so (os [9,12,15,18,22] (bT (dK h9)) []),by kernel_rfl⟩
 refine bc J (fun bQ J=> ?_) fun bQ J=> ?_
 ·cases J;exact wr ak [[(0,bT bQ)],[]]
 refine ax ak [[(0,bF bQ)]] ?_;obtain⟨v7,cg,J⟩:=au J;refine dn ak [(51,(aU v7))] [.cells (aD v1).cells] ?_ ?_
 ·refine bc cg (fun cl cg=> ?_) fun cl cg=> ?_
  ·cases cg;exact⟨so (os [9,12,15,18,22] (bF (dH cl)) []),by kernel_rfl⟩
  obtain⟨v6,dg,cg⟩:=au cg;cases cg;exact⟨so (os [9,12,15,18,22] (bT (dK cl)) [(16,cL (SZ N v1.aL v6 dg))]),by kernel_rfl⟩
 refine bc J (fun cV J=> ?_) fun cV J=> ?_
 ·cases J;exact wr ak [[(0,bT cV)],[]]
 refine ax ak [[(0,bF cV)]] ?_;obtain⟨v8,cr,J⟩:=au J;refine dn ak [(60,(aU v8))] [.cells (aD v1).cells] ?_ ?_
 ·refine bc cr (fun b9 cr=> ?_) fun b9 cr=> ?_
  ·cases cr;exact⟨so (os [9,12,15,18,33,37] (bF (dH b9)) (os [21,24,27,30] uN [])),by kernel_rfl⟩
  refine bc cr (fun c8 cr=> ?_) fun c8 cr=> ?_
  ·cases cr;exact⟨so (os [9,12,15,18,33,37] (bT (dK b9)) (os [21,24,27,30,34] (bF (dH c8)) [(28,oL v1.xIdx cW)])),by kernel_rfl⟩
  cases cr;exact⟨so (os [9,12,15,18,33,37] (bT (dK b9)) (os [21,24,27,30,34] (bT (dK c8)) [])),by kernel_rfl⟩
 refine bc J (fun dk J=> ?_) fun dk J=> ?_
 ·cases J;exact wr ak [[(0,bT dk)],[]]
 obtain⟨v9,eY,J⟩:=au J;cases J;exact wr ak [[(0,bF dk)],[(7,⟨_,_, .rq (cb:=[(.d (.sl (bC v1.xIdx))),(.fn 229 [])]) (h:=[.cells (aD v1).cells]) (l:=[]) (by kernel_rfl) (by kernel_rfl) (by kernel_rfl) (by kernel_rfl) (Xd N v1.xIdx v9 eY)⟩)]]
def BS(N:Nat)(v1:az):agW Bool:=
 Option.bind (bif (bL v1.aV==bL (bs []))then some false else Option.bind (ri N v1.aV) fun v2=>
 some (!v2)) fun v3=>
 some v3
theorem YW(N:Nat)(v1:az)(r:Bool)(J:BS N v1=some r):bA Tryz.prog 231 [(eC v1)] (·=(aU r)):=by
 rw[BS]at J;refine bZ Tryz.func231 (by kernel_rfl) (by kernel_rfl) ?_;refine ax ak [[]] ?_;obtain⟨v3,h3,J⟩:=au J;refine dn ak [(2,(aU v3))] [.cells (eC v1).cells] ?_ ?_
 ·refine bc h3 (fun h1 h3=> ?_) fun h1 h3=> ?_
  ·cases h3;exact⟨so (os [12,15,18,21,25] (bF (dH h1)) []),by kernel_rfl⟩
  obtain⟨v2,h2,h3⟩:=au h3;cases h3;exact⟨so (os [12,15,18,21,25] (bT (dK h1)) [(19,cL (Dm N v1.aV v2 h2))]),by kernel_rfl⟩
 cases J;exact wr ak []
def vm(N:Nat):agU az→Nat→agW Int
 |[],_=>
  some (-1:Int)
 |v4::v5,v2=>
  Option.bind (BS N v4) fun v6=>
  bif v6 then
   some (v2:Int)
  else
   (vm N v5 (v2+1))
def DS(N:Nat)(v1:agU az):agW Int:=
 vm N v1 0
theorem adx(N:Nat)(v1:agU az)(r:Int)(J:DS N v1=some r):bD Tryz.prog 72 [(.d (.sl (bC v1))),(.fn 231 [])] [] fun r1 h1=>r1=(ao r)∧h1=[]:=by
 rw[DS]at J;refine dS 0 Tryz.func72 (by kernel_rfl) (by kernel_rfl) (agd rfl) ?_;refine ax ak [[],[(4,oL v1 cW)]] ?_;refine dj 0 (bC v1) (by kernel_rfl) fun h1=> ?_;have h2:=cP cW h1;refine c9 ak 1 [] [0,1,7,8] 0 (fun((v2,v3):Nat×(agU az))=>⟨19,[(0,(.d (.sl (bC v1)))),(1,(.fn 231 [])),(7,(ao (v1.length:Int))),(8,(ao (v2:Int)))],[]⟩) (fun((v2,v3):Nat×(agU az))=>v1.drop v2=v3∧vm N v3 v2=some r) (fun((v2,v3):Nat×(agU az))=>v3.length) (0,v1) ⟨rfl,J⟩ ?_;rintro⟨v2,v3⟩ ⟨h3,J⟩ f1 ba;cases v3 with
 |nil=>
  rw[vm]at J;cases J;exact bH ak [[],[(0,bF (ck h3))],[]]
 |cons v4 v5=>
  rw[vm]at J;obtain⟨v6,h4,J⟩:=au J;refine ax ak [[],[(0,bT (cf h3))],[],[(10,oE (ik (bS h3))),(16,cL (YW N v4 v6 h4))]] ?_;refine bc J (fun h5 J=> ?_) fun h5 J=> ?_
  ·cases J;exact bH ak [[(0,bT h5)],[]]
  exact cU ak ba (v2+1,v5) [[(0,bF h5)],[(2,oq (cx h3 rfl h2))]] ⟨ct h3,J⟩
def GJ(N:Nat)(v1:agU az):agW Bool:=
 Option.bind (DS N v1) fun v2=>
 some (decide (v2≥(0:Int)))
theorem aeF(N:Nat)(v1:agU az)(r:Bool)(J:GJ N v1=some r):bD Tryz.prog 36 [(.d (.sl (bC v1))),(.fn 231 [])] [] fun r1 h1=>r1=(aU r)∧h1=[]:=by
 rw[GJ]at J;refine dS 0 Tryz.func36 (by kernel_rfl) (by kernel_rfl) (agd rfl) ?_;obtain⟨v2,h1,J⟩:=au J;cases J;exact bH ak [[],[(7,⟨_,_, .rq (cb:=[(.d (.sl (bC v1))),(.fn 231 [])]) (h:=[]) (l:=[]) (by kernel_rfl) (by kernel_rfl) (by kernel_rfl) (by kernel_rfl) (adx N v1 v2 h1)⟩)]]
def Cd(N:Nat)(v1:ar):agW Bool:=
 Option.bind (bif (v1.aQ==(3:Int))then Option.bind (ri N v1.aq) fun v2=>
 some (!v2)else some false) fun v3=>
 bif v3 then
  some false
 else
  Option.bind (GJ N v1.xIdx) fun v4=>
  some (!v4)
theorem Xb(N:Nat)(v1:ar)(r:Bool)(J:Cd N v1=some r):bA Tryz.prog 201 [(aD v1)] (·=(aU r)):=by
 rw[Cd]at J;refine bZ Tryz.func201 (by kernel_rfl) (by kernel_rfl) ?_;refine ax ak [[]] ?_;obtain⟨v3,h3,J⟩:=au J;refine dn ak [(11,(aU v3))] [.cells (aD v1).cells] ?_ ?_
 ·refine bc h3 (fun h1 h3=> ?_) fun h1 h3=> ?_
  ·obtain⟨v2,h2,h3⟩:=au h3;cases h3;exact⟨so (os [12,15,18,21,25] (bT h1) [(19,cL (Dm N v1.aq v2 h2))]),by kernel_rfl⟩
  cases h3;exact⟨so (os [12,15,18,21,25] (bF h1) []),by kernel_rfl⟩
 refine bc J (fun h4 J=> ?_) fun h4 J=> ?_
 ·cases J;exact wr ak [[(0,bT h4)],[]]
 obtain⟨v4,h5,J⟩:=au J;cases J;exact wr ak [[(0,bF h4)],[(7,⟨_,_, .rq (cb:=[(.d (.sl (bC v1.xIdx))),(.fn 231 [])]) (h:=[.cells (aD v1).cells]) (l:=[]) (by kernel_rfl) (by kernel_rfl) (by kernel_rfl) (by kernel_rfl) (aeF N v1.xIdx v4 h5)⟩)]]
def yi(N:Nat)(v1:Int)(v3:Bool):agW Int:=
 bif v3 then
  some (1:Int)
 else
  bif (v1==(11:Int))then
   some (3:Int)
  else
   some (2:Int)
def vC(N:Nat)(v1:Int)(v2:Bool):agW Int:=
 bif v2 then
  some (0:Int)
 else
  bif (v1==(8:Int))then
   yi N v1 (v1==(8:Int))
  else
   bif (v1==(12:Int))then
    yi N v1 (v1==(12:Int))
   else
    yi N v1 (v1==(18:Int))
def zi(N:Nat)(v1:Int):agW Int:=
 bif (v1==(1:Int))then
  vC N v1 (v1==(1:Int))
 else
  bif (v1==(2:Int))then
   vC N v1 (v1==(2:Int))
  else
   vC N v1 (v1==(3:Int))
theorem Tz(N:Nat)(v1:Int)(r:Int)(J:zi N v1=some r):bA Tryz.prog 232 [(ao v1)] (·=(ao r)):=by
 rw[zi]at J;refine bZ Tryz.func232 (by kernel_rfl) (by kernel_rfl) ?_;refine ni ak 1 [[],[],[]] [3,4] 0 (fun(v2:Bool)=>⟨14,[(3,(ao v1)),(4,(aU v2))],[]⟩) (fun(v2:Bool)=>vC N v1 v2=some r) ?_ ?_
 ·intro f1 ba;refine bc J (fun h6 J=> ?_) fun h6 J=> ?_
  ·exact dN ak ba (v1==(1:Int)) [[(0,bT h6)]] J
  refine ax ak [[(0,bF h6)],[]] ?_;refine bc J (fun h7 J=> ?_) fun h7 J=> ?_
  ·exact dN ak ba (v1==(2:Int)) [[(0,bT h7)]] J
  exact dN ak ba (v1==(3:Int)) [[(0,bF h7)],[]] J
 rintro v2 J
 try dsimp only at J
 rw[vC]at J;refine bc J (fun h1 J=> ?_) fun h1 J=> ?_
 ·cases J;exact wr ak [[(0,bT h1)],[]]
 refine ni ak 2 [[(0,bF h1)],[]] [3,8] 0 (fun(v3:Bool)=>⟨14,[(3,(ao v1)),(8,(aU v3))],[]⟩) (fun(v3:Bool)=>yi N v1 v3=some r) ?_ ?_
 ·intro f2 fD;refine bc J (fun h4 J=> ?_) fun h4 J=> ?_
  ·exact dN ak fD (v1==(8:Int)) [[(0,bT h4)]] J
  refine ax ak [[(0,bF h4)],[]] ?_;refine bc J (fun h5 J=> ?_) fun h5 J=> ?_
  ·exact dN ak fD (v1==(12:Int)) [[(0,bT h5)]] J
  exact dN ak fD (v1==(18:Int)) [[(0,bF h5)],[]] J
 rintro v3 J
 try dsimp only at J
 rw[yi]at J;refine bc J (fun h2 J=> ?_) fun h2 J=> ?_
 ·cases J;exact wr ak [[(0,bT h2)],[]]
 refine ax ak [[(0,bF h2)],[]] ?_;refine bc J (fun h3 J=> ?_) fun h3 J=> ?_
 ·cases J;exact wr ak [[(0,bT h3)],[]]
 cases J;exact wr ak [[(0,bF h3)],[]]
def GC(N:Nat)(v1:az):agW Bool:=
 some (decide ((v1.bj.length:Int)>(6:Int)))
theorem adj(N:Nat)(v1:az)(r:Bool)(J:GC N v1=some r):bA Tryz.prog 233 [(eC v1)] (·=(aU r)):=by
 rw[GC]at J;refine bZ Tryz.func233 (by kernel_rfl) (by kernel_rfl) ?_;cases J;exact wr ak [[],[(7,oL v1.bj cd)]]
def s8(N:Nat):agU az→Nat→agW Int
 |[],_=>
  some (-1:Int)
 |v4::v5,v2=>
  Option.bind (GC N v4) fun v6=>
  bif v6 then
   some (v2:Int)
  else
   (s8 N v5 (v2+1))
def GR(N:Nat)(v1:agU az):agW Int:=
 s8 N v1 0
theorem afk(N:Nat)(v1:agU az)(r:Int)(J:GR N v1=some r):bD Tryz.prog 72 [(.d (.sl (bC v1))),(.fn 233 [])] [] fun r1 h1=>r1=(ao r)∧h1=[]:=by
 rw[GR]at J;refine dS 0 Tryz.func72 (by kernel_rfl) (by kernel_rfl) (agd rfl) ?_;refine ax ak [[],[(4,oL v1 cW)]] ?_;refine dj 0 (bC v1) (by kernel_rfl) fun h1=> ?_;have h2:=cP cW h1;refine c9 ak 1 [] [0,1,7,8] 0 (fun((v2,v3):Nat×(agU az))=>⟨19,[(0,(.d (.sl (bC v1)))),(1,(.fn 233 [])),(7,(ao (v1.length:Int))),(8,(ao (v2:Int)))],[]⟩) (fun((v2,v3):Nat×(agU az))=>v1.drop v2=v3∧s8 N v3 v2=some r) (fun((v2,v3):Nat×(agU az))=>v3.length) (0,v1) ⟨rfl,J⟩ ?_;rintro⟨v2,v3⟩ ⟨h3,J⟩ f1 ba;cases v3 with
 |nil=>
  rw[s8]at J;cases J;exact bH ak [[],[(0,bF (ck h3))],[]]
 |cons v4 v5=>
  rw[s8]at J;obtain⟨v6,h4,J⟩:=au J;refine ax ak [[],[(0,bT (cf h3))],[],[(10,oE (ik (bS h3))),(16,cL (adj N v4 v6 h4))]] ?_;refine bc J (fun h5 J=> ?_) fun h5 J=> ?_
  ·cases J;exact bH ak [[(0,bT h5)],[]]
  exact cU ak ba (v2+1,v5) [[(0,bF h5)],[(2,oq (cx h3 rfl h2))]] ⟨ct h3,J⟩
def Dc(N:Nat)(v1:agU az):agW Bool:=
 Option.bind (GR N v1) fun v2=>
 some (decide (v2≥(0:Int)))
theorem Xt(N:Nat)(v1:agU az)(r:Bool)(J:Dc N v1=some r):bD Tryz.prog 36 [(.d (.sl (bC v1))),(.fn 233 [])] [] fun r1 h1=>r1=(aU r)∧h1=[]:=by
 rw[Dc]at J;refine dS 0 Tryz.func36 (by kernel_rfl) (by kernel_rfl) (agd rfl) ?_;obtain⟨v2,h1,J⟩:=au J;cases J;exact bH ak [[],[(7,⟨_,_, .rq (cb:=[(.d (.sl (bC v1))),(.fn 233 [])]) (h:=[]) (l:=[]) (by kernel_rfl) (by kernel_rfl) (by kernel_rfl) (by kernel_rfl) (afk N v1 v2 h1)⟩)]]
def AO(N:Nat)(v1:ar):agW Bool:=
 Option.bind (zi N v1.aQ) fun v2=>
 Option.bind (bif ((v1.a7.length:Int) !=v2)then some true else some (decide ((v1.xIdx.length:Int)>(6:Int)))) fun v3=>
 bif v3 then
  some false
 else
  Option.bind (Dc N v1.xIdx) fun v4=>
  some (!v4)
theorem aeh(N:Nat)(v1:ar)(r:Bool)(J:AO N v1=some r):bA Tryz.prog 202 [(aD v1)] (·=(aU r)):=by
 rw[AO]at J;refine bZ Tryz.func202 (by kernel_rfl) (by kernel_rfl) ?_;refine ax ak [[]] ?_;obtain⟨v2,h1,J⟩:=au J;obtain⟨v3,h3,J⟩:=au J;refine dn ak [(15,(aU v3))] [.cells (aD v1).cells] ?_ ?_
 ·refine bc h3 (fun h2 h3=> ?_) fun h2 h3=> ?_
  ·cases h3;exact⟨so (os [24,27,30,33,37] (bT h2) [(7,oL v1.a7 da),(16,cL (Tz N v1.aQ v2 h1))]),by kernel_rfl⟩
  cases h3;exact⟨so (os [24,27,30,33,37] (bF h2) [(7,oL v1.a7 da),(16,cL (Tz N v1.aQ v2 h1)),(31,oL v1.xIdx cW)]),by kernel_rfl⟩
 refine bc J (fun h4 J=> ?_) fun h4 J=> ?_
 ·cases J;exact wr ak [[(0,bT h4)],[]]
 obtain⟨v4,h5,J⟩:=au J;cases J;exact wr ak [[(0,bF h4)],[(7,⟨_,_, .rq (cb:=[(.d (.sl (bC v1.xIdx))),(.fn 233 [])]) (h:=[.cells (aD v1).cells]) (l:=[]) (by kernel_rfl) (by kernel_rfl) (by kernel_rfl) (by kernel_rfl) (Xt N v1.xIdx v4 h5)⟩)]]
def wJ(N:Nat)(v1:ar):agW Bool:=
 Option.bind (bif (decide ((13:Int)≤v1.aQ))then some (decide (v1.aQ≤(18:Int)))else some false) fun v2=>
 some v2
theorem Tb(N:Nat)(v1:ar)(r:Bool)(J:wJ N v1=some r):bA Tryz.prog 137 [(aD v1)] (·=(aU r)):=by
 rw[wJ]at J;refine bZ Tryz.func137 (by kernel_rfl) (by kernel_rfl) ?_;refine ax ak [[]] ?_;obtain⟨v2,h2,J⟩:=au J;refine dn ak [(2,(aU v2))] [.cells (aD v1).cells] ?_ ?_
 ·refine bc h2 (fun h1 h2=> ?_) fun h1 h2=> ?_
  ·cases h2;exact⟨so (os [12,15,18,22] (bT h1) []),by kernel_rfl⟩
  cases h2;exact⟨so (os [12,15,18,22] (bF h1) []),by kernel_rfl⟩
 cases J;exact wr ak []
def vV(N:Nat)(v1:Int)(v2:Int)(v3:Bool):agW Bool:=
 bif v3 then
  some true
 else
  Option.bind (bif (v1==(11:Int))then some (v2==(0:Int))else some false) fun v4=>
  some v4
def Az(N:Nat)(v1:Int)(v2:Int):agW Bool:=
 bif (v1==(16:Int))then
  vV N v1 v2 (v1==(16:Int))
 else
  bif (v1==(17:Int))then
   vV N v1 v2 (v1==(17:Int))
  else
   vV N v1 v2 (v1==(18:Int))
theorem Vr(N:Nat)(v1:Int)(v2:Int)(r:Bool)(J:Az N v1 v2=some r):bA Tryz.prog 234 [(ao v1),(ao v2)] (·=(aU r)):=by
 rw[Az]at J;refine bZ Tryz.func234 (by kernel_rfl) (by kernel_rfl) ?_;refine ni ak 1 [[],[],[]] [0,1,6] 0 (fun(v3:Bool)=>⟨16,[(0,(ao v1)),(1,(ao v2)),(6,(aU v3))],[]⟩) (fun(v3:Bool)=>vV N v1 v2 v3=some r) ?_ ?_
 ·intro f1 ba;refine bc J (fun h4 J=> ?_) fun h4 J=> ?_
  ·exact dN ak ba (v1==(16:Int)) [[(0,bT h4)]] J
  refine ax ak [[(0,bF h4)],[]] ?_;refine bc J (fun h5 J=> ?_) fun h5 J=> ?_
  ·exact dN ak ba (v1==(17:Int)) [[(0,bT h5)]] J
  exact dN ak ba (v1==(18:Int)) [[(0,bF h5)],[]] J
 rintro v3 J
 try dsimp only at J
 rw[vV]at J;refine bc J (fun h1 J=> ?_) fun h1 J=> ?_
 ·cases J;exact wr ak [[(0,bT h1)],[]]
 refine ax ak [[(0,bF h1)]] ?_;obtain⟨v4,h3,J⟩:=au J;refine dn ak [(4,(aU v4))] [] ?_ ?_
 ·refine bc h3 (fun h2 h3=> ?_) fun h2 h3=> ?_
  ·cases h3;exact⟨so (os [9,12,16] (bT h2) []),by kernel_rfl⟩
  cases h3;exact⟨so (os [9,12,16] (bF h2) []),by kernel_rfl⟩
 cases J;exact wr ak []
def u7(N:Nat)(v1:ar):agU ar→Nat→agW Bool
 |[],_=>
  some true
 |v7::v8,v5=>
  Option.bind (wJ N v7) fun v9=>
  Option.bind (Az N v1.aQ (v5:Int)) fun v10=>
  bif (v9==v10)then
   (u7 N v1 v8 (v5+1))
  else
   some false
def Cs(N:Nat)(v1:ar):agW Bool:=
 Option.bind (bif (v1.aQ==(1:Int))then Option.bind (su N v1.aC) fun v2=>
 some (v2 !=(0:Int))else(bif (v1.aQ==(12:Int))then Option.bind (su N v1.aC) fun v3=>
 some (v3 !=(0:Int))else some false)) fun v4=>
 bif v4 then
  some false
 else
  u7 N v1 v1.a7 0
theorem XS(N:Nat)(v1:ar)(r:Bool)(J:Cs N v1=some r):bA Tryz.prog 203 [(aD v1)] (·=(aU r)):=by
 rw[Cs]at J;refine bZ Tryz.func203 (by kernel_rfl) (by kernel_rfl) ?_;refine ax ak [[]] ?_;obtain⟨v4,h5,J⟩:=au J;refine dn ak [(18,(aU v4))] [.cells (aD v1).cells] ?_ ?_
 ·refine bc h5 (fun h1 h5=> ?_) fun h1 h5=> ?_
  ·obtain⟨v2,h2,h5⟩:=au h5;cases h5;exact⟨so (os [12,15,18,22] (bT h1) (os [27,30,33,36,40] (bT rfl) [(34,cL (CZ N v1.aC v2 h2))])),by kernel_rfl⟩
  refine bc h5 (fun h3 h5=> ?_) fun h3 h5=> ?_
  ·obtain⟨v3,h4,h5⟩:=au h5;cases h5;exact⟨so (os [12,15,18,22] (bF h1) (os [27,30,33,36,40] (bT h3) [(34,cL (CZ N v1.aC v3 h4))])),by kernel_rfl⟩
  cases h5;exact⟨so (os [12,15,18,22] (bF h1) (os [27,30,33,36,40] (bF h3) [])),by kernel_rfl⟩
 refine bc J (fun h6 J=> ?_) fun h6 J=> ?_
 ·cases J;exact wr ak [[(0,bT h6)],[]]
 refine ax ak [[(0,bF h6)],[(7,oL v1.a7 da)]] ?_;refine dj 20 (cQ v1.a7) (by kernel_rfl) fun h7=> ?_;have h8:=cP da h7;refine c9 ak 1 [] [1,20,21,22] 1 (fun((v5,v6):Nat×(agU ar))=>⟨35,[(1,(.ptr 0 0)),(20,(.d (.sl (cQ v1.a7)))),(21,(ao (v1.a7.length:Int))),(22,(ao (v5:Int)))],[.cells (aD v1).cells]⟩) (fun((v5,v6):Nat×(agU ar))=>v1.a7.drop v5=v6∧u7 N v1 v6 v5=some r) (fun((v5,v6):Nat×(agU ar))=>v6.length) (0,v1.a7) ⟨rfl,J⟩ ?_;rintro⟨v5,v6⟩ ⟨h9,J⟩ f1 ba;cases v6 with
 |nil=>
  rw[u7]at J;cases J;exact wr ak [[],[(0,bF (ck h9))],[]]
 |cons v7 v8=>
  rw[u7]at J;obtain⟨v9,aJ,J⟩:=au J;obtain⟨v10,bQ,J⟩:=au J;refine ax ak [[],[(0,bT (cf h9))],[(4,oE (lh (bS h9)))],[(4,cL (Tb N v7 v9 aJ)),(16,cL (Vr N v1.aQ (v5:Int) v10 bQ))]] ?_;refine bc J (fun cl J=> ?_) fun cl J=> ?_
  ·exact cU ak ba (v5+1,v8) [[(0,bF (dH cl))],[(2,oq (cx h9 rfl h8))]] ⟨ct h9,J⟩
  cases J;exact wr ak [[(0,bT (dK cl))],[]]
def B6(N:Nat)(v1:Int):agW Bool:=
 Option.bind (bif (decide (v1≥(2:Int)))then some (decide (v1≤(31:Int)))else some false) fun v2=>
 some v2
theorem Oe(N:Nat)(v1:Int)(r:Bool)(J:B6 N v1=some r):bA Tryz.prog 253 [(ao v1)] (·=(aU r)):=by
 rw[B6]at J;refine bZ Tryz.func253 (by kernel_rfl) (by kernel_rfl) ?_;refine ax ak [[]] ?_;obtain⟨v2,h2,J⟩:=au J;refine dn ak [(2,(aU v2))] [] ?_ ?_
 ·refine bc h2 (fun h1 h2=> ?_) fun h1 h2=> ?_
  ·cases h2;exact⟨so (os [9,12,16] (bT h1) []),by kernel_rfl⟩
  cases h2;exact⟨so (os [9,12,16] (bF h1) []),by kernel_rfl⟩
 cases J;exact wr ak []
def Ea(N:Nat)(v1:Int):agW Int64:=
 Option.bind (B6 N v1) fun v2=>
 bif v2 then
  bif (decide ((0:Int)≤(IntKind.u64.wrap (a8 (v1-(1:Int))))))then
  some (-(Int64.ofInt ((1:Int)*2^(min ((IntKind.u64.wrap (a8 (v1-(1:Int))))).toNat (IntKind.bits .i64)))))
  else none
 else
  some (0:Int64)
theorem Rg(N:Nat)(v1:Int)(r:Int64)(J:Ea N v1=some r):bA Tryz.prog 245 [(ao v1)] (·=(bt r)):=by
 rw[Ea]at J;refine bZ Tryz.func245 (by kernel_rfl) (by kernel_rfl) ?_;obtain⟨v2,h1,J⟩:=au J;refine ax ak [[],[(4,cL (Oe N v1 v2 h1))]] ?_;refine bc J (fun h2 J=> ?_) fun h2 J=> ?_
 ·obtain⟨h3,J⟩:=dO J;cases J;exact wr ak [[(0,bF (dH h2))],[(10,⟨_,_, .nn (b:=(IntKind.u64.wrap (a8 (v1-(1:Int))))) (of_decide_eq_true h3)⟩),(11,⟨_,_, .eq (BA ((1:Int)*2^(min ((IntKind.u64.wrap (a8 (v1-(1:Int))))).toNat (IntKind.bits .i64))))⟩),(14,⟨_,_, .eq (Yx (Int64.ofInt ((1:Int)*2^(min ((IntKind.u64.wrap (a8 (v1-(1:Int))))).toNat (IntKind.bits .i64)))))⟩)]]
 cases J;exact wr ak [[(0,bT (dK h2))],[]]
def EC(N:Nat)(v1:Int):agW Int64:=
 Option.bind (B6 N v1) fun v2=>
 bif v2 then
  bif (decide ((0:Int)≤(IntKind.u64.wrap (a8 (v1-(1:Int))))))then
  some ((Int64.ofInt ((1:Int)*2^(min ((IntKind.u64.wrap (a8 (v1-(1:Int))))).toNat (IntKind.bits .i64))))-(1:Int64))
  else none
 else
  some (0:Int64)
theorem VO(N:Nat)(v1:Int)(r:Int64)(J:EC N v1=some r):bA Tryz.prog 246 [(ao v1)] (·=(bt r)):=by
 rw[EC]at J;refine bZ Tryz.func246 (by kernel_rfl) (by kernel_rfl) ?_;obtain⟨v2,h1,J⟩:=au J;refine ax ak [[],[(4,cL (Oe N v1 v2 h1))]] ?_;refine bc J (fun h2 J=> ?_) fun h2 J=> ?_
 ·obtain⟨h3,J⟩:=dO J;cases J;exact wr ak [[(0,bF (dH h2))],[(10,⟨_,_, .nn (b:=(IntKind.u64.wrap (a8 (v1-(1:Int))))) (of_decide_eq_true h3)⟩),(11,⟨_,_, .eq (BA ((1:Int)*2^(min ((IntKind.u64.wrap (a8 (v1-(1:Int))))).toNat (IntKind.bits .i64))))⟩),(14,⟨_,_, .eq (NO (Int64.ofInt ((1:Int)*2^(min ((IntKind.u64.wrap (a8 (v1-(1:Int))))).toNat (IntKind.bits .i64)))) (1:Int64))⟩)]]
 cases J;exact wr ak [[(0,bT (dK h2))],[]]
def AF(N:Nat)(v1:bn)(v2:fO):agW Bool:=
 Option.bind (yo N v1) fun v3=>
 Option.bind (bif (v3==(0:Int))then(bif (v2.xD.toInt==(1:Int))then Option.bind (Ea N v1.ca) fun v4=>
 (bif (decide (v2.xN.toInt≥v4.toInt))then Option.bind (EC N v1.ca) fun v5=>
 some (decide (v2.xN.toInt≤v5.toInt))else some false)else some false)else some false) fun v6=>
 some v6
theorem Wk(N:Nat)(v1:bn)(v2:fO)(r:Bool)(J:AF N v1 v2=some r):bA Tryz.prog 235 [(gO v1),(w5 v2)] (·=(aU r)):=by
 rw[AF]at J;refine bZ Tryz.func235 (by kernel_rfl) (by kernel_rfl) ?_;refine ax ak [[]] ?_;obtain⟨v3,h1,J⟩:=au J;obtain⟨v6,h7,J⟩:=au J;refine dn ak [(4,(aU v6))] [.cells (gO v1).cells, .cells (w5 v2).cells] ?_ ?_
 ·refine bc h7 (fun h2 h7=> ?_) fun h2 h7=> ?_
  ·refine bc h7 (fun h3 h7=> ?_) fun h3 h7=> ?_
   ·obtain⟨v4,h4,h7⟩:=au h7;refine bc h7 (fun h5 h7=> ?_) fun h5 h7=> ?_
    ·obtain⟨v5,h6,h7⟩:=au h7;cases h7;exact⟨so (os [12,15,18,22] (bT h2) (os [27,30,33,36,39,42,46] (bT h3) (os [51,54,57,60,63,66,70] (bT h5) [(4,cL (Bu N v1 v3 h1)),(40,cL (Rg N v1.ca v4 h4)),(64,cL (VO N v1.ca v5 h6))]))),by kernel_rfl⟩
    cases h7;exact⟨so (os [12,15,18,22] (bT h2) (os [27,30,33,36,39,42,46] (bT h3) (os [51,54,57,60,63,66,70] (bF h5) [(4,cL (Bu N v1 v3 h1)),(40,cL (Rg N v1.ca v4 h4))]))),by kernel_rfl⟩
   cases h7;exact⟨so (os [12,15,18,22] (bT h2) (os [27,30,33,36,39,42,46] (bF h3) (os [51,54,57,60,63,66,70] (bF rfl) [(4,cL (Bu N v1 v3 h1))]))),by kernel_rfl⟩
  cases h7;exact⟨so (os [12,15,18,22] (bF h2) (os [27,30,33,36,39,42,46,51,54,57,60,63,66,70] (bF rfl) [(4,cL (Bu N v1 v3 h1))])),by kernel_rfl⟩
 cases J;exact wr ak []
def CL(N:Nat)(v1:Int64):agW Bool:=
 Option.bind (bif (decide (v1.toInt≥(-2147483647:Int)))then some (decide (v1.toInt≤(2147483647:Int)))else some false) fun v2=>
 some v2
theorem aai(N:Nat)(v1:Int64)(r:Bool)(J:CL N v1=some r):bA Tryz.prog 236 [(bt v1)] (·=(aU r)):=by
 rw[CL]at J;refine bZ Tryz.func236 (by kernel_rfl) (by kernel_rfl) ?_;refine ax ak [[]] ?_;obtain⟨v2,h2,J⟩:=au J;refine dn ak [(2,(aU v2))] [] ?_ ?_
 ·refine bc h2 (fun h1 h2=> ?_) fun h1 h2=> ?_
  ·cases h2;exact⟨so (os [9,12,16] (bT h1) []),by kernel_rfl⟩
  cases h2;exact⟨so (os [9,12,16] (bF h1) []),by kernel_rfl⟩
 cases J;exact wr ak []
def GQ(N:Nat)(v1:Int64):agW Bool:=
 Option.bind (bif (decide (v1.toInt≥(-2147483647:Int)))then some (decide (v1.toInt≤(2147483647:Int)))else some false) fun v2=>
 some v2
theorem TK(N:Nat)(v1:Int64)(r:Bool)(J:GQ N v1=some r):bA Tryz.prog 247 [(bt v1)] (·=(aU r)):=by
 rw[GQ]at J;refine bZ Tryz.func247 (by kernel_rfl) (by kernel_rfl) ?_;refine ax ak [[]] ?_;obtain⟨v2,h2,J⟩:=au J;refine dn ak [(2,(aU v2))] [] ?_ ?_
 ·refine bc h2 (fun h1 h2=> ?_) fun h1 h2=> ?_
  ·cases h2;exact⟨so (os [9,12,16] (bT h1) []),by kernel_rfl⟩
  cases h2;exact⟨so (os [9,12,16] (bF h1) []),by kernel_rfl⟩
 cases J;exact wr ak []
def Cv(N:Nat)(v1:Int64):agW Int:=
 bif (decide (v1.toInt<(0:Int)))then
  some (IntKind.u64.wrap (0-(IntKind.u64.wrap v1.toInt)))
 else
  some (IntKind.u64.wrap v1.toInt)
theorem W2(N:Nat)(v1:Int64)(r:Int)(J:Cv N v1=some r):bA Tryz.prog 249 [(bt v1)] (·=(.d (.v (.int .u64 r)))):=by
 rw[Cv]at J;refine bZ Tryz.func249 (by kernel_rfl) (by kernel_rfl) ?_;refine ax ak [[],[]] ?_;refine bc J (fun h1 J=> ?_) fun h1 J=> ?_
 ·cases J;exact wr ak [[(0,bT h1)],[]]
 cases J;exact wr ak [[(0,bF h1)],[]]
def tK(N:Nat):Nat→Int→Int→agW Int
 |0,_,_=>none
 |v3+1,v4,v5=>
  bif (v5 !=(0:Int))then
   (fun bE dP=>tK N v3 bE dP) v5 ((v4).tmod v5)
  else
   some v4
def Fg(N:Nat)(v1:Int)(v2:Int):agW Int:=
 tK N N v1 v2
theorem abL(N:Nat)(v1:Int)(v2:Int)(r:Int)(J:Fg N v1 v2=some r):bA Tryz.prog 248 [(.d (.v (.int .u64 v1))),(.d (.v (.int .u64 v2)))] (·=(.d (.v (.int .u64 r)))):=by
 rw[Fg]at J;refine bZ Tryz.func248 (by kernel_rfl) (by kernel_rfl) ?_;refine c9 ak 1 [[]] [0,1] 0 (fun((v3,v4,v5):Nat×Int×Int)=>⟨12,[(0,(.d (.v (.int .u64 v4)))),(1,(.d (.v (.int .u64 v5))))],[]⟩) (fun((v3,v4,v5):Nat×Int×Int)=>tK N v3 v4 v5=some r) (fun((v3,v4,v5):Nat×Int×Int)=>v3) (N,v1,v2) J ?_;rintro⟨v3,v4,v5⟩ J f1 ba
 try dsimp only at J
 cases v3 with
 |zero=>
  rw[tK]at J;cases J
 |succ v3=>
  rw[tK]at J;refine ax ak [[]] ?_;refine bc J (fun h1 J=> ?_) fun h1 J=> ?_
  ·exact cU ak ba (v3,v5,((v4).tmod v5)) [[(0,bT h1)],[(10,⟨_,_, .nz (b:=v5) (bne_iff_ne.1 h1)⟩)]] J
  cases J;exact wr ak [[(0,bF h1)],[]]
def FP(N:Nat)(v1:fO):agW Bool:=
 Option.bind (bif (decide (v1.xD.toInt≥(1:Int)))then(bif (decide (v1.xD.toInt≤(2147483647:Int)))then Option.bind (GQ N v1.xN) fun v2=>
 (bif v2 then Option.bind (Cv N v1.xN) fun v3=>
 Option.bind (Fg N v3 (IntKind.u64.wrap v1.xD.toInt)) fun v4=>
 some (v4==(1:Int))else some false)else some false)else some false) fun v5=>
 some v5
theorem Xp(N:Nat)(v1:fO)(r:Bool)(J:FP N v1=some r):bA Tryz.prog 237 [(w5 v1)] (·=(aU r)):=by
 rw[FP]at J;refine bZ Tryz.func237 (by kernel_rfl) (by kernel_rfl) ?_;refine ax ak [[]] ?_;obtain⟨v5,h7,J⟩:=au J;refine dn ak [(2,(aU v5))] [.cells (w5 v1).cells] ?_ ?_
 ·refine bc h7 (fun h1 h7=> ?_) fun h1 h7=> ?_
  ·refine bc h7 (fun h2 h7=> ?_) fun h2 h7=> ?_
   ·obtain⟨v2,h3,h7⟩:=au h7;refine bc h7 (fun h4 h7=> ?_) fun h4 h7=> ?_
    ·obtain⟨v3,h5,h7⟩:=au h7;obtain⟨v4,h6,h7⟩:=au h7;cases h7;exact⟨so (os [12,15,18,22] (bT h1) (os [27,30,33,37] (bT h2) (os [42,45,48,51,54,57,60,63,67] (bT h4) [(34,cL (TK N v1.xN v2 h3)),(49,cL (W2 N v1.xN v3 h5)),(61,cL (abL N v3 (IntKind.u64.wrap v1.xD.toInt) v4 h6))]))),by kernel_rfl⟩
    cases h7;exact⟨so (os [12,15,18,22] (bT h1) (os [27,30,33,37] (bT h2) (os [42,45,48,51,54,57,60,63,67] (bF h4) [(34,cL (TK N v1.xN v2 h3))]))),by kernel_rfl⟩
   cases h7;exact⟨so (os [12,15,18,22] (bT h1) (os [27,30,33,37] (bF h2) (os [42,45,48,51,54,57,60,63,67] (bF rfl) []))),by kernel_rfl⟩
  cases h7;exact⟨so (os [12,15,18,22] (bF h1) (os [27,30,33,37,42,45,48,51,54,57,60,63,67] (bF rfl) [])),by kernel_rfl⟩
 cases J;exact wr ak []
def Au(N:Nat)(v1:bn)(v2:fO):agW Bool:=
 Option.bind (su N v1) fun v3=>
 bif (v3 !=(0:Int))then
  some false
 else
  bif (v1.bW==(2:Int))then
   Option.bind (AF N v1 v2) fun v4=>
   some v4
  else
   bif (v1.bW==(3:Int))then
    Option.bind (bif (v2.xD.toInt==(1:Int))then Option.bind (CL N v2.xN) fun v5=>
    some v5 else some false) fun v6=>
    some v6
   else
    Option.bind (FP N v2) fun v7=>
    some v7
theorem ae5(N:Nat)(v1:bn)(v2:fO)(r:Bool)(J:Au N v1 v2=some r):bA Tryz.prog 204 [(gO v1),(w5 v2)] (·=(aU r)):=by
 rw[Au]at J;refine bZ Tryz.func204 (by kernel_rfl) (by kernel_rfl) ?_;obtain⟨v3,h1,J⟩:=au J;refine ax ak [[],[(4,cL (CZ N v1 v3 h1))]] ?_;refine bc J (fun h2 J=> ?_) fun h2 J=> ?_
 ·cases J;exact wr ak [[(0,bT h2)],[]]
 refine ax ak [[(0,bF h2)],[],[]] ?_;refine bc J (fun h3 J=> ?_) fun h3 J=> ?_
 ·obtain⟨v4,h4,J⟩:=au J;obtain rfl:=sj J;exact wr ak [[(0,bT h3)],[(7,cL (Wk N v1 v2 v4 h4))]]
 refine ax ak [[(0,bF h3)],[]] ?_;refine bc J (fun h5 J=> ?_) fun h5 J=> ?_
 ·refine ax ak [[(0,bT h5)]] ?_;obtain⟨v6,h8,J⟩:=au J;refine dn ak [(4,(aU v6))] [.cells (gO v1).cells, .cells (w5 v2).cells] ?_ ?_
  ·refine bc h8 (fun h6 h8=> ?_) fun h6 h8=> ?_
   ·obtain⟨v5,h7,h8⟩:=au h8;obtain rfl:=sj h8;exact⟨so (os [12,15,18,22] (bT h6) [(19,cL (aai N v2.xN v5 h7))]),by kernel_rfl⟩
   cases h8;exact⟨so (os [12,15,18,22] (bF h6) []),by kernel_rfl⟩
  cases J;exact wr ak []
 obtain⟨v7,h9,J⟩:=au J;obtain rfl:=sj J;exact wr ak [[(0,bF h5)],[(4,cL (Xp N v2 v7 h9))]]
def I9(N:Nat)(v1:ar):agW ar:=some v1
theorem Vw(N:Nat)(v1 r:ar)(J:I9 N v1=some r):bA Tryz.prog 205 [(aD v1)] (·=(.fn 238 [(.aW [cB r] 0 0)])):=by
 cases J;exact acC v1
def sM(N:Nat):agU aw→agW Int
 |[]=>
  some (0:Int)
 |v9::v10=>
  Option.bind (pz N v9) fun v11=>
  bif (v11 !=(0:Int))then
   some (1:Int)
  else
   (sM N v10)
def A7(N:Nat)(v1:ar):agW Int:=
 Option.bind (yX N v1) fun v2=>
 bif v2 then
  Option.bind (Cd N v1) fun v3=>
  bif v3 then
   Option.bind (AO N v1) fun v4=>
   bif v4 then
    Option.bind (Cs N v1) fun v5=>
    bif v5 then
     Option.bind (bif (v1.aQ==(1:Int))then Option.bind (Au N v1.aC v1.dm) fun v6=>
     some (!v6)else some false) fun v7=>
     bif v7 then
      some (1:Int)
     else
      Option.bind (I9 N v1) fun v8=>
      sM N (jU v8)
    else
     some (10:Int)
   else
    some (11:Int)
  else
   some (7:Int)
 else
  some (5:Int)
theorem acg(N:Nat)(v1:ar)(r:Int)(J:A7 N v1=some r):bA Tryz.prog 168 [(aD v1)] (·=(ao r)):=by
 rw[A7]at J;refine pk Tryz.func168 rfl (by kernel_rfl) ?_;refine gk [0] 0 (agh _) (s':=⟨38,[(0,(aD v1))],[]⟩) (by kernel_rfl) ?_;refine aP ?_;refine rg [] [(1,(.ptr 0 0)),(2,(.ptr 1 0))] [.cells (aD v1).cells, .cells [(ao (0:Int))]] (by kernel_rfl) ?_;refine aP ?_;refine fi ?_;refine aP ?_;obtain⟨v2,h1,J⟩:=au J;refine rg [(4,cL (Vj N v1 v2 h1))] [(4,(aU (!v2)))] [.cells (aD v1).cells, .cells [(ao (0:Int))]] (by kernel_rfl) ?_;rcases fS v2 with h2|h2
 ·replace J:=(dM h2).symm.trans J;refine fp (t:=(!v2)) (by kernel_rfl) (dH h2) ?_;refine aP ?_;obtain⟨v3,h3,J⟩:=au J;refine rg [(4,cL (Xb N v1 v3 h3))] [(8,(aU (!v3)))] [.cells (aD v1).cells, .cells [(ao (0:Int))]] (by kernel_rfl) ?_;rcases fS v3 with h4|h4
  ·replace J:=(dM h4).symm.trans J;refine fp (t:=(!v3)) (by kernel_rfl) (dH h4) ?_;refine aP ?_;obtain⟨v4,h5,J⟩:=au J;refine rg [(4,cL (aeh N v1 v4 h5))] [(12,(aU (!v4)))] [.cells (aD v1).cells, .cells [(ao (0:Int))]] (by kernel_rfl) ?_;rcases fS v4 with h6|h6
   ·replace J:=(dM h6).symm.trans J;refine fp (t:=(!v4)) (by kernel_rfl) (dH h6) ?_;refine aP ?_;obtain⟨v5,h7,J⟩:=au J;refine rg [(4,cL (XS N v1 v5 h7))] [(16,(aU (!v5)))] [.cells (aD v1).cells, .cells [(ao (0:Int))]] (by kernel_rfl) ?_;rcases fS v5 with h8|h8
    ·replace J:=(dM h8).symm.trans J;refine fp (t:=(!v5)) (by kernel_rfl) (dH h8) ?_;refine aP ?_;obtain⟨v7,bQ,J⟩:=au J;refine N2 [(20,(aU v7))] [.cells (aD v1).cells, .cells [(ao (0:Int))]] ?_ ?_
     ·rcases fS (v1.aQ==(1:Int))with h9|h9
      ·replace bQ:=(dM h9).symm.trans bQ;obtain⟨v6,aJ,bQ⟩:=au bQ;have he:=agp bQ;subst he;exact⟨[(12,bT h9),(15,bT h9),(18,bT h9),(21,bT h9),(24,bT h9),(25,cL (ae5 N v1.aC v1.dm v6 aJ)),(27,bT h9),(31,bT h9)],by kernel_rfl⟩
      replace bQ:=(fP h9).symm.trans bQ;have he:=agp bQ;subst he;exact⟨[(12,bF h9),(15,bF h9),(18,bF h9),(21,bF h9),(24,bF h9),(27,bF h9),(31,bF h9)],by kernel_rfl⟩
     rcases fS v7 with cl|cl
     ·replace J:=(dM cl).symm.trans J;refine fy (t:=v7) (by kernel_rfl) cl ?_;refine aP ?_;refine rg [] [] [.cells (aD v1).cells, .cells [(ao (1:Int))]] (by kernel_rfl) ?_;refine dD (ff (dW ?_));have hr:=agp J;subst hr;exact fJ (by kernel_rfl)
     replace J:=(fP cl).symm.trans J;refine fp (t:=v7) (by kernel_rfl) cl ?_;refine eo ?_;refine ie ?_;refine bX ?_;refine aP ?_;refine aP ?_;obtain⟨v8,dg,J⟩:=au J;refine rg [(4,cL (Vw N v1 v8 dg))] [(33,(.fn 238 [(.aW [cB v8] 0 0)]))] [.cells (aD v1).cells, .cells [(ao (0:Int))]] (by kernel_rfl) ?_;refine fi ?_;refine gk [2,33] 2 (agd rfl) (s':=⟨38,[(2,(.ptr 1 0)),(33,(.fn 238 [(.aW [cB v8] 0 0)]))],[.cells (aD v1).cells, .cells [(ao (0:Int))]]⟩) (by kernel_rfl) ?_;refine CA (m:=2) (enc:=bY) (xs:=(jU v8)) (by kernel_rfl) (Wn v8) (fun(_:Unit)=>[.cells (aD v1).cells, .cells [(ao (0:Int))]]) (fun(_:Unit) l=>sM N l=some r) () (by kernel_rfl) J (by rintro _;rfl) (by rintro _;kernel_rfl) (by kernel_rfl) rfl ?_ ?_
     ·rintro _ v9 v10 J cg eW eS
      try dsimp only at J
      rw[sM]at J;refine gk [2,34] 3 (agh _) (s':=⟨38,[(2,(.ptr 1 0)),(34,(bY v9))],[.cells (aD v1).cells, .cells [(ao (0:Int))], .lp .ready 34 eW eS (cX 38 [(2,(.ptr 1 0)),(33,(.fn 238 [(.aW [cB v8] 0 0)]))])]⟩) (by kernel_rfl) ?_;refine re [] [(3,(.ptr 3 0))] [.cells (aD v1).cells, .cells [(ao (0:Int))], .lp .ready 34 eW eS (cX 38 [(2,(.ptr 1 0)),(33,(.fn 238 [(.aW [cB v8] 0 0)]))]), .cells (bY v9).cells] (by kernel_rfl) ?_;refine bX ?_;refine⟨[.cells (aD v1).cells, .cells [(ao (0:Int))]],[.cells (bY v9).cells],rfl,(by kernel_rfl),?_⟩;refine gk [2,3] 4 (agd rfl) (s':=⟨38,[(2,(.ptr 1 0)),(3,(.ptr 3 0))],[.cells (aD v1).cells, .cells [(ao (0:Int))], .lp .busy 34 eW eS (cX 38 [(2,(.ptr 1 0)),(33,(.fn 238 [(.aW [cB v8] 0 0)]))]), .cells (bY v9).cells]⟩) (by kernel_rfl) ?_;refine fi ?_;refine aP ?_;obtain⟨v11,cV,J⟩:=au J;refine rg [(4,cL (vh N v9 v11 cV))] [(37,(aU (v11 !=(0:Int))))] [.cells (aD v1).cells, .cells [(ao (0:Int))], .lp .busy 34 eW eS (cX 38 [(2,(.ptr 1 0)),(33,(.fn 238 [(.aW [cB v8] 0 0)]))]), .cells (bY v9).cells] (by kernel_rfl) ?_;rcases fS (v11 !=(0:Int))with b9|b9
      ·replace J:=(dM b9).symm.trans J;refine fy (t:=(v11 !=(0:Int))) (by kernel_rfl) b9 ?_;refine aP ?_;refine rg [] [] [.cells (aD v1).cells, .cells [(ao (1:Int))], .lp .busy 34 eW eS (cX 38 [(2,(.ptr 1 0)),(33,(.fn 238 [(.aW [cB v8] 0 0)]))]), .cells (bY v9).cells] (by kernel_rfl) ?_;refine dD (ff ?_);refine Mo [.cells (aD v1).cells, .cells [(ao (1:Int))]] rfl (by kernel_rfl) (by kernel_rfl) ?_;refine(ff (dW ?_));have hr:=agp J;subst hr;exact fJ (by kernel_rfl)
      replace J:=(fP b9).symm.trans J;refine fp (t:=(v11 !=(0:Int))) (by kernel_rfl) b9 ?_;refine eo ?_;refine ie ?_;refine EY [.cells (aD v1).cells, .cells [(ao (0:Int))]] rfl (by kernel_rfl) (by kernel_rfl) ?_;exact⟨(),(by kernel_rfl),J⟩
     rintro _ J
     try dsimp only at J
     rw[sM]at J;refine ie ?_;refine bX ?_;refine aP ?_;refine rg [] [] [.cells (aD v1).cells, .cells [(ao (0:Int))], .gone] (by kernel_rfl) ?_;refine dD ?_;have hr:=agp J;subst hr;exact fJ (by kernel_rfl)
    replace J:=(fP h8).symm.trans J;refine fy (t:=(!v5)) (by kernel_rfl) (dK h8) ?_;refine aP ?_;refine rg [] [] [.cells (aD v1).cells, .cells [(ao (10:Int))]] (by kernel_rfl) ?_;refine dD (ff (dW ?_));have hr:=agp J;subst hr;exact fJ (by kernel_rfl)
   replace J:=(fP h6).symm.trans J;refine fy (t:=(!v4)) (by kernel_rfl) (dK h6) ?_;refine aP ?_;refine rg [] [] [.cells (aD v1).cells, .cells [(ao (11:Int))]] (by kernel_rfl) ?_;refine dD (ff (dW ?_));have hr:=agp J;subst hr;exact fJ (by kernel_rfl)
  replace J:=(fP h4).symm.trans J;refine fy (t:=(!v3)) (by kernel_rfl) (dK h4) ?_;refine aP ?_;refine rg [] [] [.cells (aD v1).cells, .cells [(ao (7:Int))]] (by kernel_rfl) ?_;refine dD (ff (dW ?_));have hr:=agp J;subst hr;exact fJ (by kernel_rfl)
 replace J:=(fP h2).symm.trans J;refine fy (t:=(!v2)) (by kernel_rfl) (dK h2) ?_;refine aP ?_;refine rg [] [] [.cells (aD v1).cells, .cells [(ao (5:Int))]] (by kernel_rfl) ?_;refine dD (ff (dW ?_));have hr:=agp J;subst hr;exact fJ (by kernel_rfl)
def vb(N:Nat):agU ar→agW Int
 |[]=>
  some (0:Int)
 |v5::v6=>
  Option.bind (A7 N v5) fun v7=>
  bif (v7 !=(0:Int))then
   some v7
  else
   (vb N v6)
def zn(N:Nat)(v1:ar):agW Int:=
 Option.bind (CX N v1) fun v2=>
 bif (decide (v2>(40:Int)))then
  some (13:Int)
 else
  Option.bind (yy N v1) fun v3=>
  bif (decide (v3>(2000:Int)))then
   some (2:Int)
  else
   Option.bind (sm N v1) fun v4=>
   vb N (dd v4)
theorem ZD(N:Nat)(v1:ar)(r:Int)(J:zn N v1=some r):bA Tryz.prog 136 [(aD v1)] (·=(ao r)):=by
 rw[zn]at J;refine pk Tryz.func136 rfl (by kernel_rfl) ?_;refine gk [0] 0 (agh _) (s':=⟨19,[(0,(aD v1))],[]⟩) (by kernel_rfl) ?_;refine aP ?_;refine rg [] [(1,(.ptr 0 0)),(2,(.ptr 1 0))] [.cells (aD v1).cells, .cells [(ao (0:Int))]] (by kernel_rfl) ?_;refine aP ?_;refine aP ?_;obtain⟨v2,h1,J⟩:=au J;refine rg [(4,cL (aeD N v1 v2 h1))] [(7,(aU (decide (v2>(40:Int)))))] [.cells (aD v1).cells, .cells [(ao (0:Int))]] (by kernel_rfl) ?_;rcases fS (decide (v2>(40:Int)))with h2|h2
 ·replace J:=(dM h2).symm.trans J;refine fy (t:=(decide (v2>(40:Int)))) (by kernel_rfl) h2 ?_;refine aP ?_;refine rg [] [] [.cells (aD v1).cells, .cells [(ao (13:Int))]] (by kernel_rfl) ?_;refine dD (dW ?_);have hr:=agp J;subst hr;exact fJ (by kernel_rfl)
 replace J:=(fP h2).symm.trans J;refine fp (t:=(decide (v2>(40:Int)))) (by kernel_rfl) h2 ?_;refine eo ?_;refine bX ?_;refine aP ?_;refine aP ?_;obtain⟨v3,h3,J⟩:=au J;refine rg [(4,cL (ZZ N v1 v3 h3))] [(10,(aU (decide (v3>(2000:Int)))))] [.cells (aD v1).cells, .cells [(ao (0:Int))]] (by kernel_rfl) ?_;rcases fS (decide (v3>(2000:Int)))with h4|h4
 ·replace J:=(dM h4).symm.trans J;refine fy (t:=(decide (v3>(2000:Int)))) (by kernel_rfl) h4 ?_;refine aP ?_;refine rg [] [] [.cells (aD v1).cells, .cells [(ao (2:Int))]] (by kernel_rfl) ?_;refine dD (dW ?_);have hr:=agp J;subst hr;exact fJ (by kernel_rfl)
 replace J:=(fP h4).symm.trans J;refine fp (t:=(decide (v3>(2000:Int)))) (by kernel_rfl) h4 ?_;refine eo ?_;refine bX ?_;refine aP ?_;refine aP ?_;obtain⟨v4,h5,J⟩:=au J;refine rg [(4,cL (CQ N v1 v4 h5))] [(12,(.fn 70 [(.aW [cB v4] 0 0)]))] [.cells (aD v1).cells, .cells [(ao (0:Int))]] (by kernel_rfl) ?_;refine fi ?_;refine gk [2,12] 2 (agd rfl) (s':=⟨19,[(2,(.ptr 1 0)),(12,(.fn 70 [(.aW [cB v4] 0 0)]))],[.cells (aD v1).cells, .cells [(ao (0:Int))]]⟩) (by kernel_rfl) ?_;refine CA (m:=2) (enc:=aD) (xs:=(dd v4)) (by kernel_rfl) (F7 v4) (fun(_:Unit)=>[.cells (aD v1).cells, .cells [(ao (0:Int))]]) (fun(_:Unit) l=>vb N l=some r) () (by kernel_rfl) J (by rintro _;rfl) (by rintro _;kernel_rfl) (by kernel_rfl) rfl ?_ ?_
 ·rintro _ v5 v6 J h6 eW eS
  try dsimp only at J
  rw[vb]at J;refine gk [2,13] 3 (agh _) (s':=⟨19,[(2,(.ptr 1 0)),(13,(aD v5))],[.cells (aD v1).cells, .cells [(ao (0:Int))], .lp .ready 13 eW eS (cX 19 [(2,(.ptr 1 0)),(12,(.fn 70 [(.aW [cB v4] 0 0)]))])]⟩) (by kernel_rfl) ?_;refine re [] [(3,(.ptr 3 0))] [.cells (aD v1).cells, .cells [(ao (0:Int))], .lp .ready 13 eW eS (cX 19 [(2,(.ptr 1 0)),(12,(.fn 70 [(.aW [cB v4] 0 0)]))]), .cells (aD v5).cells] (by kernel_rfl) ?_;refine bX ?_;refine⟨[.cells (aD v1).cells, .cells [(ao (0:Int))]],[.cells (aD v5).cells],rfl,(by kernel_rfl),?_⟩;refine gk [2,3] 4 (agd rfl) (s':=⟨19,[(2,(.ptr 1 0)),(3,(.ptr 3 0))],[.cells (aD v1).cells, .cells [(ao (0:Int))], .lp .busy 13 eW eS (cX 19 [(2,(.ptr 1 0)),(12,(.fn 70 [(.aW [cB v4] 0 0)]))]), .cells (aD v5).cells]⟩) (by kernel_rfl) ?_;refine fi ?_;refine aP ?_;obtain⟨v7,h7,J⟩:=au J;refine rg [(4,cL (acg N v5 v7 h7))] [(4,(ao v7))] [.cells (aD v1).cells, .cells [(ao (0:Int))], .lp .busy 13 eW eS (cX 19 [(2,(.ptr 1 0)),(12,(.fn 70 [(.aW [cB v4] 0 0)]))]), .cells (aD v5).cells] (by kernel_rfl) ?_;refine aP ?_;refine rg [] [(17,(aU (v7 !=(0:Int))))] [.cells (aD v1).cells, .cells [(ao (0:Int))], .lp .busy 13 eW eS (cX 19 [(2,(.ptr 1 0)),(12,(.fn 70 [(.aW [cB v4] 0 0)]))]), .cells (aD v5).cells] (by kernel_rfl) ?_
  rcases fS (v7 !=(0:Int))with h8|h8
  ·replace J:=(dM h8).symm.trans J;refine fy (t:=(v7 !=(0:Int))) (by kernel_rfl) h8 ?_;refine aP ?_;refine rg [] [] [.cells (aD v1).cells, .cells [(ao v7)], .lp .busy 13 eW eS (cX 19 [(2,(.ptr 1 0)),(12,(.fn 70 [(.aW [cB v4] 0 0)]))]), .cells (aD v5).cells] (by kernel_rfl) ?_;refine dD (ff ?_);refine Mo [.cells (aD v1).cells, .cells [(ao v7)]] rfl (by kernel_rfl) (by kernel_rfl) ?_;refine(ff (dW ?_));have hr:=agp J;subst hr;exact fJ (by kernel_rfl)
  replace J:=(fP h8).symm.trans J;refine fp (t:=(v7 !=(0:Int))) (by kernel_rfl) h8 ?_;refine eo ?_;refine ie ?_;refine EY [.cells (aD v1).cells, .cells [(ao (0:Int))]] rfl (by kernel_rfl) (by kernel_rfl) ?_;exact⟨(),(by kernel_rfl),J⟩
 rintro _ J
 try dsimp only at J
 rw[vb]at J;refine ie ?_;refine bX ?_;refine aP ?_;refine rg [] [] [.cells (aD v1).cells, .cells [(ao (0:Int))], .gone] (by kernel_rfl) ?_;refine dD ?_;have hr:=agp J;subst hr;exact fJ (by kernel_rfl)
def td(N:Nat)(v3:agU (agV×Int)):agU aF→Nat→agW Int
 |[],_=>
  some (0:Int)
 |v6::v7,v4=>
  bif ((gi v3 v6.aq 0)==(0:Int))then
   some (9:Int)
  else
   (td N v3 v7 (v4+1))
def wZ(N:Nat)(v1:aw)(v2:aY)(v3:agU (agV×Int)):agW Int:=
 td N v3 v1.xL 0
theorem Hx(N:Nat)(v1:aw)(v2:aY)(v3:agU (agV×Int))(r:Int)(J:wZ N v1 v2 v3=some r):bD Tryz.prog 170 [(.ptr 0 0),(bY v1)] [.cells (dx v2 [(.mp 1)]), .map (dp v3)] fun r1 h1=>r1=(ao r)∧h1=[.cells (dx v2 [(.mp 1)]), .map (dp v3)]:=by
 rw[wZ]at J;refine dS 2 Tryz.func170 (by kernel_rfl) (by kernel_rfl) (agd rfl) ?_;refine ax ak [[],[(7,oL v1.xL cS)]] ?_;refine dj 8 (bJ v1.xL) (by kernel_rfl) fun h1=> ?_;have h2:=cP cS h1;refine c9 ak 1 [] [0,8,9,10] 3 (fun((v4,v5):Nat×(agU aF))=>⟨23,[(0,(.ptr 0 0)),(8,(.d (.sl (bJ v1.xL)))),(9,(ao (v1.xL.length:Int))),(10,(ao (v4:Int)))],[.cells (dx v2 [(.mp 1)]), .map (dp v3), .cells (bY v1).cells]⟩) (fun((v4,v5):Nat×(agU aF))=>v1.xL.drop v4=v5∧td N v3 v5 v4=some r) (fun((v4,v5):Nat×(agU aF))=>v5.length) (0,v1.xL) ⟨rfl,J⟩ ?_;rintro⟨v4,v5⟩ ⟨h3,J⟩ f1 ba;cases v5 with
 |nil=>
  rw[td]at J;cases J;exact bH ak [[],[(0,bF (ck h3))],[]]
 |cons v6 v7=>
  rw[td]at J;refine ax ak [[],[(0,bT (cf h3))],[(1,oE (gV (bS h3)))],[(20,⟨_,_, .eq (BE false v3 v6.aq)⟩)]] ?_;refine bc J (fun h4 J=> ?_) fun h4 J=> ?_
  ·cases J;exact bH ak [[(0,bT h4)],[]]
  exact cU ak ba (v4+1,v7) [[(0,bF h4)],[(2,oq (cx h3 rfl h2))]] ⟨ct h3,J⟩
def A9(N:Nat)(v1:agU aF):agW (agU aF):=bif Nat.ble (v1.length*24) 140737488355328 then some v1 else none
theorem TX(N:Nat)(v1 r:agU aF)(J:A9 N v1=some r):bA Tryz.prog 85 [(.d (.sl (bJ v1)))] (·=(.d (.sl (bJ r)))):=by
 obtain⟨hb,rfl⟩:=dJ J;have hc:=dQ hb (by decide);exact Zw pC (by rw[cS];exact hc.1) (by rw[cS];exact hc.2)
def qJ(N:Nat)(v1:aw):agW aw:=
 Option.bind (A9 N v1.xL) fun v2=>
 some (⟨v1.xK,v2⟩:aw)
theorem E3(N:Nat)(v1:aw)(r:aw)(J:qJ N v1=some r):bA Tryz.prog 52 [(bY v1)] (·=(bY r)):=by
 rw[qJ]at J;refine bZ Tryz.func52 (by kernel_rfl) (by kernel_rfl) ?_;obtain⟨v2,h1,J⟩:=au J;cases J;exact wr ak [[],[(13,cL (TX N v1.xL v2 h1))]]
def qB(N:Nat):agU aw→Nat→(agU aw)→agW ((agU aw))
 |[],_,v6=>
  some v6
 |v4::v5,v2,v6=>
  Option.bind (qJ N v4) fun v7=>
  bif (Nat.ble ((v6.length+1)*32) 140737488355328)then
  (fun bE=>qB N v5 (v2+1) bE) (v6++[v7])
  else none
def vE(N:Nat)(v1:agU aw):agW ((agU aw)):=
 qB N v1 0 []
theorem Nh(N:Nat)(v1:agU aw)(r:(agU aw))(J:vE N v1=some r):bA Tryz.prog 53 [(.d (.sl (cH v1)))] (·=(.d (.sl (cH r)))):=by
 rw[vE]at J;refine bZ Tryz.func53 (by kernel_rfl) (by kernel_rfl) ?_;refine ax ak [[],[],[(4,oL v1 cd)]] ?_;refine qQ 3 48 2 [] (.inr (by kernel_rfl)) ?_;refine dj 0 (cH v1) (by kernel_rfl) fun h1=> ?_;have h2:=cP cd h1;refine c9 ak 1 [] [3,6,7,8] 1 (fun((v2,v3,v6):Nat×(agU aw)×(agU aw))=>⟨19,[(3,(.own 0 (cH v6))),(6,(.d (.sl (cH v1)))),(7,(ao (v1.length:Int))),(8,(ao (v2:Int)))],[.front 48 2 v6.length]⟩) (fun((v2,v3,v6):Nat×(agU aw)×(agU aw))=>v1.drop v2=v3∧qB N v3 v2 v6=some r) (fun((v2,v3,v6):Nat×(agU aw)×(agU aw))=>v3.length) (0,v1,[]) ⟨rfl,J⟩ ?_;rintro⟨v2,v3,v6⟩ ⟨h3,J⟩ f1 ba;cases v3 with
 |nil=>
  rw[qB]at J;cases J;exact wr ak [[],[(0,bF (ck h3))],[]]
 |cons v4 v5=>
  rw[qB]at J;obtain⟨v7,h4,J⟩:=au J;obtain⟨h5,J⟩:=dO J;exact cU ak ba (v2+1,v5,(v6++[v7])) [[],[(0,bT (cf h3))],[(1,oE (ku (bS h3)))],[(7,cL (E3 N v4 v7 h4)),(13,⟨_,_, .app (xs:=cH v6) (ys:=cH [v7]) (zs:=cH (v6++[v7])) (n:=(v6++[v7]).length) cd.symm tF tF (by rw[(cd (l:=v6)),(cd (l:=[v7]))];exact(dQ h5 (by decide)).1) (by rw[(cd (l:=v6)),(cd (l:=[v7]))];exact(dQ h5 (by decide)).2) J2 (by first|(rw[(cd (l:=v6)),(cd (l:=[v7]))];done)|(rw[(cd (l:=v6)),(cd (l:=[v7]))];rfl)|(rw[(cd (l:=v6)),(cd (l:=[v7])),af6];done)|(rw[(cd (l:=v6)),(cd (l:=[v7])),af6];rfl)|(rw[(cd (l:=v6)),(cd (l:=[v7])),agq]))⟩)],[(2,oq (cx h3 rfl h2))]] ⟨ct h3,J⟩
def vU(N:Nat)(v1:aG)(v2:agV):agW Bool:=
 some (bL v1.aq==bL v2)
theorem TV(N:Nat)(v1:aG)(v2:agV)(r:Bool)(J:vU N v1 v2=some r):bD Tryz.prog 46 [(cp v1),(.ptr 0 0)] [.cells [(bp v2)]] fun r1 h1=>r1=(aU r)∧h1=[.cells [(bp v2)]]:=by
 rw[vU]at J;refine dS 1 Tryz.func46 (by kernel_rfl) (by kernel_rfl) (agd rfl) ?_;cases J;exact bH ak [[],[]]
def ta(N:Nat)(v2:agV):agU aG→Nat→agW Int
 |[],_=>
  some (-1:Int)
 |v5::v6,v3=>
  Option.bind (vU N v5 v2) fun v7=>
  bif v7 then
   some (v3:Int)
  else
   (ta N v2 v6 (v3+1))
def CN(N:Nat)(v1:agU aG)(v2:agV):agW Int:=
 ta N v2 v1 0
theorem aeL(N:Nat)(v1:agU aG)(v2:agV)(r:Int)(J:CN N v1 v2=some r):bD Tryz.prog 45 [(.d (.sl (bP v1))),(.fn 46 [(.ptr 0 0)])] [.cells [(bp v2)]] fun r1 h1=>r1=(ao r)∧h1=[.cells [(bp v2)]]:=by
 rw[CN]at J;refine dS 1 Tryz.func45 (by kernel_rfl) (by kernel_rfl) (agd rfl) ?_;refine ax ak [[],[(4,oL v1 eI)]] ?_;refine dj 0 (bP v1) (by kernel_rfl) fun h1=> ?_;have h2:=cP eI h1;refine c9 ak 1 [] [0,1,7,8] 1 (fun((v3,v4):Nat×(agU aG))=>⟨19,[(0,(.d (.sl (bP v1)))),(1,(.fn 46 [(.ptr 0 0)])),(7,(ao (v1.length:Int))),(8,(ao (v3:Int)))],[.cells [(bp v2)]]⟩) (fun((v3,v4):Nat×(agU aG))=>v1.drop v3=v4∧ta N v2 v4 v3=some r) (fun((v3,v4):Nat×(agU aG))=>v4.length) (0,v1) ⟨rfl,J⟩ ?_;rintro⟨v3,v4⟩ ⟨h3,J⟩ f1 ba;cases v4 with
 |nil=>
  rw[ta]at J;cases J;exact bH ak [[],[(0,bF (ck h3))],[]]
 |cons v5 v6=>
  rw[ta]at J;obtain⟨v7,h4,J⟩:=au J;refine ax ak [[],[(0,bT (cf h3))],[],[(10,oE (gP (bS h3))),(16,⟨_,_, .rq (cb:=[(cp v5),(.ptr 0 0)]) (h:=[.cells [(bp v2)]]) (l:=[0]) (by kernel_rfl) (by kernel_rfl) (by kernel_rfl) (by kernel_rfl) (TV N v5 v2 v7 h4)⟩)]] ?_;refine bc J (fun h5 J=> ?_) fun h5 J=> ?_
  ·cases J;exact bH ak [[(0,bT h5)],[]]
  exact cU ak ba (v3+1,v6) [[(0,bF h5)],[(2,oq (cx h3 rfl h2))]] ⟨ct h3,J⟩
def rH(N:Nat)(v1:aY)(v2:agV):agW Int:=
 Option.bind (CN N v1.ay v2) fun v3=>
 some v3
theorem yZ(N:Nat)(v1:aY)(v2:agV)(r:Int)(J:rH N v1 v2=some r):bA Tryz.prog 16 [(aZ v1),(bp v2)] (·=(ao r)):=by
 rw[rH]at J;refine bZ Tryz.func16 (by kernel_rfl) (by kernel_rfl) ?_;obtain⟨v3,h1,J⟩:=au J;obtain rfl:=sj J;exact wr ak [[],[(10,⟨_,_, .rq (cb:=[(.d (.sl (bP v1.ay))),(.fn 46 [(.ptr 1 0)])]) (h:=[.cells (aZ v1).cells, .cells [(bp v2)]]) (l:=[1]) (by kernel_rfl) (by kernel_rfl) (by kernel_rfl) (by kernel_rfl) (aeL N v1.ay v2 v3 h1)⟩)]]
def rW(N:Nat)(v8:aG):agU bf→Nat→(agU aw)→agW (bn×(agU aw)×Bool)
 |[],_,aH=>
  some (v8.aC,aH,true)
 |v11::v12,v9,aH=>
  Option.bind (qJ N v11.ep) fun aA=>
  bif (Nat.ble ((aH.length+1)*32) 140737488355328)then
  (fun fx=>rW N v8 v12 (v9+1) fx) (aH++[aA])
  else none
def qI(N:Nat)(v1:aY)(v2:agV):agU bN→Nat→agW (bn×(agU aw)×Bool)
 |[],_=>
  Option.bind (rH N v1 v2) fun v7=>
  bif (decide (v7≥(0:Int)))then
   bif (decide ((0:Int)≤v7))then
   Option.bind (v1.ay[(v7).toNat]?) fun v8=>
   rW N v8 v8.aS 0 []
   else none
  else
   some (fb,[],false)
 |v5::v6,v3=>
  bif (bL v5.aq==bL v2)then
   Option.bind (vE N v5.aS) fun aT=>
   some (v5.aC,aT,true)
  else
   (qI N v1 v2 v6 (v3+1))
def zR(N:Nat)(v1:aY)(v2:agV):agW (bn×(agU aw)×Bool):=
 qI N v1 v2 v1.bk 0
theorem Un(N:Nat)(v1:aY)(v2:agV)(r:bn×(agU aw)×Bool)(J:zR N v1 v2=some r):bA Tryz.prog 206 [(aZ v1),(bp v2)] (·=(.bU [(gO r.1),(.d (.sl (cH r.2.1))),(aU r.2.2)])):=by
 rw[zR]at J;refine bZ Tryz.func206 (by kernel_rfl) (by kernel_rfl) ?_;refine ax ak [[],[(7,oL v1.bk e9)]] ?_;refine dj 14 (bx v1.bk) (by kernel_rfl) fun h1=> ?_;have h2:=cP e9 h1;refine c9 ak 1 [] [1,2,4,14,15,16] 2 (fun((v3,v4):Nat×(agU bN))=>⟨61,[(1,(bp v2)),(2,(.ptr 0 0)),(4,(.ptr 1 0)),(14,(.d (.sl (bx v1.bk)))),(15,(ao (v1.bk.length:Int))),(16,(ao (v3:Int)))],[.cells (aZ v1).cells, .cells ld]⟩) (fun((v3,v4):Nat×(agU bN))=>v1.bk.drop v3=v4∧qI N v1 v2 v4 v3=some r) (fun((v3,v4):Nat×(agU bN))=>v4.length) (0,v1.bk) ⟨rfl,J⟩ ?_;rintro⟨v3,v4⟩ ⟨h3,J⟩ f1 ba;cases v4 with
 |nil=>
  rw[qI]at J;obtain⟨v7,h4,J⟩:=au J;refine ax ak [[],[(0,bF (ck h3))],[(7,cL (yZ N v1 v2 v7 h4))],[]] ?_;refine bc J (fun h5 J=> ?_) fun h5 J=> ?_
  ·obtain⟨h7,J⟩:=dO J;obtain⟨v8,h6,J⟩:=au J;refine ax ak [[(0,bT h5)],[],[(10,⟨_,_, .el (xs:=bP v1.ay) (i:=v7) (of_decide_eq_true h7) (gP h6)⟩),(19,oL v8.aS cK)]] ?_;refine qQ 10 48 2 [] (.inr (by kernel_rfl)) ?_;refine dj 40 (cm v8.aS) (by kernel_rfl) fun h8=> ?_;have h9:=cP cK h8;refine c9 ak 2 [] [2,4,9,10,40,41,42] 3 (fun((v9,v10,aH):Nat×(agU bf)×(agU aw))=>⟨61,[(2,(.ptr 0 0)),(4,(.ptr 1 0)),(9,(ao v7)),(10,(.own 2 (cH aH))),(40,(.d (.sl (cm v8.aS)))),(41,(ao (v8.aS.length:Int))),(42,(ao (v9:Int)))],[.cells (aZ v1).cells, .cells ld, .front 48 2 aH.length]⟩) (fun((v9,v10,aH):Nat×(agU bf)×(agU aw))=>v8.aS.drop v9=v10∧rW N v8 v10 v9 aH=some r) (fun((v9,v10,aH):Nat×(agU bf)×(agU aw))=>v10.length) (0,v8.aS,[]) ⟨rfl,J⟩ ?_;rintro⟨v9,v10,aH⟩ ⟨aJ,J⟩ f2 fD;cases v10 with
   |nil=>
    rw[rW]at J;cases J;exact wr ak [[],[(0,bF (ck aJ))],[(10,⟨_,_, .el (xs:=bP v1.ay) (i:=v7) (of_decide_eq_true h7) (gP h6)⟩)]]
   |cons v11 v12=>
    rw[rW]at J;obtain⟨aA,bQ,J⟩:=au J;obtain⟨cl,J⟩:=dO J;exact cU ak fD (v9+1,v12,(aH++[aA])) [[],[(0,bT (cf aJ))],[(1,oE (rB (bS aJ)))],[(10,cL (E3 N v11.ep aA bQ)),(16,⟨_,_, .app (xs:=cH aH) (ys:=cH [aA]) (zs:=cH (aH++[aA])) (n:=(aH++[aA]).length) cd.symm tF tF (by rw[(cd (l:=aH)),(cd (l:=[aA]))];exact(dQ cl (by decide)).1) (by rw[(cd (l:=aH)),(cd (l:=[aA]))];exact(dQ cl (by decide)).2) J2 (by first|(rw[(cd (l:=aH)),(cd (l:=[aA]))];done)|(rw[(cd (l:=aH)),(cd (l:=[aA]))];rfl)|(rw[(cd (l:=aH)),(cd (l:=[aA])),af6];done)|(rw[(cd (l:=aH)),(cd (l:=[aA])),af6];rfl)|(rw[(cd (l:=aH)),(cd (l:=[aA])),agq]))⟩)],[(2,oq (cx aJ rfl h9))]] ⟨ct aJ,J⟩
  cases J;exact wr ak [[(0,bF h5)],[]]
 |cons v5 v6=>
  rw[qI]at J;refine ax ak [[],[(0,bT (cf h3))],[(1,oE (s5 (bS h3)))],[]] ?_;refine bc J (fun dg J=> ?_) fun dg J=> ?_
  ·obtain⟨aT,cg,J⟩:=au J;cases J;exact wr ak [[(0,bT dg)],[(13,cL (Nh N v5.aS aT cg))]]
  exact cU ak ba (v3+1,v6) [[(0,bF dg)],[(2,oq (cx h3 rfl h2))]] ⟨ct h3,J⟩
def vq(N:Nat)(v2:aY)(v3:agU (agV×Int)):agU aw→Nat→agW Int
 |[],_=>
  some (0:Int)
 |v8::v9,v6=>
  Option.bind (wZ N v8 v2 v3) fun v10=>
  bif (v10 !=(0:Int))then
   some v10
  else
   (vq N v2 v3 v9 (v6+1))
def AI(N:Nat)(v1:az)(v2:aY)(v3:agU (agV×Int)):agW Int:=
 bif (bL v1.aV==bL (bs []))then
  Option.bind (wZ N v1.aL v2 v3) fun v4=>
  some v4
 else
  Option.bind (zR N v2 v1.aV) fun v5=>
  bif v5.2.2 then
   bif (v5.1.bW !=(3:Int))then
    some (10:Int)
   else
    bif ((v1.bj.length:Int) !=(v5.2.1.length:Int))then
     some (11:Int)
    else
     vq N v2 v3 v1.bj 0
  else
   some (9:Int)
theorem acO(N:Nat)(v1:az)(v2:aY)(v3:agU (agV×Int))(r:Int)(J:AI N v1 v2 v3=some r):bD Tryz.prog 207 [(.ptr 0 0),(eC v1)] [.cells (dx v2 [(.mp 1)]), .map (dp v3)] fun r1 h1=>r1=(ao r)∧h1=[.cells (dx v2 [(.mp 1)]), .map (dp v3)]:=by
 rw[AI]at J;refine dS 2 Tryz.func207 (by kernel_rfl) (by kernel_rfl) (agd rfl) ?_;refine ax ak [[],[]] ?_;refine bc J (fun h1 J=> ?_) fun h1 J=> ?_
 ·obtain⟨v4,h2,J⟩:=au J;obtain rfl:=sj J;exact bH ak [[(0,bT h1)],[(10,⟨_,_, .rq (cb:=[(.ptr 0 0),(bY v1.aL)]) (h:=[.cells (dx v2 [(.mp 1)]), .map (dp v3), .cells (eC v1).cells]) (l:=[0,1]) (by kernel_rfl) (by kernel_rfl) (by kernel_rfl) (by kernel_rfl) (Hx N v1.aL v2 v3 v4 h2)⟩)]]
 obtain⟨v5,h3,J⟩:=au J;refine ax ak [[(0,bF h1)],[(19,cL (Un N v2 v1.aV v5 h3))],[]] ?_;refine bc J (fun h4 J=> ?_) fun h4 J=> ?_
 ·refine ax ak [[(0,bF (dH h4))],[]] ?_;refine bc J (fun h5 J=> ?_) fun h5 J=> ?_
  ·cases J;exact bH ak [[(0,bT h5)],[]]
  refine ax ak [[(0,bF h5)],[(7,oL v1.bj cd),(13,oL v5.2.1 cd)]] ?_;refine bc J (fun h6 J=> ?_) fun h6 J=> ?_
  ·cases J;exact bH ak [[(0,bT h6)],[]]
  refine ax ak [[(0,bF h6)],[(7,oL v1.bj cd)]] ?_;refine dj 44 (cH v1.bj) (by kernel_rfl) fun h7=> ?_;have h8:=cP cd h7;refine c9 ak 1 [] [0,44,45,46] 4 (fun((v6,v7):Nat×(agU aw))=>⟨57,[(0,(.ptr 0 0)),(44,(.d (.sl (cH v1.bj)))),(45,(ao (v1.bj.length:Int))),(46,(ao (v6:Int)))],[.cells (dx v2 [(.mp 1)]), .map (dp v3), .cells (eC v1).cells, .cells (gO v5.1).cells]⟩) (fun((v6,v7):Nat×(agU aw))=>v1.bj.drop v6=v7∧vq N v2 v3 v7 v6=some r) (fun((v6,v7):Nat×(agU aw))=>v7.length) (0,v1.bj) ⟨rfl,J⟩ ?_;rintro⟨v6,v7⟩ ⟨h9,J⟩ f1 ba;cases v7 with
  |nil=>
   rw[vq]at J;cases J;exact bH ak [[],[(0,bF (ck h9))],[]]
  |cons v8 v9=>
   rw[vq]at J;obtain⟨v10,aJ,J⟩:=au J;refine ax ak [[],[(0,bT (cf h9))],[(1,oE (ku (bS h9)))],[(7,⟨_,_, .rq (cb:=[(.ptr 0 0),(bY v8)]) (h:=[.cells (dx v2 [(.mp 1)]), .map (dp v3), .cells (eC v1).cells, .cells (gO v5.1).cells, .cells (bY v8).cells]) (l:=[0,1]) (by kernel_rfl) (by kernel_rfl) (by kernel_rfl) (by kernel_rfl) (Hx N v8 v2 v3 v10 aJ)⟩)],[]] ?_;refine bc J (fun bQ J=> ?_) fun bQ J=> ?_
   ·cases J;exact bH ak [[(0,bT bQ)],[]]
   exact cU ak ba (v6+1,v9) [[(0,bF bQ)],[(2,oq (cx h9 rfl h8))]] ⟨ct h9,J⟩
 cases J;exact bH ak [[(0,bT (dK h4))],[]]
end Go.Proofs.YtphmhnabilhbgaaGreatDoor
