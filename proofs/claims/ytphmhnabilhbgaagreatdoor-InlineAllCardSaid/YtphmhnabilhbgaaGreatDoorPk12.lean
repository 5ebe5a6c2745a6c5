/-
  Part 12 of the proof: PQ6.
-/
import Derived.Test.YtphmhnabilhbgaaGreatDoorPk11
namespace Go.Proofs.YtphmhnabilhbgaaGreatDoor
open Go.RowKit
set_option maxRecDepth 100000
set_option maxHeartbeats 0
set_option linter.unusedVariables false
def GP(N:Nat)(v1:aq)(v2:aq):aiG Bool:=
 Option.bind (LI N v1 v2) fun v3=>
 some (v3==(0:Int))
theorem X1(N:Nat)(v1:aq)(v2:aq)(r:Bool)(J:GP N v1 v2=some r):bg Tryz.prog 117 [(aF v1),(aF v2)] (·=(aJ r)):=by
 rw[GP]at J;refine bD Tryz.func117 (by kernel_rfl) (by kernel_rfl) ?_;obtain⟨v3,h1,J⟩:=ar J;cases J;exact wr af [[],[(7,cL (ab3 N v1 v2 v3 h1))]]
def Cx(N:Nat)(v1:aG)(v2:aG):aiG Bool:=
 Option.bind (bif (bL v1.ao==bL v2.ao)then(bif ((v1.aw.ck==v2.aw.ck)&&((v1.aw.cq==v2.aw.cq)&&((v1.aw.cJ==v2.aw.cJ)&&((v1.aw.cH==v2.aw.cH)&&((v1.aw.cK==v2.aw.cK)&&true)))))then(bif (v1.cP==v2.cP)then Option.bind (zU N v1.aI v2.aI) fun v3=>
 (bif v3 then Option.bind (zU N v1.bz v2.bz) fun v4=>
 (bif v4 then Option.bind (GP N v1.bx v2.bx) fun v5=>
 some v5 else some false)else some false)else some false)else some false)else some false) fun v6=>
 some v6
theorem aah(N:Nat)(v1:aG)(v2:aG)(r:Bool)(J:Cx N v1 v2=some r):bg Tryz.prog 81 [(cy v1),(cy v2)] (·=(aJ r)):=by
 rw[Cx]at J;refine bD Tryz.func81 (by kernel_rfl) (by kernel_rfl) ?_;refine au af [[]] ?_;obtain⟨v6,h9,J⟩:=ar J;refine cM af [(4,(aJ v6))] [.cells (cy v1).cells, .cells (cy v2).cells] ?_ ?_
 ·refine bc h9 (fun h1 h9=> ?_) fun h1 h9=> ?_
  ·refine bc h9 (fun h2 h9=> ?_) fun h2 h9=> ?_
   ·refine bc h9 (fun h3 h9=> ?_) fun h3 h9=> ?_
    ·obtain⟨v3,h4,h9⟩:=ar h9;refine bc h9 (fun h5 h9=> ?_) fun h5 h9=> ?_
     ·obtain⟨v4,h6,h9⟩:=ar h9;refine bc h9 (fun h7 h9=> ?_) fun h7 h9=> ?_
      ·obtain⟨v5,h8,h9⟩:=ar h9;obtain rfl:=sj h9;exact⟨so (os [18,21,24,27,30,34] (bT h1) (os [39,42,45,48,51,55] (bT h2) (os [60,63,66,69,72,76] (bT h3) (os [81,84,87,90,93,97] (bT h5) (os [102,105,108,111,114,118] (bT h7) [(73,⟨_,_, .rq (cQ:=[(.d (.sl (cu v1.aI))),(.d (.sl (cu v2.aI))),(.fn 116 [])]) (h:=[.cells (cy v1).cells, .cells (cy v2).cells]) (l:=[]) (by kernel_rfl) (by kernel_rfl) (by kernel_rfl) (by kernel_rfl) (BJ N v1.aI v2.aI v3 h4)⟩),(94,⟨_,_, .rq (cQ:=[(.d (.sl (cu v1.bz))),(.d (.sl (cu v2.bz))),(.fn 116 [])]) (h:=[.cells (cy v1).cells, .cells (cy v2).cells]) (l:=[]) (by kernel_rfl) (by kernel_rfl) (by kernel_rfl) (by kernel_rfl) (BJ N v1.bz v2.bz v4 h6)⟩),(115,cL (X1 N v1.bx v2.bx v5 h8))]))))),by kernel_rfl⟩
      cases h9;exact⟨so (os [18,21,24,27,30,34] (bT h1) (os [39,42,45,48,51,55] (bT h2) (os [60,63,66,69,72,76] (bT h3) (os [81,84,87,90,93,97] (bT h5) (os [102,105,108,111,114,118] (bF h7) [(73,⟨_,_, .rq (cQ:=[(.d (.sl (cu v1.aI))),(.d (.sl (cu v2.aI))),(.fn 116 [])]) (h:=[.cells (cy v1).cells, .cells (cy v2).cells]) (l:=[]) (by kernel_rfl) (by kernel_rfl) (by kernel_rfl) (by kernel_rfl) (BJ N v1.aI v2.aI v3 h4)⟩),(94,⟨_,_, .rq (cQ:=[(.d (.sl (cu v1.bz))),(.d (.sl (cu v2.bz))),(.fn 116 [])]) (h:=[.cells (cy v1).cells, .cells (cy v2).cells]) (l:=[]) (by kernel_rfl) (by kernel_rfl) (by kernel_rfl) (by kernel_rfl) (BJ N v1.bz v2.bz v4 h6)⟩)]))))),by kernel_rfl⟩
     cases h9;exact⟨so (os [18,21,24,27,30,34] (bT h1) (os [39,42,45,48,51,55] (bT h2) (os [60,63,66,69,72,76] (bT h3) (os [81,84,87,90,93,97] (bF h5) (os [102,105,108,111,114,118] (bF rfl) [(73,⟨_,_, .rq (cQ:=[(.d (.sl (cu v1.aI))),(.d (.sl (cu v2.aI))),(.fn 116 [])]) (h:=[.cells (cy v1).cells, .cells (cy v2).cells]) (l:=[]) (by kernel_rfl) (by kernel_rfl) (by kernel_rfl) (by kernel_rfl) (BJ N v1.aI v2.aI v3 h4)⟩)]))))),by kernel_rfl⟩
    cases h9;exact⟨so (os [18,21,24,27,30,34] (bT h1) (os [39,42,45,48,51,55] (bT h2) (os [60,63,66,69,72,76] (bF h3) (os [81,84,87,90,93,97,102,105,108,111,114,118] (bF rfl) [])))),by kernel_rfl⟩
   cases h9;exact⟨so (os [18,21,24,27,30,34] (bT h1) (os [39,42,45,48,51,55] (bF h2) (os [60,63,66,69,72,76,81,84,87,90,93,97,102,105,108,111,114,118] (bF rfl) []))),by kernel_rfl⟩
  cases h9;exact⟨so (os [18,21,24,27,30,34] (bF h1) (os [39,42,45,48,51,55,60,63,66,69,72,76,81,84,87,90,93,97,102,105,108,111,114,118] (bF rfl) [])),by kernel_rfl⟩
 cases J;exact wr af []
def uJ(N:Nat)(v2:aiE aG):aiE aG→Nat→aiG Bool
 |[],_=>
  some true
 |v5::v6,v3=>
  Option.bind (v2[((v3:Int)).toNat]?) fun v7=>
  Option.bind (Cx N v5 v7) fun v8=>
  bif v8 then
   (uJ N v2 v6 (v3+1))
  else
   some false
def C9(N:Nat)(v1:aiE aG)(v2:aiE aG):aiG Bool:=
 bif ((v1.length:Int) !=(v2.length:Int))then
  some false
 else
  uJ N v2 v1 0
theorem Zr(N:Nat)(v1:aiE aG)(v2:aiE aG)(r:Bool)(J:C9 N v1 v2=some r):bY Tryz.prog 80 [(.d (.sl (b8 v1))),(.d (.sl (b8 v2))),(.fn 81 [])] [] fun r1 h1=>r1=(aJ r)∧h1=[]:=by
 rw[C9]at J;refine eu 0 Tryz.func80 (by kernel_rfl) (by kernel_rfl) (ahX rfl) ?_;refine au af [[],[(4,oL v1 du),(10,oL v2 du)]] ?_;refine bc J (fun h1 J=> ?_) fun h1 J=> ?_
 ·cases J;exact ca af [[(0,bT h1)],[]]
 refine au af [[(0,bF h1)],[(4,oL v1 du)]] ?_;refine dq 0 (b8 v1) (by kernel_rfl) fun h2=> ?_;have h3:=cd du h2;refine cx af 1 [] [1,2,15,16,17] 0 (fun((v3,v4):Nat×(aiE aG))=>⟨32,[(1,(.d (.sl (b8 v2)))),(2,(.fn 81 [])),(15,(.d (.sl (b8 v1)))),(16,(ak (v1.length:Int))),(17,(ak (v3:Int)))],[]⟩) (fun((v3,v4):Nat×(aiE aG))=>v1.drop v3=v4∧uJ N v2 v4 v3=some r) (fun((v3,v4):Nat×(aiE aG))=>v4.length) (0,v1) ⟨rfl,J⟩ ?_;rintro⟨v3,v4⟩ ⟨h4,J⟩ f1 aN;cases v4 with
 |nil=>
  rw[uJ]at J;cases J;exact ca af [[],[(0,bF (bO h4))],[]]
 |cons v5 v6=>
  rw[uJ]at J;obtain⟨v7,h5,J⟩:=ar J;obtain⟨v8,h7,J⟩:=ar J;refine au af [[],[(0,bT (bN h4))],[(4,oE (fW (aU h4)))],[(7,oE (fW h5))],[(10,cL (aah N v5 v7 v8 h7))]] ?_;refine bc J (fun h8 J=> ?_) fun h8 J=> ?_
  ·exact ct af aN (v3+1,v6) [[(0,bF (cG h8))],[(2,oq (bV h4 rfl h3))]] ⟨bR h4,J⟩
  cases J;exact ca af [[(0,bT (cU h8))],[]]
def Dl(N:Nat)(v1:aQ)(v2:aQ):aiG Bool:=
 Option.bind (zM N v1.ba v2.ba) fun v3=>
 Option.bind (bif v3 then Option.bind (zM N v1.cl v2.cl) fun v4=>
 (bif v4 then Option.bind (C0 N v1.cm v2.cm) fun v5=>
 (bif v5 then Option.bind (Dx N v1.a8 v2.a8) fun v6=>
 (bif v6 then Option.bind (C9 N v1.ay v2.ay) fun v7=>
 some v7 else some false)else some false)else some false)else some false) fun v8=>
 some v8
theorem aec(N:Nat)(v1:aQ)(v2:aQ)(r:Bool)(J:Dl N v1 v2=some r):bg Tryz.prog 43 [(aS v1),(aS v2)] (·=(aJ r)):=by
 rw[Dl]at J;refine bD Tryz.func43 (by kernel_rfl) (by kernel_rfl) ?_;refine au af [[]] ?_;obtain⟨v3,h1,J⟩:=ar J;obtain⟨v8,aA,J⟩:=ar J;refine cM af [(4,(aJ v8))] [.cells (aS v1).cells, .cells (aS v2).cells] ?_ ?_
 ·refine bc aA (fun h2 aA=> ?_) fun h2 aA=> ?_
  ·obtain⟨v4,h3,aA⟩:=ar aA;refine bc aA (fun h4 aA=> ?_) fun h4 aA=> ?_
   ·obtain⟨v5,h5,aA⟩:=ar aA;refine bc aA (fun h6 aA=> ?_) fun h6 aA=> ?_
    ·obtain⟨v6,h7,aA⟩:=ar aA;refine bc aA (fun h8 aA=> ?_) fun h8 aA=> ?_
     ·obtain⟨v7,h9,aA⟩:=ar aA;obtain rfl:=sj aA;exact⟨so (os [18,21,24,27,30,34] (bT h2) (os [39,42,45,48,51,55] (bT h4) (os [60,63,66,69,72,76] (bT h6) (os [81,84,87,90,93,97] (bT h8) [(13,cL (pV N v1.ba v2.ba v3 h1)),(31,cL (pV N v1.cl v2.cl v4 h3)),(52,⟨_,_, .rq (cQ:=[(.d (.sl (bG v1.cm))),(.d (.sl (bG v2.cm))),(.fn 77 [])]) (h:=[.cells (aS v1).cells, .cells (aS v2).cells]) (l:=[]) (by kernel_rfl) (by kernel_rfl) (by kernel_rfl) (by kernel_rfl) (KJ N v1.cm v2.cm v5 h5)⟩),(73,⟨_,_, .rq (cQ:=[(.d (.sl (bI v1.a8))),(.d (.sl (bI v2.a8))),(.fn 79 [])]) (h:=[.cells (aS v1).cells, .cells (aS v2).cells]) (l:=[]) (by kernel_rfl) (by kernel_rfl) (by kernel_rfl) (by kernel_rfl) (VC N v1.a8 v2.a8 v6 h7)⟩),(94,⟨_,_, .rq (cQ:=[(.d (.sl (b8 v1.ay))),(.d (.sl (b8 v2.ay))),(.fn 81 [])]) (h:=[.cells (aS v1).cells, .cells (aS v2).cells]) (l:=[]) (by kernel_rfl) (by kernel_rfl) (by kernel_rfl) (by kernel_rfl) (Zr N v1.ay v2.ay v7 h9)⟩)])))),by kernel_rfl⟩
     cases aA;exact⟨so (os [18,21,24,27,30,34] (bT h2) (os [39,42,45,48,51,55] (bT h4) (os [60,63,66,69,72,76] (bT h6) (os [81,84,87,90,93,97] (bF h8) [(13,cL (pV N v1.ba v2.ba v3 h1)),(31,cL (pV N v1.cl v2.cl v4 h3)),(52,⟨_,_, .rq (cQ:=[(.d (.sl (bG v1.cm))),(.d (.sl (bG v2.cm))),(.fn 77 [])]) (h:=[.cells (aS v1).cells, .cells (aS v2).cells]) (l:=[]) (by kernel_rfl) (by kernel_rfl) (by kernel_rfl) (by kernel_rfl) (KJ N v1.cm v2.cm v5 h5)⟩),(73,⟨_,_, .rq (cQ:=[(.d (.sl (bI v1.a8))),(.d (.sl (bI v2.a8))),(.fn 79 [])]) (h:=[.cells (aS v1).cells, .cells (aS v2).cells]) (l:=[]) (by kernel_rfl) (by kernel_rfl) (by kernel_rfl) (by kernel_rfl) (VC N v1.a8 v2.a8 v6 h7)⟩)])))),by kernel_rfl⟩
    cases aA;exact⟨so (os [18,21,24,27,30,34] (bT h2) (os [39,42,45,48,51,55] (bT h4) (os [60,63,66,69,72,76] (bF h6) (os [81,84,87,90,93,97] (bF rfl) [(13,cL (pV N v1.ba v2.ba v3 h1)),(31,cL (pV N v1.cl v2.cl v4 h3)),(52,⟨_,_, .rq (cQ:=[(.d (.sl (bG v1.cm))),(.d (.sl (bG v2.cm))),(.fn 77 [])]) (h:=[.cells (aS v1).cells, .cells (aS v2).cells]) (l:=[]) (by kernel_rfl) (by kernel_rfl) (by kernel_rfl) (by kernel_rfl) (KJ N v1.cm v2.cm v5 h5)⟩)])))),by kernel_rfl⟩
   cases aA;exact⟨so (os [18,21,24,27,30,34] (bT h2) (os [39,42,45,48,51,55] (bF h4) (os [60,63,66,69,72,76,81,84,87,90,93,97] (bF rfl) [(13,cL (pV N v1.ba v2.ba v3 h1)),(31,cL (pV N v1.cl v2.cl v4 h3))]))),by kernel_rfl⟩
  cases aA;exact⟨so (os [18,21,24,27,30,34] (bF h2) (os [39,42,45,48,51,55,60,63,66,69,72,76,81,84,87,90,93,97] (bF rfl) [(13,cL (pV N v1.ba v2.ba v3 h1))])),by kernel_rfl⟩
 cases J;exact wr af []
def qp(N:Nat)(v2:Int):aiE aG→Nat→Int→(aiE aiF)→(aiE cf)→(aiE bX)→(aiE aG)→(aiE aiF)→aiG (aQ×Int)
 |[],_,v9,v10,v11,v12,aE,aC=>
  some ((⟨v10,v11,v12,aE,aC⟩:aQ),v9)
 |v7::v8,v5,v9,v10,v11,v12,aE,aC=>
  Option.bind (wB N (⟨v10,v11,v12,aE,aC⟩:aQ) v7.ao) fun aP=>
  Option.bind (bif (decide (aP<(0:Int)))then some true else bif (decide ((0:Int)≤aP))then
  Option.bind (aE[(aP).toNat]?) fun aW=>
  Option.bind (Mf N aW.bx) fun aH=>
  some (decide (aH>v2))
  else none) fun aT=>
  bif aT then
   (fun b6 dZ b1_2 kA nP nj=>qp N v2 v8 (v5+1) b6 dZ b1_2 kA nP nj) v9 v10 v11 v12 aE aC
  else
   Option.bind (wD N (⟨v10,v11,v12,aE,aC⟩:aQ) v7.ao) fun bK=>
   Option.bind (bif (bK.2==(0:Int))then Option.bind (Dl N bK.1 (⟨v10,v11,v12,aE,aC⟩:aQ)) fun v20=>
   some (!v20)else some false) fun v21=>
   bif v21 then
    (fun b6 dZ b1_2 kA nP nj=>qp N v2 v8 (v5+1) b6 dZ b1_2 kA nP nj) (aV (v9+(1:Int))) bK.1.ba bK.1.cm bK.1.a8 bK.1.ay bK.1.cl
   else
    (fun b6 dZ b1_2 kA nP nj=>qp N v2 v8 (v5+1) b6 dZ b1_2 kA nP nj) v9 v10 v11 v12 aE aC
def Ar(N:Nat)(v1:aQ)(v2:Int):aiG (aQ×Int):=
 Option.bind (sN N v1) fun v3=>
 bif (Nat.beq v3.2.2.2.2.2.length v3.2.2.2.1)then
 Option.bind (uy N v1) fun v4=>
 bif (v4.2 !=(0:Int))then
  some ((⟨v3.1,v3.2.1,v3.2.2.1,v3.2.2.2.2.2,v3.2.2.2.2.1⟩:aQ),(0:Int))
 else
  qp N v2 v1.ay 0 (0:Int) v3.1 v3.2.1 v3.2.2.1 v3.2.2.2.2.2 v3.2.2.2.2.1
 else none
theorem OA(N:Nat)(v1:aQ)(v2:Int)(r:aQ×Int)(J:Ar N v1 v2=some r):bg Tryz.prog 13 [(aS v1),(ak v2)] (·=(.cb [(aS r.1),(ak r.2)])):=by
 rw[Ar]at J;refine bD Tryz.func13 (by kernel_rfl) (by kernel_rfl) ?_;obtain⟨v3,h1,J⟩:=ar J;obtain⟨h2,J⟩:=dg J;refine au af [[],[(4,⟨_,_, .me gZ (ud (zu (ud (tn (tn (kH (xs:=(v3.2.2.2.2.2.map cF)) gZ)))))) (cQ:=[(aS v1)]) (h:=[.cells (aS v1).cells, .cells dv]) (l:=[]) (by kernel_rfl) (by kernel_rfl) (by kernel_rfl) (by kernel_rfl) (FI N v1 v3 h1)⟩)]] ?_;refine Fq [1,2,4,6] 7 (b8 v3.2.2.2.2.2) v3.2.2.2.1 2 54 22 [.gY (v3.2.2.2.2.2.map cF)] (qi (ah3 h2)) (lq _) (oY (fun _=>rfl) _) ?_;obtain⟨v4,h3,J⟩:=ar J;refine au af [[(4,cL (Ii N v1 v4 h3))],[]] ?_;refine bc J (fun h4 J=> ?_) fun h4 J=> ?_
 ·cases J;exact wr af [[(0,bT h4)],[]]
 refine au af [[(0,bF h4)],[],[(7,oL v1.ay du)]] ?_;refine aeC 8 ?_;refine dq 26 (b8 v1.ay) (by kernel_rfl) fun h5=> ?_;have h6:=cd du h5;refine jt af 1 [] [1,4,6,9,26,27,28] 9 [] [(1,0),(1,1),(1,2),(1,3),(1,4)] (fun((v5,v6,v9,v10,v11,v12,aE,aC):Nat×(aiE aG)×Int×(aiE aiF)×(aiE cf)×(aiE bX)×(aiE aG)×(aiE aiF))=>⟨70,[(1,(ak v2)),(4,(.ptr 1 0)),(6,(.ptr 8 0)),(9,(ak v9)),(26,(.d (.sl (b8 v1.ay)))),(27,(ak (v1.ay.length:Int))),(28,(ak (v5:Int)))],[.cells (aS v1).cells, .cells dv, .gone, .cells [(.d (.sl (aB v3.1))),(.own 5 (bG v3.2.1)),(.own 6 (bI v3.2.2.1)),(.d (.sl (b8 v3.2.2.2.2.2))),(.d (.sl (aB v3.2.2.2.2.1)))], .gone, .front 57 3 v3.2.1.length, .front 60 7 v3.2.2.1.length, .gone, .cells [(.d (.sl (aB v10))),(.d (.sl (bG v11))),(.d (.sl (bI v12))),(.d (.sl (b8 aE))),(.d (.sl (aB aC)))]]⟩) (fun((v5,v6,v9,v10,v11,v12,aE,aC):Nat×(aiE aG)×Int×(aiE aiF)×(aiE cf)×(aiE bX)×(aiE aG)×(aiE aiF))=>v1.ay.drop v5=v6∧qp N v2 v6 v5 v9 v10 v11 v12 aE aC=some r) (fun((v5,v6,v9,v10,v11,v12,aE,aC):Nat×(aiE aG)×Int×(aiE aiF)×(aiE cf)×(aiE bX)×(aiE aG)×(aiE aiF))=>v6.length) (0,v1.ay,(0:Int),v3.1,v3.2.1,v3.2.2.1,v3.2.2.2.2.2,v3.2.2.2.2.1) ⟨rfl,J⟩ ?_
 rintro⟨v5,v6,v9,v10,v11,v12,aE,aC⟩ ⟨h7,J⟩ f1 aN;cases v6 with
 |nil=>
  rw[qp]at J;cases J;exact wr af [[],[(0,bF (bO h7))],[]]
 |cons v7 v8=>
  rw[qp]at J;obtain⟨aP,h8,J⟩:=ar J;refine au af [[],[(0,bT (bN h7))],[(1,oE (fW (aU h7)))],[(10,cL (J0 N (⟨v10,v11,v12,aE,aC⟩:aQ) v7.ao aP h8))]] ?_;obtain⟨aT,cg,J⟩:=ar J;refine cM af [(48,(aJ aT))] [.cells (aS v1).cells, .cells dv, .gone, .cells [(.d (.sl (aB v3.1))),(.own 5 (bG v3.2.1)),(.own 6 (bI v3.2.2.1)),(.d (.sl (b8 v3.2.2.2.2.2))),(.d (.sl (aB v3.2.2.2.2.1)))], .gone, .front 57 3 v3.2.1.length, .front 60 7 v3.2.2.1.length, .gone, .cells [(.d (.sl (aB v10))),(.d (.sl (bG v11))),(.d (.sl (bI v12))),(.d (.sl (b8 aE))),(.d (.sl (aB aC)))], .cells (cy v7).cells] ?_ ?_
  ·refine bc cg (fun h9 cg=> ?_) fun h9 cg=> ?_
   ·cases cg;exact⟨so (os [9,12,15,18,21,24,27,30,33,37] (bT h9) []),by kernel_rfl⟩
   obtain⟨a7,cg⟩:=dg cg;obtain⟨aW,aA,cg⟩:=ar cg;obtain⟨aH,bk,cg⟩:=ar cg;cases cg;exact⟨so (os [9,12,15,18,21,24,27,30,33,37] (bF h9) [(19,⟨_,_, .el (xs:=b8 aE) (i:=aP) (of_decide_eq_true a7) (fW aA)⟩),(28,cL (X8 N aW.bx aH bk))]),by kernel_rfl⟩
  refine bc J (fun bm J=> ?_) fun bm J=> ?_
  ·exact gN af aN (v5+1,v8,v9,v10,v11,v12,aE,aC) [[(0,bT bm)],[(2,oq (bV h7 rfl h6))]] ⟨bR h7,J⟩
  obtain⟨bK,bQ,J⟩:=ar J;refine au af [[(0,bF bm)],[(10,cL (S8 N (⟨v10,v11,v12,aE,aC⟩:aQ) v7.ao bK bQ))]] ?_;obtain⟨v21,bW,J⟩:=ar J;refine cM af [(63,(aJ v21))] [.cells (aS v1).cells, .cells dv, .gone, .cells [(.d (.sl (aB v3.1))),(.own 5 (bG v3.2.1)),(.own 6 (bI v3.2.2.1)),(.d (.sl (b8 v3.2.2.2.2.2))),(.d (.sl (aB v3.2.2.2.2.1)))], .gone, .front 57 3 v3.2.1.length, .front 60 7 v3.2.2.1.length, .gone, .cells [(.d (.sl (aB v10))),(.d (.sl (bG v11))),(.d (.sl (bI v12))),(.d (.sl (b8 aE))),(.d (.sl (aB aC)))], .cells (cy v7).cells, .cells (aS bK.1).cells] ?_ ?_
  ·refine bc bW (fun bo bW=> ?_) fun bo bW=> ?_
   ·obtain⟨v20,cC,bW⟩:=ar bW;cases bW;exact⟨so (os [9,12,15,18,22] (bT bo) [(16,cL (aec N bK.1 (⟨v10,v11,v12,aE,aC⟩:aQ) v20 cC))]),by kernel_rfl⟩
   cases bW;exact⟨so (os [9,12,15,18,22] (bF bo) []),by kernel_rfl⟩
  refine bc J (fun dh J=> ?_) fun dh J=> ?_
  ·exact gN af aN (v5+1,v8,(aV (v9+(1:Int))),bK.1.ba,bK.1.cm,bK.1.a8,bK.1.ay,bK.1.cl) [[(0,bT dh)],[],[],[(2,oq (bV h7 rfl h6))]] ⟨bR h7,J⟩
  exact gN af aN (v5+1,v8,v9,v10,v11,v12,aE,aC) [[(0,bF dh)],[(2,oq (bV h7 rfl h6))]] ⟨bR h7,J⟩
def qu(N:Nat)(v2:ax):aiE aD→Nat→aiG Bool
 |[],_=>
  some true
 |v6::v7,v4=>
  Option.bind (v2.xL[((v4:Int)).toNat]?) fun v8=>
  bif ((bL v6.ao==bL v8.ao)&&((v6.dd.toInt==v8.dd.toInt)&&true))then
   (qu N v2 v7 (v4+1))
  else
   some false
def n7(N:Nat)(v1:ax)(v2:ax):aiG Bool:=
 Option.bind (bif (v1.xK.toInt !=v2.xK.toInt)then some true else some ((v1.xL.length:Int) !=(v2.xL.length:Int))) fun v3=>
 bif v3 then
  some false
 else
  qu N v2 v1.xL 0
theorem sE(N:Nat)(v1:ax)(v2:ax)(r:Bool)(J:n7 N v1 v2=some r):bg Tryz.prog 48 [(b9 v1),(b9 v2)] (·=(aJ r)):=by
 rw[n7]at J;refine bD Tryz.func48 (by kernel_rfl) (by kernel_rfl) ?_;refine au af [[]] ?_;obtain⟨v3,h2,J⟩:=ar J;refine cM af [(19,(aJ v3))] [.cells (b9 v1).cells, .cells (b9 v2).cells] ?_ ?_
 ·refine bc h2 (fun h1 h2=> ?_) fun h1 h2=> ?_
  ·cases h2;exact⟨so (os [18,21,24,27,30,33,36,40] (bT h1) []),by kernel_rfl⟩
  cases h2;exact⟨so (os [18,21,24,27,30,33,36,40] (bF h1) [(25,oL v1.xL bZ),(34,oL v2.xL bZ)]),by kernel_rfl⟩
 refine bc J (fun h3 J=> ?_) fun h3 J=> ?_
 ·cases J;exact wr af [[(0,bT h3)],[]]
 refine au af [[(0,bF h3)],[]] ?_;refine dX 0 1 (bP v1.xL) (by kernel_rfl) fun h4=> ?_;have h5:=cd bZ h4;refine cx af 1 [] [2,3,5] 2 (fun((v4,v5):Nat×(aiE aD))=>⟨38,[(2,(.ptr 0 0)),(3,(.ptr 1 0)),(5,(ak (v4:Int)))],[.cells (b9 v1).cells, .cells (b9 v2).cells]⟩) (fun((v4,v5):Nat×(aiE aD))=>v1.xL.drop v4=v5∧qu N v2 v5 v4=some r) (fun((v4,v5):Nat×(aiE aD))=>v5.length) (0,v1.xL) ⟨rfl,J⟩ ?_;rintro⟨v4,v5⟩ ⟨h6,J⟩ f1 aN;cases v5 with
 |nil=>
  rw[qu]at J;cases J;exact wr af [[(10,oL v1.xL bZ)],[(0,bF (bO h6))],[]]
 |cons v6 v7=>
  rw[qu]at J;obtain⟨v8,h7,J⟩:=ar J;refine au af [[(10,oL v1.xL bZ)],[(0,bT (bN h6))],[(10,oE (eY (aU h6))),(25,oE (eY h7))]] ?_;refine bc J (fun h9 J=> ?_) fun h9 J=> ?_
  ·exact ct af aN (v4+1,v7) [[(0,bF (cG h9))],[(5,oq (bV h6 rfl h5))]] ⟨bR h6,J⟩
  cases J;exact wr af [[(0,bT (cU h9))],[]]
def qe(N:Nat)(v2:aiE ax):aiE ax→Nat→aiG Bool
 |[],_=>
  some true
 |v5::v6,v3=>
  Option.bind (v2[((v3:Int)).toNat]?) fun v7=>
  Option.bind (n7 N v5 v7) fun v8=>
  bif v8 then
   (qe N v2 v6 (v3+1))
  else
   some false
def tw(N:Nat)(v1:aiE ax)(v2:aiE ax):aiG Bool:=
 bif ((v1.length:Int) !=(v2.length:Int))then
  some false
 else
  qe N v2 v1 0
theorem Sh(N:Nat)(v1:aiE ax)(v2:aiE ax)(r:Bool)(J:tw N v1 v2=some r):bg Tryz.prog 40 [(.d (.sl (cz v1))),(.d (.sl (cz v2)))] (·=(aJ r)):=by
 rw[tw]at J;refine bD Tryz.func40 (by kernel_rfl) (by kernel_rfl) ?_;refine au af [[],[(4,oL v1 bM),(10,oL v2 bM)]] ?_;refine bc J (fun h1 J=> ?_) fun h1 J=> ?_
 ·cases J;exact wr af [[(0,bT h1)],[]]
 refine au af [[(0,bF h1)],[]] ?_;refine dq 0 (cz v1) (by kernel_rfl) fun h2=> ?_;have h3:=cd bM h2;refine cx af 1 [] [0,1,5] 0 (fun((v3,v4):Nat×(aiE ax))=>⟨27,[(0,(.d (.sl (cz v1)))),(1,(.d (.sl (cz v2)))),(5,(ak (v3:Int)))],[]⟩) (fun((v3,v4):Nat×(aiE ax))=>v1.drop v3=v4∧qe N v2 v4 v3=some r) (fun((v3,v4):Nat×(aiE ax))=>v4.length) (0,v1) ⟨rfl,J⟩ ?_;rintro⟨v3,v4⟩ ⟨h4,J⟩ f1 aN;cases v4 with
 |nil=>
  rw[qe]at J;cases J;exact wr af [[(7,oL v1 bM)],[(0,bF (bO h4))],[]]
 |cons v5 v6=>
  rw[qe]at J;obtain⟨v7,h5,J⟩:=ar J;obtain⟨v8,h7,J⟩:=ar J;refine au af [[(7,oL v1 bM)],[(0,bT (bN h4))],[(7,oE (hY (aU h4))),(19,oE (hY h5)),(25,cL (sE N v5 v7 v8 h7))]] ?_;refine bc J (fun h8 J=> ?_) fun h8 J=> ?_
  ·exact ct af aN (v3+1,v6) [[(0,bF (cG h8))],[(5,oq (bV h4 rfl h3))]] ⟨bR h4,J⟩
  cases J;exact wr af [[(0,bT (cU h8))],[]]
def xf(N:Nat)(v1:az)(v2:az):aiG Bool:=
 Option.bind (bif (bL v1.bn==bL v2.bn)then Option.bind (n7 N v1.aK v2.aK) fun v3=>
 (bif v3 then Option.bind (tw N v1.bp v2.bp) fun v4=>
 some v4 else some false)else some false) fun v5=>
 some v5
theorem acd(N:Nat)(v1:az)(v2:az)(r:Bool)(J:xf N v1 v2=some r):bg Tryz.prog 84 [(fx v1),(fx v2)] (·=(aJ r)):=by
 rw[xf]at J;refine bD Tryz.func84 (by kernel_rfl) (by kernel_rfl) ?_;refine au af [[]] ?_;obtain⟨v5,h5,J⟩:=ar J;refine cM af [(4,(aJ v5))] [.cells (fx v1).cells, .cells (fx v2).cells] ?_ ?_
 ·refine bc h5 (fun h1 h5=> ?_) fun h1 h5=> ?_
  ·obtain⟨v3,h2,h5⟩:=ar h5;refine bc h5 (fun h3 h5=> ?_) fun h3 h5=> ?_
   ·obtain⟨v4,h4,h5⟩:=ar h5;obtain rfl:=sj h5;exact⟨so (os [18,21,24,27,30,34] (bT h1) (os [39,42,45,48,51,55] (bT h3) [(31,cL (sE N v1.aK v2.aK v3 h2)),(52,cL (Sh N v1.bp v2.bp v4 h4))])),by kernel_rfl⟩
   cases h5;exact⟨so (os [18,21,24,27,30,34] (bT h1) (os [39,42,45,48,51,55] (bF h3) [(31,cL (sE N v1.aK v2.aK v3 h2))])),by kernel_rfl⟩
  cases h5;exact⟨so (os [18,21,24,27,30,34] (bF h1) (os [39,42,45,48,51,55] (bF rfl) [])),by kernel_rfl⟩
 cases J;exact wr af []
def ra(N:Nat)(v2:aiE az):aiE az→Nat→aiG Bool
 |[],_=>
  some true
 |v5::v6,v3=>
  Option.bind (v2[((v3:Int)).toNat]?) fun v7=>
  Option.bind (xf N v5 v7) fun v8=>
  bif v8 then
   (ra N v2 v6 (v3+1))
  else
   some false
def vV(N:Nat)(v1:aiE az)(v2:aiE az):aiG Bool:=
 bif ((v1.length:Int) !=(v2.length:Int))then
  some false
 else
  ra N v2 v1 0
theorem Vk(N:Nat)(v1:aiE az)(v2:aiE az)(r:Bool)(J:vV N v1 v2=some r):bg Tryz.prog 49 [(.d (.sl (bJ v1))),(.d (.sl (bJ v2)))] (·=(aJ r)):=by
 rw[vV]at J;refine bD Tryz.func49 (by kernel_rfl) (by kernel_rfl) ?_;refine au af [[],[(4,oL v1 cn),(10,oL v2 cn)]] ?_;refine bc J (fun h1 J=> ?_) fun h1 J=> ?_
 ·cases J;exact wr af [[(0,bT h1)],[]]
 refine au af [[(0,bF h1)],[]] ?_;refine dq 0 (bJ v1) (by kernel_rfl) fun h2=> ?_;have h3:=cd cn h2;refine cx af 1 [] [0,1,5] 0 (fun((v3,v4):Nat×(aiE az))=>⟨27,[(0,(.d (.sl (bJ v1)))),(1,(.d (.sl (bJ v2)))),(5,(ak (v3:Int)))],[]⟩) (fun((v3,v4):Nat×(aiE az))=>v1.drop v3=v4∧ra N v2 v4 v3=some r) (fun((v3,v4):Nat×(aiE az))=>v4.length) (0,v1) ⟨rfl,J⟩ ?_;rintro⟨v3,v4⟩ ⟨h4,J⟩ f1 aN;cases v4 with
 |nil=>
  rw[ra]at J;cases J;exact wr af [[(7,oL v1 cn)],[(0,bF (bO h4))],[]]
 |cons v5 v6=>
  rw[ra]at J;obtain⟨v7,h5,J⟩:=ar J;obtain⟨v8,h7,J⟩:=ar J;refine au af [[(7,oL v1 cn)],[(0,bT (bN h4))],[(7,oE (eH (aU h4))),(19,oE (eH h5)),(25,cL (acd N v5 v7 v8 h7))]] ?_;refine bc J (fun h8 J=> ?_) fun h8 J=> ?_
  ·exact ct af aN (v3+1,v6) [[(0,bF (cG h8))],[(5,oq (bV h4 rfl h3))]] ⟨bR h4,J⟩
  cases J;exact wr af [[(0,bT (cU h8))],[]]
def qR(N:Nat)(v2:aiE aq)(Q2:aq→aq→aiG Bool):aiE aq→Nat→aiG Bool
 |[],_=>
  some true
 |v5::v6,v3=>
  Option.bind (v2[((v3:Int)).toNat]?) fun v7=>
  Option.bind (Q2 v5 v7) fun v8=>
  bif v8 then
   (qR N v2 Q2 v6 (v3+1))
  else
   some false
mutual
def pD(N:Nat):Nat→aq→aq→aiG Bool
 |0,_,_=>none
 |d+1,v1,v2=>
  Option.bind (bif (v1.aX==v2.aX)then(bif (bL v1.ao==bL v2.ao)then(bif ((v1.db.xN.toInt==v2.db.xN.toInt)&&((v1.db.xD.toInt==v2.db.xD.toInt)&&true))then(bif ((v1.aw.ck==v2.aw.ck)&&((v1.aw.cq==v2.aw.cq)&&((v1.aw.cJ==v2.aw.cJ)&&((v1.aw.cH==v2.aw.cH)&&((v1.aw.cK==v2.aw.cK)&&true)))))then Option.bind (n7 N v1.aK v2.aK) fun v3=>
  (bif v3 then Option.bind (vV N v1.xIdx v2.xIdx) fun v4=>
  (bif v4 then Option.bind ((xC N d) v1.aM v2.aM) fun v5=>
  some v5 else some false)else some false)else some false)else some false)else some false)else some false) fun v6=>
  some v6
def xC(N:Nat):Nat→(aiE aq)→(aiE aq)→aiG Bool
 |0,_,_=>none
 |d+1,v1,v2=>
  bif ((v1.length:Int) !=(v2.length:Int))then
   some false
  else
   qR N v2 (pD N d) v1 0
end
def D4(N:Nat)(v1:aq)(v2:aq):aiG Bool:=pD N N v1 v2
theorem afa(N:Nat):∀d:Nat,(∀(v1:aq)(v2:aq)(r:Bool),pD N d v1 v2=some r→bg Tryz.prog 25 [(aF v1),(aF v2)] (·=(aJ r)))∧(∀(v1:aiE aq)(v2:aiE aq)(r:Bool),xC N d v1 v2=some r→bg Tryz.prog 50 [(.d (.sl (cT v1))),(.d (.sl (cT v2)))] (·=(aJ r))):=by
 intro d
 induction d with
 |zero=>exact⟨fun v1 v2 r J=>(by rw[pD]at J;cases J),fun v1 v2 r J=>(by rw[xC]at J;cases J)⟩
 |succ d ih=>
  have ZH:=ih.1;have ag6:=ih.2;refine⟨?_,?_⟩
  ·intro v1 v2 r J;rw[pD]at J;refine bD Tryz.func25 (by kernel_rfl) (by kernel_rfl) ?_;refine au af [[]] ?_;obtain⟨v6,aA,J⟩:=ar J;refine cM af [(4,(aJ v6))] [.cells (aF v1).cells, .cells (aF v2).cells] ?_ ?_
   ·refine bc aA (fun h1 aA=> ?_) fun h1 aA=> ?_
    ·refine bc aA (fun h2 aA=> ?_) fun h2 aA=> ?_
     ·refine bc aA (fun h3 aA=> ?_) fun h3 aA=> ?_
      ·refine bc aA (fun h4 aA=> ?_) fun h4 aA=> ?_
       ·obtain⟨v3,h5,aA⟩:=ar aA;refine bc aA (fun h6 aA=> ?_) fun h6 aA=> ?_
        ·obtain⟨v4,h7,aA⟩:=ar aA;refine bc aA (fun h8 aA=> ?_) fun h8 aA=> ?_
         ·obtain⟨v5,h9,aA⟩:=ar aA;obtain rfl:=sj aA;exact⟨so (os [18,21,24,27,30,34] (bT h1) (os [39,42,45,48,51,55] (bT h2) (os [60,63,66,69,72,76] (bT h3) (os [81,84,87,90,93,97] (bT h4) (os [102,105,108,111,114,118] (bT h6) (os [123,126,129,132,135,139] (bT h8) [(94,cL (sE N v1.aK v2.aK v3 h5)),(115,cL (Vk N v1.xIdx v2.xIdx v4 h7)),(136,cL (ag6 v1.aM v2.aM v5 h9))])))))),by kernel_rfl⟩
         cases aA;exact⟨so (os [18,21,24,27,30,34] (bT h1) (os [39,42,45,48,51,55] (bT h2) (os [60,63,66,69,72,76] (bT h3) (os [81,84,87,90,93,97] (bT h4) (os [102,105,108,111,114,118] (bT h6) (os [123,126,129,132,135,139] (bF h8) [(94,cL (sE N v1.aK v2.aK v3 h5)),(115,cL (Vk N v1.xIdx v2.xIdx v4 h7))])))))),by kernel_rfl⟩
        cases aA;exact⟨so (os [18,21,24,27,30,34] (bT h1) (os [39,42,45,48,51,55] (bT h2) (os [60,63,66,69,72,76] (bT h3) (os [81,84,87,90,93,97] (bT h4) (os [102,105,108,111,114,118] (bF h6) (os [123,126,129,132,135,139] (bF rfl) [(94,cL (sE N v1.aK v2.aK v3 h5))])))))),by kernel_rfl⟩
       cases aA;exact⟨so (os [18,21,24,27,30,34] (bT h1) (os [39,42,45,48,51,55] (bT h2) (os [60,63,66,69,72,76] (bT h3) (os [81,84,87,90,93,97] (bF h4) (os [102,105,108,111,114,118,123,126,129,132,135,139] (bF rfl) []))))),by kernel_rfl⟩
      cases aA;exact⟨so (os [18,21,24,27,30,34] (bT h1) (os [39,42,45,48,51,55] (bT h2) (os [60,63,66,69,72,76] (bF h3) (os [81,84,87,90,93,97,102,105,108,111,114,118,123,126,129,132,135,139] (bF rfl) [])))),by kernel_rfl⟩
     cases aA;exact⟨so (os [18,21,24,27,30,34] (bT h1) (os [39,42,45,48,51,55] (bF h2) (os [60,63,66,69,72,76,81,84,87,90,93,97,102,105,108,111,114,118,123,126,129,132,135,139] (bF rfl) []))),by kernel_rfl⟩
    cases aA;exact⟨so (os [18,21,24,27,30,34] (bF h1) (os [39,42,45,48,51,55,60,63,66,69,72,76,81,84,87,90,93,97,102,105,108,111,114,118,123,126,129,132,135,139] (bF rfl) [])),by kernel_rfl⟩
   cases J;exact wr af []
  intro v1 v2 r J;rw[xC]at J;refine bD Tryz.func50 (by kernel_rfl) (by kernel_rfl) ?_;refine au af [[],[(4,oL v1 b7),(10,oL v2 b7)]] ?_;refine bc J (fun h1 J=> ?_) fun h1 J=> ?_
  ·cases J;exact wr af [[(0,bT h1)],[]]
  refine au af [[(0,bF h1)],[]] ?_;refine dq 0 (cT v1) (by kernel_rfl) fun h2=> ?_;have h3:=cd b7 h2;refine cx af 1 [] [0,1,5] 0 (fun((v3,v4):Nat×(aiE aq))=>⟨27,[(0,(.d (.sl (cT v1)))),(1,(.d (.sl (cT v2)))),(5,(ak (v3:Int)))],[]⟩) (fun((v3,v4):Nat×(aiE aq))=>v1.drop v3=v4∧qR N v2 (pD N d) v4 v3=some r) (fun((v3,v4):Nat×(aiE aq))=>v4.length) (0,v1) ⟨rfl,J⟩ ?_;rintro⟨v3,v4⟩ ⟨h4,J⟩ f1 aN;cases v4 with
  |nil=>
   rw[qR]at J;cases J;exact wr af [[(7,oL v1 b7)],[(0,bF (bO h4))],[]]
  |cons v5 v6=>
   rw[qR]at J;obtain⟨v7,h5,J⟩:=ar J;obtain⟨v8,h7,J⟩:=ar J;refine au af [[(7,oL v1 b7)],[(0,bT (bN h4))],[(7,oE (ik (aU h4))),(19,oE (ik h5)),(25,cL (ZH v5 v7 v8 h7))]] ?_;refine bc J (fun h8 J=> ?_) fun h8 J=> ?_
   ·exact ct af aN (v3+1,v6) [[(0,bF (cG h8))],[(5,oq (bV h4 rfl h3))]] ⟨bR h4,J⟩
   cases J;exact wr af [[(0,bT (cU h8))],[]]
theorem I3(N:Nat)(v1:aq)(v2:aq)(r:Bool)(J:D4 N v1 v2=some r):bg Tryz.prog 25 [(aF v1),(aF v2)] (·=(aJ r)):=(afa N N).1 v1 v2 r J
def AA(N:Nat):aiG Bool:=
 Option.bind (Hm N (bs [110])) fun v1=>
 Option.bind (Hm N (bs [105])) fun v2=>
 Option.bind (BG N v2 (1:Int) (bs []) (⟨(1:Int64),(1:Int64)⟩:gg) (⟨(1:Int),(0:Int),(0:Int),(0:Int),(0:Int)⟩:bB) (0:Int64)) fun v3=>
 Option.bind (BH N (bs [118]) [v2]) fun v4=>
 Option.bind (BH N (bs [118]) ([dS])) fun v5=>
 Option.bind (FV N v4 v5) fun v6=>
 Option.bind (wD N (⟨[(bs [110])],[],[(⟨(bs [97]),(⟨(1:Int),(0:Int),(0:Int),(0:Int),(0:Int)⟩:bB),[v1]⟩:bX)],[(⟨(bs [118]),(⟨(1:Int),(0:Int),(0:Int),(0:Int),(0:Int)⟩:bB),[(⟨(bs [105]),v1⟩:bj)],[],(0:Int),v3⟩:aG),(⟨(bs [119]),(⟨(1:Int),(0:Int),(0:Int),(0:Int),(0:Int)⟩:bB),[(⟨(bs [105]),v1⟩:bj)],[],(0:Int),v6⟩:aG)],[(bs [119])]⟩:aQ) (bs [118])) fun v7=>
 Option.bind (Ar N (⟨[(bs [110])],[],[(⟨(bs [97]),(⟨(1:Int),(0:Int),(0:Int),(0:Int),(0:Int)⟩:bB),[v1]⟩:bX)],[(⟨(bs [118]),(⟨(1:Int),(0:Int),(0:Int),(0:Int),(0:Int)⟩:bB),[(⟨(bs [105]),v1⟩:bj)],[],(0:Int),v3⟩:aG),(⟨(bs [119]),(⟨(1:Int),(0:Int),(0:Int),(0:Int),(0:Int)⟩:bB),[(⟨(bs [105]),v1⟩:bj)],[],(0:Int),v6⟩:aG)],[(bs [119])]⟩:aQ) (1:Int)) fun v8=>
 Option.bind (bif (v7.2==(0:Int))then(bif ((v7.1.ay.length:Int)==(1:Int))then Option.bind (v7.1.ay[0]?) fun v9=>
 Option.bind (BG N v2 (1:Int) (bs []) (⟨(1:Int64),(1:Int64)⟩:gg) (⟨(1:Int),(0:Int),(0:Int),(0:Int),(0:Int)⟩:bB) (0:Int64)) fun v10=>
 Option.bind (BG N dS (1:Int) (bs []) (⟨(1:Int64),(1:Int64)⟩:gg) (⟨(1:Int),(0:Int),(0:Int),(0:Int),(0:Int)⟩:bB) (0:Int64)) fun v11=>
 Option.bind (FV N v10 v11) fun v12=>
 Option.bind (D4 N v9.bx v12) fun aE=>
 (bif aE then some (v8.2==(0:Int))else some false)else some false)else some false) fun aC=>
 some aC
theorem NV(N:Nat)(r:Bool)(J:AA N=some r):bg Tryz.prog 7 [] (·=(aJ r)):=by
 rw[AA]at J;refine bD Tryz.func7 (by kernel_rfl) (by kernel_rfl) ?_;obtain⟨v1,h1,J⟩:=ar J;obtain⟨v2,h2,J⟩:=ar J;obtain⟨v3,h3,J⟩:=ar J;obtain⟨v4,h4,J⟩:=ar J;obtain⟨v5,h5,J⟩:=ar J;obtain⟨v6,h6,J⟩:=ar J;obtain⟨v7,h7,J⟩:=ar J;obtain⟨v8,h8,J⟩:=ar J;refine au af [[],[(4,cL (Qd N (bs [110]) v1 h1))],[],[],[],[],[(1,cL (Qd N (bs [105]) v2 h2))]] ?_;refine ahe [0,1,2,3,5,6,7,8] 5 ⟨89,[(0,(aJ false)),(1,(.ptr 0 0)),(2,(.ptr 1 0)),(3,(.d (.sl (cu [(⟨(bs [105]),v1⟩:bj)])))),(5,(.fn 22 [(.ptr 2 0)])),(6,(.fn 24 [])),(7,(.ptr 3 0)),(8,(.ptr 4 0))],[.cells [(ak (1:Int)),(ak (0:Int)),(ak (0:Int)),(ak (0:Int)),(ak (0:Int))], .cells (b9 v1).cells, .cells [(ak (1:Int)),(bw (bs [])),(bu (1:Int64)),(bu (1:Int64)),(ak (1:Int)),(ak (0:Int)),(ak (0:Int)),(ak (0:Int)),(ak (0:Int)),(bu (0:Int64)),(.d (.sl [])),(.d (.sl [])),(.d (.sl []))], .cells (b9 v2).cells, .cells [(bu (0:Int64)),(.d (.sl []))]]⟩ (ahX rfl) ?_;refine au af [[(31,⟨_,_, .rq (cQ:=[(b9 v2),(.ptr 2 0)]) (h:=[.cells [(ak (1:Int)),(ak (0:Int)),(ak (0:Int)),(ak (0:Int)),(ak (0:Int))], .cells (b9 v1).cells, .cells [(ak (1:Int)),(bw (bs [])),(bu (1:Int64)),(bu (1:Int64)),(ak (1:Int)),(ak (0:Int)),(ak (0:Int)),(ak (0:Int)),(ak (0:Int)),(bu (0:Int64)),(.d (.sl [])),(.d (.sl [])),(.d (.sl []))], .cells (b9 v2).cells, .cells [(bu (0:Int64)),(.d (.sl []))]]) (l:=[2]) (by kernel_rfl) (by kernel_rfl) (by kernel_rfl) (by kernel_rfl) (EC N v2 (1:Int) (bs []) (⟨(1:Int64),(1:Int64)⟩:gg) (⟨(1:Int),(0:Int),(0:Int),(0:Int),(0:Int)⟩:bB) (0:Int64) v3 h3)⟩),(52,cL (KM N (bs [118]) [v2] v4 h4)),(61,cL (KM N (bs [118]) ([dS]) v5 h5)),(64,cL (Ju N v4 v5 v6 h6))],[(4,cL (S8 N (⟨[(bs [110])],[],[(⟨(bs [97]),(⟨(1:Int),(0:Int),(0:Int),(0:Int),(0:Int)⟩:bB),[v1]⟩:bX)],[(⟨(bs [118]),(⟨(1:Int),(0:Int),(0:Int),(0:Int),(0:Int)⟩:bB),[(⟨(bs [105]),v1⟩:bj)],[],(0:Int),v3⟩:aG),(⟨(bs [119]),(⟨(1:Int),(0:Int),(0:Int),(0:Int),(0:Int)⟩:bB),[(⟨(bs [105]),v1⟩:bj)],[],(0:Int),v6⟩:aG)],[(bs [119])]⟩:aQ) (bs [118]) v7 h7))],[(4,cL (OA N (⟨[(bs [110])],[],[(⟨(bs [97]),(⟨(1:Int),(0:Int),(0:Int),(0:Int),(0:Int)⟩:bB),[v1]⟩:bX)],[(⟨(bs [118]),(⟨(1:Int),(0:Int),(0:Int),(0:Int),(0:Int)⟩:bB),[(⟨(bs [105]),v1⟩:bj)],[],(0:Int),v3⟩:aG),(⟨(bs [119]),(⟨(1:Int),(0:Int),(0:Int),(0:Int),(0:Int)⟩:bB),[(⟨(bs [105]),v1⟩:bj)],[],(0:Int),v6⟩:aG)],[(bs [119])]⟩:aQ) (1:Int) v8 h8))]] ?_
 obtain⟨aC,cC,J⟩:=ar J;refine cM af [(0,(aJ aC))] [.cells [(ak (1:Int)),(ak (0:Int)),(ak (0:Int)),(ak (0:Int)),(ak (0:Int))], .cells (b9 v1).cells, .cells [(ak (1:Int)),(bw (bs [])),(bu (1:Int64)),(bu (1:Int64)),(ak (1:Int)),(ak (0:Int)),(ak (0:Int)),(ak (0:Int)),(ak (0:Int)),(bu (0:Int64)),(.d (.sl [])),(.d (.sl [])),(.d (.sl []))], .cells (b9 v2).cells, .cells [(bu (0:Int64)),(.d (.sl []))], .cells [(.full (aB [(bs [110])])),(.d (.v (.slice none 0 0))),(.full (bI [(⟨(bs [97]),(⟨(1:Int),(0:Int),(0:Int),(0:Int),(0:Int)⟩:bB),[v1]⟩:bX)])),(.full (b8 [(⟨(bs [118]),(⟨(1:Int),(0:Int),(0:Int),(0:Int),(0:Int)⟩:bB),[(⟨(bs [105]),v1⟩:bj)],[],(0:Int),v3⟩:aG),(⟨(bs [119]),(⟨(1:Int),(0:Int),(0:Int),(0:Int),(0:Int)⟩:bB),[(⟨(bs [105]),v1⟩:bj)],[],(0:Int),v6⟩:aG)])),(.full (aB [(bs [119])]))], .cells (aS v7.1).cells, .cells (aS v8.1).cells] ?_ ?_
 ·refine bc cC (fun h9 cC=> ?_) fun h9 cC=> ?_
  ·refine bc cC (fun aA cC=> ?_) fun aA cC=> ?_
   ·obtain⟨v9,a7,cC⟩:=ar cC;obtain⟨v10,bk,cC⟩:=ar cC;obtain⟨v11,cg,cC⟩:=ar cC;obtain⟨v12,bm,cC⟩:=ar cC;obtain⟨aE,bQ,cC⟩:=ar cC;refine bc cC (fun bo cC=> ?_) fun bo cC=> ?_
    ·cases cC;exact⟨so (os [9,12,15,18,22] (bT h9) (os [27,30,33,36,39,42,45,48,51,54,57,60,63,66,70] (bT aA) (os [75,78,82] (bT bo) [(16,oL v7.1.ay du),(34,oE (k:=0) (fW a7)),(52,⟨_,_, .rq (cQ:=[(b9 v2),(.ptr 2 0)]) (h:=[.cells [(ak (1:Int)),(ak (0:Int)),(ak (0:Int)),(ak (0:Int)),(ak (0:Int))], .cells (b9 v1).cells, .cells [(ak (1:Int)),(bw (bs [])),(bu (1:Int64)),(bu (1:Int64)),(ak (1:Int)),(ak (0:Int)),(ak (0:Int)),(ak (0:Int)),(ak (0:Int)),(bu (0:Int64)),(.d (.sl [])),(.d (.sl [])),(.d (.sl []))], .cells (b9 v2).cells, .cells [(bu (0:Int64)),(.d (.sl []))], .cells [(.full (aB [(bs [110])])),(.d (.v (.slice none 0 0))),(.full (bI [(⟨(bs [97]),(⟨(1:Int),(0:Int),(0:Int),(0:Int),(0:Int)⟩:bB),[v1]⟩:bX)])),(.full (b8 [(⟨(bs [118]),(⟨(1:Int),(0:Int),(0:Int),(0:Int),(0:Int)⟩:bB),[(⟨(bs [105]),v1⟩:bj)],[],(0:Int),v3⟩:aG),(⟨(bs [119]),(⟨(1:Int),(0:Int),(0:Int),(0:Int),(0:Int)⟩:bB),[(⟨(bs [105]),v1⟩:bj)],[],(0:Int),v6⟩:aG)])),(.full (aB [(bs [119])]))], .cells (aS v7.1).cells, .cells (aS v8.1).cells]) (l:=[2]) (by kernel_rfl) (by kernel_rfl) (by kernel_rfl) (by kernel_rfl) (EC N v2 (1:Int) (bs []) (⟨(1:Int64),(1:Int64)⟩:gg) (⟨(1:Int),(0:Int),(0:Int),(0:Int),(0:Int)⟩:bB) (0:Int64) v10 bk)⟩),(61,⟨_,_, .rq (cQ:=[(b9 dS),(.ptr 2 0)]) (h:=[.cells [(ak (1:Int)),(ak (0:Int)),(ak (0:Int)),(ak (0:Int)),(ak (0:Int))], .cells (b9 v1).cells, .cells [(ak (1:Int)),(bw (bs [])),(bu (1:Int64)),(bu (1:Int64)),(ak (1:Int)),(ak (0:Int)),(ak (0:Int)),(ak (0:Int)),(ak (0:Int)),(bu (0:Int64)),(.d (.sl [])),(.d (.sl [])),(.d (.sl []))], .cells (b9 v2).cells, .cells [(bu (0:Int64)),(.d (.sl []))], .cells [(.full (aB [(bs [110])])),(.d (.v (.slice none 0 0))),(.full (bI [(⟨(bs [97]),(⟨(1:Int),(0:Int),(0:Int),(0:Int),(0:Int)⟩:bB),[v1]⟩:bX)])),(.full (b8 [(⟨(bs [118]),(⟨(1:Int),(0:Int),(0:Int),(0:Int),(0:Int)⟩:bB),[(⟨(bs [105]),v1⟩:bj)],[],(0:Int),v3⟩:aG),(⟨(bs [119]),(⟨(1:Int),(0:Int),(0:Int),(0:Int),(0:Int)⟩:bB),[(⟨(bs [105]),v1⟩:bj)],[],(0:Int),v6⟩:aG)])),(.full (aB [(bs [119])]))], .cells (aS v7.1).cells, .cells (aS v8.1).cells]) (l:=[2]) (by kernel_rfl) (by kernel_rfl) (by kernel_rfl) (by kernel_rfl) (EC N dS (1:Int) (bs []) (⟨(1:Int64),(1:Int64)⟩:gg) (⟨(1:Int),(0:Int),(0:Int),(0:Int),(0:Int)⟩:bB) (0:Int64) v11 cg)⟩),(64,cL (Ju N v10 v11 v12 bm)),(67,cL (I3 N v9.bx v12 aE bQ))]))),by kernel_rfl⟩
    cases cC;exact⟨so (os [9,12,15,18,22] (bT h9) (os [27,30,33,36,39,42,45,48,51,54,57,60,63,66,70] (bT aA) (os [75,78,82] (bF bo) [(16,oL v7.1.ay du),(34,oE (k:=0) (fW a7)),(52,⟨_,_, .rq (cQ:=[(b9 v2),(.ptr 2 0)]) (h:=[.cells [(ak (1:Int)),(ak (0:Int)),(ak (0:Int)),(ak (0:Int)),(ak (0:Int))], .cells (b9 v1).cells, .cells [(ak (1:Int)),(bw (bs [])),(bu (1:Int64)),(bu (1:Int64)),(ak (1:Int)),(ak (0:Int)),(ak (0:Int)),(ak (0:Int)),(ak (0:Int)),(bu (0:Int64)),(.d (.sl [])),(.d (.sl [])),(.d (.sl []))], .cells (b9 v2).cells, .cells [(bu (0:Int64)),(.d (.sl []))], .cells [(.full (aB [(bs [110])])),(.d (.v (.slice none 0 0))),(.full (bI [(⟨(bs [97]),(⟨(1:Int),(0:Int),(0:Int),(0:Int),(0:Int)⟩:bB),[v1]⟩:bX)])),(.full (b8 [(⟨(bs [118]),(⟨(1:Int),(0:Int),(0:Int),(0:Int),(0:Int)⟩:bB),[(⟨(bs [105]),v1⟩:bj)],[],(0:Int),v3⟩:aG),(⟨(bs [119]),(⟨(1:Int),(0:Int),(0:Int),(0:Int),(0:Int)⟩:bB),[(⟨(bs [105]),v1⟩:bj)],[],(0:Int),v6⟩:aG)])),(.full (aB [(bs [119])]))], .cells (aS v7.1).cells, .cells (aS v8.1).cells]) (l:=[2]) (by kernel_rfl) (by kernel_rfl) (by kernel_rfl) (by kernel_rfl) (EC N v2 (1:Int) (bs []) (⟨(1:Int64),(1:Int64)⟩:gg) (⟨(1:Int),(0:Int),(0:Int),(0:Int),(0:Int)⟩:bB) (0:Int64) v10 bk)⟩),(61,⟨_,_, .rq (cQ:=[(b9 dS),(.ptr 2 0)]) (h:=[.cells [(ak (1:Int)),(ak (0:Int)),(ak (0:Int)),(ak (0:Int)),(ak (0:Int))], .cells (b9 v1).cells, .cells [(ak (1:Int)),(bw (bs [])),(bu (1:Int64)),(bu (1:Int64)),(ak (1:Int)),(ak (0:Int)),(ak (0:Int)),(ak (0:Int)),(ak (0:Int)),(bu (0:Int64)),(.d (.sl [])),(.d (.sl [])),(.d (.sl []))], .cells (b9 v2).cells, .cells [(bu (0:Int64)),(.d (.sl []))], .cells [(.full (aB [(bs [110])])),(.d (.v (.slice none 0 0))),(.full (bI [(⟨(bs [97]),(⟨(1:Int),(0:Int),(0:Int),(0:Int),(0:Int)⟩:bB),[v1]⟩:bX)])),(.full (b8 [(⟨(bs [118]),(⟨(1:Int),(0:Int),(0:Int),(0:Int),(0:Int)⟩:bB),[(⟨(bs [105]),v1⟩:bj)],[],(0:Int),v3⟩:aG),(⟨(bs [119]),(⟨(1:Int),(0:Int),(0:Int),(0:Int),(0:Int)⟩:bB),[(⟨(bs [105]),v1⟩:bj)],[],(0:Int),v6⟩:aG)])),(.full (aB [(bs [119])]))], .cells (aS v7.1).cells, .cells (aS v8.1).cells]) (l:=[2]) (by kernel_rfl) (by kernel_rfl) (by kernel_rfl) (by kernel_rfl) (EC N dS (1:Int) (bs []) (⟨(1:Int64),(1:Int64)⟩:gg) (⟨(1:Int),(0:Int),(0:Int),(0:Int),(0:Int)⟩:bB) (0:Int64) v11 cg)⟩),(64,cL (Ju N v10 v11 v12 bm)),(67,cL (I3 N v9.bx v12 aE bQ))]))),by kernel_rfl⟩
   cases cC;exact⟨so (os [9,12,15,18,22] (bT h9) (os [27,30,33,36,39,42,45,48,51,54,57,60,63,66,70] (bF aA) (os [75,78,82] (bF rfl) [(16,oL v7.1.ay du)]))),by kernel_rfl⟩
  cases cC;exact⟨so (os [9,12,15,18,22] (bF h9) (os [27,30,33,36,39,42,45,48,51,54,57,60,63,66,70,75,78,82] (bF rfl) [])),by kernel_rfl⟩
 cases J;exact wr af []
def Ik(N:Nat):aiG ((aiE aiF)):=
 some [(bs [115,105,122,101]),(bs [119,104,101,114,101]),(bs [105,110]),(bs [100,101,102]),(bs [111,117,116]),(bs [115,117,109]),(bs [112,114,111,100]),(bs [109,105,110]),(bs [109,97,120]),(bs [115,99,97,110]),(bs [111,118,101,114]),(bs [105,102]),(bs [99,97,115,116]),(bs [102,114,97,99]),(bs [105,110,116]),(bs [102,105,120]),(bs [99,101,105,108]),(bs [102,108,111,111,114]),(bs [122,101,114,111]),(bs [101,118,101,110]),(bs [115,97,116]),(bs [119,114,97,112])]
theorem abU(N:Nat)(r:(aiE aiF))(J:Ik N=some r):bg Tryz.prog 177 [] (·=(.d (.sl (aB r)))):=by
 rw[Ik]at J;refine bD Tryz.func177 (by kernel_rfl) (by kernel_rfl) ?_;cases J;exact wr af [[],[]]
def uP(N:Nat)(v2:aiF):aiE aiF→Nat→aiG Bool
 |[],_=>
  some false
 |v5::v6,v3=>
  bif (bL v5==bL v2)then
   some true
  else
   (uP N v2 v6 (v3+1))
def oz(N:Nat)(v1:aiE aiF)(v2:aiF):aiG Bool:=
 uP N v2 v1 0
theorem vG(N:Nat)(v1:aiE aiF)(v2:aiF)(r:Bool)(J:oz N v1 v2=some r):bg Tryz.prog 15 [(.d (.sl (aB v1))),(bw v2)] (·=(aJ r)):=by
 rw[oz]at J;refine bD Tryz.func15 (by kernel_rfl) (by kernel_rfl) ?_;refine au af [[],[]] ?_;refine dq 0 (aB v1) (by kernel_rfl) fun h1=> ?_;have h2:=cd bC h1;refine cx af 1 [] [0,1,5] 0 (fun((v3,v4):Nat×(aiE aiF))=>⟨18,[(0,(.d (.sl (aB v1)))),(1,(bw v2)),(5,(ak (v3:Int)))],[]⟩) (fun((v3,v4):Nat×(aiE aiF))=>v1.drop v3=v4∧uP N v2 v4 v3=some r) (fun((v3,v4):Nat×(aiE aiF))=>v4.length) (0,v1) ⟨rfl,J⟩ ?_;rintro⟨v3,v4⟩ ⟨h3,J⟩ f1 aN;cases v4 with
 |nil=>
  rw[uP]at J;cases J;exact wr af [[(7,oL v1 bC)],[(0,bF (bO h3))],[]]
 |cons v5 v6=>
  rw[uP]at J;refine au af [[(7,oL v1 bC)],[(0,bT (bN h3))],[(7,oE (kK (aU h3)))]] ?_;refine bc J (fun h4 J=> ?_) fun h4 J=> ?_
  ·cases J;exact wr af [[(0,bT h4)],[]]
  exact ct af aN (v3+1,v6) [[(0,bF h4)],[(5,oq (bV h3 rfl h2))]] ⟨bR h3,J⟩
def su(N:Nat)(v1:aiF):Nat→Int→aiG Bool
 |0,_=>none
 |v5+1,v6=>
  bif (decide (v6<(v1.size:Int)))then
   bif (decide ((0:Int)≤v6))then
   Option.bind (v1[(v6).toNat]?) fun v7=>
   Option.bind (bif (decide ((v7.toNat:Int)≥(97:Int)))then(bif (decide ((v7.toNat:Int)≤(122:Int)))then some (!true)else(bif (decide (v6>(0:Int)))then(bif (decide ((v7.toNat:Int)≥(48:Int)))then(bif (decide ((v7.toNat:Int)≤(57:Int)))then some (!true)else some (!((v7.toNat:Int)==(95:Int))))else some (!((v7.toNat:Int)==(95:Int))))else some (!false)))else(bif (decide (v6>(0:Int)))then(bif (decide ((v7.toNat:Int)≥(48:Int)))then(bif (decide ((v7.toNat:Int)≤(57:Int)))then some (!true)else some (!((v7.toNat:Int)==(95:Int))))else some (!((v7.toNat:Int)==(95:Int))))else some (!false))) fun v8=>
   bif v8 then
    some false
   else
    (fun b6=>su N v1 v5 b6) (aV (v6+(1:Int)))
   else none
  else
   some true
def uF(N:Nat)(v1:aiF):aiG Bool:=
 Option.bind (bif (decide ((v1.size:Int)<(1:Int)))then some true else(bif (decide ((v1.size:Int)>(16:Int)))then some true else Option.bind (Ik N) fun v2=>
 Option.bind (oz N v2 v1) fun v3=>
 some v3)) fun v4=>
 bif v4 then
  some false
 else
  su N v1 N (0:Int)
theorem vt(N:Nat)(v1:aiF)(r:Bool)(J:uF N v1=some r):bg Tryz.prog 141 [(bw v1)] (·=(aJ r)):=by
 rw[uF]at J;refine bD Tryz.func141 (by kernel_rfl) (by kernel_rfl) ?_;refine au af [[]] ?_;obtain⟨v4,h5,J⟩:=ar J;refine cM af [(17,(aJ v4))] [] ?_ ?_
 ·refine bc h5 (fun h1 h5=> ?_) fun h1 h5=> ?_
  ·cases h5;exact⟨so (os [12,15,18,22] (bT h1) (os [27,30,33,37] (bT rfl) [])),by kernel_rfl⟩
  refine bc h5 (fun h2 h5=> ?_) fun h2 h5=> ?_
  ·cases h5;exact⟨so (os [12,15,18,22] (bF h1) (os [27,30,33,37] (bT h2) [])),by kernel_rfl⟩
  obtain⟨v2,h3,h5⟩:=ar h5;obtain⟨v3,h4,h5⟩:=ar h5;obtain rfl:=sj h5;exact⟨so (os [12,15,18,22] (bF h1) (os [27,30,33,37] (bF h2) [(28,cL (abU N v2 h3)),(34,cL (vG N v2 v1 v3 h4))])),by kernel_rfl⟩
 refine bc J (fun h6 J=> ?_) fun h6 J=> ?_
 ·cases J;exact wr af [[(0,bT h6)],[]]
 refine cx af 1 [[(0,bF h6)],[]] [0,3] 0 (fun((v5,v6):Nat×Int)=>⟨50,[(0,(bw v1)),(3,(ak v6))],[]⟩) (fun((v5,v6):Nat×Int)=>su N v1 v5 v6=some r) (fun((v5,v6):Nat×Int)=>v5) (N,(0:Int)) J ?_;rintro⟨v5,v6⟩ J f1 aN
 try dsimp only at J
 cases v5 with
 |zero=>
  rw[su]at J;cases J
 |succ v5=>
  rw[su]at J;refine au af [[]] ?_;refine bc J (fun h7 J=> ?_) fun h7 J=> ?_
  ·obtain⟨h9,J⟩:=dg J;obtain⟨v7,h8,J⟩:=ar J;refine au af [[(0,bT h7)],[(7,⟨_,_, .ch (i:=v6) (of_decide_eq_true h9) h8⟩)]] ?_;obtain⟨v8,bW,J⟩:=ar J;refine cM af [(49,(aJ v8))] [] ?_ ?_
   ·refine bc bW (fun aA bW=> ?_) fun aA bW=> ?_
    ·refine bc bW (fun a7 bW=> ?_) fun a7 bW=> ?_
     ·cases bW;exact⟨so (os [9,12,16] (bT aA) (os [21,24,27,60,64] (bT a7) (os [30,33,36,39,42,45,48,51,54,57] uN []))),by kernel_rfl⟩
     refine bc bW (fun bk bW=> ?_) fun bk bW=> ?_
     ·refine bc bW (fun cg bW=> ?_) fun cg bW=> ?_
      ·refine bc bW (fun bm bW=> ?_) fun bm bW=> ?_
       ·cases bW;exact⟨so (os [9,12,16] (bT aA) (os [21,24,27,60,64] (bF a7) (os [30,33,36,45,48,57,61] (bT bk) (os [39,42,46] (bT cg) (os [51,54,58] (bT bm) []))))),by kernel_rfl⟩
       cases bW;exact⟨so (os [9,12,16] (bT aA) (os [21,24,27,60,64] (bF a7) (os [30,33,36,45,48,57,61] (bT bk) (os [39,42,46] (bT cg) (os [51,54,58] (bF bm) []))))),by kernel_rfl⟩
      cases bW;exact⟨so (os [9,12,16] (bT aA) (os [21,24,27,60,64] (bF a7) (os [30,33,36,45,48,57,61] (bT bk) (os [39,42,46] (bF cg) (os [51,54,58] (bF rfl) []))))),by kernel_rfl⟩
     cases bW;exact⟨so (os [9,12,16] (bT aA) (os [21,24,27,60,64] (bF a7) (os [30,33,36,45,48,57,61] (bF bk) (os [39,42,51,54] uN [])))),by kernel_rfl⟩
    refine bc bW (fun bQ bW=> ?_) fun bQ bW=> ?_
    ·refine bc bW (fun bo bW=> ?_) fun bo bW=> ?_
     ·refine bc bW (fun cC bW=> ?_) fun cC bW=> ?_
      ·cases bW;exact⟨so (os [9,12,16] (bF aA) (os [21,24,27,60,64] (bF rfl) (os [30,33,36,45,48,57,61] (bT bQ) (os [39,42,46] (bT bo) (os [51,54,58] (bT cC) []))))),by kernel_rfl⟩
      cases bW;exact⟨so (os [9,12,16] (bF aA) (os [21,24,27,60,64] (bF rfl) (os [30,33,36,45,48,57,61] (bT bQ) (os [39,42,46] (bT bo) (os [51,54,58] (bF cC) []))))),by kernel_rfl⟩
     cases bW;exact⟨so (os [9,12,16] (bF aA) (os [21,24,27,51,54,58,60,64] (bF rfl) (os [30,33,36,45,48,57,61] (bT bQ) (os [39,42,46] (bF bo) [])))),by kernel_rfl⟩
    cases bW;exact⟨so (os [9,12,16] (bF aA) (os [21,24,27,60,64] (bF rfl) (os [30,33,36,45,48,57,61] (bF bQ) (os [39,42,51,54] uN [])))),by kernel_rfl⟩
   refine bc J (fun dh J=> ?_) fun dh J=> ?_
   ·cases J;exact wr af [[(0,bT dh)],[]]
   exact ct af aN (v5,(aV (v6+(1:Int)))) [[(0,bF dh)],[]] J
  cases J;exact wr af [[(0,bF h7)],[]]
def tR(N:Nat)(v1:aiF)(v2:aiE aiF):aiG Int:=
 Option.bind (uF N v1) fun v3=>
 bif v3 then
  Option.bind (oz N v2 v1) fun v4=>
  bif v4 then
   some (8:Int)
  else
   some (0:Int)
 else
  some (7:Int)
theorem HR(N:Nat)(v1:aiF)(v2:aiE aiF)(r:Int)(J:tR N v1 v2=some r):bg Tryz.prog 105 [(bw v1),(.d (.sl (aB v2)))] (·=(ak r)):=by
 rw[tR]at J;refine bD Tryz.func105 (by kernel_rfl) (by kernel_rfl) ?_;obtain⟨v3,h1,J⟩:=ar J;refine au af [[],[(4,cL (vt N v1 v3 h1))]] ?_;refine bc J (fun h2 J=> ?_) fun h2 J=> ?_
 ·obtain⟨v4,h3,J⟩:=ar J;refine au af [[(0,bF (cG h2))],[(7,cL (vG N v2 v1 v4 h3))]] ?_;refine bc J (fun h4 J=> ?_) fun h4 J=> ?_
  ·cases J;exact wr af [[(0,bT h4)],[]]
  cases J;exact wr af [[(0,bF h4)],[]]
 cases J;exact wr af [[(0,bT (cU h2))],[]]
def x6(N:Nat)(v1:aQ):aiE aiF→Nat→aiG Int
 |[],_=>
  some (0:Int)
 |v5::v6,v3=>
  bif (decide (((v3:Int)).toNat≤v1.ba.length))then
  Option.bind (tR N v5 ((v1.ba.take ((v3:Int)).toNat).drop 0)) fun v7=>
  bif (v7 !=(0:Int))then
   some v7
  else
   (x6 N v1 v6 (v3+1))
  else none
def Gc(N:Nat)(v1:aQ):aiG Int:=
 Option.bind (bif (decide ((v1.ba.length:Int)>(64:Int)))then some true else(bif (decide ((v1.a8.length:Int)>(64:Int)))then some true else(bif (decide ((v1.ay.length:Int)>(64:Int)))then some true else(bif (decide ((v1.cl.length:Int)>(64:Int)))then some true else some (decide ((v1.cm.length:Int)>(256:Int))))))) fun v2=>
 bif v2 then
  some (2:Int)
 else
  x6 N v1 v1.ba 0
theorem aan(N:Nat)(v1:aQ)(r:Int)(J:Gc N v1=some r):bg Tryz.prog 65 [(aS v1)] (·=(ak r)):=by
 rw[Gc]at J;refine bD Tryz.func65 (by kernel_rfl) (by kernel_rfl) ?_;refine au af [[]] ?_;obtain⟨v2,h5,J⟩:=ar J;refine cM af [(32,(aJ v2))] [.cells (aS v1).cells] ?_ ?_
 ·refine bc h5 (fun h1 h5=> ?_) fun h1 h5=> ?_
  ·cases h5;exact⟨so (os [15,18,21,24,28] (bT h1) (os [33,36,39,42,46,51,54,57,60,64,69,72,75,78,82] (bT rfl) [(7,oL v1.ba bC)])),by kernel_rfl⟩
  refine bc h5 (fun h2 h5=> ?_) fun h2 h5=> ?_
  ·cases h5;exact⟨so (os [15,18,21,24,28] (bF h1) (os [33,36,39,42,46] (bT h2) (os [51,54,57,60,64,69,72,75,78,82] (bT rfl) [(7,oL v1.ba bC),(22,oL v1.a8 ee)]))),by kernel_rfl⟩
  refine bc h5 (fun h3 h5=> ?_) fun h3 h5=> ?_
  ·cases h5;exact⟨so (os [15,18,21,24,28] (bF h1) (os [33,36,39,42,46] (bF h2) (os [51,54,57,60,64] (bT h3) (os [69,72,75,78,82] (bT rfl) [(7,oL v1.ba bC),(22,oL v1.a8 ee),(40,oL v1.ay du)])))),by kernel_rfl⟩
  refine bc h5 (fun h4 h5=> ?_) fun h4 h5=> ?_
  ·cases h5;exact⟨so (os [15,18,21,24,28] (bF h1) (os [33,36,39,42,46] (bF h2) (os [51,54,57,60,64] (bF h3) (os [69,72,75,78,82] (bT h4) [(7,oL v1.ba bC),(22,oL v1.a8 ee),(40,oL v1.ay du),(58,oL v1.cl bC)])))),by kernel_rfl⟩
  cases h5;exact⟨so (os [15,18,21,24,28] (bF h1) (os [33,36,39,42,46] (bF h2) (os [51,54,57,60,64] (bF h3) (os [69,72,75,78,82] (bF h4) [(7,oL v1.ba bC),(22,oL v1.a8 ee),(40,oL v1.ay du),(58,oL v1.cl bC),(76,oL v1.cm eO)])))),by kernel_rfl⟩
 refine bc J (fun h6 J=> ?_) fun h6 J=> ?_
 ·cases J;exact wr af [[(0,bT h6)],[]]
 refine au af [[(0,bF h6)],[]] ?_;refine dX 0 0 (aB v1.ba) (by kernel_rfl) fun h7=> ?_;have h8:=cd bC h7;refine cx af 1 [] [1,3] 1 (fun((v3,v4):Nat×(aiE aiF))=>⟨53,[(1,(.ptr 0 0)),(3,(ak (v3:Int)))],[.cells (aS v1).cells]⟩) (fun((v3,v4):Nat×(aiE aiF))=>v1.ba.drop v3=v4∧x6 N v1 v4 v3=some r) (fun((v3,v4):Nat×(aiE aiF))=>v4.length) (0,v1.ba) ⟨rfl,J⟩ ?_;rintro⟨v3,v4⟩ ⟨h9,J⟩ f1 aN;cases v4 with
 |nil=>
  rw[x6]at J;cases J;exact wr af [[(10,oL v1.ba bC)],[(0,bF (bO h9))],[]]
 |cons v5 v6=>
  rw[x6]at J;obtain⟨aA,J⟩:=dg J;obtain⟨v7,a7,J⟩:=ar J;refine au af [[(10,oL v1.ba bC)],[(0,bT (bN h9))],[(10,oE (kK (aU h9))),(25,⟨_,_, .sub (xs:=aB v1.ba) (lo:=(0:Int)) (hi:=(v3:Int)) (by decide) (Nat.zero_le _) (of_decide_eq_true (aix (Int.natCast_nonneg _))) (by rw[bC];exact(of_decide_eq_true aA)) jq KG⟩),(28,cL (HR N v5 ((v1.ba.take ((v3:Int)).toNat).drop 0) v7 a7))],[]] ?_;refine bc J (fun bk J=> ?_) fun bk J=> ?_
  ·cases J;exact wr af [[(0,bT bk)],[]]
  exact ct af aN (v3+1,v6) [[(0,bF bk)],[(5,oq (bV h9 rfl h8))]] ⟨bR h9,J⟩
def wG(N:Nat)(v1:ax):aiE aD→Nat→aiG Bool
 |[],_=>
  some true
 |v4::v5,v2=>
  Option.bind (uF N v4.ao) fun v6=>
  Option.bind (bif v6 then(bif (v4.dd.toInt==(0:Int))then some true else(bif (decide ((v2:Int)>(0:Int)))then bif (decide ((0:Int)≤(aV ((v2:Int)-(1:Int)))))then
  Option.bind (v1.xL[((aV ((v2:Int)-(1:Int)))).toNat]?) fun v7=>
  some (!(Op.bytesLess (bL v7.ao) (bL v4.ao)))
  else none else some false))else some true) fun v8=>
  bif v8 then
   some false
  else
   (wG N v1 v5 (v2+1))
def qW(N:Nat)(v1:ax):aiG Bool:=
 wG N v1 v1.xL 0
theorem Am(N:Nat)(v1:ax)(r:Bool)(J:qW N v1=some r):bg Tryz.prog 106 [(b9 v1)] (·=(aJ r)):=by
 rw[qW]at J;refine bD Tryz.func106 (by kernel_rfl) (by kernel_rfl) ?_;refine au af [[],[]] ?_;refine dX 0 1 (bP v1.xL) (by kernel_rfl) fun h1=> ?_;have h2:=cd bZ h1;refine cx af 1 [] [1,3] 1 (fun((v2,v3):Nat×(aiE aD))=>⟨48,[(1,(.ptr 0 0)),(3,(ak (v2:Int)))],[.cells (b9 v1).cells]⟩) (fun((v2,v3):Nat×(aiE aD))=>v1.xL.drop v2=v3∧wG N v1 v3 v2=some r) (fun((v2,v3):Nat×(aiE aD))=>v3.length) (0,v1.xL) ⟨rfl,J⟩ ?_;rintro⟨v2,v3⟩ ⟨h3,J⟩ f1 aN;cases v3 with
 |nil=>
  rw[wG]at J;cases J;exact wr af [[(10,oL v1.xL bZ)],[(0,bF (bO h3))],[]]
 |cons v4 v5=>
  rw[wG]at J;refine au af [[(10,oL v1.xL bZ)],[(0,bT (bN h3))]] ?_;obtain⟨v6,h4,J⟩:=ar J;obtain⟨v8,aA,J⟩:=ar J;refine cM af [(47,(aJ v8))] [.cells (b9 v1).cells] ?_ ?_
  ·refine bc aA (fun h5 aA=> ?_) fun h5 aA=> ?_
   ·refine bc aA (fun h6 aA=> ?_) fun h6 aA=> ?_
    ·cases aA;exact⟨so (os [10,37] (oE (eY (aU h3))) (os [27,30,33,36,39,42,45,49] (bF (cG h5)) (os [54,57,60,105,109] (bT h6) (os [63,66,69,72,75,78,81,84,87,90,93,96,99,102] uN [(19,cL (vt N v4.ao v6 h4))])))),by kernel_rfl⟩
    refine bc aA (fun h7 aA=> ?_) fun h7 aA=> ?_
    ·obtain⟨h9,aA⟩:=dg aA;obtain⟨v7,h8,aA⟩:=ar aA;cases aA;exact⟨so (os [10,37,94] (oE (eY (aU h3))) (os [27,30,33,36,39,42,45,49] (bF (cG h5)) (os [54,57,60,105,109] (bF h6) (os [63,66,69,72,75,78,81,84,87,90,93,96,99,102,106] (bT h7) [(19,cL (vt N v4.ao v6 h4)),(76,⟨_,_, .el (xs:=bP v1.xL) (i:=(aV ((v2:Int)-(1:Int)))) (of_decide_eq_true h9) (eY h8)⟩)])))),by kernel_rfl⟩
    cases aA;exact⟨so (os [10,37] (oE (eY (aU h3))) (os [27,30,33,36,39,42,45,49] (bF (cG h5)) (os [54,57,60,105,109] (bF h6) (os [63,66,69,72,75,78,81,84,87,90,93,96,99,102,106] (bF h7) [(19,cL (vt N v4.ao v6 h4))])))),by kernel_rfl⟩
   cases aA;exact⟨so (os [27,30,33,36,39,42,45,49] (bT (cU h5)) (os [54,57,60,105,109] (bT rfl) (os [63,66,69,72,75,78,81,84,87,90,93,96,99,102] uN [(10,oE (eY (aU h3))),(19,cL (vt N v4.ao v6 h4))]))),by kernel_rfl⟩
  refine bc J (fun a7 J=> ?_) fun a7 J=> ?_
  ·cases J;exact wr af [[(0,bT a7)],[]]
  exact ct af aN (v2+1,v5) [[(0,bF a7)],[(5,oq (bV h3 rfl h2))]] ⟨bR h3,J⟩
def wL(N:Nat)(v2:aiE aiF)(v3:aiE aiF):aiE aD→Nat→aiG Bool
 |[],_=>
  some true
 |v6::v7,v4=>
  Option.bind (oz N v2 v6.ao) fun v8=>
  Option.bind (bif v8 then some false else Option.bind (oz N v3 v6.ao) fun v9=>
  some (!v9)) fun v10=>
  bif v10 then
   some false
  else
   (wL N v2 v3 v7 (v4+1))
def yM(N:Nat)(v1:ax)(v2:aiE aiF)(v3:aiE aiF):aiG Bool:=
 wL N v2 v3 v1.xL 0
theorem KT(N:Nat)(v1:ax)(v2:aiE aiF)(v3:aiE aiF)(r:Bool)(J:yM N v1 v2 v3=some r):bg Tryz.prog 107 [(b9 v1),(.d (.sl (aB v2))),(.d (.sl (aB v3)))] (·=(aJ r)):=by
 rw[yM]at J;refine bD Tryz.func107 (by kernel_rfl) (by kernel_rfl) ?_;refine au af [[],[]] ?_;refine dX 0 1 (bP v1.xL) (by kernel_rfl) fun h1=> ?_;have h2:=cd bZ h1;refine cx af 1 [] [1,2,3,7] 1 (fun((v4,v5):Nat×(aiE aD))=>⟨35,[(1,(.d (.sl (aB v2)))),(2,(.d (.sl (aB v3)))),(3,(.ptr 0 0)),(7,(ak (v4:Int)))],[.cells (b9 v1).cells]⟩) (fun((v4,v5):Nat×(aiE aD))=>v1.xL.drop v4=v5∧wL N v2 v3 v5 v4=some r) (fun((v4,v5):Nat×(aiE aD))=>v5.length) (0,v1.xL) ⟨rfl,J⟩ ?_;rintro⟨v4,v5⟩ ⟨h3,J⟩ f1 aN;cases v5 with
 |nil=>
  rw[wL]at J;cases J;exact wr af [[(10,oL v1.xL bZ)],[(0,bF (bO h3))],[]]
 |cons v6 v7=>
  rw[wL]at J;refine au af [[(10,oL v1.xL bZ)],[(0,bT (bN h3))]] ?_;obtain⟨v8,h4,J⟩:=ar J;obtain⟨v10,h7,J⟩:=ar J;refine cM af [(34,(aJ v10))] [.cells (b9 v1).cells] ?_ ?_
  ·refine bc h7 (fun h5 h7=> ?_) fun h5 h7=> ?_
   ·cases h7;exact⟨so (os [30,33,36,39,42,45,48,51,54,58] (bF (cG h5)) [(13,oE (eY (aU h3))),(22,cL (vG N v2 v6.ao v8 h4))]),by kernel_rfl⟩
   obtain⟨v9,h6,h7⟩:=ar h7;cases h7;exact⟨so (os [13,43] (oE (eY (aU h3))) (os [30,33,36,39,42,45,48,51,54,58] (bT (cU h5)) [(22,cL (vG N v2 v6.ao v8 h4)),(52,cL (vG N v3 v6.ao v9 h6))])),by kernel_rfl⟩
  refine bc J (fun h8 J=> ?_) fun h8 J=> ?_
  ·cases J;exact wr af [[(0,bT h8)],[]]
  exact ct af aN (v4+1,v7) [[(0,bF h8)],[(5,oq (bV h3 rfl h2))]] ⟨bR h3,J⟩
def vn(N:Nat)(v1:ax)(v2:aiE aiF):aiG Int:=
 Option.bind (qW N v1) fun v3=>
 bif v3 then
  Option.bind (yM N v1 [] v2) fun v4=>
  bif v4 then
   some (0:Int)
  else
   some (9:Int)
 else
  some (1:Int)
theorem KD(N:Nat)(v1:ax)(v2:aiE aiF)(r:Int)(J:vn N v1 v2=some r):bg Tryz.prog 66 [(b9 v1),(.d (.sl (aB v2)))] (·=(ak r)):=by
 rw[vn]at J;refine bD Tryz.func66 (by kernel_rfl) (by kernel_rfl) ?_;obtain⟨v3,h1,J⟩:=ar J;refine au af [[],[(4,cL (Am N v1 v3 h1))]] ?_;refine bc J (fun h2 J=> ?_) fun h2 J=> ?_
 ·obtain⟨v4,h3,J⟩:=ar J;refine au af [[(0,bF (cG h2))],[(7,cL (KT N v1 [] v2 v4 h3))]] ?_;refine bc J (fun h4 J=> ?_) fun h4 J=> ?_
  ·cases J;exact wr af [[(0,bF (cG h4))],[]]
  cases J;exact wr af [[(0,bT (cU h4))],[]]
 cases J;exact wr af [[(0,bT (cU h2))],[]]
def tK(N:Nat)(v1:bB):aiG Bool:=
 Option.bind (bif (v1.ck==(1:Int))then some true else some (v1.ck==(3:Int))) fun v2=>
 bif v2 then
  Option.bind (bif (v1.cq==(0:Int))then(bif (v1.cJ==(0:Int))then(bif (v1.cH==(0:Int))then some (v1.cK==(0:Int))else some false)else some false)else some false) fun v3=>
  some v3
 else
  Option.bind (bif (v1.ck==(2:Int))then(bif (decide (v1.cq≥(2:Int)))then(bif (decide (v1.cq≤(31:Int)))then(bif (decide (v1.cJ≥(0:Int)))then(bif (decide (v1.cJ≤(30:Int)))then(bif (decide (v1.cH≥(1:Int)))then(bif (decide (v1.cH≤(4:Int)))then(bif (v1.cK==(1:Int))then some true else some (v1.cK==(2:Int)))else some false)else some false)else some false)else some false)else some false)else some false)else some false) fun v4=>
  some v4
theorem GD(N:Nat)(v1:bB)(r:Bool)(J:tK N v1=some r):bg Tryz.prog 108 [(eZ v1)] (·=(aJ r)):=by
 rw[tK]at J;refine bD Tryz.func108 (by kernel_rfl) (by kernel_rfl) ?_;refine au af [[]] ?_;obtain⟨v2,h2,J⟩:=ar J;refine cM af [(10,(aJ v2))] [.cells (eZ v1).cells] ?_ ?_
 ·refine bc h2 (fun h1 h2=> ?_) fun h1 h2=> ?_
  ·cases h2;exact⟨so (os [12,15,18,22] (bT h1) []),by kernel_rfl⟩
  cases h2;exact⟨so (os [12,15,18,22] (bF h1) []),by kernel_rfl⟩
 refine bc J (fun h3 J=> ?_) fun h3 J=> ?_
 ·refine au af [[(0,bT h3)]] ?_;obtain⟨v3,h7,J⟩:=ar J;refine cM af [(2,(aJ v3))] [.cells (eZ v1).cells] ?_ ?_
  ·refine bc h7 (fun h4 h7=> ?_) fun h4 h7=> ?_
   ·refine bc h7 (fun h5 h7=> ?_) fun h5 h7=> ?_
    ·refine bc h7 (fun h6 h7=> ?_) fun h6 h7=> ?_
     ·cases h7;exact⟨so (os [12,15,18,22] (bT h4) (os [27,30,33,37] (bT h5) (os [42,45,48,52] (bT h6) []))),by kernel_rfl⟩
     cases h7;exact⟨so (os [12,15,18,22] (bT h4) (os [27,30,33,37] (bT h5) (os [42,45,48,52] (bF h6) []))),by kernel_rfl⟩
    cases h7;exact⟨so (os [12,15,18,22] (bT h4) (os [27,30,33,37] (bF h5) (os [42,45,48,52] (bF rfl) []))),by kernel_rfl⟩
   cases h7;exact⟨so (os [12,15,18,22] (bF h4) (os [27,30,33,37,42,45,48,52] (bF rfl) [])),by kernel_rfl⟩
  cases J;exact wr af []
 refine au af [[(0,bF h3)]] ?_;obtain⟨v4,bo,J⟩:=ar J;refine cM af [(2,(aJ v4))] [.cells (eZ v1).cells] ?_ ?_
 ·refine bc bo (fun h8 bo=> ?_) fun h8 bo=> ?_
  ·refine bc bo (fun h9 bo=> ?_) fun h9 bo=> ?_
   ·refine bc bo (fun aA bo=> ?_) fun aA bo=> ?_
    ·refine bc bo (fun a7 bo=> ?_) fun a7 bo=> ?_
     ·refine bc bo (fun bk bo=> ?_) fun bk bo=> ?_
      ·refine bc bo (fun cg bo=> ?_) fun cg bo=> ?_
       ·refine bc bo (fun bm bo=> ?_) fun bm bo=> ?_
        ·refine bc bo (fun bQ bo=> ?_) fun bQ bo=> ?_
         ·cases bo;exact⟨so (os [12,15,18,22] (bT h8) (os [27,30,33,37] (bT h9) (os [42,45,48,52] (bT aA) (os [57,60,63,67] (bT a7) (os [72,75,78,82] (bT bk) (os [87,90,93,97] (bT cg) (os [102,105,108,111,123,127] (bT bm) (os [114,117,120,124] (bT bQ) [])))))))),by kernel_rfl⟩
         cases bo;exact⟨so (os [12,15,18,22] (bT h8) (os [27,30,33,37] (bT h9) (os [42,45,48,52] (bT aA) (os [57,60,63,67] (bT a7) (os [72,75,78,82] (bT bk) (os [87,90,93,97] (bT cg) (os [102,105,108,111,123,127] (bT bm) (os [114,117,120,124] (bF bQ) [])))))))),by kernel_rfl⟩
        cases bo;exact⟨so (os [12,15,18,22] (bT h8) (os [27,30,33,37] (bT h9) (os [42,45,48,52] (bT aA) (os [57,60,63,67] (bT a7) (os [72,75,78,82] (bT bk) (os [87,90,93,97] (bT cg) (os [102,105,108,111,123,127] (bF bm) (os [114,117,120] uN [])))))))),by kernel_rfl⟩
       cases bo;exact⟨so (os [12,15,18,22] (bT h8) (os [27,30,33,37] (bT h9) (os [42,45,48,52] (bT aA) (os [57,60,63,67] (bT a7) (os [72,75,78,82] (bT bk) (os [87,90,93,97] (bF cg) (os [102,105,108,111,123,127] (bF rfl) (os [114,117,120] uN [])))))))),by kernel_rfl⟩
      cases bo;exact⟨so (os [12,15,18,22] (bT h8) (os [27,30,33,37] (bT h9) (os [42,45,48,52] (bT aA) (os [57,60,63,67] (bT a7) (os [72,75,78,82] (bF bk) (os [87,90,93,97,102,105,108,111,123,127] (bF rfl) (os [114,117,120] uN []))))))),by kernel_rfl⟩
     cases bo;exact⟨so (os [12,15,18,22] (bT h8) (os [27,30,33,37] (bT h9) (os [42,45,48,52] (bT aA) (os [57,60,63,67] (bF a7) (os [72,75,78,82,87,90,93,97,102,105,108,111,123,127] (bF rfl) (os [114,117,120] uN [])))))),by kernel_rfl⟩
    cases bo;exact⟨so (os [12,15,18,22] (bT h8) (os [27,30,33,37] (bT h9) (os [42,45,48,52] (bF aA) (os [57,60,63,67,72,75,78,82,87,90,93,97,102,105,108,111,123,127] (bF rfl) (os [114,117,120] uN []))))),by kernel_rfl⟩
   cases bo;exact⟨so (os [12,15,18,22] (bT h8) (os [27,30,33,37] (bF h9) (os [42,45,48,52,57,60,63,67,72,75,78,82,87,90,93,97,102,105,108,111,123,127] (bF rfl) (os [114,117,120] uN [])))),by kernel_rfl⟩
  cases bo;exact⟨so (os [12,15,18,22] (bF h8) (os [27,30,33,37,42,45,48,52,57,60,63,67,72,75,78,82,87,90,93,97,102,105,108,111,123,127] (bF rfl) (os [114,117,120] uN []))),by kernel_rfl⟩
 cases J;exact wr af []
def xl(N:Nat)(v2:aiE aiF):aiE ax→Nat→aiG Int
 |[],_=>
  some (0:Int)
 |v8::v9,v6=>
  Option.bind (vn N v8 v2) fun v10=>
  bif (v10 !=(0:Int))then
   some v10
  else
   (xl N v2 v9 (v6+1))
def D6(N:Nat)(v1:bX)(v2:aiE aiF)(v3:aiE aiF):aiG Int:=
 Option.bind (tR N v1.ao v3) fun v4=>
 bif (v4 !=(0:Int))then
  some v4
 else
  Option.bind (tK N v1.aw) fun v5=>
  bif v5 then
   bif (decide ((v1.aI.length:Int)>(6:Int)))then
    some (11:Int)
   else
    xl N v2 v1.aI 0
  else
   some (10:Int)
theorem afl(N:Nat)(v1:bX)(v2:aiE aiF)(v3:aiE aiF)(r:Int)(J:D6 N v1 v2 v3=some r):bg Tryz.prog 67 [(lf v1),(.d (.sl (aB v2))),(.d (.sl (aB v3)))] (·=(ak r)):=by
 rw[D6]at J;refine bD Tryz.func67 (by kernel_rfl) (by kernel_rfl) ?_;obtain⟨v4,h1,J⟩:=ar J;refine au af [[],[(10,cL (HR N v1.ao v3 v4 h1))],[]] ?_;refine bc J (fun h2 J=> ?_) fun h2 J=> ?_
 ·cases J;exact wr af [[(0,bT h2)],[]]
 obtain⟨v5,h3,J⟩:=ar J;refine au af [[(0,bF h2)],[(7,cL (GD N v1.aw v5 h3))]] ?_;refine bc J (fun h4 J=> ?_) fun h4 J=> ?_
 ·refine au af [[(0,bF (cG h4))],[(7,oL v1.aI bM)]] ?_;refine bc J (fun h5 J=> ?_) fun h5 J=> ?_
  ·cases J;exact wr af [[(0,bT h5)],[]]
  refine au af [[(0,bF h5)],[]] ?_;refine dX 0 6 (cz v1.aI) (by kernel_rfl) fun h6=> ?_;have h7:=cd bM h6;refine cx af 1 [] [1,3,8] 1 (fun((v6,v7):Nat×(aiE ax))=>⟨42,[(1,(.d (.sl (aB v2)))),(3,(.ptr 0 0)),(8,(ak (v6:Int)))],[.cells (lf v1).cells]⟩) (fun((v6,v7):Nat×(aiE ax))=>v1.aI.drop v6=v7∧xl N v2 v7 v6=some r) (fun((v6,v7):Nat×(aiE ax))=>v7.length) (0,v1.aI) ⟨rfl,J⟩ ?_;rintro⟨v6,v7⟩ ⟨h8,J⟩ f1 aN;cases v7 with
  |nil=>
   rw[xl]at J;cases J;exact wr af [[(10,oL v1.aI bM)],[(0,bF (bO h8))],[]]
  |cons v8 v9=>
   rw[xl]at J;obtain⟨v10,h9,J⟩:=ar J;refine au af [[(10,oL v1.aI bM)],[(0,bT (bN h8))],[(10,oE (hY (aU h8))),(19,cL (KD N v8 v2 v10 h9))],[]] ?_;refine bc J (fun aA J=> ?_) fun aA J=> ?_
   ·cases J;exact wr af [[(0,bT aA)],[]]
   exact ct af aN (v6+1,v9) [[(0,bF aA)],[(5,oq (bV h8 rfl h7))]] ⟨bR h8,J⟩
 cases J;exact wr af [[(0,bT (cU h4))],[]]
def vh(N:Nat)(v2:aiE aiF):aiE bj→Nat→(aiE aiF)→aiG Int
 |[],_,_=>
  some (0:Int)
 |v5::v6,v3,v7=>
  Option.bind (tR N v5.ao v7) fun v8=>
  bif (v8 !=(0:Int))then
   some v8
  else
   Option.bind (vn N v5.dB v2) fun v9=>
   bif (v9 !=(0:Int))then
    some v9
   else
    bif (Nat.ble ((v7.length+1)*16) 140737488355328)then
    (fun b6=>vh N v2 v6 (v3+1) b6) (v7++[v5.ao])
    else none
def Dv(N:Nat)(v1:aiE bj)(v2:aiE aiF):aiG Int:=
 bif (Nat.ble ((0+v2.length)*16) 140737488355328)then
 vh N v2 v1 0 v2
 else none
theorem acy(N:Nat)(v1:aiE bj)(v2:aiE aiF)(r:Int)(J:Dv N v1 v2=some r):bg Tryz.prog 109 [(.d (.sl (cu v1))),(.d (.sl (aB v2)))] (·=(ak r)):=by
 rw[Dv]at J;refine bD Tryz.func109 (by kernel_rfl) (by kernel_rfl) ?_;obtain⟨h1,J⟩:=dg J;refine au af [[],[(7,⟨_,_, .app (xs:=[]) (ys:=aB v2) (zs:=aB v2) (n:=v2.length) rfl (fun _ hc=>absurd hc aiw) jq (by rw[(show([]:aiE (aiE D)).length=0 from rfl),(bC (l:=v2))];exact(de h1 (by decide)).1) (by rw[(show([]:aiE (aiE D)).length=0 from rfl),(bC (l:=v2))];exact(de h1 (by decide)).2) rfl (by first|(rw[(show([]:aiE (aiE D)).length=0 from rfl),(bC (l:=v2))];done)|(rw[(show([]:aiE (aiE D)).length=0 from rfl),(bC (l:=v2))];rfl)|(rw[(show([]:aiE (aiE D)).length=0 from rfl),(bC (l:=v2)),ahQ];done)|(rw[(show([]:aiE (aiE D)).length=0 from rfl),(bC (l:=v2)),ahQ];rfl)|(rw[(show([]:aiE (aiE D)).length=0 from rfl),(bC (l:=v2)),ah9]))⟩)],[]] ?_;refine dq 0 (cu v1) (by kernel_rfl) fun h2=> ?_;have h3:=cd b5 h2;refine cx af 1 [] [0,1,5,6] 1 (fun((v3,v4,v7):Nat×(aiE bj)×(aiE aiF))=>⟨46,[(0,(.d (.sl (cu v1)))),(1,(.d (.sl (aB v2)))),(5,(.own 0 (aB v7))),(6,(ak (v3:Int)))],[.front 9 1 v7.length]⟩) (fun((v3,v4,v7):Nat×(aiE bj)×(aiE aiF))=>v1.drop v3=v4∧vh N v2 v4 v3 v7=some r) (fun((v3,v4,v7):Nat×(aiE bj)×(aiE aiF))=>v4.length) (0,v1,v2) ⟨rfl,J⟩ ?_
 rintro⟨v3,v4,v7⟩ ⟨h4,J⟩ f1 aN;cases v4 with
 |nil=>
  rw[vh]at J;cases J;exact wr af [[(7,oL v1 b5)],[(0,bF (bO h4))],[]]
 |cons v5 v6=>
  rw[vh]at J;obtain⟨v8,h5,J⟩:=ar J;refine au af [[(7,oL v1 b5)],[(0,bT (bN h4))],[(7,oE (jK (aU h4))),(19,cL (HR N v5.ao v7 v8 h5))],[]] ?_;refine bc J (fun h6 J=> ?_) fun h6 J=> ?_
  ·cases J;exact wr af [[(0,bT h6)],[]]
  obtain⟨v9,h7,J⟩:=ar J;refine au af [[(0,bF h6)],[(7,oE (jK (aU h4))),(19,cL (KD N v5.dB v2 v9 h7))],[]] ?_;refine bc J (fun h8 J=> ?_) fun h8 J=> ?_
  ·cases J;exact wr af [[(0,bT h8)],[]]
  obtain⟨h9,J⟩:=dg J;exact ct af aN (v3+1,v6,(v7++[v5.ao])) [[(0,bF h8)],[(10,oE (jK (aU h4))),(22,⟨_,_, .app (xs:=aB v7) (ys:=aB [v5.ao]) (zs:=aB (v7++[v5.ao])) (n:=(v7++[v5.ao]).length) bC.symm jq jq (by rw[(bC (l:=v7)),(bC (l:=[v5.ao]))];exact(de h9 (by decide)).1) (by rw[(bC (l:=v7)),(bC (l:=[v5.ao]))];exact(de h9 (by decide)).2) Aq (by first|(rw[(bC (l:=v7)),(bC (l:=[v5.ao]))];done)|(rw[(bC (l:=v7)),(bC (l:=[v5.ao]))];rfl)|(rw[(bC (l:=v7)),(bC (l:=[v5.ao])),ahQ];done)|(rw[(bC (l:=v7)),(bC (l:=[v5.ao])),ahQ];rfl)|(rw[(bC (l:=v7)),(bC (l:=[v5.ao])),ah9]))⟩)],[(5,oq (bV h4 rfl h3))]] ⟨bR h4,J⟩
end Go.Proofs.YtphmhnabilhbgaaGreatDoor
