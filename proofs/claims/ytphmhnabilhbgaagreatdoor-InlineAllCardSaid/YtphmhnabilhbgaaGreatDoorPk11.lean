/-
  Part 11 of the proof: PQ5.
-/
import Derived.Test.YtphmhnabilhbgaaGreatDoorPk10
namespace Go.Proofs.YtphmhnabilhbgaaGreatDoor
open Go.RowKit
set_option maxRecDepth 100000
set_option maxHeartbeats 0
set_option linter.unusedVariables false
def rG:aQ:=⟨[],[],[],[],[]⟩
def mP(N:Nat)(v4:(aiE aiF)×(aiE cf)×(aiE bX)×Nat×(aiE aiF)×(aiE aG))(v6:aG)(v2:aiF)(v5:Int):Nat→Int→(aiE aG)→aiG (aQ×Int)
 |0,_,_=>none
 |v7+1,v8,v9=>
  bif (decide (v8<(v4.2.2.2.1:Int)))then
   bif (Nat.beq v9.length v4.2.2.2.1)then
   bif (decide ((0:Int)≤v8))then
   Option.bind (v9[(v8).toNat]?) fun v10=>
   Option.bind (Ff N v10.bx v6) fun v11=>
   bif (v11.2 !=(0:Int))then
    some (rG,v11.2)
   else
    (fun b6 dZ=>mP N v4 v6 v2 v5 v7 b6 dZ) (aV (v8+(1:Int))) (v9.set ((v8).toNat) (⟨v10.ao,v10.aw,v10.aI,v10.bz,v10.cP,v11.1⟩:aG))
   else none
   else none
  else
   Option.bind (uk N v4.2.2.2.2.1 v2) fun v12=>
   bif v12 then
    bif (Nat.beq v9.length v4.2.2.2.1)then
    Option.bind (uy N (⟨v4.1,v4.2.1,v4.2.2.1,v9,v4.2.2.2.2.1⟩:aQ)) fun aE=>
    bif (aE.2 !=(0:Int))then
     some (rG,aE.2)
    else
     Option.bind (sN N (⟨v4.1,v4.2.1,v4.2.2.1,v9,v4.2.2.2.2.1⟩:aQ)) fun aC=>
     bif (Nat.beq aC.2.2.2.2.2.length aC.2.2.2.1)then
     some ((⟨aC.1,aC.2.1,aC.2.2.1,aC.2.2.2.2.2,aC.2.2.2.2.1⟩:aQ),(0:Int))
     else none
    else none
   else
    Option.bind (He N v9 v5 v4.2.2.2.1) fun aP=>
    bif (Nat.beq (aP.length+1) v4.2.2.2.1)then
    bif (Nat.beq aP.length (v4.2.2.2.1-1))then
    Option.bind (uy N (⟨v4.1,v4.2.1,v4.2.2.1,aP,v4.2.2.2.2.1⟩:aQ)) fun aW=>
    bif (aW.2 !=(0:Int))then
     some (rG,aW.2)
    else
     Option.bind (sN N (⟨v4.1,v4.2.1,v4.2.2.1,aP,v4.2.2.2.2.1⟩:aQ)) fun aH=>
     bif (Nat.beq aH.2.2.2.2.2.length aH.2.2.2.1)then
     some ((⟨aH.1,aH.2.1,aH.2.2.1,aH.2.2.2.2.2,aH.2.2.2.2.1⟩:aQ),(0:Int))
     else none
    else none
    else none
def wD(N:Nat)(v1:aQ)(v2:aiF):aiG (aQ×Int):=
 Option.bind (DQ N v1 v2) fun v3=>
 bif (v3 !=(0:Int))then
  some (rG,v3)
 else
  Option.bind (sN N v1) fun v4=>
  Option.bind (Ep N v4.1 v4.2.1 v4.2.2.1 v4.2.2.2.1 v4.2.2.2.2.1 v2 v4.2.2.2.2.2) fun v5=>
  bif (Nat.beq v4.2.2.2.2.2.length v4.2.2.2.1)then
  bif (decide ((0:Int)≤v5))then
  bif (decide (v5<(v4.2.2.2.1:Int)))then
  Option.bind (v4.2.2.2.2.2[(v5).toNat]?) fun v6=>
  mP N v4 v6 v2 v5 N (0:Int) v4.2.2.2.2.2
  else none
  else none
  else none
theorem S8(N:Nat)(v1:aQ)(v2:aiF)(r:aQ×Int)(J:wD N v1 v2=some r):bg Tryz.prog 8 [(aS v1),(bw v2)] (·=(.cb [(aS r.1),(ak r.2)])):=by
 rw[wD]at J;refine qg Tryz.func8 rfl (by kernel_rfl) ?_;refine gF [0,1] 0 (ah0 _) (s':=⟨83,[(0,(aS v1)),(1,(bw v2))],[]⟩) (by kernel_rfl) ?_;refine aR ?_;refine rg [] [(2,(.ptr 0 0)),(4,(.ptr 1 0))] [.cells (aS v1).cells, .cells dv] (by kernel_rfl) ?_;refine aR ?_;refine aR ?_;obtain⟨v3,h1,J⟩:=ar J;refine rg [(7,cL (acn N v1 v2 v3 h1))] [(6,(ak v3))] [.cells (aS v1).cells, .cells dv] (by kernel_rfl) ?_;refine aR ?_;refine rg [] [(19,(aJ (v3 !=(0:Int))))] [.cells (aS v1).cells, .cells dv] (by kernel_rfl) ?_;rcases fQ (v3 !=(0:Int))with h2|h2
 ·replace J:=(dA h2).symm.trans J;refine fB (t:=(v3 !=(0:Int))) (by kernel_rfl) h2 ?_;refine aR ?_;refine rg [] [(5,(ak v3))] [.cells (aS v1).cells, .cells dv] (by kernel_rfl) ?_;refine dN (ej ?_);have hr:=ah8 J;subst hr;exact gn (by kernel_rfl)
 replace J:=(fS h2).symm.trans J;refine fv (t:=(v3 !=(0:Int))) (by kernel_rfl) h2 ?_;refine et ?_;refine cv ?_;refine aR ?_;obtain⟨v4,h3,J⟩:=ar J;refine rg [(4,⟨_,_, .me gZ (ud (zu (ud (tn (tn (kH (xs:=(v4.2.2.2.2.2.map cF)) gZ)))))) (cQ:=[(aS v1)]) (h:=[.cells (aS v1).cells, .cells dv]) (l:=[]) (by kernel_rfl) (by kernel_rfl) (by kernel_rfl) (by kernel_rfl) (FI N v1 v4 h3)⟩)] [(7,(.ptr 8 0))] [.cells (aS v1).cells, .cells dv, .gone, .cells [(.d (.sl (aB v4.1))),(.own 5 (bG v4.2.1)),(.own 6 (bI v4.2.2.1)),(.vec 7 0 v4.2.2.2.1 v4.2.2.2.1 22),(.d (.sl (aB v4.2.2.2.2.1)))], .gone, .front 57 3 v4.2.1.length, .front 60 7 v4.2.2.1.length, .vec 54 22 (aO (v4.2.2.2.2.2.map cF)), .cells [(.d (.sl (aB v4.1))),(.own 5 (bG v4.2.1)),(.own 6 (bI v4.2.2.1)),(.vec 7 0 v4.2.2.2.1 v4.2.2.2.1 22),(.d (.sl (aB v4.2.2.2.2.1)))]] (by kernel_rfl) ?_;refine aR ?_;obtain⟨v5,h4,J⟩:=ar J;refine rg [(7,⟨_,_, .me (kH (xs:=(v4.2.2.2.2.2.map cF)) gZ) (kH (xs:=(v4.2.2.2.2.2.map cF)) gZ) (cQ:=[(.agg [(.d (.sl (aB v4.1))),(.d (.sl (bG v4.2.1))),(.d (.sl (bI v4.2.2.1))),(.vec 7 0 v4.2.2.2.1 v4.2.2.2.1 22),(.d (.sl (aB v4.2.2.2.2.1)))]),(bw v2)]) (h:=[.cells (aS v1).cells, .cells dv, .gone, .cells [(.d (.sl (aB v4.1))),(.own 5 (bG v4.2.1)),(.own 6 (bI v4.2.2.1)),(.vec 7 0 v4.2.2.2.1 v4.2.2.2.1 22),(.d (.sl (aB v4.2.2.2.2.1)))], .gone, .front 57 3 v4.2.1.length, .front 60 7 v4.2.2.1.length, .vec 54 22 (aO (v4.2.2.2.2.2.map cF)), .cells [(.d (.sl (aB v4.1))),(.own 5 (bG v4.2.1)),(.own 6 (bI v4.2.2.1)),(.vec 7 0 v4.2.2.2.1 v4.2.2.2.1 22),(.d (.sl (aB v4.2.2.2.2.1)))]]) (l:=[7]) (by kernel_rfl) (by kernel_rfl) (by kernel_rfl) (by kernel_rfl) (XP N v4.1 v4.2.1 v4.2.2.1 v4.2.2.2.1 v4.2.2.2.2.1 v2 v4.2.2.2.2.2 v5 h4)⟩)] [(8,(ak v5))] [.cells (aS v1).cells, .cells dv, .gone, .cells [(.d (.sl (aB v4.1))),(.own 5 (bG v4.2.1)),(.own 6 (bI v4.2.2.1)),(.vec 7 0 v4.2.2.2.1 v4.2.2.2.1 22),(.d (.sl (aB v4.2.2.2.2.1)))], .gone, .front 57 3 v4.2.1.length, .front 60 7 v4.2.2.1.length, .vec 54 22 (aO (v4.2.2.2.2.2.map cF)), .cells [(.d (.sl (aB v4.1))),(.own 5 (bG v4.2.1)),(.own 6 (bI v4.2.2.1)),(.vec 7 0 v4.2.2.2.1 v4.2.2.2.1 22),(.d (.sl (aB v4.2.2.2.2.1)))]] (by kernel_rfl) ?_
 refine aR ?_;have h5:=fw J;replace J:=(dA h5).symm.trans J;have h6:=fw J;replace J:=(dA h6).symm.trans J;have h7:=fw J;replace J:=(dA h7).symm.trans J;obtain⟨v6,h8,J⟩:=ar J;refine rg [(10,⟨_,_, .pr (.ix ((v5).toNat)) (la (gJ (f:=cF) (ah3 h5)) (of_decide_eq_true h6) (of_decide_eq_true h7) rfl)⟩),(13,⟨_,_, .pr (.el ((cF v6).map AV.d)) (sB (f:=cF) (ah3 h5) h8)⟩)] [(9,(.ptr 9 0))] [.cells (aS v1).cells, .cells dv, .gone, .cells [(.d (.sl (aB v4.1))),(.own 5 (bG v4.2.1)),(.own 6 (bI v4.2.2.1)),(.vec 7 0 v4.2.2.2.1 v4.2.2.2.1 22),(.d (.sl (aB v4.2.2.2.2.1)))], .gone, .front 57 3 v4.2.1.length, .front 60 7 v4.2.2.1.length, .vec 54 22 (aO (v4.2.2.2.2.2.map cF)), .cells [(.d (.sl (aB v4.1))),(.own 5 (bG v4.2.1)),(.own 6 (bI v4.2.2.1)),(.vec 7 0 v4.2.2.2.1 v4.2.2.2.1 22),(.d (.sl (aB v4.2.2.2.2.1)))], .cells (cy v6).cells] (by kernel_rfl) ?_;refine aR ?_;refine aR ?_;refine rg [(7,⟨_,_, .pr .no (gJ (f:=cF) (ah3 h5))⟩)] [(34,(ak (v4.2.2.2.1:Int))),(35,(ak (0:Int)))] [.cells (aS v1).cells, .cells dv, .gone, .cells [(.d (.sl (aB v4.1))),(.own 5 (bG v4.2.1)),(.own 6 (bI v4.2.2.1)),(.vec 7 0 v4.2.2.2.1 v4.2.2.2.1 22),(.d (.sl (aB v4.2.2.2.2.1)))], .gone, .front 57 3 v4.2.1.length, .front 60 7 v4.2.2.1.length, .vec 54 22 (aO (v4.2.2.2.2.2.map cF)), .cells [(.d (.sl (aB v4.1))),(.own 5 (bG v4.2.1)),(.own 6 (bI v4.2.2.1)),(.vec 7 0 v4.2.2.2.1 v4.2.2.2.1 22),(.d (.sl (aB v4.2.2.2.2.1)))], .cells (cy v6).cells] (by kernel_rfl) ?_
 refine fe ?_;refine oA [1,4,7,8,9,34,35] 10 [] [(1,0),(1,1),(1,2),(1,3),(1,4)] (fun((v7,v8,v9):Nat×Int×(aiE aG))=>⟨83,[(1,(bw v2)),(4,(.ptr 1 0)),(7,(.ptr 8 0)),(8,(ak v5)),(9,(.ptr 9 0)),(34,(ak (v4.2.2.2.1:Int))),(35,(ak v8))],[.cells (aS v1).cells, .cells dv, .gone, .cells [(.d (.sl (aB v4.1))),(.own 5 (bG v4.2.1)),(.own 6 (bI v4.2.2.1)),(.vec 7 0 v4.2.2.2.1 v4.2.2.2.1 22),(.d (.sl (aB v4.2.2.2.2.1)))], .gone, .front 57 3 v4.2.1.length, .front 60 7 v4.2.2.1.length, .vec 54 22 (aO (v9.map cF)), .cells [(.d (.sl (aB v4.1))),(.own 5 (bG v4.2.1)),(.own 6 (bI v4.2.2.1)),(.vec 7 0 v4.2.2.2.1 v4.2.2.2.1 22),(.d (.sl (aB v4.2.2.2.2.1)))], .cells (cy v6).cells]⟩) (fun((v7,v8,v9):Nat×Int×(aiE aG))=>mP N v4 v6 v2 v5 v7 v8 v9=some r) (fun((v7,v8,v9):Nat×Int×(aiE aG))=>v7) (N,(0:Int),v4.2.2.2.2.2) (ahX rfl) ⟨(dP trivial (dP trivial (dP trivial (dP trivial (dP trivial (dP trivial (dP trivial (gq (xs:=(v4.2.2.2.2.2.map cF)) (dP trivial (dP trivial fh)))))))))),by kernel_rfl⟩ J ?_;rintro⟨v7,v8,v9⟩ J
 try dsimp only at J
 cases v7 with
 |zero=>
  rw[mP]at J;cases J
 |succ v7=>
  rw[mP]at J;refine aR ?_;refine rg [] [(36,(aJ (decide (v8<(v4.2.2.2.1:Int)))))] [.cells (aS v1).cells, .cells dv, .gone, .cells [(.d (.sl (aB v4.1))),(.own 5 (bG v4.2.1)),(.own 6 (bI v4.2.2.1)),(.vec 7 0 v4.2.2.2.1 v4.2.2.2.1 22),(.d (.sl (aB v4.2.2.2.2.1)))], .gone, .front 57 3 v4.2.1.length, .front 60 7 v4.2.2.1.length, .vec 54 22 (aO (v9.map cF)), .cells [(.d (.sl (aB v4.1))),(.own 5 (bG v4.2.1)),(.own 6 (bI v4.2.2.1)),(.vec 7 0 v4.2.2.2.1 v4.2.2.2.1 22),(.d (.sl (aB v4.2.2.2.2.1)))], .cells (cy v6).cells] (by kernel_rfl) ?_;refine aR ?_;rcases fQ (decide (v8<(v4.2.2.2.1:Int)))with h9|h9
  ·replace J:=(dA h9).symm.trans J;refine fB (t:=(decide (v8<(v4.2.2.2.1:Int)))) (by kernel_rfl) h9 ?_;refine et ?_;refine cv ?_;refine aR ?_;refine fe ?_;refine aR ?_;refine rg [] [(10,(ak v8))] [.cells (aS v1).cells, .cells dv, .gone, .cells [(.d (.sl (aB v4.1))),(.own 5 (bG v4.2.1)),(.own 6 (bI v4.2.2.1)),(.vec 7 0 v4.2.2.2.1 v4.2.2.2.1 22),(.d (.sl (aB v4.2.2.2.2.1)))], .gone, .front 57 3 v4.2.1.length, .front 60 7 v4.2.2.1.length, .vec 54 22 (aO (v9.map cF)), .cells [(.d (.sl (aB v4.1))),(.own 5 (bG v4.2.1)),(.own 6 (bI v4.2.2.1)),(.vec 7 0 v4.2.2.2.1 v4.2.2.2.1 22),(.d (.sl (aB v4.2.2.2.2.1)))], .cells (cy v6).cells] (by kernel_rfl) ?_;refine aR ?_;have aA:=fw J;replace J:=(dA aA).symm.trans J;have a7:=fw J;replace J:=(dA a7).symm.trans J;obtain⟨v10,bk,J⟩:=ar J;obtain⟨v11,cg,J⟩:=ar J;refine rd af (by kernel_rfl) [(10,⟨_,_, .pr (.ix ((v8).toNat)) (la (gJ (f:=cF) (ah3 aA)) (of_decide_eq_true a7) (of_decide_eq_true h9) rfl)⟩),(13,⟨_,_, .pr .no trivial⟩),(16,⟨_,_, .pr (.el ((cF v10).map AV.d)) (sB (f:=cF) (ah3 aA) bk)⟩),(22,cL (WS N v10.bx v6 v11 cg))] [(11,(.ptr 10 0)),(12,(ak v11.2))] [.cells (aS v1).cells, .cells dv, .gone, .cells [(.d (.sl (aB v4.1))),(.own 5 (bG v4.2.1)),(.own 6 (bI v4.2.2.1)),(.vec 7 0 v4.2.2.2.1 v4.2.2.2.1 22),(.d (.sl (aB v4.2.2.2.2.1)))], .gone, .front 57 3 v4.2.1.length, .front 60 7 v4.2.2.1.length, .vec 54 22 (aO (v9.map cF)), .cells [(.d (.sl (aB v4.1))),(.own 5 (bG v4.2.1)),(.own 6 (bI v4.2.2.1)),(.vec 7 0 v4.2.2.2.1 v4.2.2.2.1 22),(.d (.sl (aB v4.2.2.2.2.1)))], .cells (cy v6).cells, .cells (aF v11.1).cells] (by kernel_rfl) ?_
   refine aR ?_;refine aR ?_;refine rg [] [(50,(aJ (v11.2 !=(0:Int))))] [.cells (aS v1).cells, .cells dv, .gone, .cells [(.d (.sl (aB v4.1))),(.own 5 (bG v4.2.1)),(.own 6 (bI v4.2.2.1)),(.vec 7 0 v4.2.2.2.1 v4.2.2.2.1 22),(.d (.sl (aB v4.2.2.2.2.1)))], .gone, .front 57 3 v4.2.1.length, .front 60 7 v4.2.2.1.length, .vec 54 22 (aO (v9.map cF)), .cells [(.d (.sl (aB v4.1))),(.own 5 (bG v4.2.1)),(.own 6 (bI v4.2.2.1)),(.vec 7 0 v4.2.2.2.1 v4.2.2.2.1 22),(.d (.sl (aB v4.2.2.2.2.1)))], .cells (cy v6).cells, .cells (aF v11.1).cells] (by kernel_rfl) ?_;rcases fQ (v11.2 !=(0:Int))with bm|bm
   ·replace J:=(dA bm).symm.trans J;refine fB (t:=(v11.2 !=(0:Int))) (by kernel_rfl) bm ?_;refine aR ?_;refine rg [] [(5,(ak v11.2))] [.cells (aS v1).cells, .cells dv, .gone, .cells [(.d (.sl (aB v4.1))),(.own 5 (bG v4.2.1)),(.own 6 (bI v4.2.2.1)),(.vec 7 0 v4.2.2.2.1 v4.2.2.2.1 22),(.d (.sl (aB v4.2.2.2.2.1)))], .gone, .front 57 3 v4.2.1.length, .front 60 7 v4.2.2.1.length, .vec 54 22 (aO (v9.map cF)), .cells [(.d (.sl (aB v4.1))),(.own 5 (bG v4.2.1)),(.own 6 (bI v4.2.2.1)),(.vec 7 0 v4.2.2.2.1 v4.2.2.2.1 22),(.d (.sl (aB v4.2.2.2.2.1)))], .cells (cy v6).cells, .cells (aF v11.1).cells] (by kernel_rfl) ?_;refine dN (ej (fq (ej (ej (fq (ej ?_))))));have hr:=ah8 J;subst hr;exact gn (by kernel_rfl)
   replace J:=(fS bm).symm.trans J;refine fv (t:=(v11.2 !=(0:Int))) (by kernel_rfl) bm ?_;refine et ?_;refine cv ?_;refine re [(13,⟨_,_, .pr (.ix ((v8).toNat)) (la (gJ (f:=cF) (ah3 aA)) (of_decide_eq_true a7) (of_decide_eq_true h9) rfl)⟩),(16,⟨_,_, .pr .no trivial⟩),(19,⟨_,_, .pr (.st ((cF v10).map AV.d) (aO ((v9.set ((v8).toNat) (⟨v10.ao,v10.aw,v10.aI,v10.bz,v10.cP,v11.1⟩:aG)).map cF))) (yB (f:=cF) (j:=9) (y:=(⟨v10.ao,v10.aw,v10.aI,v10.bz,v10.cP,v11.1⟩:aG)) (zs:=[(ak v11.1.aX),(bw v11.1.ao),(bu v11.1.db.xN),(bu v11.1.db.xD),(ak v11.1.aw.ck),(ak v11.1.aw.cq),(ak v11.1.aw.cJ),(ak v11.1.aw.cH),(ak v11.1.aw.cK),(bu v11.1.aK.xK),(.d (.sl (bP v11.1.aK.xL))),(.d (.sl (bJ v11.1.xIdx))),(.d (.sl (cT v11.1.aM)))]) (ah3 aA) bk rfl)⟩)] [(58,(.dw 7 ((v8).toNat) 9 v4.2.2.2.1 22)),(57,(.dw 7 ((v8).toNat) 0 v4.2.2.2.1 22)),(56,(aF v11.1)),(55,(ak v8)),(54,(.vec 7 0 v4.2.2.2.1 v4.2.2.2.1 22)),(53,(.ptr 8 3))] [.cells (aS v1).cells, .cells dv, .gone, .cells [(.d (.sl (aB v4.1))),(.own 5 (bG v4.2.1)),(.own 6 (bI v4.2.2.1)),(.vec 7 0 v4.2.2.2.1 v4.2.2.2.1 22),(.d (.sl (aB v4.2.2.2.2.1)))], .gone, .front 57 3 v4.2.1.length, .front 60 7 v4.2.2.1.length, .vec 54 22 (aO ((v9.set ((v8).toNat) (⟨v10.ao,v10.aw,v10.aI,v10.bz,v10.cP,v11.1⟩:aG)).map cF)), .cells [(.d (.sl (aB v4.1))),(.own 5 (bG v4.2.1)),(.own 6 (bI v4.2.2.1)),(.vec 7 0 v4.2.2.2.1 v4.2.2.2.1 22),(.d (.sl (aB v4.2.2.2.2.1)))], .cells (cy v6).cells, .cells (aF v11.1).cells] (by kernel_rfl) ?_
   refine iA ?_;refine cv ?_;refine re [] [(35,(ak (aV (v8+(1:Int))))),(59,(ak (aV (v8+(1:Int)))))] [.cells (aS v1).cells, .cells dv, .gone, .cells [(.d (.sl (aB v4.1))),(.own 5 (bG v4.2.1)),(.own 6 (bI v4.2.2.1)),(.vec 7 0 v4.2.2.2.1 v4.2.2.2.1 22),(.d (.sl (aB v4.2.2.2.2.1)))], .gone, .front 57 3 v4.2.1.length, .front 60 7 v4.2.2.1.length, .vec 54 22 (aO ((v9.set ((v8).toNat) (⟨v10.ao,v10.aw,v10.aI,v10.bz,v10.cP,v11.1⟩:aG)).map cF)), .cells [(.d (.sl (aB v4.1))),(.own 5 (bG v4.2.1)),(.own 6 (bI v4.2.2.1)),(.vec 7 0 v4.2.2.2.1 v4.2.2.2.1 22),(.d (.sl (aB v4.2.2.2.2.1)))], .cells (cy v6).cells, .cells (aF v11.1).cells] (by kernel_rfl) ?_;refine cv ?_;exact⟨(v7,(aV (v8+(1:Int))),(v9.set ((v8).toNat) (⟨v10.ao,v10.aw,v10.aI,v10.bz,v10.cP,v11.1⟩:aG))),⟨(dP trivial (dP trivial (dP trivial (dP trivial (dP trivial (dP trivial (dP trivial (gq (xs:=((v9.set ((v8).toNat) (⟨v10.ao,v10.aw,v10.aI,v10.bz,v10.cP,v11.1⟩:aG)).map cF)) (dP trivial (dP trivial fh)))))))))),by kernel_rfl⟩,J,aiC _⟩
  replace J:=(fS h9).symm.trans J;refine fv (t:=(decide (v8<(v4.2.2.2.1:Int)))) (by kernel_rfl) h9 ?_;refine kZ (gH (gH (lJ rfl ?_)));refine cv ?_;refine aR ?_;refine aR ?_;obtain⟨v12,bQ,J⟩:=ar J;refine rg [(10,cL (LO N v4.2.2.2.2.1 v2 v12 bQ))] [(64,(aJ (!v12)))] [.cells (aS v1).cells, .cells dv, .gone, .cells [(.d (.sl (aB v4.1))),(.own 5 (bG v4.2.1)),(.own 6 (bI v4.2.2.1)),(.vec 7 0 v4.2.2.2.1 v4.2.2.2.1 22),(.d (.sl (aB v4.2.2.2.2.1)))], .gone, .front 57 3 v4.2.1.length, .front 60 7 v4.2.2.1.length, .vec 54 22 (aO (v9.map cF)), .cells [(.d (.sl (aB v4.1))),(.own 5 (bG v4.2.1)),(.own 6 (bI v4.2.2.1)),(.vec 7 0 v4.2.2.2.1 v4.2.2.2.1 22),(.d (.sl (aB v4.2.2.2.2.1)))], .cells (cy v6).cells] (by kernel_rfl) ?_;rcases fQ v12 with bo|bo
  ·replace J:=(dA bo).symm.trans J;refine fv (t:=(!v12)) (by kernel_rfl) (cG bo) ?_;refine et ?_;refine cv ?_;refine aR ?_;refine aR ?_;have cC:=fw J;replace J:=(dA cC).symm.trans J;refine FW [4,7] 7 (v9.map cF) (b8 v9) (L:=v4.2.2.2.1) [.cells (aS v1).cells, .cells dv, .gone, .cells [(.d (.sl (aB v4.1))),(.own 5 (bG v4.2.1)),(.own 6 (bI v4.2.2.1)),(.d (.sl (b8 v9))),(.d (.sl (aB v4.2.2.2.2.1)))], .gone, .front 57 3 v4.2.1.length, .front 60 7 v4.2.2.1.length, .vec 54 22 (aO (v9.map cF)), .cells [(.d (.sl (aB v4.1))),(.own 5 (bG v4.2.1)),(.own 6 (bI v4.2.2.1)),(.d (.sl (b8 v9))),(.d (.sl (aB v4.2.2.2.2.1)))], .cells (cy v6).cells] 0 rfl (oY (fun _=>rfl) _) (qi (ah3 cC)) (lq _) (by kernel_rfl) (.cells 0 rfl (by kernel_rfl) (.cells 0 rfl (by kernel_rfl) (.gone (.cells 1 (by kernel_rfl) (by kernel_rfl) (.gone (.front (.front (.gY (.cells 1 (by kernel_rfl) (by kernel_rfl) (.cells 0 rfl (by kernel_rfl) .nil)))))))))) ?_;refine lP (s':=⟨83,[(4,(.ptr 1 0)),(7,(.ptr 8 0))],[.cells (aS v1).cells, .cells dv, .gone, .cells [(.d (.sl (aB v4.1))),(.own 5 (bG v4.2.1)),(.own 6 (bI v4.2.2.1)),(.d (.sl (b8 v9))),(.d (.sl (aB v4.2.2.2.2.1)))], .gone, .front 57 3 v4.2.1.length, .front 60 7 v4.2.2.1.length, .gone, .cells [(.d (.sl (aB v4.1))),(.own 5 (bG v4.2.1)),(.own 6 (bI v4.2.2.1)),(.d (.sl (b8 v9))),(.d (.sl (aB v4.2.2.2.2.1)))], .cells (cy v6).cells]⟩) (by kernel_rfl) ?_
   obtain⟨aE,bW,J⟩:=ar J;refine rg [(4,cL (Ii N (⟨v4.1,v4.2.1,v4.2.2.1,v9,v4.2.2.2.2.1⟩:aQ) aE bW))] [(14,(ak aE.2))] [.cells (aS v1).cells, .cells dv, .gone, .cells [(.d (.sl (aB v4.1))),(.own 5 (bG v4.2.1)),(.own 6 (bI v4.2.2.1)),(.d (.sl (b8 v9))),(.d (.sl (aB v4.2.2.2.2.1)))], .gone, .front 57 3 v4.2.1.length, .front 60 7 v4.2.2.1.length, .gone, .cells [(.d (.sl (aB v4.1))),(.own 5 (bG v4.2.1)),(.own 6 (bI v4.2.2.1)),(.d (.sl (b8 v9))),(.d (.sl (aB v4.2.2.2.2.1)))], .cells (cy v6).cells] (by kernel_rfl) ?_;refine aR ?_;refine rg [] [(78,(aJ (aE.2 !=(0:Int))))] [.cells (aS v1).cells, .cells dv, .gone, .cells [(.d (.sl (aB v4.1))),(.own 5 (bG v4.2.1)),(.own 6 (bI v4.2.2.1)),(.d (.sl (b8 v9))),(.d (.sl (aB v4.2.2.2.2.1)))], .gone, .front 57 3 v4.2.1.length, .front 60 7 v4.2.2.1.length, .gone, .cells [(.d (.sl (aB v4.1))),(.own 5 (bG v4.2.1)),(.own 6 (bI v4.2.2.1)),(.d (.sl (b8 v9))),(.d (.sl (aB v4.2.2.2.2.1)))], .cells (cy v6).cells] (by kernel_rfl) ?_;rcases fQ (aE.2 !=(0:Int))with dh|dh
   ·replace J:=(dA dh).symm.trans J;refine fB (t:=(aE.2 !=(0:Int))) (by kernel_rfl) dh ?_;refine aR ?_;refine rg [] [(5,(ak aE.2))] [.cells (aS v1).cells, .cells dv, .gone, .cells [(.d (.sl (aB v4.1))),(.own 5 (bG v4.2.1)),(.own 6 (bI v4.2.2.1)),(.d (.sl (b8 v9))),(.d (.sl (aB v4.2.2.2.2.1)))], .gone, .front 57 3 v4.2.1.length, .front 60 7 v4.2.2.1.length, .gone, .cells [(.d (.sl (aB v4.1))),(.own 5 (bG v4.2.1)),(.own 6 (bI v4.2.2.1)),(.d (.sl (b8 v9))),(.d (.sl (aB v4.2.2.2.2.1)))], .cells (cy v6).cells] (by kernel_rfl) ?_;refine dN (ej ?_);have hr:=ah8 J;subst hr;exact gn (by kernel_rfl)
   replace J:=(fS dh).symm.trans J;refine fv (t:=(aE.2 !=(0:Int))) (by kernel_rfl) dh ?_;refine et ?_;refine cv ?_;refine aR ?_;obtain⟨aC,dH,J⟩:=ar J;refine rg [(4,⟨_,_, .me gZ (ud (zu (ud (tn (tn (kH (xs:=(aC.2.2.2.2.2.map cF)) gZ)))))) (cQ:=[(aS (⟨v4.1,v4.2.1,v4.2.2.1,v9,v4.2.2.2.2.1⟩:aQ))]) (h:=[.cells (aS v1).cells, .cells dv, .gone, .cells [(.d (.sl (aB v4.1))),(.own 5 (bG v4.2.1)),(.own 6 (bI v4.2.2.1)),(.d (.sl (b8 v9))),(.d (.sl (aB v4.2.2.2.2.1)))], .gone, .front 57 3 v4.2.1.length, .front 60 7 v4.2.2.1.length, .gone, .cells [(.d (.sl (aB v4.1))),(.own 5 (bG v4.2.1)),(.own 6 (bI v4.2.2.1)),(.d (.sl (b8 v9))),(.d (.sl (aB v4.2.2.2.2.1)))], .cells (cy v6).cells]) (l:=[]) (by kernel_rfl) (by kernel_rfl) (by kernel_rfl) (by kernel_rfl) (FI N (⟨v4.1,v4.2.1,v4.2.2.1,v9,v4.2.2.2.2.1⟩:aQ) aC dH)⟩)] [(5,(ak (0:Int)))] [.cells (aS v1).cells, .cells [(.d (.sl (aB aC.1))),(.own 13 (bG aC.2.1)),(.own 14 (bI aC.2.2.1)),(.vec 15 0 aC.2.2.2.1 aC.2.2.2.1 22),(.d (.sl (aB aC.2.2.2.2.1)))], .gone, .cells [(.d (.sl (aB v4.1))),(.own 5 (bG v4.2.1)),(.own 6 (bI v4.2.2.1)),(.d (.sl (b8 v9))),(.d (.sl (aB v4.2.2.2.2.1)))], .gone, .front 57 3 v4.2.1.length, .front 60 7 v4.2.2.1.length, .gone, .cells [(.d (.sl (aB v4.1))),(.own 5 (bG v4.2.1)),(.own 6 (bI v4.2.2.1)),(.d (.sl (b8 v9))),(.d (.sl (aB v4.2.2.2.2.1)))], .cells (cy v6).cells, .gone, .cells [(.d (.sl (aB aC.1))),(.own 13 (bG aC.2.1)),(.own 14 (bI aC.2.2.1)),(.vec 15 0 aC.2.2.2.1 aC.2.2.2.1 22),(.d (.sl (aB aC.2.2.2.2.1)))], .gone, .front 57 3 aC.2.1.length, .front 60 7 aC.2.2.1.length, .vec 54 22 (aO (aC.2.2.2.2.2.map cF))] (by kernel_rfl) ?_
   have eJ:=fw J;replace J:=(dA eJ).symm.trans J;refine FW [4,5] 15 (aC.2.2.2.2.2.map cF) (b8 aC.2.2.2.2.2) (L:=aC.2.2.2.1) [.cells (aS v1).cells, .cells [(.d (.sl (aB aC.1))),(.own 13 (bG aC.2.1)),(.own 14 (bI aC.2.2.1)),(.d (.sl (b8 aC.2.2.2.2.2))),(.d (.sl (aB aC.2.2.2.2.1)))], .gone, .cells [(.d (.sl (aB v4.1))),(.own 5 (bG v4.2.1)),(.own 6 (bI v4.2.2.1)),(.d (.sl (b8 v9))),(.d (.sl (aB v4.2.2.2.2.1)))], .gone, .front 57 3 v4.2.1.length, .front 60 7 v4.2.2.1.length, .gone, .cells [(.d (.sl (aB v4.1))),(.own 5 (bG v4.2.1)),(.own 6 (bI v4.2.2.1)),(.d (.sl (b8 v9))),(.d (.sl (aB v4.2.2.2.2.1)))], .cells (cy v6).cells, .gone, .cells [(.d (.sl (aB aC.1))),(.own 13 (bG aC.2.1)),(.own 14 (bI aC.2.2.1)),(.d (.sl (b8 aC.2.2.2.2.2))),(.d (.sl (aB aC.2.2.2.2.1)))], .gone, .front 57 3 aC.2.1.length, .front 60 7 aC.2.2.1.length, .vec 54 22 (aO (aC.2.2.2.2.2.map cF))] 0 rfl (oY (fun _=>rfl) _) (qi (ah3 eJ)) (lq _) (by kernel_rfl) (.cells 0 rfl (by kernel_rfl) (.cells 1 (by kernel_rfl) (by kernel_rfl) (.gone (.cells 0 rfl (by kernel_rfl) (.gone (.front (.front (.gone (.cells 0 rfl (by kernel_rfl) (.cells 0 rfl (by kernel_rfl) (.gone (.cells 1 (by kernel_rfl) (by kernel_rfl) (.gone (.front (.front (.gY .nil)))))))))))))))) ?_;refine lP (s':=⟨83,[(4,(.ptr 1 0)),(5,(ak (0:Int)))],[.cells (aS v1).cells, .cells [(.d (.sl (aB aC.1))),(.own 13 (bG aC.2.1)),(.own 14 (bI aC.2.2.1)),(.d (.sl (b8 aC.2.2.2.2.2))),(.d (.sl (aB aC.2.2.2.2.1)))], .gone, .cells [(.d (.sl (aB v4.1))),(.own 5 (bG v4.2.1)),(.own 6 (bI v4.2.2.1)),(.d (.sl (b8 v9))),(.d (.sl (aB v4.2.2.2.2.1)))], .gone, .front 57 3 v4.2.1.length, .front 60 7 v4.2.2.1.length, .gone, .cells [(.d (.sl (aB v4.1))),(.own 5 (bG v4.2.1)),(.own 6 (bI v4.2.2.1)),(.d (.sl (b8 v9))),(.d (.sl (aB v4.2.2.2.2.1)))], .cells (cy v6).cells, .gone, .cells [(.d (.sl (aB aC.1))),(.own 13 (bG aC.2.1)),(.own 14 (bI aC.2.2.1)),(.d (.sl (b8 aC.2.2.2.2.2))),(.d (.sl (aB aC.2.2.2.2.1)))], .gone, .front 57 3 aC.2.1.length, .front 60 7 aC.2.2.1.length, .gone]⟩) (by kernel_rfl) ?_
   refine dN ?_;have hr:=ah8 J;subst hr;exact gn (by kernel_rfl)
  replace J:=(fS bo).symm.trans J;refine fB (t:=(!v12)) (by kernel_rfl) (cU bo) ?_;obtain⟨aP,fk,J⟩:=ar J;refine rg [(16,⟨_,_, .me (kH (xs:=(v9.map cF)) gZ) (Yg (xs:=(aP.map cF)) gZ) (cQ:=[(.vec 7 0 v4.2.2.2.1 v4.2.2.2.1 22),(ak v5),(ak (aV (v5+(1:Int))))]) (h:=[.cells (aS v1).cells, .cells dv, .gone, .cells [(.d (.sl (aB v4.1))),(.own 5 (bG v4.2.1)),(.own 6 (bI v4.2.2.1)),(.vec 7 0 v4.2.2.2.1 v4.2.2.2.1 22),(.d (.sl (aB v4.2.2.2.2.1)))], .gone, .front 57 3 v4.2.1.length, .front 60 7 v4.2.2.1.length, .vec 54 22 (aO (v9.map cF)), .cells [(.d (.sl (aB v4.1))),(.own 5 (bG v4.2.1)),(.own 6 (bI v4.2.2.1)),(.vec 7 0 v4.2.2.2.1 v4.2.2.2.1 22),(.d (.sl (aB v4.2.2.2.2.1)))], .cells (cy v6).cells]) (l:=[7]) (by kernel_rfl) (by kernel_rfl) (by kernel_rfl) (by kernel_rfl) (Wk N v9 v5 v4.2.2.2.1 aP fk)⟩)] [] [.cells (aS v1).cells, .cells dv, .gone, .cells [(.d (.sl (aB v4.1))),(.own 5 (bG v4.2.1)),(.own 6 (bI v4.2.2.1)),(.vec 7 0 v4.2.2.2.1 v4.2.2.2.1 22),(.d (.sl (aB v4.2.2.2.2.1)))], .gone, .front 57 3 v4.2.1.length, .front 60 7 v4.2.2.1.length, .vec 54 22 (aO (aP.map cF)++[List.replicate 22 .dead]), .cells [(.d (.sl (aB v4.1))),(.own 5 (bG v4.2.1)),(.own 6 (bI v4.2.2.1)),(.vec 7 0 (v4.2.2.2.1-1) v4.2.2.2.1 22),(.d (.sl (aB v4.2.2.2.2.1)))], .cells (cy v6).cells] (by kernel_rfl) ?_
  refine aR ?_;refine aR ?_;have fg:=fw J;replace J:=(dA fg).symm.trans J;have eN:=fw J;replace J:=(dA eN).symm.trans J;refine Ya [4,7] 7 (aP.map cF) (b8 aP) (ln:=(v4.2.2.2.1-1)) (L:=v4.2.2.2.1) [.cells (aS v1).cells, .cells dv, .gone, .gone, .gone, .front 57 3 v4.2.1.length, .front 60 7 v4.2.2.1.length, .gone, .cells [(.d (.sl (aB v4.1))),(.own 5 (bG v4.2.1)),(.own 6 (bI v4.2.2.1)),(.d (.sl (b8 aP))),(.d (.sl (aB v4.2.2.2.2.1)))], .cells (cy v6).cells] 0 rfl (aav (ah3 fg)) aev (oY (fun _=>rfl) _) (qi (ah3 eN)) (lq _) rfl (by kernel_rfl) (.cells 0 rfl (by kernel_rfl) (.cells 0 rfl (by kernel_rfl) (.gone (.drop (.gone (.front (.front (.drop (.cells 1 (by kernel_rfl) (by kernel_rfl) (.cells 0 rfl (by kernel_rfl) .nil)))))))))) ?_;refine lP (s':=⟨83,[(4,(.ptr 1 0)),(7,(.ptr 8 0))],[.cells (aS v1).cells, .cells dv, .gone, .gone, .gone, .front 57 3 v4.2.1.length, .front 60 7 v4.2.2.1.length, .gone, .cells [(.d (.sl (aB v4.1))),(.own 5 (bG v4.2.1)),(.own 6 (bI v4.2.2.1)),(.d (.sl (b8 aP))),(.d (.sl (aB v4.2.2.2.2.1)))], .cells (cy v6).cells]⟩) (by kernel_rfl) ?_;obtain⟨aW,fu,J⟩:=ar J;refine rg [(4,cL (Ii N (⟨v4.1,v4.2.1,v4.2.2.1,aP,v4.2.2.2.2.1⟩:aQ) aW fu))] [(14,(ak aW.2))] [.cells (aS v1).cells, .cells dv, .gone, .gone, .gone, .front 57 3 v4.2.1.length, .front 60 7 v4.2.2.1.length, .gone, .cells [(.d (.sl (aB v4.1))),(.own 5 (bG v4.2.1)),(.own 6 (bI v4.2.2.1)),(.d (.sl (b8 aP))),(.d (.sl (aB v4.2.2.2.2.1)))], .cells (cy v6).cells] (by kernel_rfl) ?_
  refine aR ?_;refine rg [] [(78,(aJ (aW.2 !=(0:Int))))] [.cells (aS v1).cells, .cells dv, .gone, .gone, .gone, .front 57 3 v4.2.1.length, .front 60 7 v4.2.2.1.length, .gone, .cells [(.d (.sl (aB v4.1))),(.own 5 (bG v4.2.1)),(.own 6 (bI v4.2.2.1)),(.d (.sl (b8 aP))),(.d (.sl (aB v4.2.2.2.2.1)))], .cells (cy v6).cells] (by kernel_rfl) ?_;rcases fQ (aW.2 !=(0:Int))with hX|hX
  ·replace J:=(dA hX).symm.trans J;refine fB (t:=(aW.2 !=(0:Int))) (by kernel_rfl) hX ?_;refine aR ?_;refine rg [] [(5,(ak aW.2))] [.cells (aS v1).cells, .cells dv, .gone, .gone, .gone, .front 57 3 v4.2.1.length, .front 60 7 v4.2.2.1.length, .gone, .cells [(.d (.sl (aB v4.1))),(.own 5 (bG v4.2.1)),(.own 6 (bI v4.2.2.1)),(.d (.sl (b8 aP))),(.d (.sl (aB v4.2.2.2.2.1)))], .cells (cy v6).cells] (by kernel_rfl) ?_;refine dN (ej ?_);have hr:=ah8 J;subst hr;exact gn (by kernel_rfl)
  replace J:=(fS hX).symm.trans J;refine fv (t:=(aW.2 !=(0:Int))) (by kernel_rfl) hX ?_;refine et ?_;refine cv ?_;refine aR ?_;obtain⟨aH,iW,J⟩:=ar J;refine rg [(4,⟨_,_, .me gZ (ud (zu (ud (tn (tn (kH (xs:=(aH.2.2.2.2.2.map cF)) gZ)))))) (cQ:=[(aS (⟨v4.1,v4.2.1,v4.2.2.1,aP,v4.2.2.2.2.1⟩:aQ))]) (h:=[.cells (aS v1).cells, .cells dv, .gone, .gone, .gone, .front 57 3 v4.2.1.length, .front 60 7 v4.2.2.1.length, .gone, .cells [(.d (.sl (aB v4.1))),(.own 5 (bG v4.2.1)),(.own 6 (bI v4.2.2.1)),(.d (.sl (b8 aP))),(.d (.sl (aB v4.2.2.2.2.1)))], .cells (cy v6).cells]) (l:=[]) (by kernel_rfl) (by kernel_rfl) (by kernel_rfl) (by kernel_rfl) (FI N (⟨v4.1,v4.2.1,v4.2.2.1,aP,v4.2.2.2.2.1⟩:aQ) aH iW)⟩)] [(5,(ak (0:Int)))] [.cells (aS v1).cells, .cells [(.d (.sl (aB aH.1))),(.own 13 (bG aH.2.1)),(.own 14 (bI aH.2.2.1)),(.vec 15 0 aH.2.2.2.1 aH.2.2.2.1 22),(.d (.sl (aB aH.2.2.2.2.1)))], .gone, .gone, .gone, .front 57 3 v4.2.1.length, .front 60 7 v4.2.2.1.length, .gone, .cells [(.d (.sl (aB v4.1))),(.own 5 (bG v4.2.1)),(.own 6 (bI v4.2.2.1)),(.d (.sl (b8 aP))),(.d (.sl (aB v4.2.2.2.2.1)))], .cells (cy v6).cells, .gone, .cells [(.d (.sl (aB aH.1))),(.own 13 (bG aH.2.1)),(.own 14 (bI aH.2.2.1)),(.vec 15 0 aH.2.2.2.1 aH.2.2.2.1 22),(.d (.sl (aB aH.2.2.2.2.1)))], .gone, .front 57 3 aH.2.1.length, .front 60 7 aH.2.2.1.length, .vec 54 22 (aO (aH.2.2.2.2.2.map cF))] (by kernel_rfl) ?_
  have lI:=fw J;replace J:=(dA lI).symm.trans J;refine FW [4,5] 15 (aH.2.2.2.2.2.map cF) (b8 aH.2.2.2.2.2) (L:=aH.2.2.2.1) [.cells (aS v1).cells, .cells [(.d (.sl (aB aH.1))),(.own 13 (bG aH.2.1)),(.own 14 (bI aH.2.2.1)),(.d (.sl (b8 aH.2.2.2.2.2))),(.d (.sl (aB aH.2.2.2.2.1)))], .gone, .gone, .gone, .front 57 3 v4.2.1.length, .front 60 7 v4.2.2.1.length, .gone, .cells [(.d (.sl (aB v4.1))),(.own 5 (bG v4.2.1)),(.own 6 (bI v4.2.2.1)),(.d (.sl (b8 aP))),(.d (.sl (aB v4.2.2.2.2.1)))], .cells (cy v6).cells, .gone, .cells [(.d (.sl (aB aH.1))),(.own 13 (bG aH.2.1)),(.own 14 (bI aH.2.2.1)),(.d (.sl (b8 aH.2.2.2.2.2))),(.d (.sl (aB aH.2.2.2.2.1)))], .gone, .front 57 3 aH.2.1.length, .front 60 7 aH.2.2.1.length, .vec 54 22 (aO (aH.2.2.2.2.2.map cF))] 0 rfl (oY (fun _=>rfl) _) (qi (ah3 lI)) (lq _) (by kernel_rfl) (.cells 0 rfl (by kernel_rfl) (.cells 1 (by kernel_rfl) (by kernel_rfl) (.gone (.gone (.gone (.front (.front (.gone (.cells 0 rfl (by kernel_rfl) (.cells 0 rfl (by kernel_rfl) (.gone (.cells 1 (by kernel_rfl) (by kernel_rfl) (.gone (.front (.front (.gY .nil)))))))))))))))) ?_;refine lP (s':=⟨83,[(4,(.ptr 1 0)),(5,(ak (0:Int)))],[.cells (aS v1).cells, .cells [(.d (.sl (aB aH.1))),(.own 13 (bG aH.2.1)),(.own 14 (bI aH.2.2.1)),(.d (.sl (b8 aH.2.2.2.2.2))),(.d (.sl (aB aH.2.2.2.2.1)))], .gone, .gone, .gone, .front 57 3 v4.2.1.length, .front 60 7 v4.2.2.1.length, .gone, .cells [(.d (.sl (aB v4.1))),(.own 5 (bG v4.2.1)),(.own 6 (bI v4.2.2.1)),(.d (.sl (b8 aP))),(.d (.sl (aB v4.2.2.2.2.1)))], .cells (cy v6).cells, .gone, .cells [(.d (.sl (aB aH.1))),(.own 13 (bG aH.2.1)),(.own 14 (bI aH.2.2.1)),(.d (.sl (b8 aH.2.2.2.2.2))),(.d (.sl (aB aH.2.2.2.2.1)))], .gone, .front 57 3 aH.2.1.length, .front 60 7 aH.2.2.1.length, .gone]⟩) (by kernel_rfl) ?_
  refine dN ?_;have hr:=ah8 J;subst hr;exact gn (by kernel_rfl)
def tI(N:Nat):aiE az→Nat→Int→aiG Int
 |[],_,v7=>
  some (aV ((1:Int)+v7))
 |v5::v6,v3,v7=>
  bif (bL v5.bn==bL (bs []))then
   (fun fI=>tI N v6 (v3+1) fI) v7
  else
   (fun fI=>tI N v6 (v3+1) fI) (aV (v7+(1:Int)))
def wW(N:Nat)(FL:aq→aiG Int):aiE aq→Nat→Int→aiG Int
 |[],_,v12=>
  some (aV ((1:Int)+v12))
 |v10::v11,v8,v12=>
  Option.bind (FL v10) fun aE=>
  (fun lC=>wW N FL v11 (v8+1) lC) (aV (v12+aE))
def DR(N:Nat)(v1:aq)(FL:aq→aiG Int)(v2:Bool):aiG Int:=
 bif v2 then
  some (0:Int)
 else
  bif (v1.aX==(3:Int))then
   tI N v1.xIdx 0 (0:Int)
  else
   wW N FL v1.aM 0 (0:Int)
def oa(N:Nat):Nat→aq→aiG Int
 |0,_=>none
 |d+1,v1=>
  bif (v1.aX==(1:Int))then
   DR N v1 (oa N d) (v1.aX==(1:Int))
  else
   DR N v1 (oa N d) (v1.aX==(2:Int))
def Mf(N:Nat)(v1:aq):aiG Int:=oa N N v1
theorem YH(N:Nat):∀d:Nat,(∀(v1:aq)(r:Int),oa N d v1=some r→bg Tryz.prog 42 [(aF v1)] (·=(ak r))):=by
 intro d
 induction d with
 |zero=>intro v1 r J;rw[oa]at J;cases J
 |succ d ih=>
  have ahx:=ih;intro v1 r J;rw[oa]at J;refine bD Tryz.func42 (by kernel_rfl) (by kernel_rfl) ?_;refine l0 af 1 [[],[],[],[]] [1,3,9,10] 1 (fun(v2:Bool)=>⟨44,[(1,(.ptr 0 0)),(3,(ak (0:Int))),(9,(ak v1.aX)),(10,(aJ v2))],[.cells (aF v1).cells]⟩) (fun(v2:Bool)=>DR N v1 (oa N d) v2=some r) ?_ ?_
  ·intro f1 aN;refine bc J (fun a7 J=> ?_) fun a7 J=> ?_
   ·exact dR af aN (v1.aX==(1:Int)) [[(0,bT a7)]] J
   exact dR af aN (v1.aX==(2:Int)) [[(0,bF a7)],[]] J
  rintro v2 J
  try dsimp only at J
  rw[DR]at J;refine bc J (fun h1 J=> ?_) fun h1 J=> ?_
  ·cases J;exact wr af [[(0,bT h1)],[]]
  refine au af [[(0,bF h1)],[]] ?_;refine bc J (fun h2 J=> ?_) fun h2 J=> ?_
  ·refine au af [[(0,bT h2)],[(7,oL v1.xIdx cn)]] ?_;refine dq 16 (bJ v1.xIdx) (by kernel_rfl) fun h3=> ?_;have h4:=cd cn h3;refine cx af 2 [] [3,16,17,18] 1 (fun((v3,v4,v7):Nat×(aiE az)×Int)=>⟨44,[(3,(ak v7)),(16,(.d (.sl (bJ v1.xIdx)))),(17,(ak (v1.xIdx.length:Int))),(18,(ak (v3:Int)))],[.cells (aF v1).cells]⟩) (fun((v3,v4,v7):Nat×(aiE az)×Int)=>v1.xIdx.drop v3=v4∧tI N v4 v3 v7=some r) (fun((v3,v4,v7):Nat×(aiE az)×Int)=>v4.length) (0,v1.xIdx,(0:Int)) ⟨rfl,J⟩ ?_;rintro⟨v3,v4,v7⟩ ⟨h5,J⟩ f2 dU;cases v4 with
   |nil=>
    rw[tI]at J;cases J;exact wr af [[],[(0,bF (bO h5))],[]]
   |cons v5 v6=>
    rw[tI]at J;refine au af [[],[(0,bT (bN h5))],[(1,oE (eH (aU h5)))],[]] ?_;refine bc J (fun h6 J=> ?_) fun h6 J=> ?_
    ·exact ct af dU (v3+1,v6,v7) [[(0,bF (cG h6))],[(2,oq (bV h5 rfl h4))]] ⟨bR h5,J⟩
    exact ct af dU (v3+1,v6,(aV (v7+(1:Int)))) [[(0,bT (cU h6))],[],[(2,oq (bV h5 rfl h4))]] ⟨bR h5,J⟩
  refine au af [[(0,bF h2)],[(7,oL v1.aM b7)]] ?_;refine dq 31 (cT v1.aM) (by kernel_rfl) fun h7=> ?_;have h8:=cd b7 h7;refine cx af 3 [] [3,31,32,33] 1 (fun((v8,v9,v12):Nat×(aiE aq)×Int)=>⟨44,[(3,(ak v12)),(31,(.d (.sl (cT v1.aM)))),(32,(ak (v1.aM.length:Int))),(33,(ak (v8:Int)))],[.cells (aF v1).cells]⟩) (fun((v8,v9,v12):Nat×(aiE aq)×Int)=>v1.aM.drop v8=v9∧wW N (oa N d) v9 v8 v12=some r) (fun((v8,v9,v12):Nat×(aiE aq)×Int)=>v9.length) (0,v1.aM,(0:Int)) ⟨rfl,J⟩ ?_;rintro⟨v8,v9,v12⟩ ⟨h9,J⟩ f3 jB;cases v9 with
  |nil=>
   rw[wW]at J;cases J;exact wr af [[],[(0,bF (bO h9))],[]]
  |cons v10 v11=>
   rw[wW]at J;obtain⟨aE,aA,J⟩:=ar J;exact ct af jB (v8+1,v11,(aV (v12+aE))) [[],[(0,bT (bN h9))],[(1,oE (ik (aU h9)))],[(7,cL (ahx v10 aE aA))],[(2,oq (bV h9 rfl h8))]] ⟨bR h9,J⟩
theorem X8(N:Nat)(v1:aq)(r:Int)(J:Mf N v1=some r):bg Tryz.prog 42 [(aF v1)] (·=(ak r)):=(YH N N) v1 r J
def wa(N:Nat)(v2:aiE aiF):aiE aiF→Nat→aiG Bool
 |[],_=>
  some true
 |v5::v6,v3=>
  Option.bind (v2[((v3:Int)).toNat]?) fun v7=>
  bif (bL v5==bL v7)then
   (wa N v2 v6 (v3+1))
  else
   some false
def zM(N:Nat)(v1:aiE aiF)(v2:aiE aiF):aiG Bool:=
 bif ((v1.length:Int) !=(v2.length:Int))then
  some false
 else
  wa N v2 v1 0
theorem pV(N:Nat)(v1:aiE aiF)(v2:aiE aiF)(r:Bool)(J:zM N v1 v2=some r):bg Tryz.prog 75 [(.d (.sl (aB v1))),(.d (.sl (aB v2)))] (·=(aJ r)):=by
 rw[zM]at J;refine bD Tryz.func75 (by kernel_rfl) (by kernel_rfl) ?_;refine au af [[],[(4,oL v1 bC),(10,oL v2 bC)]] ?_;refine bc J (fun h1 J=> ?_) fun h1 J=> ?_
 ·cases J;exact wr af [[(0,bT h1)],[]]
 refine au af [[(0,bF h1)],[(4,oL v1 bC)]] ?_;refine dq 0 (aB v1) (by kernel_rfl) fun h2=> ?_;have h3:=cd bC h2;refine cx af 1 [] [0,1,12,13] 0 (fun((v3,v4):Nat×(aiE aiF))=>⟨26,[(0,(.d (.sl (aB v1)))),(1,(.d (.sl (aB v2)))),(12,(ak (v1.length:Int))),(13,(ak (v3:Int)))],[]⟩) (fun((v3,v4):Nat×(aiE aiF))=>v1.drop v3=v4∧wa N v2 v4 v3=some r) (fun((v3,v4):Nat×(aiE aiF))=>v4.length) (0,v1) ⟨rfl,J⟩ ?_;rintro⟨v3,v4⟩ ⟨h4,J⟩ f1 aN;cases v4 with
 |nil=>
  rw[wa]at J;cases J;exact wr af [[],[(0,bF (bO h4))],[]]
 |cons v5 v6=>
  rw[wa]at J;obtain⟨v7,h5,J⟩:=ar J;refine au af [[],[(0,bT (bN h4))],[],[(7,oE (kK (aU h4))),(19,oE (kK h5))]] ?_;refine bc J (fun h7 J=> ?_) fun h7 J=> ?_
  ·exact ct af aN (v3+1,v6) [[(0,bF (cG h7))],[(2,oq (bV h4 rfl h3))]] ⟨bR h4,J⟩
  cases J;exact wr af [[(0,bT (cU h7))],[]]
def x7(N:Nat)(v2:aiE aD):aiE aD→Nat→aiG Bool
 |[],_=>
  some true
 |v5::v6,v3=>
  Option.bind (v2[((v3:Int)).toNat]?) fun v7=>
  bif ((bL v5.ao==bL v7.ao)&&((v5.dd.toInt==v7.dd.toInt)&&true))then
   (x7 N v2 v6 (v3+1))
  else
   some false
def C6(N:Nat)(v1:aiE aD)(v2:aiE aD):aiG Bool:=
 bif ((v1.length:Int) !=(v2.length:Int))then
  some false
 else
  x7 N v2 v1 0
theorem Z0(N:Nat)(v1:aiE aD)(v2:aiE aD)(r:Bool)(J:C6 N v1 v2=some r):bg Tryz.prog 145 [(.d (.sl (bP v1))),(.d (.sl (bP v2)))] (·=(aJ r)):=by
 rw[C6]at J;refine bD Tryz.func145 (by kernel_rfl) (by kernel_rfl) ?_;refine au af [[],[(4,oL v1 bZ),(10,oL v2 bZ)]] ?_;refine bc J (fun h1 J=> ?_) fun h1 J=> ?_
 ·cases J;exact wr af [[(0,bT h1)],[]]
 refine au af [[(0,bF h1)],[(4,oL v1 bZ)]] ?_;refine dq 0 (bP v1) (by kernel_rfl) fun h2=> ?_;have h3:=cd bZ h2;refine cx af 1 [] [0,1,12,13] 0 (fun((v3,v4):Nat×(aiE aD))=>⟨26,[(0,(.d (.sl (bP v1)))),(1,(.d (.sl (bP v2)))),(12,(ak (v1.length:Int))),(13,(ak (v3:Int)))],[]⟩) (fun((v3,v4):Nat×(aiE aD))=>v1.drop v3=v4∧x7 N v2 v4 v3=some r) (fun((v3,v4):Nat×(aiE aD))=>v4.length) (0,v1) ⟨rfl,J⟩ ?_;rintro⟨v3,v4⟩ ⟨h4,J⟩ f1 aN;cases v4 with
 |nil=>
  rw[x7]at J;cases J;exact wr af [[],[(0,bF (bO h4))],[]]
 |cons v5 v6=>
  rw[x7]at J;obtain⟨v7,h5,J⟩:=ar J;refine au af [[],[(0,bT (bN h4))],[],[(7,oE (eY (aU h4))),(19,oE (eY h5))]] ?_;refine bc J (fun h7 J=> ?_) fun h7 J=> ?_
  ·exact ct af aN (v3+1,v6) [[(0,bF (cG h7))],[(2,oq (bV h4 rfl h3))]] ⟨bR h4,J⟩
  cases J;exact wr af [[(0,bT (cU h7))],[]]
def xV(N:Nat)(v1:ax)(v2:ax):aiG Bool:=
 Option.bind (bif (v1.xK.toInt==v2.xK.toInt)then Option.bind (C6 N v1.xL v2.xL) fun v3=>
 some v3 else some false) fun v4=>
 some v4
theorem JB(N:Nat)(v1:ax)(v2:ax)(r:Bool)(J:xV N v1 v2=some r):bg Tryz.prog 113 [(b9 v1),(b9 v2)] (·=(aJ r)):=by
 rw[xV]at J;refine bD Tryz.func113 (by kernel_rfl) (by kernel_rfl) ?_;refine au af [[]] ?_;obtain⟨v4,h3,J⟩:=ar J;refine cM af [(4,(aJ v4))] [.cells (b9 v1).cells, .cells (b9 v2).cells] ?_ ?_
 ·refine bc h3 (fun h1 h3=> ?_) fun h1 h3=> ?_
  ·obtain⟨v3,h2,h3⟩:=ar h3;obtain rfl:=sj h3;exact⟨so (os [18,21,24,27,30,34] (bT h1) [(31,cL (Z0 N v1.xL v2.xL v3 h2))]),by kernel_rfl⟩
  cases h3;exact⟨so (os [18,21,24,27,30,34] (bF h1) []),by kernel_rfl⟩
 cases J;exact wr af []
def DK(N:Nat)(v1:cf)(v2:cf):aiG Bool:=
 Option.bind (bif (v1.fM==v2.fM)then Option.bind (xV N v1.aK v2.aK) fun v3=>
 some v3 else some false) fun v4=>
 some v4
theorem WN(N:Nat)(v1:cf)(v2:cf)(r:Bool)(J:DK N v1 v2=some r):bg Tryz.prog 77 [(kE v1),(kE v2)] (·=(aJ r)):=by
 rw[DK]at J;refine bD Tryz.func77 (by kernel_rfl) (by kernel_rfl) ?_;refine au af [[]] ?_;obtain⟨v4,h3,J⟩:=ar J;refine cM af [(4,(aJ v4))] [.cells (kE v1).cells, .cells (kE v2).cells] ?_ ?_
 ·refine bc h3 (fun h1 h3=> ?_) fun h1 h3=> ?_
  ·obtain⟨v3,h2,h3⟩:=ar h3;obtain rfl:=sj h3;exact⟨so (os [18,21,24,27,30,34] (bT h1) [(31,cL (JB N v1.aK v2.aK v3 h2))]),by kernel_rfl⟩
  cases h3;exact⟨so (os [18,21,24,27,30,34] (bF h1) []),by kernel_rfl⟩
 cases J;exact wr af []
def xU(N:Nat)(v2:aiE cf):aiE cf→Nat→aiG Bool
 |[],_=>
  some true
 |v5::v6,v3=>
  Option.bind (v2[((v3:Int)).toNat]?) fun v7=>
  Option.bind (DK N v5 v7) fun v8=>
  bif v8 then
   (xU N v2 v6 (v3+1))
  else
   some false
def C0(N:Nat)(v1:aiE cf)(v2:aiE cf):aiG Bool:=
 bif ((v1.length:Int) !=(v2.length:Int))then
  some false
 else
  xU N v2 v1 0
theorem KJ(N:Nat)(v1:aiE cf)(v2:aiE cf)(r:Bool)(J:C0 N v1 v2=some r):bY Tryz.prog 76 [(.d (.sl (bG v1))),(.d (.sl (bG v2))),(.fn 77 [])] [] fun r1 h1=>r1=(aJ r)∧h1=[]:=by
 rw[C0]at J;refine eu 0 Tryz.func76 (by kernel_rfl) (by kernel_rfl) (ahX rfl) ?_;refine au af [[],[(4,oL v1 eO),(10,oL v2 eO)]] ?_;refine bc J (fun h1 J=> ?_) fun h1 J=> ?_
 ·cases J;exact ca af [[(0,bT h1)],[]]
 refine au af [[(0,bF h1)],[(4,oL v1 eO)]] ?_;refine dq 0 (bG v1) (by kernel_rfl) fun h2=> ?_;have h3:=cd eO h2;refine cx af 1 [] [1,2,15,16,17] 0 (fun((v3,v4):Nat×(aiE cf))=>⟨32,[(1,(.d (.sl (bG v2)))),(2,(.fn 77 [])),(15,(.d (.sl (bG v1)))),(16,(ak (v1.length:Int))),(17,(ak (v3:Int)))],[]⟩) (fun((v3,v4):Nat×(aiE cf))=>v1.drop v3=v4∧xU N v2 v4 v3=some r) (fun((v3,v4):Nat×(aiE cf))=>v4.length) (0,v1) ⟨rfl,J⟩ ?_;rintro⟨v3,v4⟩ ⟨h4,J⟩ f1 aN;cases v4 with
 |nil=>
  rw[xU]at J;cases J;exact ca af [[],[(0,bF (bO h4))],[]]
 |cons v5 v6=>
  rw[xU]at J;obtain⟨v7,h5,J⟩:=ar J;obtain⟨v8,h7,J⟩:=ar J;refine au af [[],[(0,bT (bN h4))],[(4,oE (sX (aU h4)))],[(7,oE (sX h5))],[(10,cL (WN N v5 v7 v8 h7))]] ?_;refine bc J (fun h8 J=> ?_) fun h8 J=> ?_
  ·exact ct af aN (v3+1,v6) [[(0,bF (cG h8))],[(2,oq (bV h4 rfl h3))]] ⟨bR h4,J⟩
  cases J;exact ca af [[(0,bT (cU h8))],[]]
def wb(N:Nat)(v2:aiE ax):aiE ax→Nat→aiG Bool
 |[],_=>
  some true
 |v5::v6,v3=>
  Option.bind (v2[((v3:Int)).toNat]?) fun v7=>
  Option.bind (xV N v5 v7) fun v8=>
  bif v8 then
   (wb N v2 v6 (v3+1))
  else
   some false
def BI(N:Nat)(v1:aiE ax)(v2:aiE ax):aiG Bool:=
 bif ((v1.length:Int) !=(v2.length:Int))then
  some false
 else
  wb N v2 v1 0
theorem adK(N:Nat)(v1:aiE ax)(v2:aiE ax)(r:Bool)(J:BI N v1 v2=some r):bY Tryz.prog 114 [(.d (.sl (cz v1))),(.d (.sl (cz v2))),(.fn 113 [])] [] fun r1 h1=>r1=(aJ r)∧h1=[]:=by
 rw[BI]at J;refine eu 0 Tryz.func114 (by kernel_rfl) (by kernel_rfl) (ahX rfl) ?_;refine au af [[],[(4,oL v1 bM),(10,oL v2 bM)]] ?_;refine bc J (fun h1 J=> ?_) fun h1 J=> ?_
 ·cases J;exact ca af [[(0,bT h1)],[]]
 refine au af [[(0,bF h1)],[(4,oL v1 bM)]] ?_;refine dq 0 (cz v1) (by kernel_rfl) fun h2=> ?_;have h3:=cd bM h2;refine cx af 1 [] [1,2,15,16,17] 0 (fun((v3,v4):Nat×(aiE ax))=>⟨32,[(1,(.d (.sl (cz v2)))),(2,(.fn 113 [])),(15,(.d (.sl (cz v1)))),(16,(ak (v1.length:Int))),(17,(ak (v3:Int)))],[]⟩) (fun((v3,v4):Nat×(aiE ax))=>v1.drop v3=v4∧wb N v2 v4 v3=some r) (fun((v3,v4):Nat×(aiE ax))=>v4.length) (0,v1) ⟨rfl,J⟩ ?_;rintro⟨v3,v4⟩ ⟨h4,J⟩ f1 aN;cases v4 with
 |nil=>
  rw[wb]at J;cases J;exact ca af [[],[(0,bF (bO h4))],[]]
 |cons v5 v6=>
  rw[wb]at J;obtain⟨v7,h5,J⟩:=ar J;obtain⟨v8,h7,J⟩:=ar J;refine au af [[],[(0,bT (bN h4))],[(4,oE (hY (aU h4)))],[(7,oE (hY h5))],[(10,cL (JB N v5 v7 v8 h7))]] ?_;refine bc J (fun h8 J=> ?_) fun h8 J=> ?_
  ·exact ct af aN (v3+1,v6) [[(0,bF (cG h8))],[(2,oq (bV h4 rfl h3))]] ⟨bR h4,J⟩
  cases J;exact ca af [[(0,bT (cU h8))],[]]
def Et(N:Nat)(v1:bX)(v2:bX):aiG Bool:=
 Option.bind (bif (bL v1.ao==bL v2.ao)then(bif ((v1.aw.ck==v2.aw.ck)&&((v1.aw.cq==v2.aw.cq)&&((v1.aw.cJ==v2.aw.cJ)&&((v1.aw.cH==v2.aw.cH)&&((v1.aw.cK==v2.aw.cK)&&true)))))then Option.bind (BI N v1.aI v2.aI) fun v3=>
 some v3 else some false)else some false) fun v4=>
 some v4
theorem Zi(N:Nat)(v1:bX)(v2:bX)(r:Bool)(J:Et N v1 v2=some r):bg Tryz.prog 79 [(lf v1),(lf v2)] (·=(aJ r)):=by
 rw[Et]at J;refine bD Tryz.func79 (by kernel_rfl) (by kernel_rfl) ?_;refine au af [[]] ?_;obtain⟨v4,h4,J⟩:=ar J;refine cM af [(4,(aJ v4))] [.cells (lf v1).cells, .cells (lf v2).cells] ?_ ?_
 ·refine bc h4 (fun h1 h4=> ?_) fun h1 h4=> ?_
  ·refine bc h4 (fun h2 h4=> ?_) fun h2 h4=> ?_
   ·obtain⟨v3,h3,h4⟩:=ar h4;obtain rfl:=sj h4;exact⟨so (os [18,21,24,27,30,34] (bT h1) (os [39,42,45,48,51,55] (bT h2) [(52,⟨_,_, .rq (cQ:=[(.d (.sl (cz v1.aI))),(.d (.sl (cz v2.aI))),(.fn 113 [])]) (h:=[.cells (lf v1).cells, .cells (lf v2).cells]) (l:=[]) (by kernel_rfl) (by kernel_rfl) (by kernel_rfl) (by kernel_rfl) (adK N v1.aI v2.aI v3 h3)⟩)])),by kernel_rfl⟩
   cases h4;exact⟨so (os [18,21,24,27,30,34] (bT h1) (os [39,42,45,48,51,55] (bF h2) [])),by kernel_rfl⟩
  cases h4;exact⟨so (os [18,21,24,27,30,34] (bF h1) (os [39,42,45,48,51,55] (bF rfl) [])),by kernel_rfl⟩
 cases J;exact wr af []
def xw(N:Nat)(v2:aiE bX):aiE bX→Nat→aiG Bool
 |[],_=>
  some true
 |v5::v6,v3=>
  Option.bind (v2[((v3:Int)).toNat]?) fun v7=>
  Option.bind (Et N v5 v7) fun v8=>
  bif v8 then
   (xw N v2 v6 (v3+1))
  else
   some false
def Dx(N:Nat)(v1:aiE bX)(v2:aiE bX):aiG Bool:=
 bif ((v1.length:Int) !=(v2.length:Int))then
  some false
 else
  xw N v2 v1 0
theorem VC(N:Nat)(v1:aiE bX)(v2:aiE bX)(r:Bool)(J:Dx N v1 v2=some r):bY Tryz.prog 78 [(.d (.sl (bI v1))),(.d (.sl (bI v2))),(.fn 79 [])] [] fun r1 h1=>r1=(aJ r)∧h1=[]:=by
 rw[Dx]at J;refine eu 0 Tryz.func78 (by kernel_rfl) (by kernel_rfl) (ahX rfl) ?_;refine au af [[],[(4,oL v1 ee),(10,oL v2 ee)]] ?_;refine bc J (fun h1 J=> ?_) fun h1 J=> ?_
 ·cases J;exact ca af [[(0,bT h1)],[]]
 refine au af [[(0,bF h1)],[(4,oL v1 ee)]] ?_;refine dq 0 (bI v1) (by kernel_rfl) fun h2=> ?_;have h3:=cd ee h2;refine cx af 1 [] [1,2,15,16,17] 0 (fun((v3,v4):Nat×(aiE bX))=>⟨32,[(1,(.d (.sl (bI v2)))),(2,(.fn 79 [])),(15,(.d (.sl (bI v1)))),(16,(ak (v1.length:Int))),(17,(ak (v3:Int)))],[]⟩) (fun((v3,v4):Nat×(aiE bX))=>v1.drop v3=v4∧xw N v2 v4 v3=some r) (fun((v3,v4):Nat×(aiE bX))=>v4.length) (0,v1) ⟨rfl,J⟩ ?_;rintro⟨v3,v4⟩ ⟨h4,J⟩ f1 aN;cases v4 with
 |nil=>
  rw[xw]at J;cases J;exact ca af [[],[(0,bF (bO h4))],[]]
 |cons v5 v6=>
  rw[xw]at J;obtain⟨v7,h5,J⟩:=ar J;obtain⟨v8,h7,J⟩:=ar J;refine au af [[],[(0,bT (bN h4))],[(4,oE (jV (aU h4)))],[(7,oE (jV h5))],[(10,cL (Zi N v5 v7 v8 h7))]] ?_;refine bc J (fun h8 J=> ?_) fun h8 J=> ?_
  ·exact ct af aN (v3+1,v6) [[(0,bF (cG h8))],[(2,oq (bV h4 rfl h3))]] ⟨bR h4,J⟩
  cases J;exact ca af [[(0,bT (cU h8))],[]]
def D9(N:Nat)(v1:bj)(v2:bj):aiG Bool:=
 Option.bind (bif (bL v1.ao==bL v2.ao)then Option.bind (xV N v1.dB v2.dB) fun v3=>
 some v3 else some false) fun v4=>
 some v4
theorem aeD(N:Nat)(v1:bj)(v2:bj)(r:Bool)(J:D9 N v1 v2=some r):bg Tryz.prog 116 [(qV v1),(qV v2)] (·=(aJ r)):=by
 rw[D9]at J;refine bD Tryz.func116 (by kernel_rfl) (by kernel_rfl) ?_;refine au af [[]] ?_;obtain⟨v4,h3,J⟩:=ar J;refine cM af [(4,(aJ v4))] [.cells (qV v1).cells, .cells (qV v2).cells] ?_ ?_
 ·refine bc h3 (fun h1 h3=> ?_) fun h1 h3=> ?_
  ·obtain⟨v3,h2,h3⟩:=ar h3;obtain rfl:=sj h3;exact⟨so (os [18,21,24,27,30,34] (bT h1) [(31,cL (JB N v1.dB v2.dB v3 h2))]),by kernel_rfl⟩
  cases h3;exact⟨so (os [18,21,24,27,30,34] (bF h1) []),by kernel_rfl⟩
 cases J;exact wr af []
def vo(N:Nat)(v2:aiE bj):aiE bj→Nat→aiG Bool
 |[],_=>
  some true
 |v5::v6,v3=>
  Option.bind (v2[((v3:Int)).toNat]?) fun v7=>
  Option.bind (D9 N v5 v7) fun v8=>
  bif v8 then
   (vo N v2 v6 (v3+1))
  else
   some false
def zU(N:Nat)(v1:aiE bj)(v2:aiE bj):aiG Bool:=
 bif ((v1.length:Int) !=(v2.length:Int))then
  some false
 else
  vo N v2 v1 0
theorem BJ(N:Nat)(v1:aiE bj)(v2:aiE bj)(r:Bool)(J:zU N v1 v2=some r):bY Tryz.prog 115 [(.d (.sl (cu v1))),(.d (.sl (cu v2))),(.fn 116 [])] [] fun r1 h1=>r1=(aJ r)∧h1=[]:=by
 rw[zU]at J;refine eu 0 Tryz.func115 (by kernel_rfl) (by kernel_rfl) (ahX rfl) ?_;refine au af [[],[(4,oL v1 b5),(10,oL v2 b5)]] ?_;refine bc J (fun h1 J=> ?_) fun h1 J=> ?_
 ·cases J;exact ca af [[(0,bT h1)],[]]
 refine au af [[(0,bF h1)],[(4,oL v1 b5)]] ?_;refine dq 0 (cu v1) (by kernel_rfl) fun h2=> ?_;have h3:=cd b5 h2;refine cx af 1 [] [1,2,15,16,17] 0 (fun((v3,v4):Nat×(aiE bj))=>⟨32,[(1,(.d (.sl (cu v2)))),(2,(.fn 116 [])),(15,(.d (.sl (cu v1)))),(16,(ak (v1.length:Int))),(17,(ak (v3:Int)))],[]⟩) (fun((v3,v4):Nat×(aiE bj))=>v1.drop v3=v4∧vo N v2 v4 v3=some r) (fun((v3,v4):Nat×(aiE bj))=>v4.length) (0,v1) ⟨rfl,J⟩ ?_;rintro⟨v3,v4⟩ ⟨h4,J⟩ f1 aN;cases v4 with
 |nil=>
  rw[vo]at J;cases J;exact ca af [[],[(0,bF (bO h4))],[]]
 |cons v5 v6=>
  rw[vo]at J;obtain⟨v7,h5,J⟩:=ar J;obtain⟨v8,h7,J⟩:=ar J;refine au af [[],[(0,bT (bN h4))],[(4,oE (jK (aU h4)))],[(7,oE (jK h5))],[(10,cL (aeD N v5 v7 v8 h7))]] ?_;refine bc J (fun h8 J=> ?_) fun h8 J=> ?_
  ·exact ct af aN (v3+1,v6) [[(0,bF (cG h8))],[(2,oq (bV h4 rfl h3))]] ⟨bR h4,J⟩
  cases J;exact ca af [[(0,bT (cU h8))],[]]
def Ey(N:Nat)(v1:Int):aiG Bool:=
 some (v1 !=v1)
theorem TH(N:Nat)(v1:Int)(r:Bool)(J:Ey N v1=some r):bg Tryz.prog 216 [(ak v1)] (·=(aJ r)):=by
 rw[Ey]at J;refine bD Tryz.func216 (by kernel_rfl) (by kernel_rfl) ?_;cases J;exact wr af [[],[]]
def mg(N:Nat)(v1:Int)(v2:Int):aiG Int:=
 Option.bind (Ey N v1) fun v3=>
 Option.bind (Ey N v2) fun v4=>
 bif v3 then
  bif v4 then
   some (0:Int)
  else
   some (-1:Int)
 else
  bif v4 then
   some (1:Int)
  else
   bif (decide (v1<v2))then
    some (-1:Int)
   else
    bif (decide (v1>v2))then
     some (1:Int)
    else
     some (0:Int)
theorem rJ(N:Nat)(v1:Int)(v2:Int)(r:Int)(J:mg N v1 v2=some r):bg Tryz.prog 184 [(ak v1),(ak v2)] (·=(ak r)):=by
 rw[mg]at J;refine bD Tryz.func184 (by kernel_rfl) (by kernel_rfl) ?_;obtain⟨v3,h1,J⟩:=ar J;obtain⟨v4,h2,J⟩:=ar J;refine au af [[],[(4,cL (TH N v1 v3 h1))],[(4,cL (TH N v2 v4 h2))],[]] ?_;refine bc J (fun h3 J=> ?_) fun h3 J=> ?_
 ·refine au af [[(0,bT h3)],[]] ?_;refine bc J (fun h4 J=> ?_) fun h4 J=> ?_
  ·cases J;exact wr af [[(0,bT h4)],[]]
  cases J;exact wr af [[(0,bF h4)],[]]
 refine au af [[(0,bF h3)],[]] ?_;refine bc J (fun h5 J=> ?_) fun h5 J=> ?_
 ·cases J;exact wr af [[(0,bT h5)],[]]
 refine au af [[(0,bF h5)],[]] ?_;refine bc J (fun h6 J=> ?_) fun h6 J=> ?_
 ·cases J;exact wr af [[(0,bT h6)],[]]
 refine au af [[(0,bF h6)],[]] ?_;refine bc J (fun h7 J=> ?_) fun h7 J=> ?_
 ·cases J;exact wr af [[(0,bT h7)],[]]
 cases J;exact wr af [[(0,bF h7)],[]]
def CD(N:Nat)(v1 v2:aiF):aiG Int:=some (F4 v1 v2)
theorem Jy(N:Nat)(v1 v2:aiF)(r:Int)(J:CD N v1 v2=some r):bg Tryz.prog 185 [(bw v1),(bw v2)] (·=(ak r)):=by
 cases J;exact abS v1 v2
def Ee(N:Nat)(v1:Int64):aiG Bool:=
 some (v1.toInt !=v1.toInt)
theorem Q9(N:Nat)(v1:Int64)(r:Bool)(J:Ee N v1=some r):bg Tryz.prog 218 [(bu v1)] (·=(aJ r)):=by
 rw[Ee]at J;refine bD Tryz.func218 (by kernel_rfl) (by kernel_rfl) ?_;cases J;exact wr af [[],[]]
def ym(N:Nat)(v1:Int64)(v2:Int64):aiG Int:=
 Option.bind (Ee N v1) fun v3=>
 Option.bind (Ee N v2) fun v4=>
 bif v3 then
  bif v4 then
   some (0:Int)
  else
   some (-1:Int)
 else
  bif v4 then
   some (1:Int)
  else
   bif (decide (v1.toInt<v2.toInt))then
    some (-1:Int)
   else
    bif (decide (v1.toInt>v2.toInt))then
     some (1:Int)
    else
     some (0:Int)
theorem RM(N:Nat)(v1:Int64)(v2:Int64)(r:Int)(J:ym N v1 v2=some r):bg Tryz.prog 186 [(bu v1),(bu v2)] (·=(ak r)):=by
 rw[ym]at J;refine bD Tryz.func186 (by kernel_rfl) (by kernel_rfl) ?_;obtain⟨v3,h1,J⟩:=ar J;obtain⟨v4,h2,J⟩:=ar J;refine au af [[],[(4,cL (Q9 N v1 v3 h1))],[(4,cL (Q9 N v2 v4 h2))],[]] ?_;refine bc J (fun h3 J=> ?_) fun h3 J=> ?_
 ·refine au af [[(0,bT h3)],[]] ?_;refine bc J (fun h4 J=> ?_) fun h4 J=> ?_
  ·cases J;exact wr af [[(0,bT h4)],[]]
  cases J;exact wr af [[(0,bF h4)],[]]
 refine au af [[(0,bF h3)],[]] ?_;refine bc J (fun h5 J=> ?_) fun h5 J=> ?_
 ·cases J;exact wr af [[(0,bT h5)],[]]
 refine au af [[(0,bF h5)],[]] ?_;refine bc J (fun h6 J=> ?_) fun h6 J=> ?_
 ·cases J;exact wr af [[(0,bT h6)],[]]
 refine au af [[(0,bF h6)],[]] ?_;refine bc J (fun h7 J=> ?_) fun h7 J=> ?_
 ·cases J;exact wr af [[(0,bT h7)],[]]
 cases J;exact wr af [[(0,bF h7)],[]]
def xW(N:Nat):aiE Int→Nat→aiG Int
 |[],_=>
  some (0:Int)
 |v4::v5,v2=>
  bif (v4 !=(0:Int))then
   some v4
  else
   (xW N v5 (v2+1))
def yD(N:Nat)(v1:aiE Int):aiG Int:=
 xW N v1 0
theorem Rh(N:Nat)(v1:aiE Int)(r:Int)(J:yD N v1=some r):bg Tryz.prog 183 [(.d (.sl (nb v1)))] (·=(ak r)):=by
 rw[yD]at J;refine bD Tryz.func183 (by kernel_rfl) (by kernel_rfl) ?_;refine au af [[],[],[(4,oL v1 yW)]] ?_;refine dq 0 (nb v1) (by kernel_rfl) fun h1=> ?_;have h2:=cd yW h1;refine cx af 1 [] [3,6,7,8] 0 (fun((v2,v3):Nat×(aiE Int))=>⟨18,[(3,(ak (0:Int))),(6,(.d (.sl (nb v1)))),(7,(ak (v1.length:Int))),(8,(ak (v2:Int)))],[]⟩) (fun((v2,v3):Nat×(aiE Int))=>v1.drop v2=v3∧xW N v3 v2=some r) (fun((v2,v3):Nat×(aiE Int))=>v3.length) (0,v1) ⟨rfl,J⟩ ?_;rintro⟨v2,v3⟩ ⟨h3,J⟩ f1 aN;cases v3 with
 |nil=>
  rw[xW]at J;cases J;exact wr af [[],[(0,bF (bO h3))],[]]
 |cons v4 v5=>
  rw[xW]at J;refine au af [[],[(0,bT (bN h3))],[(1,oE (Lq (aU h3)))],[]] ?_;refine bc J (fun h4 J=> ?_) fun h4 J=> ?_
  ·cases J;exact wr af [[(0,bT h4)],[]]
  exact ct af aN (v2+1,v5) [[(0,bF h4)],[(2,oq (bV h3 rfl h2))]] ⟨bR h3,J⟩
def CQ(N:Nat)(v1:bB)(v2:bB):aiG Int:=
 Option.bind (mg N v1.ck v2.ck) fun v3=>
 Option.bind (mg N v1.cq v2.cq) fun v4=>
 Option.bind (mg N v1.cJ v2.cJ) fun v5=>
 Option.bind (mg N v1.cH v2.cH) fun v6=>
 Option.bind (mg N v1.cK v2.cK) fun v7=>
 Option.bind (yD N ([v3,v4,v5,v6,v7])) fun v8=>
 some v8
theorem aeg(N:Nat)(v1:bB)(v2:bB)(r:Int)(J:CQ N v1 v2=some r):bg Tryz.prog 187 [(eZ v1),(eZ v2)] (·=(ak r)):=by
 rw[CQ]at J;refine bD Tryz.func187 (by kernel_rfl) (by kernel_rfl) ?_;obtain⟨v3,h1,J⟩:=ar J;obtain⟨v4,h2,J⟩:=ar J;obtain⟨v5,h3,J⟩:=ar J;obtain⟨v6,h4,J⟩:=ar J;obtain⟨v7,h5,J⟩:=ar J;obtain⟨v8,h6,J⟩:=ar J;obtain rfl:=sj J;exact wr af [[],[(13,cL (rJ N v1.ck v2.ck v3 h1)),(28,cL (rJ N v1.cq v2.cq v4 h2)),(43,cL (rJ N v1.cJ v2.cJ v5 h3)),(58,cL (rJ N v1.cH v2.cH v6 h4)),(73,cL (rJ N v1.cK v2.cK v7 h5)),(79,cL (Rh N ([v3,v4,v5,v6,v7]) v8 h6))]]
def Ad(N:Nat)(v1:Int64)(v2:Int64):aiG Int:=
 bif (decide (v1.toInt<v2.toInt))then
  some (-1:Int)
 else
  bif (decide (v1.toInt>v2.toInt))then
   some (1:Int)
  else
   some (0:Int)
theorem NG(N:Nat)(v1:Int64)(v2:Int64)(r:Int)(J:Ad N v1 v2=some r):bg Tryz.prog 221 [(bu v1),(bu v2)] (·=(ak r)):=by
 rw[Ad]at J;refine bD Tryz.func221 (by kernel_rfl) (by kernel_rfl) ?_;refine au af [[],[]] ?_;refine bc J (fun h1 J=> ?_) fun h1 J=> ?_
 ·cases J;exact wr af [[(0,bT h1)],[]]
 refine au af [[(0,bF h1)],[]] ?_;refine bc J (fun h2 J=> ?_) fun h2 J=> ?_
 ·cases J;exact wr af [[(0,bT h2)],[]]
 cases J;exact wr af [[(0,bF h2)],[]]
def Eu(N:Nat)(v1:aD)(v2:aD):aiG Int:=
 bif (bL v1.ao==bL v2.ao)then
  Option.bind (Ad N v1.dd v2.dd) fun v3=>
  some v3
 else
  Option.bind (CD N v1.ao v2.ao) fun v4=>
  some v4
theorem ac6(N:Nat)(v1:aD)(v2:aD)(r:Int)(J:Eu N v1 v2=some r):bg Tryz.prog 220 [(mM v1),(mM v2)] (·=(ak r)):=by
 rw[Eu]at J;refine bD Tryz.func220 (by kernel_rfl) (by kernel_rfl) ?_;refine au af [[],[]] ?_;refine bc J (fun h1 J=> ?_) fun h1 J=> ?_
 ·obtain⟨v3,h2,J⟩:=ar J;obtain rfl:=sj J;exact wr af [[(0,bF (cG h1))],[(13,cL (NG N v1.dd v2.dd v3 h2))]]
 obtain⟨v4,h3,J⟩:=ar J;obtain rfl:=sj J;exact wr af [[(0,bT (cU h1))],[(13,cL (Jy N v1.ao v2.ao v4 h3))]]
def oK(N:Nat)(v1:aiE aD)(v2:aiE aD):aiE aD→Nat→aiG Int
 |[],_=>
  bif (decide ((v1.length:Int)<(v2.length:Int)))then
   some (-1:Int)
  else
   some (0:Int)
 |v5::v6,v3=>
  bif (decide ((v3:Int)≥(v2.length:Int)))then
   some (1:Int)
  else
   Option.bind (v2[((v3:Int)).toNat]?) fun v7=>
   Option.bind (Eu N v5 v7) fun v8=>
   bif (v8 !=(0:Int))then
    some v8
   else
    (oK N v1 v2 v6 (v3+1))
def HL(N:Nat)(v1:aiE aD)(v2:aiE aD):aiG Int:=
 oK N v1 v2 v1 0
theorem XH(N:Nat)(v1:aiE aD)(v2:aiE aD)(r:Int)(J:HL N v1 v2=some r):bY Tryz.prog 219 [(.d (.sl (bP v1))),(.d (.sl (bP v2))),(.fn 220 [])] [] fun r1 h1=>r1=(ak r)∧h1=[]:=by
 rw[HL]at J;refine eu 0 Tryz.func219 (by kernel_rfl) (by kernel_rfl) (ahX rfl) ?_;refine au af [[],[(4,oL v1 bZ)]] ?_;refine dq 0 (bP v1) (by kernel_rfl) fun h1=> ?_;have h2:=cd bZ h1;refine cx af 1 [] [0,1,2,11,12,13] 0 (fun((v3,v4):Nat×(aiE aD))=>⟨39,[(0,(.d (.sl (bP v1)))),(1,(.d (.sl (bP v2)))),(2,(.fn 220 [])),(11,(.d (.sl (bP v1)))),(12,(ak (v1.length:Int))),(13,(ak (v3:Int)))],[]⟩) (fun((v3,v4):Nat×(aiE aD))=>v1.drop v3=v4∧oK N v1 v2 v4 v3=some r) (fun((v3,v4):Nat×(aiE aD))=>v4.length) (0,v1) ⟨rfl,J⟩ ?_;rintro⟨v3,v4⟩ ⟨h3,J⟩ f1 aN;cases v4 with
 |nil=>
  rw[oK]at J;refine au af [[],[(0,bF (bO h3))],[(4,oL v1 bZ),(10,oL v2 bZ)]] ?_;refine bc J (fun h4 J=> ?_) fun h4 J=> ?_
  ·cases J;exact ca af [[(0,bT h4)],[]]
  cases J;exact ca af [[(0,bF h4)],[]]
 |cons v5 v6=>
  rw[oK]at J;refine au af [[],[(0,bT (bN h3))],[(4,oE (eY (aU h3)))],[(7,oL v2 bZ)]] ?_;refine bc J (fun h5 J=> ?_) fun h5 J=> ?_
  ·cases J;exact ca af [[(0,bT h5)],[]]
  obtain⟨v7,h6,J⟩:=ar J;obtain⟨v8,h8,J⟩:=ar J;refine au af [[(0,bF h5)],[(7,oE (eY h6))],[(10,cL (ac6 N v5 v7 v8 h8))],[]] ?_;refine bc J (fun h9 J=> ?_) fun h9 J=> ?_
  ·cases J;exact ca af [[(0,bT h9)],[]]
  exact ct af aN (v3+1,v6) [[(0,bF h9)],[(2,oq (bV h3 rfl h2))]] ⟨bR h3,J⟩
def xM(N:Nat)(v1:ax)(v2:ax):aiG Int:=
 Option.bind (HL N v1.xL v2.xL) fun v3=>
 bif (v3 !=(0:Int))then
  some v3
 else
  Option.bind (Ad N v1.xK v2.xK) fun v4=>
  some v4
theorem Ke(N:Nat)(v1:ax)(v2:ax)(r:Int)(J:xM N v1 v2=some r):bg Tryz.prog 188 [(b9 v1),(b9 v2)] (·=(ak r)):=by
 rw[xM]at J;refine bD Tryz.func188 (by kernel_rfl) (by kernel_rfl) ?_;obtain⟨v3,h1,J⟩:=ar J;refine au af [[],[(13,⟨_,_, .rq (cQ:=[(.d (.sl (bP v1.xL))),(.d (.sl (bP v2.xL))),(.fn 220 [])]) (h:=[.cells (b9 v1).cells, .cells (b9 v2).cells]) (l:=[]) (by kernel_rfl) (by kernel_rfl) (by kernel_rfl) (by kernel_rfl) (XH N v1.xL v2.xL v3 h1)⟩)],[]] ?_;refine bc J (fun h2 J=> ?_) fun h2 J=> ?_
 ·cases J;exact wr af [[(0,bT h2)],[]]
 obtain⟨v4,h3,J⟩:=ar J;obtain rfl:=sj J;exact wr af [[(0,bF h2)],[(13,cL (NG N v1.xK v2.xK v4 h3))]]
def pG(N:Nat)(v1:aiE ax)(v2:aiE ax):aiE ax→Nat→aiG Int
 |[],_=>
  bif (decide ((v1.length:Int)<(v2.length:Int)))then
   some (-1:Int)
  else
   some (0:Int)
 |v5::v6,v3=>
  bif (decide ((v3:Int)≥(v2.length:Int)))then
   some (1:Int)
  else
   Option.bind (v2[((v3:Int)).toNat]?) fun v7=>
   Option.bind (xM N v5 v7) fun v8=>
   bif (v8 !=(0:Int))then
    some v8
   else
    (pG N v1 v2 v6 (v3+1))
def FE(N:Nat)(v1:aiE ax)(v2:aiE ax):aiG Int:=
 pG N v1 v2 v1 0
theorem aea(N:Nat)(v1:aiE ax)(v2:aiE ax)(r:Int)(J:FE N v1 v2=some r):bY Tryz.prog 243 [(.d (.sl (cz v1))),(.d (.sl (cz v2))),(.fn 188 [])] [] fun r1 h1=>r1=(ak r)∧h1=[]:=by
 rw[FE]at J;refine eu 0 Tryz.func243 (by kernel_rfl) (by kernel_rfl) (ahX rfl) ?_;refine au af [[],[(4,oL v1 bM)]] ?_;refine dq 0 (cz v1) (by kernel_rfl) fun h1=> ?_;have h2:=cd bM h1;refine cx af 1 [] [0,1,2,11,12,13] 0 (fun((v3,v4):Nat×(aiE ax))=>⟨39,[(0,(.d (.sl (cz v1)))),(1,(.d (.sl (cz v2)))),(2,(.fn 188 [])),(11,(.d (.sl (cz v1)))),(12,(ak (v1.length:Int))),(13,(ak (v3:Int)))],[]⟩) (fun((v3,v4):Nat×(aiE ax))=>v1.drop v3=v4∧pG N v1 v2 v4 v3=some r) (fun((v3,v4):Nat×(aiE ax))=>v4.length) (0,v1) ⟨rfl,J⟩ ?_;rintro⟨v3,v4⟩ ⟨h3,J⟩ f1 aN;cases v4 with
 |nil=>
  rw[pG]at J;refine au af [[],[(0,bF (bO h3))],[(4,oL v1 bM),(10,oL v2 bM)]] ?_;refine bc J (fun h4 J=> ?_) fun h4 J=> ?_
  ·cases J;exact ca af [[(0,bT h4)],[]]
  cases J;exact ca af [[(0,bF h4)],[]]
 |cons v5 v6=>
  rw[pG]at J;refine au af [[],[(0,bT (bN h3))],[(4,oE (hY (aU h3)))],[(7,oL v2 bM)]] ?_;refine bc J (fun h5 J=> ?_) fun h5 J=> ?_
  ·cases J;exact ca af [[(0,bT h5)],[]]
  obtain⟨v7,h6,J⟩:=ar J;obtain⟨v8,h8,J⟩:=ar J;refine au af [[(0,bF h5)],[(7,oE (hY h6))],[(10,cL (Ke N v5 v7 v8 h8))],[]] ?_;refine bc J (fun h9 J=> ?_) fun h9 J=> ?_
  ·cases J;exact ca af [[(0,bT h9)],[]]
  exact ct af aN (v3+1,v6) [[(0,bF h9)],[(2,oq (bV h3 rfl h2))]] ⟨bR h3,J⟩
def EH(N:Nat)(v1:aiE ax)(v2:aiE ax):aiG Int:=
 Option.bind (mg N (v1.length:Int) (v2.length:Int)) fun v3=>
 bif (v3 !=(0:Int))then
  some v3
 else
  Option.bind (FE N v1 v2) fun v4=>
  some v4
theorem YM(N:Nat)(v1:aiE ax)(v2:aiE ax)(r:Int)(J:EH N v1 v2=some r):bY Tryz.prog 223 [(.d (.sl (cz v1))),(.d (.sl (cz v2))),(.fn 188 [])] [] fun r1 h1=>r1=(ak r)∧h1=[]:=by
 rw[EH]at J;refine eu 0 Tryz.func223 (by kernel_rfl) (by kernel_rfl) (ahX rfl) ?_;obtain⟨v3,h1,J⟩:=ar J;refine au af [[],[(4,oL v1 bM),(10,oL v2 bM),(13,cL (rJ N (v1.length:Int) (v2.length:Int) v3 h1))],[]] ?_;refine bc J (fun h2 J=> ?_) fun h2 J=> ?_
 ·cases J;exact ca af [[(0,bT h2)],[]]
 obtain⟨v4,h3,J⟩:=ar J;obtain rfl:=sj J;exact ca af [[(0,bF h2)],[(10,⟨_,_, .rq (cQ:=[(.d (.sl (cz v1))),(.d (.sl (cz v2))),(.fn 188 [])]) (h:=[]) (l:=[]) (by kernel_rfl) (by kernel_rfl) (by kernel_rfl) (by kernel_rfl) (aea N v1 v2 v4 h3)⟩)]]
def B8(N:Nat)(v1:az)(v2:az):aiG Int:=
 Option.bind (CD N v1.bn v2.bn) fun v3=>
 bif (v3 !=(0:Int))then
  some v3
 else
  Option.bind (xM N v1.aK v2.aK) fun v4=>
  bif (v4 !=(0:Int))then
   some v4
  else
   Option.bind (EH N v1.bp v2.bp) fun v5=>
   some v5
theorem abq(N:Nat)(v1:az)(v2:az)(r:Int)(J:B8 N v1 v2=some r):bg Tryz.prog 190 [(fx v1),(fx v2)] (·=(ak r)):=by
 rw[B8]at J;refine bD Tryz.func190 (by kernel_rfl) (by kernel_rfl) ?_;obtain⟨v3,h1,J⟩:=ar J;refine au af [[],[(13,cL (Jy N v1.bn v2.bn v3 h1))],[]] ?_;refine bc J (fun h2 J=> ?_) fun h2 J=> ?_
 ·cases J;exact wr af [[(0,bT h2)],[]]
 obtain⟨v4,h3,J⟩:=ar J;refine au af [[(0,bF h2)],[(13,cL (Ke N v1.aK v2.aK v4 h3))],[]] ?_;refine bc J (fun h4 J=> ?_) fun h4 J=> ?_
 ·cases J;exact wr af [[(0,bT h4)],[]]
 obtain⟨v5,h5,J⟩:=ar J;obtain rfl:=sj J;exact wr af [[(0,bF h4)],[(13,⟨_,_, .rq (cQ:=[(.d (.sl (cz v1.bp))),(.d (.sl (cz v2.bp))),(.fn 188 [])]) (h:=[.cells (fx v1).cells, .cells (fx v2).cells]) (l:=[]) (by kernel_rfl) (by kernel_rfl) (by kernel_rfl) (by kernel_rfl) (YM N v1.bp v2.bp v5 h5)⟩)]]
def pI(N:Nat)(v1:aiE az)(v2:aiE az):aiE az→Nat→aiG Int
 |[],_=>
  bif (decide ((v1.length:Int)<(v2.length:Int)))then
   some (-1:Int)
  else
   some (0:Int)
 |v5::v6,v3=>
  bif (decide ((v3:Int)≥(v2.length:Int)))then
   some (1:Int)
  else
   Option.bind (v2[((v3:Int)).toNat]?) fun v7=>
   Option.bind (B8 N v5 v7) fun v8=>
   bif (v8 !=(0:Int))then
    some v8
   else
    (pI N v1 v2 v6 (v3+1))
def GV(N:Nat)(v1:aiE az)(v2:aiE az):aiG Int:=
 pI N v1 v2 v1 0
theorem ZT(N:Nat)(v1:aiE az)(v2:aiE az)(r:Int)(J:GV N v1 v2=some r):bY Tryz.prog 222 [(.d (.sl (bJ v1))),(.d (.sl (bJ v2))),(.fn 190 [])] [] fun r1 h1=>r1=(ak r)∧h1=[]:=by
 rw[GV]at J;refine eu 0 Tryz.func222 (by kernel_rfl) (by kernel_rfl) (ahX rfl) ?_;refine au af [[],[(4,oL v1 cn)]] ?_;refine dq 0 (bJ v1) (by kernel_rfl) fun h1=> ?_;have h2:=cd cn h1;refine cx af 1 [] [0,1,2,11,12,13] 0 (fun((v3,v4):Nat×(aiE az))=>⟨39,[(0,(.d (.sl (bJ v1)))),(1,(.d (.sl (bJ v2)))),(2,(.fn 190 [])),(11,(.d (.sl (bJ v1)))),(12,(ak (v1.length:Int))),(13,(ak (v3:Int)))],[]⟩) (fun((v3,v4):Nat×(aiE az))=>v1.drop v3=v4∧pI N v1 v2 v4 v3=some r) (fun((v3,v4):Nat×(aiE az))=>v4.length) (0,v1) ⟨rfl,J⟩ ?_;rintro⟨v3,v4⟩ ⟨h3,J⟩ f1 aN;cases v4 with
 |nil=>
  rw[pI]at J;refine au af [[],[(0,bF (bO h3))],[(4,oL v1 cn),(10,oL v2 cn)]] ?_;refine bc J (fun h4 J=> ?_) fun h4 J=> ?_
  ·cases J;exact ca af [[(0,bT h4)],[]]
  cases J;exact ca af [[(0,bF h4)],[]]
 |cons v5 v6=>
  rw[pI]at J;refine au af [[],[(0,bT (bN h3))],[(4,oE (eH (aU h3)))],[(7,oL v2 cn)]] ?_;refine bc J (fun h5 J=> ?_) fun h5 J=> ?_
  ·cases J;exact ca af [[(0,bT h5)],[]]
  obtain⟨v7,h6,J⟩:=ar J;obtain⟨v8,h8,J⟩:=ar J;refine au af [[(0,bF h5)],[(7,oE (eH h6))],[(10,cL (abq N v5 v7 v8 h8))],[]] ?_;refine bc J (fun h9 J=> ?_) fun h9 J=> ?_
  ·cases J;exact ca af [[(0,bT h9)],[]]
  exact ct af aN (v3+1,v6) [[(0,bF h9)],[(2,oq (bV h3 rfl h2))]] ⟨bR h3,J⟩
def Em(N:Nat)(v1:aiE az)(v2:aiE az):aiG Int:=
 Option.bind (mg N (v1.length:Int) (v2.length:Int)) fun v3=>
 bif (v3 !=(0:Int))then
  some v3
 else
  Option.bind (GV N v1 v2) fun v4=>
  some v4
theorem abh(N:Nat)(v1:aiE az)(v2:aiE az)(r:Int)(J:Em N v1 v2=some r):bY Tryz.prog 189 [(.d (.sl (bJ v1))),(.d (.sl (bJ v2))),(.fn 190 [])] [] fun r1 h1=>r1=(ak r)∧h1=[]:=by
 rw[Em]at J;refine eu 0 Tryz.func189 (by kernel_rfl) (by kernel_rfl) (ahX rfl) ?_;obtain⟨v3,h1,J⟩:=ar J;refine au af [[],[(4,oL v1 cn),(10,oL v2 cn),(13,cL (rJ N (v1.length:Int) (v2.length:Int) v3 h1))],[]] ?_;refine bc J (fun h2 J=> ?_) fun h2 J=> ?_
 ·cases J;exact ca af [[(0,bT h2)],[]]
 obtain⟨v4,h3,J⟩:=ar J;obtain rfl:=sj J;exact ca af [[(0,bF h2)],[(10,⟨_,_, .rq (cQ:=[(.d (.sl (bJ v1))),(.d (.sl (bJ v2))),(.fn 190 [])]) (h:=[]) (l:=[]) (by kernel_rfl) (by kernel_rfl) (by kernel_rfl) (by kernel_rfl) (ZT N v1 v2 v4 h3)⟩)]]
def oM(N:Nat)(v1:aiE aq)(v2:aiE aq)(Oi:aq→aq→aiG Int):aiE aq→Nat→aiG Int
 |[],_=>
  bif (decide ((v1.length:Int)<(v2.length:Int)))then
   some (-1:Int)
  else
   some (0:Int)
 |v5::v6,v3=>
  bif (decide ((v3:Int)≥(v2.length:Int)))then
   some (1:Int)
  else
   Option.bind (v2[((v3:Int)).toNat]?) fun v7=>
   Option.bind (Oi v5 v7) fun v8=>
   bif (v8 !=(0:Int))then
    some v8
   else
    (oM N v1 v2 Oi v6 (v3+1))
mutual
def pZ(N:Nat):Nat→aq→aq→aiG Int
 |0,_,_=>none
 |d+1,v1,v2=>
  Option.bind (mg N v1.aX v2.aX) fun v3=>
  Option.bind (CD N v1.ao v2.ao) fun v4=>
  Option.bind (ym N v1.db.xN v2.db.xN) fun v5=>
  Option.bind (ym N v1.db.xD v2.db.xD) fun v6=>
  Option.bind (CQ N v1.aw v2.aw) fun v7=>
  Option.bind (xM N v1.aK v2.aK) fun v8=>
  Option.bind (yD N ([v3,v4,v5,v6,v7,v8])) fun v9=>
  bif (v9 !=(0:Int))then
   some v9
  else
   Option.bind (Em N v1.xIdx v2.xIdx) fun v10=>
   bif (v10 !=(0:Int))then
    some v10
   else
    Option.bind ((Bl N d) v1.aM v2.aM) fun v11=>
    some v11
def Bl(N:Nat):Nat→(aiE aq)→(aiE aq)→aiG Int
 |0,_,_=>none
 |d+1,v1,v2=>
  Option.bind (mg N (v1.length:Int) (v2.length:Int)) fun v3=>
  bif (v3 !=(0:Int))then
   some v3
  else
   Option.bind ((CP N d) v1 v2) fun v4=>
   some v4
def CP(N:Nat):Nat→(aiE aq)→(aiE aq)→aiG Int
 |0,_,_=>none
 |d+1,v1,v2=>
  oM N v1 v2 (pZ N d) v1 0
end
def LI(N:Nat)(v1:aq)(v2:aq):aiG Int:=pZ N N v1 v2
theorem aab(N:Nat):∀d:Nat,(∀(v1:aq)(v2:aq)(r:Int),pZ N d v1 v2=some r→bg Tryz.prog 146 [(aF v1),(aF v2)] (·=(ak r)))∧(∀(v1:aiE aq)(v2:aiE aq)(r:Int),Bl N d v1 v2=some r→bY Tryz.prog 191 [(.d (.sl (cT v1))),(.d (.sl (cT v2))),(.fn 146 [])] [] fun r1 h1=>r1=(ak r)∧h1=[])∧(∀(v1:aiE aq)(v2:aiE aq)(r:Int),CP N d v1 v2=some r→bY Tryz.prog 224 [(.d (.sl (cT v1))),(.d (.sl (cT v2))),(.fn 146 [])] [] fun r1 h1=>r1=(ak r)∧h1=[]):=by
 intro d
 induction d with
 |zero=>exact⟨fun v1 v2 r J=>(by rw[pZ]at J;cases J),fun v1 v2 r J=>(by rw[Bl]at J;cases J),fun v1 v2 r J=>(by rw[CP]at J;cases J)⟩
 |succ d ih=>
  have YP:=ih.1;have ad2:=ih.2.1;have ae2:=ih.2.2;refine⟨?_,?_,?_⟩
  ·intro v1 v2 r J;rw[pZ]at J;refine bD Tryz.func146 (by kernel_rfl) (by kernel_rfl) ?_;obtain⟨v3,h1,J⟩:=ar J;obtain⟨v4,h2,J⟩:=ar J;obtain⟨v5,h3,J⟩:=ar J;obtain⟨v6,h4,J⟩:=ar J;obtain⟨v7,h5,J⟩:=ar J;obtain⟨v8,h6,J⟩:=ar J;obtain⟨v9,h7,J⟩:=ar J;refine au af [[],[(13,cL (rJ N v1.aX v2.aX v3 h1)),(28,cL (Jy N v1.ao v2.ao v4 h2)),(49,cL (RM N v1.db.xN v2.db.xN v5 h3)),(70,cL (RM N v1.db.xD v2.db.xD v6 h4)),(85,cL (aeg N v1.aw v2.aw v7 h5)),(100,cL (Ke N v1.aK v2.aK v8 h6)),(106,cL (Rh N ([v3,v4,v5,v6,v7,v8]) v9 h7))],[]] ?_;refine bc J (fun h8 J=> ?_) fun h8 J=> ?_
   ·cases J;exact wr af [[(0,bT h8)],[]]
   obtain⟨v10,h9,J⟩:=ar J;refine au af [[(0,bF h8)],[(13,⟨_,_, .rq (cQ:=[(.d (.sl (bJ v1.xIdx))),(.d (.sl (bJ v2.xIdx))),(.fn 190 [])]) (h:=[.cells (aF v1).cells, .cells (aF v2).cells]) (l:=[]) (by kernel_rfl) (by kernel_rfl) (by kernel_rfl) (by kernel_rfl) (abh N v1.xIdx v2.xIdx v10 h9)⟩)],[]] ?_;refine bc J (fun aA J=> ?_) fun aA J=> ?_
   ·cases J;exact wr af [[(0,bT aA)],[]]
   obtain⟨v11,a7,J⟩:=ar J;obtain rfl:=sj J;exact wr af [[(0,bF aA)],[(13,⟨_,_, .rq (cQ:=[(.d (.sl (cT v1.aM))),(.d (.sl (cT v2.aM))),(.fn 146 [])]) (h:=[.cells (aF v1).cells, .cells (aF v2).cells]) (l:=[]) (by kernel_rfl) (by kernel_rfl) (by kernel_rfl) (by kernel_rfl) (ad2 v1.aM v2.aM v11 a7)⟩)]]
  ·intro v1 v2 r J;rw[Bl]at J;refine eu 0 Tryz.func191 (by kernel_rfl) (by kernel_rfl) (ahX rfl) ?_;obtain⟨v3,h1,J⟩:=ar J;refine au af [[],[(4,oL v1 b7),(10,oL v2 b7),(13,cL (rJ N (v1.length:Int) (v2.length:Int) v3 h1))],[]] ?_;refine bc J (fun h2 J=> ?_) fun h2 J=> ?_
   ·cases J;exact ca af [[(0,bT h2)],[]]
   obtain⟨v4,h3,J⟩:=ar J;obtain rfl:=sj J;exact ca af [[(0,bF h2)],[(10,⟨_,_, .rq (cQ:=[(.d (.sl (cT v1))),(.d (.sl (cT v2))),(.fn 146 [])]) (h:=[]) (l:=[]) (by kernel_rfl) (by kernel_rfl) (by kernel_rfl) (by kernel_rfl) (ae2 v1 v2 v4 h3)⟩)]]
  intro v1 v2 r J;rw[CP]at J;refine eu 0 Tryz.func224 (by kernel_rfl) (by kernel_rfl) (ahX rfl) ?_;refine au af [[],[(4,oL v1 b7)]] ?_;refine dq 0 (cT v1) (by kernel_rfl) fun h1=> ?_;have h2:=cd b7 h1;refine cx af 1 [] [0,1,2,11,12,13] 0 (fun((v3,v4):Nat×(aiE aq))=>⟨39,[(0,(.d (.sl (cT v1)))),(1,(.d (.sl (cT v2)))),(2,(.fn 146 [])),(11,(.d (.sl (cT v1)))),(12,(ak (v1.length:Int))),(13,(ak (v3:Int)))],[]⟩) (fun((v3,v4):Nat×(aiE aq))=>v1.drop v3=v4∧oM N v1 v2 (pZ N d) v4 v3=some r) (fun((v3,v4):Nat×(aiE aq))=>v4.length) (0,v1) ⟨rfl,J⟩ ?_;rintro⟨v3,v4⟩ ⟨h3,J⟩ f1 aN;cases v4 with
  |nil=>
   rw[oM]at J;refine au af [[],[(0,bF (bO h3))],[(4,oL v1 b7),(10,oL v2 b7)]] ?_;refine bc J (fun h4 J=> ?_) fun h4 J=> ?_
   ·cases J;exact ca af [[(0,bT h4)],[]]
   cases J;exact ca af [[(0,bF h4)],[]]
  |cons v5 v6=>
   rw[oM]at J;refine au af [[],[(0,bT (bN h3))],[(4,oE (ik (aU h3)))],[(7,oL v2 b7)]] ?_;refine bc J (fun h5 J=> ?_) fun h5 J=> ?_
   ·cases J;exact ca af [[(0,bT h5)],[]]
   obtain⟨v7,h6,J⟩:=ar J;obtain⟨v8,h8,J⟩:=ar J;refine au af [[(0,bF h5)],[(7,oE (ik h6))],[(10,cL (YP v5 v7 v8 h8))],[]] ?_;refine bc J (fun h9 J=> ?_) fun h9 J=> ?_
   ·cases J;exact ca af [[(0,bT h9)],[]]
   exact ct af aN (v3+1,v6) [[(0,bF h9)],[(2,oq (bV h3 rfl h2))]] ⟨bR h3,J⟩
theorem ab3(N:Nat)(v1:aq)(v2:aq)(r:Int)(J:LI N v1 v2=some r):bg Tryz.prog 146 [(aF v1),(aF v2)] (·=(ak r)):=(aab N N).1 v1 v2 r J
end Go.Proofs.YtphmhnabilhbgaaGreatDoor
