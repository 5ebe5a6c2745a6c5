/-
  Part 15 of the proof: PQ9.
-/
import Derived.Test.YtphmhnabilhbgaaGreatDoorPk14
namespace Go.Proofs.YtphmhnabilhbgaaGreatDoor
open Go.RowKit
set_option maxRecDepth 100000
set_option maxHeartbeats 0
set_option linter.unusedVariables false
def O0(v:aQ)(r:aiE AV):aiE AV:=(.d (.sl (aB v.ba)))::(.d (.sl (bG v.cm)))::(.d (.sl (bI v.a8)))::r
def cf6(v:aG)(r:aiE AV):aiE AV:=(bw v.ao)::(ak v.aw.ck)::(ak v.aw.cq)::(ak v.aw.cJ)::(ak v.aw.cH)::(ak v.aw.cK)::(.d (.sl (cu v.aI)))::(.d (.sl (cu v.bz)))::(ak v.cP)::r
def lT(N:Nat)(v1:aQ)(v4:Int)(v2:aiF):aiE aG→Nat→(aiE aG)→aiG (aQ×Int)
 |[],_,v9=>
  Option.bind (vg N (⟨v1.ba,v1.cm,v1.a8,v9,v1.cl⟩:aQ)) fun v10=>
  bif (v10.2 !=(0:Int))then
   some (rG,v10.2)
  else
   some ((⟨v1.ba,v1.cm,v1.a8,v9,v1.cl⟩:aQ),(0:Int))
 |v7::v8,v5,v9=>
  bif (decide ((0:Int)≤v4))then
  Option.bind (v1.ay[(v4).toNat]?) fun v11=>
  Option.bind (Fm N v7.bx v11) fun v12=>
  bif (v12.2 !=(0:Int))then
   some (rG,v12.2)
  else
   Option.bind (bif ((v5:Int) !=v4)then some true else Option.bind (oz N v1.cl v2) fun aE=>
   some aE) fun aC=>
   bif aC then
    bif (Nat.ble ((v9.length+1)*272) 140737488355328)then
    (fun b6=>lT N v1 v4 v2 v8 (v5+1) b6) (v9++[(⟨v7.ao,v7.aw,v7.aI,v7.bz,v7.cP,v12.1⟩:aG)])
    else none
   else
    (fun b6=>lT N v1 v4 v2 v8 (v5+1) b6) v9
  else none
def zi(N:Nat)(v1:aQ)(v2:aiF):aiG (aQ×Int):=
 Option.bind (Ea N v1 v2) fun v3=>
 bif (v3 !=(0:Int))then
  some (rG,v3)
 else
  Option.bind (zd N v1 v2) fun v4=>
  lT N v1 v4 v2 v1.ay 0 []
theorem YZ(N:Nat)(v1:aQ)(v2:aiF)(r:aQ×Int)(J:zi N v1 v2=some r):bg Tryz.prog 9 [(aS v1),(bw v2)] (·=(.cb [(aS r.1),(ak r.2)])):=by
 rw[zi]at J;refine bD Tryz.func9 (by kernel_rfl) (by kernel_rfl) ?_;obtain⟨v3,h1,J⟩:=ar J;refine au af [[],[(7,cL (aex N v1 v2 v3 h1))],[]] ?_;refine bc J (fun h2 J=> ?_) fun h2 J=> ?_
 ·cases J;exact wr af [[(0,bT h2)],[]]
 obtain⟨v4,h3,J⟩:=ar J;refine au af [[(0,bF h2)],[(7,cL (MI N v1 v2 v4 h3))],[],[],[]] ?_;refine nu 2 3 54 22 [] (.inr (by kernel_rfl)) ?_;refine dX 0 3 (b8 v1.ay) (by kernel_rfl) fun h4=> ?_;have h5:=cd du h4;refine jt af 1 [] [1,2,4,7,8,9] 4 [] [(1,0),(1,1),(1,2),(1,3),(1,4)] (fun((v5,v6,v9):Nat×(aiE aG)×(aiE aG))=>⟨81,[(1,(bw v2)),(2,(.ptr 0 0)),(4,(.ptr 1 0)),(7,(ak v4)),(8,(.ptr 2 0)),(9,(ak (v5:Int)))],[.cells (aS v1).cells, .cells dv, .cells (O0 v1 [(.own 3 (b8 v9)),(.d (.sl (aB v1.cl)))]), .front 54 22 v9.length]⟩) (fun((v5,v6,v9):Nat×(aiE aG)×(aiE aG))=>v1.ay.drop v5=v6∧lT N v1 v4 v2 v6 v5 v9=some r) (fun((v5,v6,v9):Nat×(aiE aG)×(aiE aG))=>v6.length) (0,v1.ay,[]) ⟨rfl,J⟩ ?_;rintro⟨v5,v6,v9⟩ ⟨h6,J⟩ f1 aN;cases v6 with
 |nil=>
  rw[lT]at J;obtain⟨v10,h7,J⟩:=ar J;refine au af [[(10,oL v1.ay du)],[(0,bF (bO h6))],[(4,cL (MN N (⟨v1.ba,v1.cm,v1.a8,v9,v1.cl⟩:aQ) v10 h7))],[]] ?_;refine bc J (fun h8 J=> ?_) fun h8 J=> ?_
  ·cases J;exact wr af [[(0,bT h8)],[]]
  cases J;exact wr af [[(0,bF h8)],[]]
 |cons v7 v8=>
  rw[lT]at J;obtain⟨aA,J⟩:=dg J;obtain⟨v11,h9,J⟩:=ar J;obtain⟨v12,a7,J⟩:=ar J;refine au af [[(10,oL v1.ay du)],[(0,bT (bN h6))],[(10,oE (fW (aU h6)))],[(16,⟨_,_, .el (xs:=b8 v1.ay) (i:=v4) (of_decide_eq_true aA) (fW h9)⟩),(22,cL (adw N v7.bx v11 v12 a7))],[]] ?_;refine bc J (fun bk J=> ?_) fun bk J=> ?_
  ·cases J;exact wr af [[(0,bT bk)],[]]
  refine au af [[(0,bF bk)],[]] ?_;obtain⟨aC,bQ,J⟩:=ar J;refine cM af [(64,(aJ aC))] [.cells (aS v1).cells, .cells dv, .cells (O0 v1 [(.own 3 (b8 v9)),(.d (.sl (aB v1.cl)))]), .front 54 22 v9.length, .cells (cf6 v7 (A0 v12.1 [])), .cells (aF v12.1).cells] ?_ ?_
  ·refine bc bQ (fun cg bQ=> ?_) fun cg bQ=> ?_
   ·cases bQ;exact⟨so (os [12,15,18,21,25] (bT cg) []),by kernel_rfl⟩
   obtain⟨aE,bm,bQ⟩:=ar bQ;obtain rfl:=sj bQ;exact⟨so (os [12,15,18,21,25] (bF cg) [(22,cL (vG N v1.cl v2 aE bm))]),by kernel_rfl⟩
  refine bc J (fun bo J=> ?_) fun bo J=> ?_
  ·obtain⟨cC,J⟩:=dg J;exact gN af aN (v5+1,v8,(v9++[(⟨v7.ao,v7.aw,v7.aI,v7.bz,v7.cP,v12.1⟩:aG)])) [[(0,bT bo)],[(13,⟨_,_, .app (xs:=b8 v9) (ys:=b8 [(⟨v7.ao,v7.aw,v7.aI,v7.bz,v7.cP,v12.1⟩:aG)]) (zs:=b8 (v9++[(⟨v7.ao,v7.aw,v7.aI,v7.bz,v7.cP,v12.1⟩:aG)])) (n:=(v9++[(⟨v7.ao,v7.aw,v7.aI,v7.bz,v7.cP,v12.1⟩:aG)]).length) du.symm Dh Dh (by rw[(du (l:=v9)),(du (l:=[(⟨v7.ao,v7.aw,v7.aI,v7.bz,v7.cP,v12.1⟩:aG)]))];exact(de cC (by decide)).1) (by rw[(du (l:=v9)),(du (l:=[(⟨v7.ao,v7.aw,v7.aI,v7.bz,v7.cP,v12.1⟩:aG)]))];exact(de cC (by decide)).2) adF (by first|(rw[(du (l:=v9)),(du (l:=[(⟨v7.ao,v7.aw,v7.aI,v7.bz,v7.cP,v12.1⟩:aG)]))];done)|(rw[(du (l:=v9)),(du (l:=[(⟨v7.ao,v7.aw,v7.aI,v7.bz,v7.cP,v12.1⟩:aG)]))];rfl)|(rw[(du (l:=v9)),(du (l:=[(⟨v7.ao,v7.aw,v7.aI,v7.bz,v7.cP,v12.1⟩:aG)])),ahQ];done)|(rw[(du (l:=v9)),(du (l:=[(⟨v7.ao,v7.aw,v7.aI,v7.bz,v7.cP,v12.1⟩:aG)])),ahQ];rfl)|(rw[(du (l:=v9)),(du (l:=[(⟨v7.ao,v7.aw,v7.aI,v7.bz,v7.cP,v12.1⟩:aG)])),ah9]))⟩)],[(5,oq (bV h6 rfl h5))]] ⟨bR h6,J⟩
  exact gN af aN (v5+1,v8,v9) [[(0,bF bo)],[(5,oq (bV h6 rfl h5))]] ⟨bR h6,J⟩
def rL(N:Nat)(v2:aiE aiF):aiE aiF→Nat→aiG Bool
 |[],_=>
  some true
 |v5::v6,v3=>
  Option.bind (v2[((v3:Int)).toNat]?) fun v7=>
  bif (bL v5==bL v7)then
   (rL N v2 v6 (v3+1))
  else
   some false
def sO(N:Nat)(v1:aiE aiF)(v2:aiE aiF):aiG Bool:=
 bif ((v1.length:Int) !=(v2.length:Int))then
  some false
 else
  rL N v2 v1 0
theorem ss(N:Nat)(v1:aiE aiF)(v2:aiE aiF)(r:Bool)(J:sO N v1 v2=some r):bg Tryz.prog 17 [(.d (.sl (aB v1))),(.d (.sl (aB v2)))] (·=(aJ r)):=by
 rw[sO]at J;refine bD Tryz.func17 (by kernel_rfl) (by kernel_rfl) ?_;refine au af [[],[(4,oL v1 bC),(10,oL v2 bC)]] ?_;refine bc J (fun h1 J=> ?_) fun h1 J=> ?_
 ·cases J;exact wr af [[(0,bT h1)],[]]
 refine au af [[(0,bF h1)],[]] ?_;refine dq 0 (aB v1) (by kernel_rfl) fun h2=> ?_;have h3:=cd bC h2;refine cx af 1 [] [0,1,5] 0 (fun((v3,v4):Nat×(aiE aiF))=>⟨26,[(0,(.d (.sl (aB v1)))),(1,(.d (.sl (aB v2)))),(5,(ak (v3:Int)))],[]⟩) (fun((v3,v4):Nat×(aiE aiF))=>v1.drop v3=v4∧rL N v2 v4 v3=some r) (fun((v3,v4):Nat×(aiE aiF))=>v4.length) (0,v1) ⟨rfl,J⟩ ?_;rintro⟨v3,v4⟩ ⟨h4,J⟩ f1 aN;cases v4 with
 |nil=>
  rw[rL]at J;cases J;exact wr af [[(7,oL v1 bC)],[(0,bF (bO h4))],[]]
 |cons v5 v6=>
  rw[rL]at J;obtain⟨v7,h5,J⟩:=ar J;refine au af [[(7,oL v1 bC)],[(0,bT (bN h4))],[(7,oE (kK (aU h4))),(19,oE (kK h5))]] ?_;refine bc J (fun h7 J=> ?_) fun h7 J=> ?_
  ·exact ct af aN (v3+1,v6) [[(0,bF (cG h7))],[(5,oq (bV h4 rfl h3))]] ⟨bR h4,J⟩
  cases J;exact wr af [[(0,bT (cU h7))],[]]
def vv(N:Nat)(v1:cf)(v2:cf):aiG Bool:=
 Option.bind (bif (v1.fM==v2.fM)then Option.bind (n7 N v1.aK v2.aK) fun v3=>
 some v3 else some false) fun v4=>
 some v4
theorem Z7(N:Nat)(v1:cf)(v2:cf)(r:Bool)(J:vv N v1 v2=some r):bg Tryz.prog 73 [(kE v1),(kE v2)] (·=(aJ r)):=by
 rw[vv]at J;refine bD Tryz.func73 (by kernel_rfl) (by kernel_rfl) ?_;refine au af [[]] ?_;obtain⟨v4,h3,J⟩:=ar J;refine cM af [(4,(aJ v4))] [.cells (kE v1).cells, .cells (kE v2).cells] ?_ ?_
 ·refine bc h3 (fun h1 h3=> ?_) fun h1 h3=> ?_
  ·obtain⟨v3,h2,h3⟩:=ar h3;obtain rfl:=sj h3;exact⟨so (os [18,21,24,27,30,34] (bT h1) [(31,cL (sE N v1.aK v2.aK v3 h2))]),by kernel_rfl⟩
  cases h3;exact⟨so (os [18,21,24,27,30,34] (bF h1) []),by kernel_rfl⟩
 cases J;exact wr af []
def pM(N:Nat)(v2:aiE cf):aiE cf→Nat→aiG Bool
 |[],_=>
  some true
 |v5::v6,v3=>
  Option.bind (v2[((v3:Int)).toNat]?) fun v7=>
  Option.bind (vv N v5 v7) fun v8=>
  bif v8 then
   (pM N v2 v6 (v3+1))
  else
   some false
def w9(N:Nat)(v1:aiE cf)(v2:aiE cf):aiG Bool:=
 bif ((v1.length:Int) !=(v2.length:Int))then
  some false
 else
  pM N v2 v1 0
theorem G5(N:Nat)(v1:aiE cf)(v2:aiE cf)(r:Bool)(J:w9 N v1 v2=some r):bg Tryz.prog 39 [(.d (.sl (bG v1))),(.d (.sl (bG v2)))] (·=(aJ r)):=by
 rw[w9]at J;refine bD Tryz.func39 (by kernel_rfl) (by kernel_rfl) ?_;refine au af [[],[(4,oL v1 eO),(10,oL v2 eO)]] ?_;refine bc J (fun h1 J=> ?_) fun h1 J=> ?_
 ·cases J;exact wr af [[(0,bT h1)],[]]
 refine au af [[(0,bF h1)],[]] ?_;refine dq 0 (bG v1) (by kernel_rfl) fun h2=> ?_;have h3:=cd eO h2;refine cx af 1 [] [0,1,5] 0 (fun((v3,v4):Nat×(aiE cf))=>⟨27,[(0,(.d (.sl (bG v1)))),(1,(.d (.sl (bG v2)))),(5,(ak (v3:Int)))],[]⟩) (fun((v3,v4):Nat×(aiE cf))=>v1.drop v3=v4∧pM N v2 v4 v3=some r) (fun((v3,v4):Nat×(aiE cf))=>v4.length) (0,v1) ⟨rfl,J⟩ ?_;rintro⟨v3,v4⟩ ⟨h4,J⟩ f1 aN;cases v4 with
 |nil=>
  rw[pM]at J;cases J;exact wr af [[(7,oL v1 eO)],[(0,bF (bO h4))],[]]
 |cons v5 v6=>
  rw[pM]at J;obtain⟨v7,h5,J⟩:=ar J;obtain⟨v8,h7,J⟩:=ar J;refine au af [[(7,oL v1 eO)],[(0,bT (bN h4))],[(7,oE (sX (aU h4))),(19,oE (sX h5)),(25,cL (Z7 N v5 v7 v8 h7))]] ?_;refine bc J (fun h8 J=> ?_) fun h8 J=> ?_
  ·exact ct af aN (v3+1,v6) [[(0,bF (cG h8))],[(5,oq (bV h4 rfl h3))]] ⟨bR h4,J⟩
  cases J;exact wr af [[(0,bT (cU h8))],[]]
def qn(N:Nat)(v2:aiE bj):aiE bj→Nat→aiG Bool
 |[],_=>
  some true
 |v5::v6,v3=>
  Option.bind (v2[((v3:Int)).toNat]?) fun v7=>
  Option.bind (bif (bL v5.ao==bL v7.ao)then Option.bind (n7 N v5.dB v7.dB) fun v8=>
  some (!v8)else some true) fun v9=>
  bif v9 then
   some false
  else
   (qn N v2 v6 (v3+1))
def th(N:Nat)(v1:aiE bj)(v2:aiE bj):aiG Bool:=
 bif ((v1.length:Int) !=(v2.length:Int))then
  some false
 else
  qn N v2 v1 0
theorem Ch(N:Nat)(v1:aiE bj)(v2:aiE bj)(r:Bool)(J:th N v1 v2=some r):bg Tryz.prog 74 [(.d (.sl (cu v1))),(.d (.sl (cu v2)))] (·=(aJ r)):=by
 rw[th]at J;refine bD Tryz.func74 (by kernel_rfl) (by kernel_rfl) ?_;refine au af [[],[(4,oL v1 b5),(10,oL v2 b5)]] ?_;refine bc J (fun h1 J=> ?_) fun h1 J=> ?_
 ·cases J;exact wr af [[(0,bT h1)],[]]
 refine au af [[(0,bF h1)],[]] ?_;refine dq 0 (cu v1) (by kernel_rfl) fun h2=> ?_;have h3:=cd b5 h2;refine cx af 1 [] [0,1,5] 0 (fun((v3,v4):Nat×(aiE bj))=>⟨42,[(0,(.d (.sl (cu v1)))),(1,(.d (.sl (cu v2)))),(5,(ak (v3:Int)))],[]⟩) (fun((v3,v4):Nat×(aiE bj))=>v1.drop v3=v4∧qn N v2 v4 v3=some r) (fun((v3,v4):Nat×(aiE bj))=>v4.length) (0,v1) ⟨rfl,J⟩ ?_;rintro⟨v3,v4⟩ ⟨h4,J⟩ f1 aN;cases v4 with
 |nil=>
  rw[qn]at J;cases J;exact wr af [[(7,oL v1 b5)],[(0,bF (bO h4))],[]]
 |cons v5 v6=>
  rw[qn]at J;refine au af [[(7,oL v1 b5)],[(0,bT (bN h4))]] ?_;obtain⟨v7,h5,J⟩:=ar J;obtain⟨v9,h9,J⟩:=ar J;refine cM af [(41,(aJ v9))] [] ?_ ?_
  ·refine bc h9 (fun h7 h9=> ?_) fun h7 h9=> ?_
   ·obtain⟨v8,h8,h9⟩:=ar h9;cases h9;exact⟨so (os [7,43] (oE (jK (aU h4))) (os [22,58] (oE (jK h5)) (os [36,39,42,45,48,51,54,57,60,63,66,69,73] (bF (cG h7)) [(67,cL (sE N v5.dB v7.dB v8 h8))]))),by kernel_rfl⟩
   cases h9;exact⟨so (os [36,39,42,45,48,51,54,57,60,63,66,69,73] (bT (cU h7)) [(7,oE (jK (aU h4))),(22,oE (jK h5))]),by kernel_rfl⟩
  refine bc J (fun aA J=> ?_) fun aA J=> ?_
  ·cases J;exact wr af [[(0,bT aA)],[]]
  exact ct af aN (v3+1,v6) [[(0,bF aA)],[(5,oq (bV h4 rfl h3))]] ⟨bR h4,J⟩
def uK(N:Nat)(v1:aG)(v2:aG):aiG Bool:=
 Option.bind (bif (bL v1.ao==bL v2.ao)then(bif ((v1.aw.ck==v2.aw.ck)&&((v1.aw.cq==v2.aw.cq)&&((v1.aw.cJ==v2.aw.cJ)&&((v1.aw.cH==v2.aw.cH)&&((v1.aw.cK==v2.aw.cK)&&true)))))then(bif (v1.cP==v2.cP)then Option.bind (th N v1.aI v2.aI) fun v3=>
 (bif v3 then Option.bind (th N v1.bz v2.bz) fun v4=>
 (bif v4 then Option.bind (D4 N v1.bx v2.bx) fun v5=>
 some v5 else some false)else some false)else some false)else some false)else some false) fun v6=>
 some v6
theorem aca(N:Nat)(v1:aG)(v2:aG)(r:Bool)(J:uK N v1 v2=some r):bg Tryz.prog 41 [(cy v1),(cy v2)] (·=(aJ r)):=by
 rw[uK]at J;refine bD Tryz.func41 (by kernel_rfl) (by kernel_rfl) ?_;refine au af [[]] ?_;obtain⟨v6,h9,J⟩:=ar J;refine cM af [(4,(aJ v6))] [.cells (cy v1).cells, .cells (cy v2).cells] ?_ ?_
 ·refine bc h9 (fun h1 h9=> ?_) fun h1 h9=> ?_
  ·refine bc h9 (fun h2 h9=> ?_) fun h2 h9=> ?_
   ·refine bc h9 (fun h3 h9=> ?_) fun h3 h9=> ?_
    ·obtain⟨v3,h4,h9⟩:=ar h9;refine bc h9 (fun h5 h9=> ?_) fun h5 h9=> ?_
     ·obtain⟨v4,h6,h9⟩:=ar h9;refine bc h9 (fun h7 h9=> ?_) fun h7 h9=> ?_
      ·obtain⟨v5,h8,h9⟩:=ar h9;obtain rfl:=sj h9;exact⟨so (os [18,21,24,27,30,34] (bT h1) (os [39,42,45,48,51,55] (bT h2) (os [60,63,66,69,72,76] (bT h3) (os [81,84,87,90,93,97] (bT h5) (os [102,105,108,111,114,118] (bT h7) [(73,cL (Ch N v1.aI v2.aI v3 h4)),(94,cL (Ch N v1.bz v2.bz v4 h6)),(115,cL (I3 N v1.bx v2.bx v5 h8))]))))),by kernel_rfl⟩
      cases h9;exact⟨so (os [18,21,24,27,30,34] (bT h1) (os [39,42,45,48,51,55] (bT h2) (os [60,63,66,69,72,76] (bT h3) (os [81,84,87,90,93,97] (bT h5) (os [102,105,108,111,114,118] (bF h7) [(73,cL (Ch N v1.aI v2.aI v3 h4)),(94,cL (Ch N v1.bz v2.bz v4 h6))]))))),by kernel_rfl⟩
     cases h9;exact⟨so (os [18,21,24,27,30,34] (bT h1) (os [39,42,45,48,51,55] (bT h2) (os [60,63,66,69,72,76] (bT h3) (os [81,84,87,90,93,97] (bF h5) (os [102,105,108,111,114,118] (bF rfl) [(73,cL (Ch N v1.aI v2.aI v3 h4))]))))),by kernel_rfl⟩
    cases h9;exact⟨so (os [18,21,24,27,30,34] (bT h1) (os [39,42,45,48,51,55] (bT h2) (os [60,63,66,69,72,76] (bF h3) (os [81,84,87,90,93,97,102,105,108,111,114,118] (bF rfl) [])))),by kernel_rfl⟩
   cases h9;exact⟨so (os [18,21,24,27,30,34] (bT h1) (os [39,42,45,48,51,55] (bF h2) (os [60,63,66,69,72,76,81,84,87,90,93,97,102,105,108,111,114,118] (bF rfl) []))),by kernel_rfl⟩
  cases h9;exact⟨so (os [18,21,24,27,30,34] (bF h1) (os [39,42,45,48,51,55,60,63,66,69,72,76,81,84,87,90,93,97,102,105,108,111,114,118] (bF rfl) [])),by kernel_rfl⟩
 cases J;exact wr af []
def rI(N:Nat)(v2:aQ):aiE aG→Nat→aiG Bool
 |[],_=>
  some true
 |aE::aC,v11=>
  Option.bind (v2.ay[((v11:Int)).toNat]?) fun aP=>
  Option.bind (uK N aE aP) fun aW=>
  bif aW then
   (rI N v2 aC (v11+1))
  else
   some false
def o7(N:Nat)(v2:aQ)(v1:aQ):aiE bX→Nat→aiG Bool
 |[],_=>
  rI N v2 v1.ay 0
 |v9::v10,v7=>
  Option.bind (v2.a8[((v7:Int)).toNat]?) fun aH=>
  Option.bind (bif (bL v9.ao==bL aH.ao)then(bif ((v9.aw.ck==aH.aw.ck)&&((v9.aw.cq==aH.aw.cq)&&((v9.aw.cJ==aH.aw.cJ)&&((v9.aw.cH==aH.aw.cH)&&((v9.aw.cK==aH.aw.cK)&&true)))))then Option.bind (tw N v9.aI aH.aI) fun aT=>
  some (!aT)else some true)else some true) fun bK=>
  bif bK then
   some false
  else
   (o7 N v2 v1 v10 (v7+1))
def rZ(N:Nat)(v1:aQ)(v2:aQ):aiG Bool:=
 Option.bind (sO N v1.ba v2.ba) fun v3=>
 Option.bind (bif v3 then Option.bind (w9 N v1.cm v2.cm) fun v4=>
 (bif v4 then Option.bind (sO N v1.cl v2.cl) fun v5=>
 (bif v5 then(bif ((v1.a8.length:Int) !=(v2.a8.length:Int))then some true else some ((v1.ay.length:Int) !=(v2.ay.length:Int)))else some true)else some true)else some true) fun v6=>
 bif v6 then
  some false
 else
  o7 N v2 v1 v1.a8 0
theorem Hz(N:Nat)(v1:aQ)(v2:aQ)(r:Bool)(J:rZ N v1 v2=some r):bg Tryz.prog 12 [(aS v1),(aS v2)] (·=(aJ r)):=by
 rw[rZ]at J;refine bD Tryz.func12 (by kernel_rfl) (by kernel_rfl) ?_;refine au af [[]] ?_;obtain⟨v3,h1,J⟩:=ar J;obtain⟨v6,h8,J⟩:=ar J;refine cM af [(46,(aJ v6))] [.cells (aS v1).cells, .cells (aS v2).cells] ?_ ?_
 ·refine bc h8 (fun h2 h8=> ?_) fun h2 h8=> ?_
  ·obtain⟨v4,h3,h8⟩:=ar h8;refine bc h8 (fun h4 h8=> ?_) fun h4 h8=> ?_
   ·obtain⟨v5,h5,h8⟩:=ar h8;refine bc h8 (fun h6 h8=> ?_) fun h6 h8=> ?_
    ·refine bc h8 (fun h7 h8=> ?_) fun h7 h8=> ?_
     ·cases h8;exact⟨so (os [21,24,27,30,33,36,40] (bF (cG h2)) (os [45,48,51,54,57,60,64] (bF (cG h4)) (os [69,72,75,78,81,84,87,91] (bF (cG h6)) (os [96,99,102,105,108,111,114,118] (bT h7) [(13,cL (ss N v1.ba v2.ba v3 h1)),(34,cL (G5 N v1.cm v2.cm v4 h3)),(58,cL (ss N v1.cl v2.cl v5 h5)),(76,oL v1.a8 ee),(85,oL v2.a8 ee)])))),by kernel_rfl⟩
     cases h8;exact⟨so (os [21,24,27,30,33,36,40] (bF (cG h2)) (os [45,48,51,54,57,60,64] (bF (cG h4)) (os [69,72,75,78,81,84,87,91] (bF (cG h6)) (os [96,99,102,105,108,111,114,118] (bF h7) [(13,cL (ss N v1.ba v2.ba v3 h1)),(34,cL (G5 N v1.cm v2.cm v4 h3)),(58,cL (ss N v1.cl v2.cl v5 h5)),(76,oL v1.a8 ee),(85,oL v2.a8 ee),(103,oL v1.ay du),(112,oL v2.ay du)])))),by kernel_rfl⟩
    cases h8;exact⟨so (os [21,24,27,30,33,36,40] (bF (cG h2)) (os [45,48,51,54,57,60,64] (bF (cG h4)) (os [69,72,75,78,81,84,87,91] (bT (cU h6)) (os [96,99,102,105,108,111,114,118] (bT rfl) [(13,cL (ss N v1.ba v2.ba v3 h1)),(34,cL (G5 N v1.cm v2.cm v4 h3)),(58,cL (ss N v1.cl v2.cl v5 h5))])))),by kernel_rfl⟩
   cases h8;exact⟨so (os [21,24,27,30,33,36,40] (bF (cG h2)) (os [45,48,51,54,57,60,64] (bT (cU h4)) (os [69,72,75,78,81,84,87,91,96,99,102,105,108,111,114,118] (bT rfl) [(13,cL (ss N v1.ba v2.ba v3 h1)),(34,cL (G5 N v1.cm v2.cm v4 h3))]))),by kernel_rfl⟩
  cases h8;exact⟨so (os [21,24,27,30,33,36,40] (bT (cU h2)) (os [45,48,51,54,57,60,64,69,72,75,78,81,84,87,91,96,99,102,105,108,111,114,118] (bT rfl) [(13,cL (ss N v1.ba v2.ba v3 h1))])),by kernel_rfl⟩
 refine bc J (fun h9 J=> ?_) fun h9 J=> ?_
 ·cases J;exact wr af [[(0,bT h9)],[]]
 refine au af [[(0,bF h9)],[]] ?_;refine dX 0 2 (bI v1.a8) (by kernel_rfl) fun aA=> ?_;have a7:=cd ee aA;refine cx af 1 [] [2,3,5] 2 (fun((v7,v8):Nat×(aiE bX))=>⟨117,[(2,(.ptr 0 0)),(3,(.ptr 1 0)),(5,(ak (v7:Int)))],[.cells (aS v1).cells, .cells (aS v2).cells]⟩) (fun((v7,v8):Nat×(aiE bX))=>v1.a8.drop v7=v8∧o7 N v2 v1 v8 v7=some r) (fun((v7,v8):Nat×(aiE bX))=>v8.length) (0,v1.a8) ⟨rfl,J⟩ ?_;rintro⟨v7,v8⟩ ⟨bk,J⟩ f1 aN;cases v8 with
 |nil=>
  rw[o7]at J;refine au af [[(10,oL v1.a8 ee)],[(0,bF (bO bk))],[]] ?_;refine dX 0 3 (b8 v1.ay) (by kernel_rfl) fun cg=> ?_;have bm:=cd du cg;refine cx af 2 [] [2,3,6] 2 (fun((v11,v12):Nat×(aiE aG))=>⟨117,[(2,(.ptr 0 0)),(3,(.ptr 1 0)),(6,(ak (v11:Int)))],[.cells (aS v1).cells, .cells (aS v2).cells]⟩) (fun((v11,v12):Nat×(aiE aG))=>v1.ay.drop v11=v12∧rI N v2 v12 v11=some r) (fun((v11,v12):Nat×(aiE aG))=>v12.length) (0,v1.ay) ⟨rfl,J⟩ ?_;rintro⟨v11,v12⟩ ⟨bQ,J⟩ f2 dU;cases v12 with
  |nil=>
   rw[rI]at J;cases J;exact wr af [[(10,oL v1.ay du)],[(0,bF (bO bQ))],[]]
  |cons aE aC=>
   rw[rI]at J;obtain⟨aP,bo,J⟩:=ar J;obtain⟨aW,bW,J⟩:=ar J;refine au af [[(10,oL v1.ay du)],[(0,bT (bN bQ))],[(10,oE (fW (aU bQ))),(25,oE (fW bo)),(31,cL (aca N aE aP aW bW))]] ?_;refine bc J (fun dh J=> ?_) fun dh J=> ?_
   ·exact ct af dU (v11+1,aC) [[(0,bF (cG dh))],[(5,oq (bV bQ rfl bm))]] ⟨bR bQ,J⟩
   cases J;exact wr af [[(0,bT (cU dh))],[]]
 |cons v9 v10=>
  rw[o7]at J;refine au af [[(10,oL v1.a8 ee)],[(0,bT (bN bk))]] ?_;obtain⟨aH,dH,J⟩:=ar J;obtain⟨bK,fu,J⟩:=ar J;refine cM af [(97,(aJ bK))] [.cells (aS v1).cells, .cells (aS v2).cells] ?_ ?_
  ·refine bc fu (fun fk fu=> ?_) fun fk fu=> ?_
   ·refine bc fu (fun fg fu=> ?_) fun fg fu=> ?_
    ·obtain⟨aT,eN,fu⟩:=ar fu;cases fu;exact⟨so (os [10,52,97] (oE (jV (aU bk))) (os [28,70,115] (oE (jV dH)) (os [42,45,48,51,54,57,60,63,66,69,72,75,78,82] (bF (cG fk)) (os [87,90,93,96,99,102,105,108,111,114,117,120,123,126,130] (bF (cG fg)) [(124,cL (Sh N v9.aI aH.aI aT eN))])))),by kernel_rfl⟩
    cases fu;exact⟨so (os [10,52] (oE (jV (aU bk))) (os [28,70] (oE (jV dH)) (os [42,45,48,51,54,57,60,63,66,69,72,75,78,82] (bF (cG fk)) (os [87,90,93,96,99,102,105,108,111,114,117,120,123,126,130] (bT (cU fg)) [])))),by kernel_rfl⟩
   cases fu;exact⟨so (os [42,45,48,51,54,57,60,63,66,69,72,75,78,82] (bT (cU fk)) (os [87,90,93,96,99,102,105,108,111,114,117,120,123,126,130] (bT rfl) [(10,oE (jV (aU bk))),(28,oE (jV dH))])),by kernel_rfl⟩
  refine bc J (fun hX J=> ?_) fun hX J=> ?_
  ·cases J;exact wr af [[(0,bT hX)],[]]
  exact ct af aN (v7+1,v10) [[(0,bF hX)],[(5,oq (bV bk rfl a7))]] ⟨bR bk,J⟩
def rb(N:Nat)(v2:Int):aiE aG→Nat→Int→(aiE aiF)→(aiE cf)→(aiE bX)→(aiE aG)→(aiE aiF)→aiG (aQ×Int)
 |[],_,v8,v9,v10,v11,v12,aE=>
  some ((⟨v9,v10,v11,v12,aE⟩:aQ),v8)
 |v6::v7,v4,v8,v9,v10,v11,v12,aE=>
  Option.bind (zd N (⟨v9,v10,v11,v12,aE⟩:aQ) v6.ao) fun aC=>
  bif (decide ((0:Int)≤aC))then
  Option.bind (v12[(aC).toNat]?) fun aP=>
  Option.bind (KU N aP.bx) fun aW=>
  bif (decide (aW>v2))then
   (fun b6 dZ b1_2 kA nP nj=>rb N v2 v7 (v4+1) b6 dZ b1_2 kA nP nj) v8 v9 v10 v11 v12 aE
  else
   Option.bind (zi N (⟨v9,v10,v11,v12,aE⟩:aQ) v6.ao) fun aH=>
   Option.bind (bif (aH.2==(0:Int))then Option.bind (rZ N aH.1 (⟨v9,v10,v11,v12,aE⟩:aQ)) fun aT=>
   some (!aT)else some false) fun bK=>
   bif bK then
    (fun b6 dZ b1_2 kA nP nj=>rb N v2 v7 (v4+1) b6 dZ b1_2 kA nP nj) (aV (v8+(1:Int))) aH.1.ba aH.1.cm aH.1.a8 aH.1.ay aH.1.cl
   else
    (fun b6 dZ b1_2 kA nP nj=>rb N v2 v7 (v4+1) b6 dZ b1_2 kA nP nj) v8 v9 v10 v11 v12 aE
  else none
def Cu(N:Nat)(v1:aQ)(v2:Int):aiG (aQ×Int):=
 Option.bind (vg N v1) fun v3=>
 bif (v3.2 !=(0:Int))then
  some (v1,(0:Int))
 else
  rb N v2 v1.ay 0 (0:Int) v1.ba v1.cm v1.a8 v1.ay v1.cl
theorem ach(N:Nat)(v1:aQ)(v2:Int)(r:aQ×Int)(J:Cu N v1 v2=some r):bg Tryz.prog 14 [(aS v1),(ak v2)] (·=(.cb [(aS r.1),(ak r.2)])):=by
 rw[Cu]at J;refine bD Tryz.func14 (by kernel_rfl) (by kernel_rfl) ?_;obtain⟨v3,h1,J⟩:=ar J;refine au af [[],[(4,cL (MN N v1 v3 h1))],[]] ?_;refine bc J (fun h2 J=> ?_) fun h2 J=> ?_
 ·cases J;exact wr af [[(0,bT h2)],[]]
 refine au af [[(0,bF h2)],[],[]] ?_;refine dX 0 3 (b8 v1.ay) (by kernel_rfl) fun h3=> ?_;have h4:=cd du h3;refine jt af 1 [] [1,2,4,8,9,10] 3 [] [(1,0),(1,1),(1,2),(1,3),(1,4)] (fun((v4,v5,v8,v9,v10,v11,v12,aE):Nat×(aiE aG)×Int×(aiE aiF)×(aiE cf)×(aiE bX)×(aiE aG)×(aiE aiF))=>⟨66,[(1,(ak v2)),(2,(.ptr 0 0)),(4,(.ptr 1 0)),(8,(.ptr 2 0)),(9,(ak v8)),(10,(ak (v4:Int)))],[.cells (aS v1).cells, .cells dv, .cells [(.d (.sl (aB v9))),(.d (.sl (bG v10))),(.d (.sl (bI v11))),(.d (.sl (b8 v12))),(.d (.sl (aB aE)))]]⟩) (fun((v4,v5,v8,v9,v10,v11,v12,aE):Nat×(aiE aG)×Int×(aiE aiF)×(aiE cf)×(aiE bX)×(aiE aG)×(aiE aiF))=>v1.ay.drop v4=v5∧rb N v2 v5 v4 v8 v9 v10 v11 v12 aE=some r) (fun((v4,v5,v8,v9,v10,v11,v12,aE):Nat×(aiE aG)×Int×(aiE aiF)×(aiE cf)×(aiE bX)×(aiE aG)×(aiE aiF))=>v5.length) (0,v1.ay,(0:Int),v1.ba,v1.cm,v1.a8,v1.ay,v1.cl) ⟨rfl,J⟩ ?_;rintro⟨v4,v5,v8,v9,v10,v11,v12,aE⟩ ⟨h5,J⟩ f1 aN;cases v5 with
 |nil=>
  rw[rb]at J;cases J;exact wr af [[(10,oL v1.ay du)],[(0,bF (bO h5))],[]]
 |cons v6 v7=>
  rw[rb]at J;obtain⟨aC,h6,J⟩:=ar J;obtain⟨h8,J⟩:=dg J;obtain⟨aP,h7,J⟩:=ar J;obtain⟨aW,h9,J⟩:=ar J;refine au af [[(10,oL v1.ay du)],[(0,bT (bN h5))],[(10,oE (fW (aU h5)))],[(13,cL (MI N (⟨v9,v10,v11,v12,aE⟩:aQ) v6.ao aC h6)),(16,⟨_,_, .el (xs:=b8 v12) (i:=aC) (of_decide_eq_true h8) (fW h7)⟩),(25,cL (acW N aP.bx aW h9))]] ?_;refine bc J (fun aA J=> ?_) fun aA J=> ?_
  ·exact gN af aN (v4+1,v7,v8,v9,v10,v11,v12,aE) [[(0,bT aA)],[(5,oq (bV h5 rfl h4))]] ⟨bR h5,J⟩
  obtain⟨aH,a7,J⟩:=ar J;refine au af [[(0,bF aA)],[(7,cL (YZ N (⟨v9,v10,v11,v12,aE⟩:aQ) v6.ao aH a7))]] ?_;obtain⟨bK,bm,J⟩:=ar J;refine cM af [(60,(aJ bK))] [.cells (aS v1).cells, .cells dv, .cells [(.d (.sl (aB v9))),(.d (.sl (bG v10))),(.d (.sl (bI v11))),(.d (.sl (b8 v12))),(.d (.sl (aB aE)))], .cells (aS aH.1).cells] ?_ ?_
  ·refine bc bm (fun bk bm=> ?_) fun bk bm=> ?_
   ·obtain⟨aT,cg,bm⟩:=ar bm;cases bm;exact⟨so (os [9,12,15,18,22] (bT bk) [(16,cL (Hz N aH.1 (⟨v9,v10,v11,v12,aE⟩:aQ) aT cg))]),by kernel_rfl⟩
   cases bm;exact⟨so (os [9,12,15,18,22] (bF bk) []),by kernel_rfl⟩
  refine bc J (fun bQ J=> ?_) fun bQ J=> ?_
  ·exact gN af aN (v4+1,v7,(aV (v8+(1:Int))),aH.1.ba,aH.1.cm,aH.1.a8,aH.1.ay,aH.1.cl) [[(0,bT bQ)],[],[],[(5,oq (bV h5 rfl h4))]] ⟨bR h5,J⟩
  exact gN af aN (v4+1,v7,v8,v9,v10,v11,v12,aE) [[(0,bF bQ)],[(5,oq (bV h5 rfl h4))]] ⟨bR h5,J⟩
def E4(N:Nat)(v1:aQ)(v2:Int):aiG Bool:=
 Option.bind (yX N v1 (60:Int)) fun v3=>
 Option.bind (bif v3 then some true else some (decide ((v1.ay.length:Int)>(6:Int)))) fun v4=>
 bif v4 then
  Option.bind (AA N) fun v5=>
  some v5
 else
  Option.bind (Ar N v1 v2) fun v6=>
  Option.bind (Cu N v1 v2) fun v7=>
  Option.bind (rZ N v6.1 v7.1) fun v8=>
  Option.bind (bif v8 then(bif (v6.2==v7.2)then Option.bind (AA N) fun v9=>
  some v9 else some false)else some false) fun v10=>
  some v10
theorem XB(N:Nat)(v1:aQ)(v2:Int)(r:Bool)(J:E4 N v1 v2=some r):bg Tryz.prog 4 [(aS v1),(ak v2)] (·=(aJ r)):=by
 rw[E4]at J;refine bD Tryz.func4 (by kernel_rfl) (by kernel_rfl) ?_;refine au af [[]] ?_;obtain⟨v3,h1,J⟩:=ar J;obtain⟨v4,h3,J⟩:=ar J;refine cM af [(16,(aJ v4))] [.cells (aS v1).cells] ?_ ?_
 ·refine bc h3 (fun h2 h3=> ?_) fun h2 h3=> ?_
  ·cases h3;exact⟨so (os [9,12,15,18,22] (bT h2) [(4,cL (RE N v1 (60:Int) v3 h1))]),by kernel_rfl⟩
  cases h3;exact⟨so (os [9,12,15,18,22] (bF h2) [(4,cL (RE N v1 (60:Int) v3 h1)),(16,oL v1.ay du)]),by kernel_rfl⟩
 refine bc J (fun h4 J=> ?_) fun h4 J=> ?_
 ·obtain⟨v5,h5,J⟩:=ar J;obtain rfl:=sj J;exact wr af [[(0,bT h4)],[(1,cL (NV N v5 h5))]]
 obtain⟨v6,h6,J⟩:=ar J;obtain⟨v7,h7,J⟩:=ar J;refine au af [[(0,bF h4)],[(7,cL (OA N v1 v2 v6 h6))],[(7,cL (ach N v1 v2 v7 h7))]] ?_;obtain⟨v8,h8,J⟩:=ar J;obtain⟨v10,bk,J⟩:=ar J;refine cM af [(4,(aJ v10))] [.cells (aS v1).cells, .cells (aS v6.1).cells, .cells (aS v7.1).cells] ?_ ?_
 ·refine bc bk (fun h9 bk=> ?_) fun h9 bk=> ?_
  ·refine bc bk (fun aA bk=> ?_) fun aA bk=> ?_
   ·obtain⟨v9,a7,bk⟩:=ar bk;obtain rfl:=sj bk;exact⟨so (os [12,15,18,22] (bT h9) (os [27,31] (bT aA) [(7,cL (Hz N v6.1 v7.1 v8 h8)),(28,cL (NV N v9 a7))])),by kernel_rfl⟩
   cases bk;exact⟨so (os [12,15,18,22] (bT h9) (os [27,31] (bF aA) [(7,cL (Hz N v6.1 v7.1 v8 h8))])),by kernel_rfl⟩
  cases bk;exact⟨so (os [12,15,18,22] (bF h9) (os [27,31] (bF rfl) [(7,cL (Hz N v6.1 v7.1 v8 h8))])),by kernel_rfl⟩
 cases J;exact wr af []
end Go.Proofs.YtphmhnabilhbgaaGreatDoor
