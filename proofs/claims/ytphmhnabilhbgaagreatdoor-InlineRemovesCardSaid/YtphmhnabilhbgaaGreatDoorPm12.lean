/-
  Part 12 of the proof: PQ6.
-/
import Derived.Test.YtphmhnabilhbgaaGreatDoorPm11
namespace Go.Proofs.YtphmhnabilhbgaaGreatDoor
open Go.RowKit
set_option maxRecDepth 100000
set_option maxHeartbeats 0
set_option linter.unusedVariables false
def HN(N:Nat)(v1:ar)(v2:ar):agW Bool:=
 Option.bind (O8 N v1 v2) fun v3=>
 some (v3==(0:Int))
theorem aam(N:Nat)(v1:ar)(v2:ar)(r:Bool)(J:HN N v1 v2=some r):bA Tryz.prog 117 [(aD v1),(aD v2)] (·=(aU r)):=by
 rw[HN]at J;refine bZ Tryz.func117 (by kernel_rfl) (by kernel_rfl) ?_;obtain⟨v3,h1,J⟩:=au J;cases J;exact wr ak [[],[(7,cL (XY N v1 v2 v3 h1))]]
def Jb(N:Nat)(v1:aG)(v2:aG):agW Bool:=
 Option.bind (bif (bL v1.aq==bL v2.aq)then(bif ((v1.aC.bW==v2.aC.bW)&&((v1.aC.ca==v2.aC.ca)&&((v1.aC.cF==v2.aC.cF)&&((v1.aC.cE==v2.aC.cE)&&((v1.aC.cJ==v2.aC.cJ)&&true)))))then(bif (v1.cG==v2.cG)then Option.bind (FT N v1.aS v2.aS) fun v3=>
 (bif v3 then Option.bind (FT N v1.bI v2.bI) fun v4=>
 (bif v4 then Option.bind (HN N v1.bq v2.bq) fun v5=>
 some v5 else some false)else some false)else some false)else some false)else some false) fun v6=>
 some v6
theorem Vx(N:Nat)(v1:aG)(v2:aG)(r:Bool)(J:Jb N v1 v2=some r):bA Tryz.prog 81 [(cp v1),(cp v2)] (·=(aU r)):=by
 rw[Jb]at J;refine bZ Tryz.func81 (by kernel_rfl) (by kernel_rfl) ?_;refine ax ak [[]] ?_;obtain⟨v6,h9,J⟩:=au J;refine dn ak [(4,(aU v6))] [.cells (cp v1).cells, .cells (cp v2).cells] ?_ ?_
 ·refine bc h9 (fun h1 h9=> ?_) fun h1 h9=> ?_
  ·refine bc h9 (fun h2 h9=> ?_) fun h2 h9=> ?_
   ·refine bc h9 (fun h3 h9=> ?_) fun h3 h9=> ?_
    ·obtain⟨v3,h4,h9⟩:=au h9;refine bc h9 (fun h5 h9=> ?_) fun h5 h9=> ?_
     ·obtain⟨v4,h6,h9⟩:=au h9;refine bc h9 (fun h7 h9=> ?_) fun h7 h9=> ?_
      ·obtain⟨v5,h8,h9⟩:=au h9;obtain rfl:=sj h9;exact⟨so (os [18,21,24,27,30,34] (bT h1) (os [39,42,45,48,51,55] (bT h2) (os [60,63,66,69,72,76] (bT h3) (os [81,84,87,90,93,97] (bT h5) (os [102,105,108,111,114,118] (bT h7) [(73,⟨_,_, .rq (cb:=[(.d (.sl (cm v1.aS))),(.d (.sl (cm v2.aS))),(.fn 116 [])]) (h:=[.cells (cp v1).cells, .cells (cp v2).cells]) (l:=[]) (by kernel_rfl) (by kernel_rfl) (by kernel_rfl) (by kernel_rfl) (Cb N v1.aS v2.aS v3 h4)⟩),(94,⟨_,_, .rq (cb:=[(.d (.sl (cm v1.bI))),(.d (.sl (cm v2.bI))),(.fn 116 [])]) (h:=[.cells (cp v1).cells, .cells (cp v2).cells]) (l:=[]) (by kernel_rfl) (by kernel_rfl) (by kernel_rfl) (by kernel_rfl) (Cb N v1.bI v2.bI v4 h6)⟩),(115,cL (aam N v1.bq v2.bq v5 h8))]))))),by kernel_rfl⟩
      cases h9;exact⟨so (os [18,21,24,27,30,34] (bT h1) (os [39,42,45,48,51,55] (bT h2) (os [60,63,66,69,72,76] (bT h3) (os [81,84,87,90,93,97] (bT h5) (os [102,105,108,111,114,118] (bF h7) [(73,⟨_,_, .rq (cb:=[(.d (.sl (cm v1.aS))),(.d (.sl (cm v2.aS))),(.fn 116 [])]) (h:=[.cells (cp v1).cells, .cells (cp v2).cells]) (l:=[]) (by kernel_rfl) (by kernel_rfl) (by kernel_rfl) (by kernel_rfl) (Cb N v1.aS v2.aS v3 h4)⟩),(94,⟨_,_, .rq (cb:=[(.d (.sl (cm v1.bI))),(.d (.sl (cm v2.bI))),(.fn 116 [])]) (h:=[.cells (cp v1).cells, .cells (cp v2).cells]) (l:=[]) (by kernel_rfl) (by kernel_rfl) (by kernel_rfl) (by kernel_rfl) (Cb N v1.bI v2.bI v4 h6)⟩)]))))),by kernel_rfl⟩
     cases h9;exact⟨so (os [18,21,24,27,30,34] (bT h1) (os [39,42,45,48,51,55] (bT h2) (os [60,63,66,69,72,76] (bT h3) (os [81,84,87,90,93,97] (bF h5) (os [102,105,108,111,114,118] (bF rfl) [(73,⟨_,_, .rq (cb:=[(.d (.sl (cm v1.aS))),(.d (.sl (cm v2.aS))),(.fn 116 [])]) (h:=[.cells (cp v1).cells, .cells (cp v2).cells]) (l:=[]) (by kernel_rfl) (by kernel_rfl) (by kernel_rfl) (by kernel_rfl) (Cb N v1.aS v2.aS v3 h4)⟩)]))))),by kernel_rfl⟩
    cases h9;exact⟨so (os [18,21,24,27,30,34] (bT h1) (os [39,42,45,48,51,55] (bT h2) (os [60,63,66,69,72,76] (bF h3) (os [81,84,87,90,93,97,102,105,108,111,114,118] (bF rfl) [])))),by kernel_rfl⟩
   cases h9;exact⟨so (os [18,21,24,27,30,34] (bT h1) (os [39,42,45,48,51,55] (bF h2) (os [60,63,66,69,72,76,81,84,87,90,93,97,102,105,108,111,114,118] (bF rfl) []))),by kernel_rfl⟩
  cases h9;exact⟨so (os [18,21,24,27,30,34] (bF h1) (os [39,42,45,48,51,55,60,63,66,69,72,76,81,84,87,90,93,97,102,105,108,111,114,118] (bF rfl) [])),by kernel_rfl⟩
 cases J;exact wr ak []
def zb(N:Nat)(v2:agU aG):agU aG→Nat→agW Bool
 |[],_=>
  some true
 |v5::v6,v3=>
  Option.bind (v2[((v3:Int)).toNat]?) fun v7=>
  Option.bind (Jb N v5 v7) fun v8=>
  bif v8 then
   (zb N v2 v6 (v3+1))
  else
   some false
def KI(N:Nat)(v1:agU aG)(v2:agU aG):agW Bool:=
 bif ((v1.length:Int) !=(v2.length:Int))then
  some false
 else
  zb N v2 v1 0
theorem Wc(N:Nat)(v1:agU aG)(v2:agU aG)(r:Bool)(J:KI N v1 v2=some r):bD Tryz.prog 80 [(.d (.sl (bP v1))),(.d (.sl (bP v2))),(.fn 81 [])] [] fun r1 h1=>r1=(aU r)∧h1=[]:=by
 rw[KI]at J;refine dS 0 Tryz.func80 (by kernel_rfl) (by kernel_rfl) (agd rfl) ?_;refine ax ak [[],[(4,oL v1 eI),(10,oL v2 eI)]] ?_;refine bc J (fun h1 J=> ?_) fun h1 J=> ?_
 ·cases J;exact bH ak [[(0,bT h1)],[]]
 refine ax ak [[(0,bF h1)],[(4,oL v1 eI)]] ?_;refine dj 0 (bP v1) (by kernel_rfl) fun h2=> ?_;have h3:=cP eI h2;refine c9 ak 1 [] [1,2,15,16,17] 0 (fun((v3,v4):Nat×(agU aG))=>⟨32,[(1,(.d (.sl (bP v2)))),(2,(.fn 81 [])),(15,(.d (.sl (bP v1)))),(16,(ao (v1.length:Int))),(17,(ao (v3:Int)))],[]⟩) (fun((v3,v4):Nat×(agU aG))=>v1.drop v3=v4∧zb N v2 v4 v3=some r) (fun((v3,v4):Nat×(agU aG))=>v4.length) (0,v1) ⟨rfl,J⟩ ?_;rintro⟨v3,v4⟩ ⟨h4,J⟩ f1 ba;cases v4 with
 |nil=>
  rw[zb]at J;cases J;exact bH ak [[],[(0,bF (ck h4))],[]]
 |cons v5 v6=>
  rw[zb]at J;obtain⟨v7,h5,J⟩:=au J;obtain⟨v8,h7,J⟩:=au J;refine ax ak [[],[(0,bT (cf h4))],[(4,oE (gP (bS h4)))],[(7,oE (gP h5))],[(10,cL (Vx N v5 v7 v8 h7))]] ?_;refine bc J (fun h8 J=> ?_) fun h8 J=> ?_
  ·exact cU ak ba (v3+1,v6) [[(0,bF (dH h8))],[(2,oq (cx h4 rfl h3))]] ⟨ct h4,J⟩
  cases J;exact bH ak [[(0,bT (dK h8))],[]]
def KK(N:Nat)(v1:aY)(v2:aY):agW Bool:=
 Option.bind (Gn N v1.bu v2.bu) fun v3=>
 Option.bind (bif v3 then Option.bind (Gn N v1.cu v2.cu) fun v4=>
 (bif v4 then Option.bind (Ie N v1.cM v2.cM) fun v5=>
 (bif v5 then Option.bind (Jv N v1.bk v2.bk) fun v6=>
 (bif v6 then Option.bind (KI N v1.ay v2.ay) fun v7=>
 some v7 else some false)else some false)else some false)else some false) fun v8=>
 some v8
theorem ae2(N:Nat)(v1:aY)(v2:aY)(r:Bool)(J:KK N v1 v2=some r):bA Tryz.prog 43 [(aZ v1),(aZ v2)] (·=(aU r)):=by
 rw[KK]at J;refine bZ Tryz.func43 (by kernel_rfl) (by kernel_rfl) ?_;refine ax ak [[]] ?_;obtain⟨v3,h1,J⟩:=au J;obtain⟨v8,aJ,J⟩:=au J;refine dn ak [(4,(aU v8))] [.cells (aZ v1).cells, .cells (aZ v2).cells] ?_ ?_
 ·refine bc aJ (fun h2 aJ=> ?_) fun h2 aJ=> ?_
  ·obtain⟨v4,h3,aJ⟩:=au aJ;refine bc aJ (fun h4 aJ=> ?_) fun h4 aJ=> ?_
   ·obtain⟨v5,h5,aJ⟩:=au aJ;refine bc aJ (fun h6 aJ=> ?_) fun h6 aJ=> ?_
    ·obtain⟨v6,h7,aJ⟩:=au aJ;refine bc aJ (fun h8 aJ=> ?_) fun h8 aJ=> ?_
     ·obtain⟨v7,h9,aJ⟩:=au aJ;obtain rfl:=sj aJ;exact⟨so (os [18,21,24,27,30,34] (bT h2) (os [39,42,45,48,51,55] (bT h4) (os [60,63,66,69,72,76] (bT h6) (os [81,84,87,90,93,97] (bT h8) [(13,cL (oK N v1.bu v2.bu v3 h1)),(31,cL (oK N v1.cu v2.cu v4 h3)),(52,⟨_,_, .rq (cb:=[(.d (.sl (bw v1.cM))),(.d (.sl (bw v2.cM))),(.fn 77 [])]) (h:=[.cells (aZ v1).cells, .cells (aZ v2).cells]) (l:=[]) (by kernel_rfl) (by kernel_rfl) (by kernel_rfl) (by kernel_rfl) (Hu N v1.cM v2.cM v5 h5)⟩),(73,⟨_,_, .rq (cb:=[(.d (.sl (bx v1.bk))),(.d (.sl (bx v2.bk))),(.fn 79 [])]) (h:=[.cells (aZ v1).cells, .cells (aZ v2).cells]) (l:=[]) (by kernel_rfl) (by kernel_rfl) (by kernel_rfl) (by kernel_rfl) (Ur N v1.bk v2.bk v6 h7)⟩),(94,⟨_,_, .rq (cb:=[(.d (.sl (bP v1.ay))),(.d (.sl (bP v2.ay))),(.fn 81 [])]) (h:=[.cells (aZ v1).cells, .cells (aZ v2).cells]) (l:=[]) (by kernel_rfl) (by kernel_rfl) (by kernel_rfl) (by kernel_rfl) (Wc N v1.ay v2.ay v7 h9)⟩)])))),by kernel_rfl⟩
     cases aJ;exact⟨so (os [18,21,24,27,30,34] (bT h2) (os [39,42,45,48,51,55] (bT h4) (os [60,63,66,69,72,76] (bT h6) (os [81,84,87,90,93,97] (bF h8) [(13,cL (oK N v1.bu v2.bu v3 h1)),(31,cL (oK N v1.cu v2.cu v4 h3)),(52,⟨_,_, .rq (cb:=[(.d (.sl (bw v1.cM))),(.d (.sl (bw v2.cM))),(.fn 77 [])]) (h:=[.cells (aZ v1).cells, .cells (aZ v2).cells]) (l:=[]) (by kernel_rfl) (by kernel_rfl) (by kernel_rfl) (by kernel_rfl) (Hu N v1.cM v2.cM v5 h5)⟩),(73,⟨_,_, .rq (cb:=[(.d (.sl (bx v1.bk))),(.d (.sl (bx v2.bk))),(.fn 79 [])]) (h:=[.cells (aZ v1).cells, .cells (aZ v2).cells]) (l:=[]) (by kernel_rfl) (by kernel_rfl) (by kernel_rfl) (by kernel_rfl) (Ur N v1.bk v2.bk v6 h7)⟩)])))),by kernel_rfl⟩
    cases aJ;exact⟨so (os [18,21,24,27,30,34] (bT h2) (os [39,42,45,48,51,55] (bT h4) (os [60,63,66,69,72,76] (bF h6) (os [81,84,87,90,93,97] (bF rfl) [(13,cL (oK N v1.bu v2.bu v3 h1)),(31,cL (oK N v1.cu v2.cu v4 h3)),(52,⟨_,_, .rq (cb:=[(.d (.sl (bw v1.cM))),(.d (.sl (bw v2.cM))),(.fn 77 [])]) (h:=[.cells (aZ v1).cells, .cells (aZ v2).cells]) (l:=[]) (by kernel_rfl) (by kernel_rfl) (by kernel_rfl) (by kernel_rfl) (Hu N v1.cM v2.cM v5 h5)⟩)])))),by kernel_rfl⟩
   cases aJ;exact⟨so (os [18,21,24,27,30,34] (bT h2) (os [39,42,45,48,51,55] (bF h4) (os [60,63,66,69,72,76,81,84,87,90,93,97] (bF rfl) [(13,cL (oK N v1.bu v2.bu v3 h1)),(31,cL (oK N v1.cu v2.cu v4 h3))]))),by kernel_rfl⟩
  cases aJ;exact⟨so (os [18,21,24,27,30,34] (bF h2) (os [39,42,45,48,51,55,60,63,66,69,72,76,81,84,87,90,93,97] (bF rfl) [(13,cL (oK N v1.bu v2.bu v3 h1))])),by kernel_rfl⟩
 cases J;exact wr ak []
def tC(N:Nat)(v2:Int):agU aG→Nat→Int→(agU agV)→(agU cv)→(agU bN)→(agU aG)→(agU agV)→agW (aY×Int)
 |[],_,v9,v10,v11,v12,aH,aA=>
  some ((⟨v10,v11,v12,aH,aA⟩:aY),v9)
 |v7::v8,v5,v9,v10,v11,v12,aH,aA=>
  Option.bind (rH N (⟨v10,v11,v12,aH,aA⟩:aY) v7.aq) fun aT=>
  Option.bind (bif (decide (aT<(0:Int)))then some true else bif (decide ((0:Int)≤aT))then
  Option.bind (aH[(aT).toNat]?) fun aX=>
  Option.bind (NB N aX.bq) fun aK=>
  some (decide (aK>v2))
  else none) fun aR=>
  bif aR then
   (fun bE dP kM nh y4 zt=>tC N v2 v8 (v5+1) bE dP kM nh y4 zt) v9 v10 v11 v12 aH aA
  else
   Option.bind (p6 N (⟨v10,v11,v12,aH,aA⟩:aY) v7.aq) fun bG=>
   Option.bind (bif (bG.2==(0:Int))then Option.bind (KK N bG.1 (⟨v10,v11,v12,aH,aA⟩:aY)) fun v20=>
   some (!v20)else some false) fun v21=>
   bif v21 then
    (fun bE dP kM nh y4 zt=>tC N v2 v8 (v5+1) bE dP kM nh y4 zt) (a8 (v9+(1:Int))) bG.1.bu bG.1.cM bG.1.bk bG.1.ay bG.1.cu
   else
    (fun bE dP kM nh y4 zt=>tC N v2 v8 (v5+1) bE dP kM nh y4 zt) v9 v10 v11 v12 aH aA
def K6(N:Nat)(v1:aY)(v2:Int):agW (aY×Int):=
 Option.bind (sK N v1) fun v3=>
 bif (Nat.beq v3.2.2.2.2.2.length v3.2.2.2.1)then
 Option.bind (se N v1) fun v4=>
 bif (v4.2 !=(0:Int))then
  some ((⟨v3.1,v3.2.1,v3.2.2.1,v3.2.2.2.2.2,v3.2.2.2.2.1⟩:aY),(0:Int))
 else
  tC N v2 v1.ay 0 (0:Int) v3.1 v3.2.1 v3.2.2.1 v3.2.2.2.2.2 v3.2.2.2.2.1
 else none
theorem aao(N:Nat)(v1:aY)(v2:Int)(r:aY×Int)(J:K6 N v1 v2=some r):bA Tryz.prog 13 [(aZ v1),(ao v2)] (·=(.bU [(aZ r.1),(ao r.2)])):=by
 rw[K6]at J;refine bZ Tryz.func13 (by kernel_rfl) (by kernel_rfl) ?_;obtain⟨v3,h1,J⟩:=au J;obtain⟨h2,J⟩:=dO J;refine ax ak [[],[(4,⟨_,_, .lT ij (oS (xn (oS (qK (qK (lv (xs:=(v3.2.2.2.2.2.map b6)) ij)))))) (cb:=[(aZ v1)]) (h:=[.cells (aZ v1).cells, .cells di]) (l:=[]) (by kernel_rfl) (by kernel_rfl) (by kernel_rfl) (by kernel_rfl) (DN N v1 v3 h1)⟩)]] ?_;refine DO [1,2,4,6] 7 (bP v3.2.2.2.2.2) v3.2.2.2.1 2 54 22 [.dat (v3.2.2.2.2.2.map b6)] (rR (agk h2)) (me _) (qt (fun _=>rfl) _) ?_;obtain⟨v4,h3,J⟩:=au J;refine ax ak [[(4,cL (ES N v1 v4 h3))],[]] ?_;refine bc J (fun h4 J=> ?_) fun h4 J=> ?_
 ·cases J;exact wr ak [[(0,bT h4)],[]]
 refine ax ak [[(0,bF h4)],[],[(7,oL v1.ay eI)]] ?_;refine VS 8 ?_;refine dj 26 (bP v1.ay) (by kernel_rfl) fun h5=> ?_;have h6:=cP eI h5;refine pv ak 1 [] [1,4,6,9,26,27,28] 9 [] [(1,0),(1,1),(1,2),(1,3),(1,4)] (fun((v5,v6,v9,v10,v11,v12,aH,aA):Nat×(agU aG)×Int×(agU agV)×(agU cv)×(agU bN)×(agU aG)×(agU agV))=>⟨70,[(1,(ao v2)),(4,(.ptr 1 0)),(6,(.ptr 8 0)),(9,(ao v9)),(26,(.d (.sl (bP v1.ay)))),(27,(ao (v1.ay.length:Int))),(28,(ao (v5:Int)))],[.cells (aZ v1).cells, .cells di, .gone, .cells [(.d (.sl (aB v3.1))),(.own 5 (bw v3.2.1)),(.own 6 (bx v3.2.2.1)),(.d (.sl (bP v3.2.2.2.2.2))),(.d (.sl (aB v3.2.2.2.2.1)))], .gone, .front 57 3 v3.2.1.length, .front 60 7 v3.2.2.1.length, .gone, .cells [(.d (.sl (aB v10))),(.d (.sl (bw v11))),(.d (.sl (bx v12))),(.d (.sl (bP aH))),(.d (.sl (aB aA)))]]⟩) (fun((v5,v6,v9,v10,v11,v12,aH,aA):Nat×(agU aG)×Int×(agU agV)×(agU cv)×(agU bN)×(agU aG)×(agU agV))=>v1.ay.drop v5=v6∧tC N v2 v6 v5 v9 v10 v11 v12 aH aA=some r) (fun((v5,v6,v9,v10,v11,v12,aH,aA):Nat×(agU aG)×Int×(agU agV)×(agU cv)×(agU bN)×(agU aG)×(agU agV))=>v6.length) (0,v1.ay,(0:Int),v3.1,v3.2.1,v3.2.2.1,v3.2.2.2.2.2,v3.2.2.2.2.1) ⟨rfl,J⟩ ?_
 rintro⟨v5,v6,v9,v10,v11,v12,aH,aA⟩ ⟨h7,J⟩ f1 ba;cases v6 with
 |nil=>
  rw[tC]at J;cases J;exact wr ak [[],[(0,bF (ck h7))],[]]
 |cons v7 v8=>
  rw[tC]at J;obtain⟨aT,h8,J⟩:=au J;refine ax ak [[],[(0,bT (cf h7))],[(1,oE (gP (bS h7)))],[(10,cL (yZ N (⟨v10,v11,v12,aH,aA⟩:aY) v7.aq aT h8))]] ?_;obtain⟨aR,dg,J⟩:=au J;refine dn ak [(48,(aU aR))] [.cells (aZ v1).cells, .cells di, .gone, .cells [(.d (.sl (aB v3.1))),(.own 5 (bw v3.2.1)),(.own 6 (bx v3.2.2.1)),(.d (.sl (bP v3.2.2.2.2.2))),(.d (.sl (aB v3.2.2.2.2.1)))], .gone, .front 57 3 v3.2.1.length, .front 60 7 v3.2.2.1.length, .gone, .cells [(.d (.sl (aB v10))),(.d (.sl (bw v11))),(.d (.sl (bx v12))),(.d (.sl (bP aH))),(.d (.sl (aB aA)))], .cells (cp v7).cells] ?_ ?_
  ·refine bc dg (fun h9 dg=> ?_) fun h9 dg=> ?_
   ·cases dg;exact⟨so (os [9,12,15,18,21,24,27,30,33,37] (bT h9) []),by kernel_rfl⟩
   obtain⟨bQ,dg⟩:=dO dg;obtain⟨aX,aJ,dg⟩:=au dg;obtain⟨aK,cl,dg⟩:=au dg;cases dg;exact⟨so (os [9,12,15,18,21,24,27,30,33,37] (bF h9) [(19,⟨_,_, .el (xs:=bP aH) (i:=aT) (of_decide_eq_true bQ) (gP aJ)⟩),(28,cL (aaU N aX.bq aK cl))]),by kernel_rfl⟩
  refine bc J (fun cg J=> ?_) fun cg J=> ?_
  ·exact nu ak ba (v5+1,v8,v9,v10,v11,v12,aH,aA) [[(0,bT cg)],[(2,oq (cx h7 rfl h6))]] ⟨ct h7,J⟩
  obtain⟨bG,cV,J⟩:=au J;refine ax ak [[(0,bF cg)],[(10,cL (HV N (⟨v10,v11,v12,aH,aA⟩:aY) v7.aq bG cV))]] ?_;obtain⟨v21,cr,J⟩:=au J;refine dn ak [(63,(aU v21))] [.cells (aZ v1).cells, .cells di, .gone, .cells [(.d (.sl (aB v3.1))),(.own 5 (bw v3.2.1)),(.own 6 (bx v3.2.2.1)),(.d (.sl (bP v3.2.2.2.2.2))),(.d (.sl (aB v3.2.2.2.2.1)))], .gone, .front 57 3 v3.2.1.length, .front 60 7 v3.2.2.1.length, .gone, .cells [(.d (.sl (aB v10))),(.d (.sl (bw v11))),(.d (.sl (bx v12))),(.d (.sl (bP aH))),(.d (.sl (aB aA)))], .cells (cp v7).cells, .cells (aZ bG.1).cells] ?_ ?_
  ·refine bc cr (fun b9 cr=> ?_) fun b9 cr=> ?_
   ·obtain⟨v20,c8,cr⟩:=au cr;cases cr;exact⟨so (os [9,12,15,18,22] (bT b9) [(16,cL (ae2 N bG.1 (⟨v10,v11,v12,aH,aA⟩:aY) v20 c8))]),by kernel_rfl⟩
   cases cr;exact⟨so (os [9,12,15,18,22] (bF b9) []),by kernel_rfl⟩
  refine bc J (fun dk J=> ?_) fun dk J=> ?_
  ·exact nu ak ba (v5+1,v8,(a8 (v9+(1:Int))),bG.1.bu,bG.1.cM,bG.1.bk,bG.1.ay,bG.1.cu) [[(0,bT dk)],[],[],[(2,oq (cx h7 rfl h6))]] ⟨ct h7,J⟩
  exact nu ak ba (v5+1,v8,v9,v10,v11,v12,aH,aA) [[(0,bF dk)],[(2,oq (cx h7 rfl h6))]] ⟨ct h7,J⟩
def Co(N:Nat)(v2:aw):agU aF→Nat→agW Bool
 |[],_=>
  some true
 |v6::v7,v4=>
  Option.bind (v2.xL[((v4:Int)).toNat]?) fun v8=>
  bif ((bL v6.aq==bL v8.aq)&&((v6.cZ.toInt==v8.cZ.toInt)&&true))then
   (Co N v2 v7 (v4+1))
  else
   some false
def BO(N:Nat)(v1:aw)(v2:aw):agW Bool:=
 Option.bind (bif (v1.xK.toInt !=v2.xK.toInt)then some true else some ((v1.xL.length:Int) !=(v2.xL.length:Int))) fun v3=>
 bif v3 then
  some false
 else
  Co N v2 v1.xL 0
theorem wg(N:Nat)(v1:aw)(v2:aw)(r:Bool)(J:BO N v1 v2=some r):bA Tryz.prog 48 [(bY v1),(bY v2)] (·=(aU r)):=by
 rw[BO]at J;refine bZ Tryz.func48 (by kernel_rfl) (by kernel_rfl) ?_;refine ax ak [[]] ?_;obtain⟨v3,h2,J⟩:=au J;refine dn ak [(19,(aU v3))] [.cells (bY v1).cells, .cells (bY v2).cells] ?_ ?_
 ·refine bc h2 (fun h1 h2=> ?_) fun h1 h2=> ?_
  ·cases h2;exact⟨so (os [18,21,24,27,30,33,36,40] (bT h1) []),by kernel_rfl⟩
  cases h2;exact⟨so (os [18,21,24,27,30,33,36,40] (bF h1) [(25,oL v1.xL cS),(34,oL v2.xL cS)]),by kernel_rfl⟩
 refine bc J (fun h3 J=> ?_) fun h3 J=> ?_
 ·cases J;exact wr ak [[(0,bT h3)],[]]
 refine ax ak [[(0,bF h3)],[]] ?_;refine oD 0 1 (bJ v1.xL) (by kernel_rfl) fun h4=> ?_;have h5:=cP cS h4;refine c9 ak 1 [] [2,3,5] 2 (fun((v4,v5):Nat×(agU aF))=>⟨38,[(2,(.ptr 0 0)),(3,(.ptr 1 0)),(5,(ao (v4:Int)))],[.cells (bY v1).cells, .cells (bY v2).cells]⟩) (fun((v4,v5):Nat×(agU aF))=>v1.xL.drop v4=v5∧Co N v2 v5 v4=some r) (fun((v4,v5):Nat×(agU aF))=>v5.length) (0,v1.xL) ⟨rfl,J⟩ ?_;rintro⟨v4,v5⟩ ⟨h6,J⟩ f1 ba;cases v5 with
 |nil=>
  rw[Co]at J;cases J;exact wr ak [[(10,oL v1.xL cS)],[(0,bF (ck h6))],[]]
 |cons v6 v7=>
  rw[Co]at J;obtain⟨v8,h7,J⟩:=au J;refine ax ak [[(10,oL v1.xL cS)],[(0,bT (cf h6))],[(10,oE (gV (bS h6))),(25,oE (gV h7))]] ?_;refine bc J (fun h9 J=> ?_) fun h9 J=> ?_
  ·exact cU ak ba (v4+1,v7) [[(0,bF (dH h9))],[(5,oq (cx h6 rfl h5))]] ⟨ct h6,J⟩
  cases J;exact wr ak [[(0,bT (dK h9))],[]]
def yT(N:Nat)(v2:agU aw):agU aw→Nat→agW Bool
 |[],_=>
  some true
 |v5::v6,v3=>
  Option.bind (v2[((v3:Int)).toNat]?) fun v7=>
  Option.bind (BO N v5 v7) fun v8=>
  bif v8 then
   (yT N v2 v6 (v3+1))
  else
   some false
def Iz(N:Nat)(v1:agU aw)(v2:agU aw):agW Bool:=
 bif ((v1.length:Int) !=(v2.length:Int))then
  some false
 else
  yT N v2 v1 0
theorem afw(N:Nat)(v1:agU aw)(v2:agU aw)(r:Bool)(J:Iz N v1 v2=some r):bA Tryz.prog 40 [(.d (.sl (cH v1))),(.d (.sl (cH v2)))] (·=(aU r)):=by
 rw[Iz]at J;refine bZ Tryz.func40 (by kernel_rfl) (by kernel_rfl) ?_;refine ax ak [[],[(4,oL v1 cd),(10,oL v2 cd)]] ?_;refine bc J (fun h1 J=> ?_) fun h1 J=> ?_
 ·cases J;exact wr ak [[(0,bT h1)],[]]
 refine ax ak [[(0,bF h1)],[]] ?_;refine dj 0 (cH v1) (by kernel_rfl) fun h2=> ?_;have h3:=cP cd h2;refine c9 ak 1 [] [0,1,5] 0 (fun((v3,v4):Nat×(agU aw))=>⟨27,[(0,(.d (.sl (cH v1)))),(1,(.d (.sl (cH v2)))),(5,(ao (v3:Int)))],[]⟩) (fun((v3,v4):Nat×(agU aw))=>v1.drop v3=v4∧yT N v2 v4 v3=some r) (fun((v3,v4):Nat×(agU aw))=>v4.length) (0,v1) ⟨rfl,J⟩ ?_;rintro⟨v3,v4⟩ ⟨h4,J⟩ f1 ba;cases v4 with
 |nil=>
  rw[yT]at J;cases J;exact wr ak [[(7,oL v1 cd)],[(0,bF (ck h4))],[]]
 |cons v5 v6=>
  rw[yT]at J;obtain⟨v7,h5,J⟩:=au J;obtain⟨v8,h7,J⟩:=au J;refine ax ak [[(7,oL v1 cd)],[(0,bT (cf h4))],[(7,oE (ku (bS h4))),(19,oE (ku h5)),(25,cL (wg N v5 v7 v8 h7))]] ?_;refine bc J (fun h8 J=> ?_) fun h8 J=> ?_
  ·exact cU ak ba (v3+1,v6) [[(0,bF (dH h8))],[(5,oq (cx h4 rfl h3))]] ⟨ct h4,J⟩
  cases J;exact wr ak [[(0,bT (dK h8))],[]]
def J6(N:Nat)(v1:az)(v2:az):agW Bool:=
 Option.bind (bif (bL v1.aV==bL v2.aV)then Option.bind (BO N v1.aL v2.aL) fun v3=>
 (bif v3 then Option.bind (Iz N v1.bj v2.bj) fun v4=>
 some v4 else some false)else some false) fun v5=>
 some v5
theorem aaa(N:Nat)(v1:az)(v2:az)(r:Bool)(J:J6 N v1 v2=some r):bA Tryz.prog 84 [(eC v1),(eC v2)] (·=(aU r)):=by
 rw[J6]at J;refine bZ Tryz.func84 (by kernel_rfl) (by kernel_rfl) ?_;refine ax ak [[]] ?_;obtain⟨v5,h5,J⟩:=au J;refine dn ak [(4,(aU v5))] [.cells (eC v1).cells, .cells (eC v2).cells] ?_ ?_
 ·refine bc h5 (fun h1 h5=> ?_) fun h1 h5=> ?_
  ·obtain⟨v3,h2,h5⟩:=au h5;refine bc h5 (fun h3 h5=> ?_) fun h3 h5=> ?_
   ·obtain⟨v4,h4,h5⟩:=au h5;obtain rfl:=sj h5;exact⟨so (os [18,21,24,27,30,34] (bT h1) (os [39,42,45,48,51,55] (bT h3) [(31,cL (wg N v1.aL v2.aL v3 h2)),(52,cL (afw N v1.bj v2.bj v4 h4))])),by kernel_rfl⟩
   cases h5;exact⟨so (os [18,21,24,27,30,34] (bT h1) (os [39,42,45,48,51,55] (bF h3) [(31,cL (wg N v1.aL v2.aL v3 h2))])),by kernel_rfl⟩
  cases h5;exact⟨so (os [18,21,24,27,30,34] (bF h1) (os [39,42,45,48,51,55] (bF rfl) [])),by kernel_rfl⟩
 cases J;exact wr ak []
def Bv(N:Nat)(v2:agU az):agU az→Nat→agW Bool
 |[],_=>
  some true
 |v5::v6,v3=>
  Option.bind (v2[((v3:Int)).toNat]?) fun v7=>
  Option.bind (J6 N v5 v7) fun v8=>
  bif v8 then
   (Bv N v2 v6 (v3+1))
  else
   some false
def Ld(N:Nat)(v1:agU az)(v2:agU az):agW Bool:=
 bif ((v1.length:Int) !=(v2.length:Int))then
  some false
 else
  Bv N v2 v1 0
theorem P2(N:Nat)(v1:agU az)(v2:agU az)(r:Bool)(J:Ld N v1 v2=some r):bA Tryz.prog 49 [(.d (.sl (bC v1))),(.d (.sl (bC v2)))] (·=(aU r)):=by
 rw[Ld]at J;refine bZ Tryz.func49 (by kernel_rfl) (by kernel_rfl) ?_;refine ax ak [[],[(4,oL v1 cW),(10,oL v2 cW)]] ?_;refine bc J (fun h1 J=> ?_) fun h1 J=> ?_
 ·cases J;exact wr ak [[(0,bT h1)],[]]
 refine ax ak [[(0,bF h1)],[]] ?_;refine dj 0 (bC v1) (by kernel_rfl) fun h2=> ?_;have h3:=cP cW h2;refine c9 ak 1 [] [0,1,5] 0 (fun((v3,v4):Nat×(agU az))=>⟨27,[(0,(.d (.sl (bC v1)))),(1,(.d (.sl (bC v2)))),(5,(ao (v3:Int)))],[]⟩) (fun((v3,v4):Nat×(agU az))=>v1.drop v3=v4∧Bv N v2 v4 v3=some r) (fun((v3,v4):Nat×(agU az))=>v4.length) (0,v1) ⟨rfl,J⟩ ?_;rintro⟨v3,v4⟩ ⟨h4,J⟩ f1 ba;cases v4 with
 |nil=>
  rw[Bv]at J;cases J;exact wr ak [[(7,oL v1 cW)],[(0,bF (ck h4))],[]]
 |cons v5 v6=>
  rw[Bv]at J;obtain⟨v7,h5,J⟩:=au J;obtain⟨v8,h7,J⟩:=au J;refine ax ak [[(7,oL v1 cW)],[(0,bT (cf h4))],[(7,oE (ik (bS h4))),(19,oE (ik h5)),(25,cL (aaa N v5 v7 v8 h7))]] ?_;refine bc J (fun h8 J=> ?_) fun h8 J=> ?_
  ·exact cU ak ba (v3+1,v6) [[(0,bF (dH h8))],[(5,oq (cx h4 rfl h3))]] ⟨ct h4,J⟩
  cases J;exact wr ak [[(0,bT (dK h8))],[]]
def Ci(N:Nat)(v2:agU ar)(QF:ar→ar→agW Bool):agU ar→Nat→agW Bool
 |[],_=>
  some true
 |v5::v6,v3=>
  Option.bind (v2[((v3:Int)).toNat]?) fun v7=>
  Option.bind (QF v5 v7) fun v8=>
  bif v8 then
   (Ci N v2 QF v6 (v3+1))
  else
   some false
mutual
def w7(N:Nat):Nat→ar→ar→agW Bool
 |0,_,_=>none
 |d+1,v1,v2=>
  Option.bind (bif (v1.aQ==v2.aQ)then(bif (bL v1.aq==bL v2.aq)then(bif ((v1.dm.xN.toInt==v2.dm.xN.toInt)&&((v1.dm.xD.toInt==v2.dm.xD.toInt)&&true))then(bif ((v1.aC.bW==v2.aC.bW)&&((v1.aC.ca==v2.aC.ca)&&((v1.aC.cF==v2.aC.cF)&&((v1.aC.cE==v2.aC.cE)&&((v1.aC.cJ==v2.aC.cJ)&&true)))))then Option.bind (BO N v1.aL v2.aL) fun v3=>
  (bif v3 then Option.bind (Ld N v1.xIdx v2.xIdx) fun v4=>
  (bif v4 then Option.bind ((GL N d) v1.a7 v2.a7) fun v5=>
  some v5 else some false)else some false)else some false)else some false)else some false)else some false) fun v6=>
  some v6
def GL(N:Nat):Nat→(agU ar)→(agU ar)→agW Bool
 |0,_,_=>none
 |d+1,v1,v2=>
  bif ((v1.length:Int) !=(v2.length:Int))then
   some false
  else
   Ci N v2 (w7 N d) v1 0
end
def RC(N:Nat)(v1:ar)(v2:ar):agW Bool:=w7 N N v1 v2
theorem Xx(N:Nat):∀d:Nat,(∀(v1:ar)(v2:ar)(r:Bool),w7 N d v1 v2=some r→bA Tryz.prog 25 [(aD v1),(aD v2)] (·=(aU r)))∧(∀(v1:agU ar)(v2:agU ar)(r:Bool),GL N d v1 v2=some r→bA Tryz.prog 50 [(.d (.sl (cQ v1))),(.d (.sl (cQ v2)))] (·=(aU r))):=by
 intro d
 induction d with
 |zero=>exact⟨fun v1 v2 r J=>(by rw[w7]at J;cases J),fun v1 v2 r J=>(by rw[GL]at J;cases J)⟩
 |succ d ih=>
  have X5:=ih.1;have aaC:=ih.2;refine⟨?_,?_⟩
  ·intro v1 v2 r J;rw[w7]at J;refine bZ Tryz.func25 (by kernel_rfl) (by kernel_rfl) ?_;refine ax ak [[]] ?_;obtain⟨v6,aJ,J⟩:=au J;refine dn ak [(4,(aU v6))] [.cells (aD v1).cells, .cells (aD v2).cells] ?_ ?_
   ·refine bc aJ (fun h1 aJ=> ?_) fun h1 aJ=> ?_
    ·refine bc aJ (fun h2 aJ=> ?_) fun h2 aJ=> ?_
     ·refine bc aJ (fun h3 aJ=> ?_) fun h3 aJ=> ?_
      ·refine bc aJ (fun h4 aJ=> ?_) fun h4 aJ=> ?_
       ·obtain⟨v3,h5,aJ⟩:=au aJ;refine bc aJ (fun h6 aJ=> ?_) fun h6 aJ=> ?_
        ·obtain⟨v4,h7,aJ⟩:=au aJ;refine bc aJ (fun h8 aJ=> ?_) fun h8 aJ=> ?_
         ·obtain⟨v5,h9,aJ⟩:=au aJ;obtain rfl:=sj aJ;exact⟨so (os [18,21,24,27,30,34] (bT h1) (os [39,42,45,48,51,55] (bT h2) (os [60,63,66,69,72,76] (bT h3) (os [81,84,87,90,93,97] (bT h4) (os [102,105,108,111,114,118] (bT h6) (os [123,126,129,132,135,139] (bT h8) [(94,cL (wg N v1.aL v2.aL v3 h5)),(115,cL (P2 N v1.xIdx v2.xIdx v4 h7)),(136,cL (aaC v1.a7 v2.a7 v5 h9))])))))),by kernel_rfl⟩
         cases aJ;exact⟨so (os [18,21,24,27,30,34] (bT h1) (os [39,42,45,48,51,55] (bT h2) (os [60,63,66,69,72,76] (bT h3) (os [81,84,87,90,93,97] (bT h4) (os [102,105,108,111,114,118] (bT h6) (os [123,126,129,132,135,139] (bF h8) [(94,cL (wg N v1.aL v2.aL v3 h5)),(115,cL (P2 N v1.xIdx v2.xIdx v4 h7))])))))),by kernel_rfl⟩
        cases aJ;exact⟨so (os [18,21,24,27,30,34] (bT h1) (os [39,42,45,48,51,55] (bT h2) (os [60,63,66,69,72,76] (bT h3) (os [81,84,87,90,93,97] (bT h4) (os [102,105,108,111,114,118] (bF h6) (os [123,126,129,132,135,139] (bF rfl) [(94,cL (wg N v1.aL v2.aL v3 h5))])))))),by kernel_rfl⟩
       cases aJ;exact⟨so (os [18,21,24,27,30,34] (bT h1) (os [39,42,45,48,51,55] (bT h2) (os [60,63,66,69,72,76] (bT h3) (os [81,84,87,90,93,97] (bF h4) (os [102,105,108,111,114,118,123,126,129,132,135,139] (bF rfl) []))))),by kernel_rfl⟩
      cases aJ;exact⟨so (os [18,21,24,27,30,34] (bT h1) (os [39,42,45,48,51,55] (bT h2) (os [60,63,66,69,72,76] (bF h3) (os [81,84,87,90,93,97,102,105,108,111,114,118,123,126,129,132,135,139] (bF rfl) [])))),by kernel_rfl⟩
     cases aJ;exact⟨so (os [18,21,24,27,30,34] (bT h1) (os [39,42,45,48,51,55] (bF h2) (os [60,63,66,69,72,76,81,84,87,90,93,97,102,105,108,111,114,118,123,126,129,132,135,139] (bF rfl) []))),by kernel_rfl⟩
    cases aJ;exact⟨so (os [18,21,24,27,30,34] (bF h1) (os [39,42,45,48,51,55,60,63,66,69,72,76,81,84,87,90,93,97,102,105,108,111,114,118,123,126,129,132,135,139] (bF rfl) [])),by kernel_rfl⟩
   cases J;exact wr ak []
  intro v1 v2 r J;rw[GL]at J;refine bZ Tryz.func50 (by kernel_rfl) (by kernel_rfl) ?_;refine ax ak [[],[(4,oL v1 da),(10,oL v2 da)]] ?_;refine bc J (fun h1 J=> ?_) fun h1 J=> ?_
  ·cases J;exact wr ak [[(0,bT h1)],[]]
  refine ax ak [[(0,bF h1)],[]] ?_;refine dj 0 (cQ v1) (by kernel_rfl) fun h2=> ?_;have h3:=cP da h2;refine c9 ak 1 [] [0,1,5] 0 (fun((v3,v4):Nat×(agU ar))=>⟨27,[(0,(.d (.sl (cQ v1)))),(1,(.d (.sl (cQ v2)))),(5,(ao (v3:Int)))],[]⟩) (fun((v3,v4):Nat×(agU ar))=>v1.drop v3=v4∧Ci N v2 (w7 N d) v4 v3=some r) (fun((v3,v4):Nat×(agU ar))=>v4.length) (0,v1) ⟨rfl,J⟩ ?_;rintro⟨v3,v4⟩ ⟨h4,J⟩ f1 ba;cases v4 with
  |nil=>
   rw[Ci]at J;cases J;exact wr ak [[(7,oL v1 da)],[(0,bF (ck h4))],[]]
  |cons v5 v6=>
   rw[Ci]at J;obtain⟨v7,h5,J⟩:=au J;obtain⟨v8,h7,J⟩:=au J;refine ax ak [[(7,oL v1 da)],[(0,bT (cf h4))],[(7,oE (lh (bS h4))),(19,oE (lh h5)),(25,cL (X5 v5 v7 v8 h7))]] ?_;refine bc J (fun h8 J=> ?_) fun h8 J=> ?_
   ·exact cU ak ba (v3+1,v6) [[(0,bF (dH h8))],[(5,oq (cx h4 rfl h3))]] ⟨ct h4,J⟩
   cases J;exact wr ak [[(0,bT (dK h8))],[]]
theorem O9(N:Nat)(v1:ar)(v2:ar)(r:Bool)(J:RC N v1 v2=some r):bA Tryz.prog 25 [(aD v1),(aD v2)] (·=(aU r)):=(Xx N N).1 v1 v2 r J
def qL(N:Nat):agW Bool:=
 Option.bind (FK N (bs [110])) fun v1=>
 Option.bind (FK N (bs [105])) fun v2=>
 Option.bind (AR N v2 (1:Int) (bs []) (⟨(1:Int64),(1:Int64)⟩:fO) (⟨(1:Int),(0:Int),(0:Int),(0:Int),(0:Int)⟩:bn) (0:Int64)) fun v3=>
 Option.bind (Ax N (bs [118]) [v2]) fun v4=>
 Option.bind (Ax N (bs [118]) ([dB])) fun v5=>
 Option.bind (FB N v4 v5) fun v6=>
 Option.bind (p6 N (⟨[(bs [110])],[],[(⟨(bs [97]),(⟨(1:Int),(0:Int),(0:Int),(0:Int),(0:Int)⟩:bn),[v1]⟩:bN)],[(⟨(bs [118]),(⟨(1:Int),(0:Int),(0:Int),(0:Int),(0:Int)⟩:bn),[(⟨(bs [105]),v1⟩:bf)],[],(0:Int),v3⟩:aG),(⟨(bs [119]),(⟨(1:Int),(0:Int),(0:Int),(0:Int),(0:Int)⟩:bn),[(⟨(bs [105]),v1⟩:bf)],[],(0:Int),v6⟩:aG)],[(bs [119])]⟩:aY) (bs [118])) fun v7=>
 Option.bind (K6 N (⟨[(bs [110])],[],[(⟨(bs [97]),(⟨(1:Int),(0:Int),(0:Int),(0:Int),(0:Int)⟩:bn),[v1]⟩:bN)],[(⟨(bs [118]),(⟨(1:Int),(0:Int),(0:Int),(0:Int),(0:Int)⟩:bn),[(⟨(bs [105]),v1⟩:bf)],[],(0:Int),v3⟩:aG),(⟨(bs [119]),(⟨(1:Int),(0:Int),(0:Int),(0:Int),(0:Int)⟩:bn),[(⟨(bs [105]),v1⟩:bf)],[],(0:Int),v6⟩:aG)],[(bs [119])]⟩:aY) (1:Int)) fun v8=>
 Option.bind (bif (v7.2==(0:Int))then(bif ((v7.1.ay.length:Int)==(1:Int))then Option.bind (v7.1.ay[0]?) fun v9=>
 Option.bind (AR N v2 (1:Int) (bs []) (⟨(1:Int64),(1:Int64)⟩:fO) (⟨(1:Int),(0:Int),(0:Int),(0:Int),(0:Int)⟩:bn) (0:Int64)) fun v10=>
 Option.bind (AR N dB (1:Int) (bs []) (⟨(1:Int64),(1:Int64)⟩:fO) (⟨(1:Int),(0:Int),(0:Int),(0:Int),(0:Int)⟩:bn) (0:Int64)) fun v11=>
 Option.bind (FB N v10 v11) fun v12=>
 Option.bind (RC N v9.bq v12) fun aH=>
 (bif aH then some (v8.2==(0:Int))else some false)else some false)else some false) fun aA=>
 some aA
theorem HE(N:Nat)(r:Bool)(J:qL N=some r):bA Tryz.prog 7 [] (·=(aU r)):=by
 rw[qL]at J;refine bZ Tryz.func7 (by kernel_rfl) (by kernel_rfl) ?_;obtain⟨v1,h1,J⟩:=au J;obtain⟨v2,h2,J⟩:=au J;obtain⟨v3,h3,J⟩:=au J;obtain⟨v4,h4,J⟩:=au J;obtain⟨v5,h5,J⟩:=au J;obtain⟨v6,h6,J⟩:=au J;obtain⟨v7,h7,J⟩:=au J;obtain⟨v8,h8,J⟩:=au J;refine ax ak [[],[(4,cL (Nd N (bs [110]) v1 h1))],[],[],[],[],[(1,cL (Nd N (bs [105]) v2 h2))]] ?_;refine Ya [0,1,2,3,5,6,7,8] 5 ⟨89,[(0,(aU false)),(1,(.ptr 0 0)),(2,(.ptr 1 0)),(3,(.d (.sl (cm [(⟨(bs [105]),v1⟩:bf)])))),(5,(.fn 22 [(.ptr 2 0)])),(6,(.fn 24 [])),(7,(.ptr 3 0)),(8,(.ptr 4 0))],[.cells [(ao (1:Int)),(ao (0:Int)),(ao (0:Int)),(ao (0:Int)),(ao (0:Int))], .cells (bY v1).cells, .cells [(ao (1:Int)),(bp (bs [])),(bt (1:Int64)),(bt (1:Int64)),(ao (1:Int)),(ao (0:Int)),(ao (0:Int)),(ao (0:Int)),(ao (0:Int)),(bt (0:Int64)),(.d (.sl [])),(.d (.sl [])),(.d (.sl []))], .cells (bY v2).cells, .cells [(bt (0:Int64)),(.d (.sl []))]]⟩ (agd rfl) ?_;refine ax ak [[(31,⟨_,_, .rq (cb:=[(bY v2),(.ptr 2 0)]) (h:=[.cells [(ao (1:Int)),(ao (0:Int)),(ao (0:Int)),(ao (0:Int)),(ao (0:Int))], .cells (bY v1).cells, .cells [(ao (1:Int)),(bp (bs [])),(bt (1:Int64)),(bt (1:Int64)),(ao (1:Int)),(ao (0:Int)),(ao (0:Int)),(ao (0:Int)),(ao (0:Int)),(bt (0:Int64)),(.d (.sl [])),(.d (.sl [])),(.d (.sl []))], .cells (bY v2).cells, .cells [(bt (0:Int64)),(.d (.sl []))]]) (l:=[2]) (by kernel_rfl) (by kernel_rfl) (by kernel_rfl) (by kernel_rfl) (yL N v2 (1:Int) (bs []) (⟨(1:Int64),(1:Int64)⟩:fO) (⟨(1:Int),(0:Int),(0:Int),(0:Int),(0:Int)⟩:bn) (0:Int64) v3 h3)⟩),(52,cL (IJ N (bs [118]) [v2] v4 h4)),(61,cL (IJ N (bs [118]) ([dB]) v5 h5)),(64,cL (IS N v4 v5 v6 h6))],[(4,cL (HV N (⟨[(bs [110])],[],[(⟨(bs [97]),(⟨(1:Int),(0:Int),(0:Int),(0:Int),(0:Int)⟩:bn),[v1]⟩:bN)],[(⟨(bs [118]),(⟨(1:Int),(0:Int),(0:Int),(0:Int),(0:Int)⟩:bn),[(⟨(bs [105]),v1⟩:bf)],[],(0:Int),v3⟩:aG),(⟨(bs [119]),(⟨(1:Int),(0:Int),(0:Int),(0:Int),(0:Int)⟩:bn),[(⟨(bs [105]),v1⟩:bf)],[],(0:Int),v6⟩:aG)],[(bs [119])]⟩:aY) (bs [118]) v7 h7))],[(4,cL (aao N (⟨[(bs [110])],[],[(⟨(bs [97]),(⟨(1:Int),(0:Int),(0:Int),(0:Int),(0:Int)⟩:bn),[v1]⟩:bN)],[(⟨(bs [118]),(⟨(1:Int),(0:Int),(0:Int),(0:Int),(0:Int)⟩:bn),[(⟨(bs [105]),v1⟩:bf)],[],(0:Int),v3⟩:aG),(⟨(bs [119]),(⟨(1:Int),(0:Int),(0:Int),(0:Int),(0:Int)⟩:bn),[(⟨(bs [105]),v1⟩:bf)],[],(0:Int),v6⟩:aG)],[(bs [119])]⟩:aY) (1:Int) v8 h8))]] ?_
 obtain⟨aA,c8,J⟩:=au J;refine dn ak [(0,(aU aA))] [.cells [(ao (1:Int)),(ao (0:Int)),(ao (0:Int)),(ao (0:Int)),(ao (0:Int))], .cells (bY v1).cells, .cells [(ao (1:Int)),(bp (bs [])),(bt (1:Int64)),(bt (1:Int64)),(ao (1:Int)),(ao (0:Int)),(ao (0:Int)),(ao (0:Int)),(ao (0:Int)),(bt (0:Int64)),(.d (.sl [])),(.d (.sl [])),(.d (.sl []))], .cells (bY v2).cells, .cells [(bt (0:Int64)),(.d (.sl []))], .cells [(.full (aB [(bs [110])])),(.d (.v (.slice none 0 0))),(.full (bx [(⟨(bs [97]),(⟨(1:Int),(0:Int),(0:Int),(0:Int),(0:Int)⟩:bn),[v1]⟩:bN)])),(.full (bP [(⟨(bs [118]),(⟨(1:Int),(0:Int),(0:Int),(0:Int),(0:Int)⟩:bn),[(⟨(bs [105]),v1⟩:bf)],[],(0:Int),v3⟩:aG),(⟨(bs [119]),(⟨(1:Int),(0:Int),(0:Int),(0:Int),(0:Int)⟩:bn),[(⟨(bs [105]),v1⟩:bf)],[],(0:Int),v6⟩:aG)])),(.full (aB [(bs [119])]))], .cells (aZ v7.1).cells, .cells (aZ v8.1).cells] ?_ ?_
 ·refine bc c8 (fun h9 c8=> ?_) fun h9 c8=> ?_
  ·refine bc c8 (fun aJ c8=> ?_) fun aJ c8=> ?_
   ·obtain⟨v9,bQ,c8⟩:=au c8;obtain⟨v10,cl,c8⟩:=au c8;obtain⟨v11,dg,c8⟩:=au c8;obtain⟨v12,cg,c8⟩:=au c8;obtain⟨aH,cV,c8⟩:=au c8;refine bc c8 (fun b9 c8=> ?_) fun b9 c8=> ?_
    ·cases c8;exact⟨so (os [9,12,15,18,22] (bT h9) (os [27,30,33,36,39,42,45,48,51,54,57,60,63,66,70] (bT aJ) (os [75,78,82] (bT b9) [(16,oL v7.1.ay eI),(34,oE (k:=0) (gP bQ)),(52,⟨_,_, .rq (cb:=[(bY v2),(.ptr 2 0)]) (h:=[.cells [(ao (1:Int)),(ao (0:Int)),(ao (0:Int)),(ao (0:Int)),(ao (0:Int))], .cells (bY v1).cells, .cells [(ao (1:Int)),(bp (bs [])),(bt (1:Int64)),(bt (1:Int64)),(ao (1:Int)),(ao (0:Int)),(ao (0:Int)),(ao (0:Int)),(ao (0:Int)),(bt (0:Int64)),(.d (.sl [])),(.d (.sl [])),(.d (.sl []))], .cells (bY v2).cells, .cells [(bt (0:Int64)),(.d (.sl []))], .cells [(.full (aB [(bs [110])])),(.d (.v (.slice none 0 0))),(.full (bx [(⟨(bs [97]),(⟨(1:Int),(0:Int),(0:Int),(0:Int),(0:Int)⟩:bn),[v1]⟩:bN)])),(.full (bP [(⟨(bs [118]),(⟨(1:Int),(0:Int),(0:Int),(0:Int),(0:Int)⟩:bn),[(⟨(bs [105]),v1⟩:bf)],[],(0:Int),v3⟩:aG),(⟨(bs [119]),(⟨(1:Int),(0:Int),(0:Int),(0:Int),(0:Int)⟩:bn),[(⟨(bs [105]),v1⟩:bf)],[],(0:Int),v6⟩:aG)])),(.full (aB [(bs [119])]))], .cells (aZ v7.1).cells, .cells (aZ v8.1).cells]) (l:=[2]) (by kernel_rfl) (by kernel_rfl) (by kernel_rfl) (by kernel_rfl) (yL N v2 (1:Int) (bs []) (⟨(1:Int64),(1:Int64)⟩:fO) (⟨(1:Int),(0:Int),(0:Int),(0:Int),(0:Int)⟩:bn) (0:Int64) v10 cl)⟩),(61,⟨_,_, .rq (cb:=[(bY dB),(.ptr 2 0)]) (h:=[.cells [(ao (1:Int)),(ao (0:Int)),(ao (0:Int)),(ao (0:Int)),(ao (0:Int))], .cells (bY v1).cells, .cells [(ao (1:Int)),(bp (bs [])),(bt (1:Int64)),(bt (1:Int64)),(ao (1:Int)),(ao (0:Int)),(ao (0:Int)),(ao (0:Int)),(ao (0:Int)),(bt (0:Int64)),(.d (.sl [])),(.d (.sl [])),(.d (.sl []))], .cells (bY v2).cells, .cells [(bt (0:Int64)),(.d (.sl []))], .cells [(.full (aB [(bs [110])])),(.d (.v (.slice none 0 0))),(.full (bx [(⟨(bs [97]),(⟨(1:Int),(0:Int),(0:Int),(0:Int),(0:Int)⟩:bn),[v1]⟩:bN)])),(.full (bP [(⟨(bs [118]),(⟨(1:Int),(0:Int),(0:Int),(0:Int),(0:Int)⟩:bn),[(⟨(bs [105]),v1⟩:bf)],[],(0:Int),v3⟩:aG),(⟨(bs [119]),(⟨(1:Int),(0:Int),(0:Int),(0:Int),(0:Int)⟩:bn),[(⟨(bs [105]),v1⟩:bf)],[],(0:Int),v6⟩:aG)])),(.full (aB [(bs [119])]))], .cells (aZ v7.1).cells, .cells (aZ v8.1).cells]) (l:=[2]) (by kernel_rfl) (by kernel_rfl) (by kernel_rfl) (by kernel_rfl) (yL N dB (1:Int) (bs []) (⟨(1:Int64),(1:Int64)⟩:fO) (⟨(1:Int),(0:Int),(0:Int),(0:Int),(0:Int)⟩:bn) (0:Int64) v11 dg)⟩),(64,cL (IS N v10 v11 v12 cg)),(67,cL (O9 N v9.bq v12 aH cV))]))),by kernel_rfl⟩
    cases c8;exact⟨so (os [9,12,15,18,22] (bT h9) (os [27,30,33,36,39,42,45,48,51,54,57,60,63,66,70] (bT aJ) (os [75,78,82] (bF b9) [(16,oL v7.1.ay eI),(34,oE (k:=0) (gP bQ)),(52,⟨_,_, .rq (cb:=[(bY v2),(.ptr 2 0)]) (h:=[.cells [(ao (1:Int)),(ao (0:Int)),(ao (0:Int)),(ao (0:Int)),(ao (0:Int))], .cells (bY v1).cells, .cells [(ao (1:Int)),(bp (bs [])),(bt (1:Int64)),(bt (1:Int64)),(ao (1:Int)),(ao (0:Int)),(ao (0:Int)),(ao (0:Int)),(ao (0:Int)),(bt (0:Int64)),(.d (.sl [])),(.d (.sl [])),(.d (.sl []))], .cells (bY v2).cells, .cells [(bt (0:Int64)),(.d (.sl []))], .cells [(.full (aB [(bs [110])])),(.d (.v (.slice none 0 0))),(.full (bx [(⟨(bs [97]),(⟨(1:Int),(0:Int),(0:Int),(0:Int),(0:Int)⟩:bn),[v1]⟩:bN)])),(.full (bP [(⟨(bs [118]),(⟨(1:Int),(0:Int),(0:Int),(0:Int),(0:Int)⟩:bn),[(⟨(bs [105]),v1⟩:bf)],[],(0:Int),v3⟩:aG),(⟨(bs [119]),(⟨(1:Int),(0:Int),(0:Int),(0:Int),(0:Int)⟩:bn),[(⟨(bs [105]),v1⟩:bf)],[],(0:Int),v6⟩:aG)])),(.full (aB [(bs [119])]))], .cells (aZ v7.1).cells, .cells (aZ v8.1).cells]) (l:=[2]) (by kernel_rfl) (by kernel_rfl) (by kernel_rfl) (by kernel_rfl) (yL N v2 (1:Int) (bs []) (⟨(1:Int64),(1:Int64)⟩:fO) (⟨(1:Int),(0:Int),(0:Int),(0:Int),(0:Int)⟩:bn) (0:Int64) v10 cl)⟩),(61,⟨_,_, .rq (cb:=[(bY dB),(.ptr 2 0)]) (h:=[.cells [(ao (1:Int)),(ao (0:Int)),(ao (0:Int)),(ao (0:Int)),(ao (0:Int))], .cells (bY v1).cells, .cells [(ao (1:Int)),(bp (bs [])),(bt (1:Int64)),(bt (1:Int64)),(ao (1:Int)),(ao (0:Int)),(ao (0:Int)),(ao (0:Int)),(ao (0:Int)),(bt (0:Int64)),(.d (.sl [])),(.d (.sl [])),(.d (.sl []))], .cells (bY v2).cells, .cells [(bt (0:Int64)),(.d (.sl []))], .cells [(.full (aB [(bs [110])])),(.d (.v (.slice none 0 0))),(.full (bx [(⟨(bs [97]),(⟨(1:Int),(0:Int),(0:Int),(0:Int),(0:Int)⟩:bn),[v1]⟩:bN)])),(.full (bP [(⟨(bs [118]),(⟨(1:Int),(0:Int),(0:Int),(0:Int),(0:Int)⟩:bn),[(⟨(bs [105]),v1⟩:bf)],[],(0:Int),v3⟩:aG),(⟨(bs [119]),(⟨(1:Int),(0:Int),(0:Int),(0:Int),(0:Int)⟩:bn),[(⟨(bs [105]),v1⟩:bf)],[],(0:Int),v6⟩:aG)])),(.full (aB [(bs [119])]))], .cells (aZ v7.1).cells, .cells (aZ v8.1).cells]) (l:=[2]) (by kernel_rfl) (by kernel_rfl) (by kernel_rfl) (by kernel_rfl) (yL N dB (1:Int) (bs []) (⟨(1:Int64),(1:Int64)⟩:fO) (⟨(1:Int),(0:Int),(0:Int),(0:Int),(0:Int)⟩:bn) (0:Int64) v11 dg)⟩),(64,cL (IS N v10 v11 v12 cg)),(67,cL (O9 N v9.bq v12 aH cV))]))),by kernel_rfl⟩
   cases c8;exact⟨so (os [9,12,15,18,22] (bT h9) (os [27,30,33,36,39,42,45,48,51,54,57,60,63,66,70] (bF aJ) (os [75,78,82] (bF rfl) [(16,oL v7.1.ay eI)]))),by kernel_rfl⟩
  cases c8;exact⟨so (os [9,12,15,18,22] (bF h9) (os [27,30,33,36,39,42,45,48,51,54,57,60,63,66,70,75,78,82] (bF rfl) [])),by kernel_rfl⟩
 cases J;exact wr ak []
def uh(N:Nat)(v2:agV):agU agV→Nat→agW Bool
 |[],_=>
  some false
 |v5::v6,v3=>
  bif (bL v5==bL v2)then
   some true
  else
   (uh N v2 v6 (v3+1))
def lu(N:Nat)(v1:agU agV)(v2:agV):agW Bool:=
 uh N v2 v1 0
theorem MS(N:Nat)(v1:agU agV)(v2:agV)(r:Bool)(J:lu N v1 v2=some r):bA Tryz.prog 15 [(.d (.sl (aB v1))),(bp v2)] (·=(aU r)):=by
 rw[lu]at J;refine bZ Tryz.func15 (by kernel_rfl) (by kernel_rfl) ?_;refine ax ak [[],[]] ?_;refine dj 0 (aB v1) (by kernel_rfl) fun h1=> ?_;have h2:=cP dz h1;refine c9 ak 1 [] [0,1,5] 0 (fun((v3,v4):Nat×(agU agV))=>⟨18,[(0,(.d (.sl (aB v1)))),(1,(bp v2)),(5,(ao (v3:Int)))],[]⟩) (fun((v3,v4):Nat×(agU agV))=>v1.drop v3=v4∧uh N v2 v4 v3=some r) (fun((v3,v4):Nat×(agU agV))=>v4.length) (0,v1) ⟨rfl,J⟩ ?_;rintro⟨v3,v4⟩ ⟨h3,J⟩ f1 ba;cases v4 with
 |nil=>
  rw[uh]at J;cases J;exact wr ak [[(7,oL v1 dz)],[(0,bF (ck h3))],[]]
 |cons v5 v6=>
  rw[uh]at J;refine ax ak [[(7,oL v1 dz)],[(0,bT (cf h3))],[(7,oE (m5 (bS h3)))]] ?_;refine bc J (fun h4 J=> ?_) fun h4 J=> ?_
  ·cases J;exact wr ak [[(0,bT h4)],[]]
  exact cU ak ba (v3+1,v6) [[(0,bF h4)],[(5,oq (cx h3 rfl h2))]] ⟨ct h3,J⟩
def tQ(N:Nat)(v2:agU agV):agU agV→Nat→agW Bool
 |[],_=>
  some true
 |v5::v6,v3=>
  Option.bind (v2[((v3:Int)).toNat]?) fun v7=>
  bif (bL v5==bL v7)then
   (tQ N v2 v6 (v3+1))
  else
   some false
def yR(N:Nat)(v1:agU agV)(v2:agU agV):agW Bool:=
 bif ((v1.length:Int) !=(v2.length:Int))then
  some false
 else
  tQ N v2 v1 0
theorem Vy(N:Nat)(v1:agU agV)(v2:agU agV)(r:Bool)(J:yR N v1 v2=some r):bA Tryz.prog 17 [(.d (.sl (aB v1))),(.d (.sl (aB v2)))] (·=(aU r)):=by
 rw[yR]at J;refine bZ Tryz.func17 (by kernel_rfl) (by kernel_rfl) ?_;refine ax ak [[],[(4,oL v1 dz),(10,oL v2 dz)]] ?_;refine bc J (fun h1 J=> ?_) fun h1 J=> ?_
 ·cases J;exact wr ak [[(0,bT h1)],[]]
 refine ax ak [[(0,bF h1)],[]] ?_;refine dj 0 (aB v1) (by kernel_rfl) fun h2=> ?_;have h3:=cP dz h2;refine c9 ak 1 [] [0,1,5] 0 (fun((v3,v4):Nat×(agU agV))=>⟨26,[(0,(.d (.sl (aB v1)))),(1,(.d (.sl (aB v2)))),(5,(ao (v3:Int)))],[]⟩) (fun((v3,v4):Nat×(agU agV))=>v1.drop v3=v4∧tQ N v2 v4 v3=some r) (fun((v3,v4):Nat×(agU agV))=>v4.length) (0,v1) ⟨rfl,J⟩ ?_;rintro⟨v3,v4⟩ ⟨h4,J⟩ f1 ba;cases v4 with
 |nil=>
  rw[tQ]at J;cases J;exact wr ak [[(7,oL v1 dz)],[(0,bF (ck h4))],[]]
 |cons v5 v6=>
  rw[tQ]at J;obtain⟨v7,h5,J⟩:=au J;refine ax ak [[(7,oL v1 dz)],[(0,bT (cf h4))],[(7,oE (m5 (bS h4))),(19,oE (m5 h5))]] ?_;refine bc J (fun h7 J=> ?_) fun h7 J=> ?_
  ·exact cU ak ba (v3+1,v6) [[(0,bF (dH h7))],[(5,oq (cx h4 rfl h3))]] ⟨ct h4,J⟩
  cases J;exact wr ak [[(0,bT (dK h7))],[]]
def LG(N:Nat)(v1:agU agV)(v3:Nat):agW (agU agV):=bif Nat.beq v1.length v3&&Nat.blt v3 4611686018427387904 then some (gw v1)else none
theorem VT(N:Nat)(v1:agU agV)(v3:Nat)(r:agU agV)(J:LG N v1 v3=some r):bD Tryz.prog 47 [(.vec 0 0 v3 v3 1)] [.vec 9 1 (aI (v1.map dZ))] fun r1 h1=>r1=(.d (.sl (aB r)))∧h1=[.gone]:=by
 obtain⟨hb,rfl⟩:=dJ J;rw[af7]at hb;exact adH (agk hb.1) (agd hb.2)
def oR(N:Nat)(fa:Nat→(agU agV)→agW ((agU agV))):agU az→Nat→Nat→(agU agV)→agW ((agU agV))
 |[],_,aA,aT=>
  fa aA aT
 |v12::aH,v10,aA,aT=>
  bif (bL v12.aV==bL (bs []))then
   (fun jq m7=>oR N fa aH (v10+1) jq m7) aA aT
  else
   bif (Nat.beq aT.length aA)then
   bif (Nat.ble ((aA+1)*16) 140737488355328)then
   (fun jq m7=>oR N fa aH (v10+1) jq m7) (aA+1) (aT++[v12.aV])
   else none
   else none
def xI(N:Nat)(fa:Nat→(agU agV)→agW ((agU agV)))(v5:ar)(v8:Nat)(v9:agU agV):agW ((agU agV)):=
 oR N fa v5.xIdx 0 v8 v9
def mX(N:Nat):agU ar→Nat→(agU agV)→agW ((agU agV))
 |[],v3,v4=>
  Option.bind (LG N v4 v3) fun v7=>
  some v7
 |v5::v6,v3,v4=>
  bif (v5.aQ==(3:Int))then
   bif (Nat.beq v4.length v3)then
   bif (Nat.ble ((v3+1)*16) 140737488355328)then
   xI N (fun bE dP=>mX N v6 bE dP) v5 (v3+1) (v4++[v5.aq])
   else none
   else none
  else
   xI N (fun bE dP=>mX N v6 bE dP) v5 v3 v4
def vY(N:Nat)(v1:ar):agW ((agU agV)):=
 Option.bind (sm N v1) fun v2=>
 mX N (dd v2) 0 []
theorem YB(N:Nat)(v1:ar)(r:(agU agV))(J:vY N v1=some r):bA Tryz.prog 18 [(aD v1)] (·=(.d (.sl (aB r)))):=by
 rw[vY]at J;refine pk Tryz.func18 rfl (by kernel_rfl) ?_;refine gk [0] 0 (agh _) (s':=⟨36,[(0,(aD v1))],[]⟩) (by kernel_rfl) ?_;refine aP ?_;refine rg [] [(1,(.ptr 0 0))] [.cells (aD v1).cells] (by kernel_rfl) ?_;refine aP ?_;refine rg [] [(3,(.ptr 1 0))] [.cells (aD v1).cells, .cells [(.d (.v (.slice none 0 0)))]] (by kernel_rfl) ?_;refine aP ?_;refine aP ?_;obtain⟨v2,h1,J⟩:=au J;refine rg [(4,cL (CQ N v1 v2 h1))] [(8,(.fn 70 [(.aW [cB v2] 0 0)]))] [.cells (aD v1).cells, .cells [(.d (.v (.slice none 0 0)))]] (by kernel_rfl) ?_;refine fi ?_;refine N8 1 0 9 1 rfl rfl ?_;refine Ew [3,8] 3 [] [] (agd rfl) (s':=⟨36,[(3,(.ptr 1 0)),(8,(.fn 70 [(.aW [cB v2] 0 0)]))],[.cells (aD v1).cells, .cells [(.vec 2 0 0 0 1)], .vec 9 1 (aI (([]:agU agV).map dZ))]⟩) ⟨(cw trivial (cw trivial (gp (xs:=(([]:agU agV).map dZ)) fj))),by kernel_rfl⟩ ?_;refine CA (m:=3) (enc:=aD) (xs:=(dd v2)) (by kernel_rfl) (F7 v2) (fun((v3,v4):Nat×(agU agV))=>[.cells (aD v1).cells, .cells [(.vec 2 0 v3 v3 1)], .vec 9 1 (aI (v4.map dZ))]) (fun((v3,v4):Nat×(agU agV)) l=>mX N l v3 v4=some r) (0,[]) (by kernel_rfl) J (by rintro⟨v3,v4⟩;rfl) (by rintro⟨v3,v4⟩;exact(xF (by kernel_rfl) (xF (by kernel_rfl) (xF Sh Ru)))) (by kernel_rfl) rfl ?_ ?_
 ·rintro⟨v3,v4⟩ v5 v6 J h2 eW eS
  try dsimp only at J
  rw[mX]at J;refine Ew [3,9] 4 [] [] (agh _) (s':=⟨36,[(3,(.ptr 1 0)),(9,(aD v5))],[.cells (aD v1).cells, .cells [(.vec 2 0 v3 v3 1)], .vec 9 1 (aI (v4.map dZ)), .lp .ready 9 eW eS (cX 36 [(3,(.ptr 1 0)),(8,(.fn 70 [(.aW [cB v2] 0 0)]))])]⟩) ⟨(cw trivial (cw trivial (gp (xs:=(v4.map dZ)) (cw trivial fj)))),by kernel_rfl⟩ ?_;refine re [] [(4,(.ptr 4 0))] [.cells (aD v1).cells, .cells [(.vec 2 0 v3 v3 1)], .vec 9 1 (aI (v4.map dZ)), .lp .ready 9 eW eS (cX 36 [(3,(.ptr 1 0)),(8,(.fn 70 [(.aW [cB v2] 0 0)]))]), .cells (aD v5).cells] (by kernel_rfl) ?_;refine bX ?_;refine⟨[.cells (aD v1).cells, .cells [(.vec 2 0 v3 v3 1)], .vec 9 1 (aI (v4.map dZ))],[.cells (aD v5).cells],rfl,(by kernel_rfl),?_⟩;refine Ew [3,4] 5 [] [] (agd rfl) (s':=⟨36,[(3,(.ptr 1 0)),(4,(.ptr 4 0))],[.cells (aD v1).cells, .cells [(.vec 2 0 v3 v3 1)], .vec 9 1 (aI (v4.map dZ)), .lp .busy 9 eW eS (cX 36 [(3,(.ptr 1 0)),(8,(.fn 70 [(.aW [cB v2] 0 0)]))]), .cells (aD v5).cells]⟩) ⟨(cw trivial (cw trivial (gp (xs:=(v4.map dZ)) (cw trivial (cw trivial fj))))),by kernel_rfl⟩ ?_;refine fi ?_;refine aP ?_;refine aP ?_;refine rg [] [(12,(aU (v5.aQ==(3:Int))))] [.cells (aD v1).cells, .cells [(.vec 2 0 v3 v3 1)], .vec 9 1 (aI (v4.map dZ)), .lp .busy 9 eW eS (cX 36 [(3,(.ptr 1 0)),(8,(.fn 70 [(.aW [cB v2] 0 0)]))]), .cells (aD v5).cells] (by kernel_rfl) ?_
  refine Uk [3,4] 5 [] [] (fun((v8,v9):Nat×(agU agV))=>⟨36,[(3,(.ptr 1 0)),(4,(.ptr 4 0))],[.cells (aD v1).cells, .cells [(.vec 2 0 v8 v8 1)], .vec 9 1 (aI (v9.map dZ)), .lp .busy 9 eW eS (cX 36 [(3,(.ptr 1 0)),(8,(.fn 70 [(.aW [cB v2] 0 0)]))]), .cells (aD v5).cells]⟩) (fun((v8,v9):Nat×(agU agV))=>xI N (fun bE dP=>mX N v6 bE dP) v5 v8 v9=some r) (agd rfl) ?_ ?_
  ·rcases fS (v5.aQ==(3:Int))with aJ|aJ
   ·replace J:=(dM aJ).symm.trans J;refine fy (t:=(v5.aQ==(3:Int))) (by kernel_rfl) aJ ?_;have bQ:=iu J;replace J:=(dM bQ).symm.trans J;have cl:=iu J;replace J:=(dM cl).symm.trans J;refine re [(13,⟨_,_, .pr (.ap (aI ((v4++[v5.aq]).map dZ)) (aI (([v5.aq]).map dZ)) (v3+1) (v3+1)) (Im (f:=dZ) (h:=[.cells (aD v1).cells, .cells [(.vec 2 0 v3 v3 1)], .vec 9 1 (aI (v4.map dZ)), .lp .busy 9 eW eS (cX 36 [(3,(.ptr 1 0)),(8,(.fn 70 [(.aW [cB v2] 0 0)]))]), .cells (aD v5).cells]) (y:=(.full (aB [v5.aq]))) (k:=1) (agk bQ) rfl (fun c hc=>wO c (by rw[k9];exact hc)) rfl rfl (dQ cl (by decide)).1 (dQ cl (by decide)).2)⟩)] [(17,(.vec 2 0 (v3+1) (v3+1) 1)),(16,(.full (aB [v5.aq]))),(15,(bp v5.aq)),(14,(.ptr 4 1)),(13,(.vec 2 0 v3 v3 1))] [.cells (aD v1).cells, .cells [(.vec 2 0 (v3+1) (v3+1) 1)], .vec 9 1 (aI ((v4++[v5.aq]).map dZ)), .lp .busy 9 eW eS (cX 36 [(3,(.ptr 1 0)),(8,(.fn 70 [(.aW [cB v2] 0 0)]))]), .cells (aD v5).cells] (by kernel_rfl) ?_;refine bX ?_;exact⟨((v3+1),(v4++[v5.aq])),⟨(cw trivial (cw trivial (gp (xs:=((v4++[v5.aq]).map dZ)) (cw trivial (cw trivial fj))))),by kernel_rfl⟩,J⟩
   replace J:=(fP aJ).symm.trans J;refine fp (t:=(v5.aQ==(3:Int))) (by kernel_rfl) aJ ?_;refine eo ?_;refine bX ?_;exact⟨(v3,v4),⟨(cw trivial (cw trivial (gp (xs:=(v4.map dZ)) (cw trivial (cw trivial fj))))),by kernel_rfl⟩,J⟩
  rintro⟨v8,v9⟩ J
  try dsimp only at J
  rw[xI]at J;refine aP ?_;refine rg [(7,oL v5.xIdx cW)] [(19,(.d (.sl (bC v5.xIdx)))),(20,(ao (v5.xIdx.length:Int))),(21,(ao (0:Int)))] [.cells (aD v1).cells, .cells [(.vec 2 0 v8 v8 1)], .vec 9 1 (aI (v9.map dZ)), .lp .busy 9 eW eS (cX 36 [(3,(.ptr 1 0)),(8,(.fn 70 [(.aW [cB v2] 0 0)]))]), .cells (aD v5).cells] (by kernel_rfl) ?_;refine fi ?_;refine oJ 19 (bC v5.xIdx) (by kernel_rfl) fun h4=> ?_;have h5:=cP cW h4;refine vp [3,19,20,21] 5 [] [] (fun((v10,v11,aA,aT):Nat×(agU az)×Nat×(agU agV))=>⟨36,[(3,(.ptr 1 0)),(19,(.d (.sl (bC v5.xIdx)))),(20,(ao (v5.xIdx.length:Int))),(21,(ao (v10:Int)))],[.cells (aD v1).cells, .cells [(.vec 2 0 aA aA 1)], .vec 9 1 (aI (aT.map dZ)), .lp .busy 9 eW eS (cX 36 [(3,(.ptr 1 0)),(8,(.fn 70 [(.aW [cB v2] 0 0)]))]), .cells (aD v5).cells]⟩) (fun((v10,v11,aA,aT):Nat×(agU az)×Nat×(agU agV))=>v5.xIdx.drop v10=v11∧oR N (fun bE dP=>mX N v6 bE dP) v11 v10 aA aT=some r) (fun((v10,v11,aA,aT):Nat×(agU az)×Nat×(agU agV))=>v11.length) (0,v5.xIdx,v8,v9) (agd rfl) ⟨(cw trivial (cw trivial (gp (xs:=(v9.map dZ)) (cw trivial (cw trivial fj))))),by kernel_rfl⟩ ⟨rfl,J⟩ ?_;rintro⟨v10,v11,aA,aT⟩ ⟨h6,J⟩;cases v11 with
  |nil=>
   rw[oR]at J;refine aP ?_;refine rg [] [(22,(aU (decide ((v10:Int)<(v5.xIdx.length:Int)))))] [.cells (aD v1).cells, .cells [(.vec 2 0 aA aA 1)], .vec 9 1 (aI (aT.map dZ)), .lp .busy 9 eW eS (cX 36 [(3,(.ptr 1 0)),(8,(.fn 70 [(.aW [cB v2] 0 0)]))]), .cells (aD v5).cells] (by kernel_rfl) ?_;refine aP ?_;refine fp (t:=(decide ((v10:Int)<(v5.xIdx.length:Int)))) (by kernel_rfl) (ck h6) ?_;refine lL (iU (iU (nb rfl ?_)));refine ie ?_;refine abO [.cells (aD v1).cells, .cells [(.vec 2 0 aA aA 1)], .vec 9 1 (aI (aT.map dZ))] rfl (xF (by kernel_rfl) (xF (by kernel_rfl) (xF Sh Ru))) ⟨(cw trivial (cw trivial (gp (xs:=(aT.map dZ)) (cw trivial fj)))),by kernel_rfl⟩ ?_;exact⟨(aA,aT),(by kernel_rfl),J⟩
  |cons v12 aH=>
   rw[oR]at J;refine aP ?_;refine rg [] [(22,(aU (decide ((v10:Int)<(v5.xIdx.length:Int)))))] [.cells (aD v1).cells, .cells [(.vec 2 0 aA aA 1)], .vec 9 1 (aI (aT.map dZ)), .lp .busy 9 eW eS (cX 36 [(3,(.ptr 1 0)),(8,(.fn 70 [(.aW [cB v2] 0 0)]))]), .cells (aD v5).cells] (by kernel_rfl) ?_;refine aP ?_;refine fy (t:=(decide ((v10:Int)<(v5.xIdx.length:Int)))) (by kernel_rfl) (cf h6) ?_;refine eo ?_;refine bX ?_;refine aP ?_;refine fi ?_;refine aP ?_;refine rg [(1,oE (ik (bS h6)))] [(6,(.ptr 5 0))] [.cells (aD v1).cells, .cells [(.vec 2 0 aA aA 1)], .vec 9 1 (aI (aT.map dZ)), .lp .busy 9 eW eS (cX 36 [(3,(.ptr 1 0)),(8,(.fn 70 [(.aW [cB v2] 0 0)]))]), .cells (aD v5).cells, .cells (eC v12).cells] (by kernel_rfl) ?_;refine aP ?_;refine rg [] [(27,(aU (!(bL v12.aV==bL (bs [])))))] [.cells (aD v1).cells, .cells [(.vec 2 0 aA aA 1)], .vec 9 1 (aI (aT.map dZ)), .lp .busy 9 eW eS (cX 36 [(3,(.ptr 1 0)),(8,(.fn 70 [(.aW [cB v2] 0 0)]))]), .cells (aD v5).cells, .cells (eC v12).cells] (by kernel_rfl) ?_;rcases fS (bL v12.aV==bL (bs []))with h7|h7
   ·replace J:=(dM h7).symm.trans J;refine fp (t:=(!(bL v12.aV==bL (bs [])))) (by kernel_rfl) (dH h7) ?_;refine eo ?_;refine ie ?_;refine bX ?_;refine re [(2,oq (cx h6 rfl h5))] [(21,(ao ((v10+1:Nat):Int))),(33,(ao ((v10+1:Nat):Int)))] [.cells (aD v1).cells, .cells [(.vec 2 0 aA aA 1)], .vec 9 1 (aI (aT.map dZ)), .lp .busy 9 eW eS (cX 36 [(3,(.ptr 1 0)),(8,(.fn 70 [(.aW [cB v2] 0 0)]))]), .cells (aD v5).cells, .cells (eC v12).cells] (by kernel_rfl) ?_;refine bX ?_;exact⟨(v10+1,aH,aA,aT),⟨(cw trivial (cw trivial (gp (xs:=(aT.map dZ)) (cw trivial (cw trivial fj))))),by kernel_rfl⟩,⟨ct h6,J⟩,agS _⟩
   replace J:=(fP h7).symm.trans J;refine fy (t:=(!(bL v12.aV==bL (bs [])))) (by kernel_rfl) (dK h7) ?_;have h8:=iu J;replace J:=(dM h8).symm.trans J;have h9:=iu J;replace J:=(dM h9).symm.trans J;refine re [(13,⟨_,_, .pr (.ap (aI ((aT++[v12.aV]).map dZ)) (aI (([v12.aV]).map dZ)) (aA+1) (aA+1)) (Im (f:=dZ) (h:=[.cells (aD v1).cells, .cells [(.vec 2 0 aA aA 1)], .vec 9 1 (aI (aT.map dZ)), .lp .busy 9 eW eS (cX 36 [(3,(.ptr 1 0)),(8,(.fn 70 [(.aW [cB v2] 0 0)]))]), .cells (aD v5).cells, .cells (eC v12).cells]) (y:=(.full (aB [v12.aV]))) (k:=1) (agk h8) rfl (fun c hc=>wO c (by rw[k9];exact hc)) rfl rfl (dQ h9 (by decide)).1 (dQ h9 (by decide)).2)⟩)] [(32,(.vec 2 0 (aA+1) (aA+1) 1)),(31,(.full (aB [v12.aV]))),(30,(bp v12.aV)),(29,(.ptr 5 2)),(28,(.vec 2 0 aA aA 1))] [.cells (aD v1).cells, .cells [(.vec 2 0 (aA+1) (aA+1) 1)], .vec 9 1 (aI ((aT++[v12.aV]).map dZ)), .lp .busy 9 eW eS (cX 36 [(3,(.ptr 1 0)),(8,(.fn 70 [(.aW [cB v2] 0 0)]))]), .cells (aD v5).cells, .cells (eC v12).cells] (by kernel_rfl) ?_;refine ie ?_;refine bX ?_;refine re [(2,oq (cx h6 rfl h5))] [(21,(ao ((v10+1:Nat):Int))),(33,(ao ((v10+1:Nat):Int)))] [.cells (aD v1).cells, .cells [(.vec 2 0 (aA+1) (aA+1) 1)], .vec 9 1 (aI ((aT++[v12.aV]).map dZ)), .lp .busy 9 eW eS (cX 36 [(3,(.ptr 1 0)),(8,(.fn 70 [(.aW [cB v2] 0 0)]))]), .cells (aD v5).cells, .cells (eC v12).cells] (by kernel_rfl) ?_
   refine bX ?_;exact⟨(v10+1,aH,(aA+1),(aT++[v12.aV])),⟨(cw trivial (cw trivial (gp (xs:=((aT++[v12.aV]).map dZ)) (cw trivial (cw trivial fj))))),by kernel_rfl⟩,⟨ct h6,J⟩,agS _⟩
 rintro⟨v3,v4⟩ J
 try dsimp only at J
 rw[mX]at J;refine ie ?_;refine bX ?_;refine aP ?_;obtain⟨v7,h3,J⟩:=au J;refine rg [(4,⟨_,_, .lT (lv (xs:=(v4.map dZ)) ij) (oS ij) (cb:=[(.vec 2 0 v3 v3 1)]) (h:=[.cells (aD v1).cells, .cells [(.vec 2 0 v3 v3 1)], .vec 9 1 (aI (v4.map dZ)), .gone]) (l:=[2]) (by kernel_rfl) (by kernel_rfl) (by kernel_rfl) (by kernel_rfl) (VT N v4 v3 v7 h3)⟩)] [(2,(.d (.sl (aB v7))))] [.cells (aD v1).cells, .cells [(.vec 2 0 v3 v3 1)], .gone, .gone] (by kernel_rfl) ?_;refine dD ?_;have hr:=agp J;subst hr;exact fJ (by kernel_rfl)
def nG(N:Nat)(v6:aY×Int)(v2:agV)(v9:Bool):agU aG→Nat→Int→agW Bool
 |[],_,aK=>
  Option.bind (bif (aK==(v6.1.ay.length:Int))then Option.bind (qL N) fun aR=>
  some aR else some false) fun bG=>
  some bG
 |aT::aX,aH,aK=>
  Option.bind (bif (bL aT.aq==bL v2)then some (!v9)else some false) fun v20=>
  bif v20 then
   (fun bE=>nG N v6 v2 v9 aX (aH+1) bE) aK
  else
   Option.bind (bif (decide (aK≥(v6.1.ay.length:Int)))then some true else bif (decide ((0:Int)≤aK))then
   Option.bind (v6.1.ay[(aK).toNat]?) fun v21=>
   (bif (bL v21.aq==bL aT.aq)then(bif ((v21.aC.bW==aT.aC.bW)&&((v21.aC.ca==aT.aC.ca)&&((v21.aC.cF==aT.aC.cF)&&((v21.aC.cE==aT.aC.cE)&&((v21.aC.cJ==aT.aC.cJ)&&true)))))then(bif (v21.cG !=aT.cG)then some true else Option.bind (vY N v21.bq) fun cY=>
   Option.bind (lu N cY v2) fun cz=>
   some cz)else some true)else some true)
   else none) fun v24=>
   bif v24 then
    some false
   else
    (fun bE=>nG N v6 v2 v9 aX (aH+1) bE) (a8 (aK+(1:Int)))
def Gq(N:Nat)(v1:aY)(v2:agV):agW Bool:=
 Option.bind (xg N v1 (200:Int)) fun v3=>
 Option.bind (bif v3 then some true else some (decide ((v2.size:Int)>(100:Int)))) fun v4=>
 bif v4 then
  Option.bind (qL N) fun v5=>
  some v5
 else
  Option.bind (p6 N v1 v2) fun v6=>
  bif (v6.2 !=(0:Int))then
   Option.bind (bif ((v6.1.ay.length:Int)==(0:Int))then Option.bind (qL N) fun v7=>
   some v7 else some false) fun v8=>
   some v8
  else
   Option.bind (lu N v1.cu v2) fun v9=>
   Option.bind (rH N v6.1 v2) fun v10=>
   Option.bind (bif (v9==(decide (v10≥(0:Int))))then Option.bind (yR N v1.cu v6.1.cu) fun v11=>
   some (!v11)else some true) fun v12=>
   bif v12 then
    some false
   else
    nG N v6 v2 v9 v1.ay 0 (0:Int)
theorem YZ(N:Nat)(v1:aY)(v2:agV)(r:Bool)(J:Gq N v1 v2=some r):bA Tryz.prog 5 [(aZ v1),(bp v2)] (·=(aU r)):=by
 rw[Gq]at J;refine bZ Tryz.func5 (by kernel_rfl) (by kernel_rfl) ?_;refine ax ak [[]] ?_;obtain⟨v3,h1,J⟩:=au J;obtain⟨v4,h3,J⟩:=au J;refine dn ak [(16,(aU v4))] [.cells (aZ v1).cells] ?_ ?_
 ·refine bc h3 (fun h2 h3=> ?_) fun h2 h3=> ?_
  ·cases h3;exact⟨so (os [9,12,15,19] (bT h2) [(4,cL (Qz N v1 (200:Int) v3 h1))]),by kernel_rfl⟩
  cases h3;exact⟨so (os [9,12,15,19] (bF h2) [(4,cL (Qz N v1 (200:Int) v3 h1))]),by kernel_rfl⟩
 refine bc J (fun h4 J=> ?_) fun h4 J=> ?_
 ·obtain⟨v5,h5,J⟩:=au J;obtain rfl:=sj J;exact wr ak [[(0,bT h4)],[(1,cL (HE N v5 h5))]]
 obtain⟨v6,h6,J⟩:=au J;refine ax ak [[(0,bF h4)],[(7,cL (HV N v1 v2 v6 h6))],[]] ?_;refine bc J (fun h7 J=> ?_) fun h7 J=> ?_
 ·refine ax ak [[(0,bT h7)]] ?_;obtain⟨v8,aJ,J⟩:=au J;refine dn ak [(4,(aU v8))] [.cells (aZ v1).cells, .cells (aZ v6.1).cells] ?_ ?_
  ·refine bc aJ (fun h8 aJ=> ?_) fun h8 aJ=> ?_
   ·obtain⟨v7,h9,aJ⟩:=au aJ;obtain rfl:=sj aJ;exact⟨so (os [15,19] (bT h8) [(7,oL v6.1.ay eI),(16,cL (HE N v7 h9))]),by kernel_rfl⟩
   cases aJ;exact⟨so (os [15,19] (bF h8) [(7,oL v6.1.ay eI)]),by kernel_rfl⟩
  cases J;exact wr ak []
 obtain⟨v9,bQ,J⟩:=au J;refine ax ak [[(0,bF h7)],[(10,cL (MS N v1.cu v2 v9 bQ))]] ?_;obtain⟨v10,cl,J⟩:=au J;obtain⟨v12,cV,J⟩:=au J;refine dn ak [(50,(aU v12))] [.cells (aZ v1).cells, .cells (aZ v6.1).cells] ?_ ?_
 ·refine bc cV (fun dg cV=> ?_) fun dg cV=> ?_
  ·obtain⟨v11,cg,cV⟩:=au cV;cases cV;exact⟨so (os [21,24,27,30,33,36,40] (bF (dH dg)) [(10,cL (yZ N v6.1 v2 v10 cl)),(34,cL (Vy N v1.cu v6.1.cu v11 cg))]),by kernel_rfl⟩
  cases cV;exact⟨so (os [21,24,27,30,33,36,40] (bT (dK dg)) [(10,cL (yZ N v6.1 v2 v10 cl))]),by kernel_rfl⟩
 refine bc J (fun b9 J=> ?_) fun b9 J=> ?_
 ·cases J;exact wr ak [[(0,bT b9)],[]]
 refine ax ak [[(0,bF b9)],[],[]] ?_;refine oD 0 3 (bP v1.ay) (by kernel_rfl) fun c8=> ?_;have cr:=cP eI c8;refine c9 ak 1 [] [1,2,5,7,8,9] 2 (fun((aH,aA,aK):Nat×(agU aG)×Int)=>⟨141,[(1,(bp v2)),(2,(.ptr 0 0)),(5,(.ptr 1 0)),(7,(aU v9)),(8,(ao aK)),(9,(ao (aH:Int)))],[.cells (aZ v1).cells, .cells (aZ v6.1).cells]⟩) (fun((aH,aA,aK):Nat×(agU aG)×Int)=>v1.ay.drop aH=aA∧nG N v6 v2 v9 aA aH aK=some r) (fun((aH,aA,aK):Nat×(agU aG)×Int)=>aA.length) (0,v1.ay,(0:Int)) ⟨rfl,J⟩ ?_;rintro⟨aH,aA,aK⟩ ⟨dk,J⟩ f1 ba;cases aA with
 |nil=>
  rw[nG]at J;refine ax ak [[(10,oL v1.ay eI)],[(0,bF (ck dk))]] ?_;obtain⟨bG,gn,J⟩:=au J;refine dn ak [(4,(aU bG))] [.cells (aZ v1).cells, .cells (aZ v6.1).cells] ?_ ?_
  ·refine bc gn (fun eY gn=> ?_) fun eY gn=> ?_
   ·obtain⟨aR,gB,gn⟩:=au gn;obtain rfl:=sj gn;exact⟨so (os [18,22] (bT eY) [(10,oL v6.1.ay eI),(19,cL (HE N aR gB))]),by kernel_rfl⟩
   cases gn;exact⟨so (os [18,22] (bF eY) [(10,oL v6.1.ay eI)]),by kernel_rfl⟩
  cases J;exact wr ak []
 |cons aT aX=>
  rw[nG]at J;refine ax ak [[(10,oL v1.ay eI)],[(0,bT (cf dk))]] ?_;obtain⟨v20,gU,J⟩:=au J;refine dn ak [(69,(aU v20))] [.cells (aZ v1).cells, .cells (aZ v6.1).cells] ?_ ?_
  ·refine bc gU (fun iH gU=> ?_) fun iH gU=> ?_
   ·cases gU;exact⟨so (os [27,30,34] (bT iH) [(10,oE (gP (bS dk)))]),by kernel_rfl⟩
   cases gU;exact⟨so (os [27,30,34] (bF iH) [(10,oE (gP (bS dk)))]),by kernel_rfl⟩
  refine bc J (fun jn J=> ?_) fun jn J=> ?_
  ·exact cU ak ba (aH+1,aX,aK) [[(0,bT jn)],[(5,oq (cx dk rfl cr))]] ⟨ct dk,J⟩
  refine ax ak [[(0,bF jn)]] ?_;obtain⟨v24,gA,J⟩:=au J;refine dn ak [(130,(aU v24))] [.cells (aZ v1).cells, .cells (aZ v6.1).cells] ?_ ?_
  ·refine bc gA (fun gR gA=> ?_) fun gR gA=> ?_
   ·cases gA;exact⟨so (os [18,21,24,27,30,33,36,39,42,45,48,51,54,58] (bT gR) (os [63,66,69,72,75,78,81,84,87,90,93,96,99,103,108,111,114,117,120,123,126,129,132,135,138,141,144,148,153,156,159,162,165,168,171,174,177,181] (bT rfl) [(10,oL v6.1.ay eI)])),by kernel_rfl⟩
   obtain⟨kF,gA⟩:=dO gA;obtain⟨v21,gL,gA⟩:=au gA;refine bc gA (fun hJ gA=> ?_) fun hJ gA=> ?_
   ·refine bc gA (fun kZ gA=> ?_) fun kZ gA=> ?_
    ·refine bc gA (fun p7 gA=> ?_) fun p7 gA=> ?_
     ·cases gA;exact⟨so (os [18,21,24,27,30,33,36,39,42,45,48,51,54,58] (bF gR) (os [28,73,118] (⟨_,_, .el (xs:=bP v6.1.ay) (i:=aK) (of_decide_eq_true kF) (gP gL)⟩) (os [46,91,136] (oE (gP (bS dk))) (os [63,66,69,72,75,78,81,84,87,90,93,96,99,103] (bF (dH hJ)) (os [108,111,114,117,120,123,126,129,132,135,138,141,144,148] (bF (dH kZ)) (os [153,156,159,162,165,168,171,174,177,181] (bT p7) [(10,oL v6.1.ay eI)])))))),by kernel_rfl⟩
     obtain⟨cY,KB,gA⟩:=au gA;obtain⟨cz,An,gA⟩:=au gA;obtain rfl:=sj gA;exact⟨so (os [18,21,24,27,30,33,36,39,42,45,48,51,54,58] (bF gR) (os [28,73,118,163] (⟨_,_, .el (xs:=bP v6.1.ay) (i:=aK) (of_decide_eq_true kF) (gP gL)⟩) (os [46,91,136] (oE (gP (bS dk))) (os [63,66,69,72,75,78,81,84,87,90,93,96,99,103] (bF (dH hJ)) (os [108,111,114,117,120,123,126,129,132,135,138,141,144,148] (bF (dH kZ)) (os [153,156,159,162,165,168,171,174,177,181] (bF p7) [(10,oL v6.1.ay eI),(172,cL (YB N v21.bq cY KB)),(178,cL (MS N cY v2 cz An))])))))),by kernel_rfl⟩
    cases gA;exact⟨so (os [18,21,24,27,30,33,36,39,42,45,48,51,54,58] (bF gR) (os [28,73] (⟨_,_, .el (xs:=bP v6.1.ay) (i:=aK) (of_decide_eq_true kF) (gP gL)⟩) (os [46,91] (oE (gP (bS dk))) (os [63,66,69,72,75,78,81,84,87,90,93,96,99,103] (bF (dH hJ)) (os [108,111,114,117,120,123,126,129,132,135,138,141,144,148] (bT (dK kZ)) (os [153,156,159,162,165,168,171,174,177,181] (bT rfl) [(10,oL v6.1.ay eI)])))))),by kernel_rfl⟩
   cases gA;exact⟨so (os [18,21,24,27,30,33,36,39,42,45,48,51,54,58] (bF gR) (os [63,66,69,72,75,78,81,84,87,90,93,96,99,103] (bT (dK hJ)) (os [108,111,114,117,120,123,126,129,132,135,138,141,144,148,153,156,159,162,165,168,171,174,177,181] (bT rfl) [(10,oL v6.1.ay eI),(28,⟨_,_, .el (xs:=bP v6.1.ay) (i:=aK) (of_decide_eq_true kF) (gP gL)⟩),(46,oE (gP (bS dk)))]))),by kernel_rfl⟩
  refine bc J (fun Mb J=> ?_) fun Mb J=> ?_
  ·cases J;exact wr ak [[(0,bT Mb)],[]]
  exact cU ak ba (aH+1,aX,(a8 (aK+(1:Int)))) [[(0,bF Mb)],[],[(5,oq (cx dk rfl cr))]] ⟨ct dk,J⟩
def Qq(N:Nat):agW ((agU agV)):=
 some [(bs [115,105,122,101]),(bs [119,104,101,114,101]),(bs [105,110]),(bs [100,101,102]),(bs [111,117,116]),(bs [115,117,109]),(bs [112,114,111,100]),(bs [109,105,110]),(bs [109,97,120]),(bs [115,99,97,110]),(bs [111,118,101,114]),(bs [105,102]),(bs [99,97,115,116]),(bs [102,114,97,99]),(bs [105,110,116]),(bs [102,105,120]),(bs [99,101,105,108]),(bs [102,108,111,111,114]),(bs [122,101,114,111]),(bs [101,118,101,110]),(bs [115,97,116]),(bs [119,114,97,112])]
def yB(N:Nat)(v1:agV):Nat→Int→agW Bool
 |0,_=>none
 |v5+1,v6=>
  bif (decide (v6<(v1.size:Int)))then
   bif (decide ((0:Int)≤v6))then
   Option.bind (v1[(v6).toNat]?) fun v7=>
   Option.bind (bif (decide ((v7.toNat:Int)≥(97:Int)))then(bif (decide ((v7.toNat:Int)≤(122:Int)))then some (!true)else(bif (decide (v6>(0:Int)))then(bif (decide ((v7.toNat:Int)≥(48:Int)))then(bif (decide ((v7.toNat:Int)≤(57:Int)))then some (!true)else some (!((v7.toNat:Int)==(95:Int))))else some (!((v7.toNat:Int)==(95:Int))))else some (!false)))else(bif (decide (v6>(0:Int)))then(bif (decide ((v7.toNat:Int)≥(48:Int)))then(bif (decide ((v7.toNat:Int)≤(57:Int)))then some (!true)else some (!((v7.toNat:Int)==(95:Int))))else some (!((v7.toNat:Int)==(95:Int))))else some (!false))) fun v8=>
   bif v8 then
    some false
   else
    (fun bE=>yB N v1 v5 bE) (a8 (v6+(1:Int)))
   else none
  else
   some true
def xo(N:Nat)(v1:agV):agW Bool:=
 Option.bind (bif (decide ((v1.size:Int)<(1:Int)))then some true else(bif (decide ((v1.size:Int)>(16:Int)))then some true else Option.bind (Qq N) fun v2=>
 Option.bind (lu N v2 v1) fun v3=>
 some v3)) fun v4=>
 bif v4 then
  some false
 else
  yB N v1 N (0:Int)
def xh(N:Nat)(v1:agV)(v2:agU agV):agW Int:=
 Option.bind (xo N v1) fun v3=>
 bif v3 then
  Option.bind (lu N v2 v1) fun v4=>
  bif v4 then
   some (8:Int)
  else
   some (0:Int)
 else
  some (7:Int)
end Go.Proofs.YtphmhnabilhbgaaGreatDoor
