/-
  Part 9 of the proof: PQ3.
-/
import Derived.Test.YtphmhnabilhbgaaGreatDoorPk8
namespace Go.Proofs.YtphmhnabilhbgaaGreatDoor
open Go.RowKit
set_option maxRecDepth 100000
set_option maxHeartbeats 0
set_option linter.unusedVariables false
def fV:aq:=⟨(0:Int),(bs []),FY,fA,dS,[],[]⟩
def mu(v:aq)(r:aiE AV):aiE AV:=(ak v.aX)::(bw v.ao)::(bu v.db.xN)::(bu v.db.xD)::(ak v.aw.ck)::(ak v.aw.cq)::(ak v.aw.cJ)::(ak v.aw.cH)::(ak v.aw.cK)::r
def vb(N:Nat)(v4:bB×(aiE ax)×Bool)(v2:aQ)(v3:aiE (aiF×Int)):aiE az→Nat→aiG (bB×Int)
 |[],_=>
  some (v4.1,(0:Int))
 |v7::v8,v5=>
  Option.bind (C8 N v7 v2 v3) fun v9=>
  bif (v9 !=(0:Int))then
   some (fA,v9)
  else
   (vb N v4 v2 v3 v8 (v5+1))
def Ev(N:Nat)(v1:aq)(v2:aQ)(v3:aiE (aiF×Int)):aiG (bB×Int):=
 Option.bind (Bf N v2 v1.ao) fun v4=>
 bif v4.2.2 then
  bif ((v1.xIdx.length:Int) !=(v4.2.1.length:Int))then
   some (fA,(11:Int))
  else
   vb N v4 v2 v3 v1.xIdx 0
 else
  some (fA,(9:Int))
theorem af8(N:Nat)(v1:aq)(v2:aQ)(v3:aiE (aiF×Int))(r:bB×Int)(J:Ev N v1 v2 v3=some r):bY Tryz.prog 171 [(.ptr 0 0),(aF v1)] [.cells (dL v2 [(.mp 1)]), .map (dC v3)] fun r1 h1=>r1=(.cb [(eZ r.1),(ak r.2)])∧h1=[.cells (dL v2 [(.mp 1)]), .map (dC v3)]:=by
 rw[Ev]at J;refine eu 2 Tryz.func171 (by kernel_rfl) (by kernel_rfl) (ahX rfl) ?_;obtain⟨v4,h1,J⟩:=ar J;refine au af [[],[(19,cL (PG N v2 v1.ao v4 h1))],[]] ?_;refine bc J (fun h2 J=> ?_) fun h2 J=> ?_
 ·refine au af [[(0,bF (cG h2))],[(7,oL v1.xIdx cn),(13,oL v4.2.1 bM)]] ?_;refine bc J (fun h3 J=> ?_) fun h3 J=> ?_
  ·cases J;exact ca af [[(0,bT h3)],[]]
  refine au af [[(0,bF h3)],[(7,oL v1.xIdx cn)]] ?_;refine dq 34 (bJ v1.xIdx) (by kernel_rfl) fun h4=> ?_;have h5:=cd cn h4;refine cx af 1 [] [0,4,6,34,35,36] 5 (fun((v5,v6):Nat×(aiE az))=>⟨49,[(0,(.ptr 0 0)),(4,(.ptr 3 0)),(6,(.ptr 4 0)),(34,(.d (.sl (bJ v1.xIdx)))),(35,(ak (v1.xIdx.length:Int))),(36,(ak (v5:Int)))],[.cells (dL v2 [(.mp 1)]), .map (dC v3), .cells (aF v1).cells, .cells jg, .cells (eZ v4.1).cells]⟩) (fun((v5,v6):Nat×(aiE az))=>v1.xIdx.drop v5=v6∧vb N v4 v2 v3 v6 v5=some r) (fun((v5,v6):Nat×(aiE az))=>v6.length) (0,v1.xIdx) ⟨rfl,J⟩ ?_;rintro⟨v5,v6⟩ ⟨h6,J⟩ f1 aN;cases v6 with
  |nil=>
   rw[vb]at J;cases J;exact ca af [[],[(0,bF (bO h6))],[]]
  |cons v7 v8=>
   rw[vb]at J;obtain⟨v9,h7,J⟩:=ar J;refine au af [[],[(0,bT (bN h6))],[(1,oE (eH (aU h6)))],[(7,⟨_,_, .rq (cQ:=[(.ptr 0 0),(fx v7)]) (h:=[.cells (dL v2 [(.mp 1)]), .map (dC v3), .cells (aF v1).cells, .cells jg, .cells (eZ v4.1).cells, .cells (fx v7).cells]) (l:=[0,1]) (by kernel_rfl) (by kernel_rfl) (by kernel_rfl) (by kernel_rfl) (X0 N v7 v2 v3 v9 h7)⟩)],[]] ?_;refine bc J (fun h8 J=> ?_) fun h8 J=> ?_
   ·cases J;exact ca af [[(0,bT h8)],[]]
   exact ct af aN (v5+1,v8) [[(0,bF h8)],[(2,oq (bV h6 rfl h5))]] ⟨bR h6,J⟩
 cases J;exact ca af [[(0,bT (cU h2))],[]]
def yI(N:Nat)(v1:bB)(v2:bB):aiG Int:=
 bif ((v1.ck==v2.ck)&&((v1.cq==v2.cq)&&((v1.cJ==v2.cJ)&&((v1.cH==v2.cH)&&((v1.cK==v2.cK)&&true)))))then
  some (0:Int)
 else
  some (10:Int)
theorem IT(N:Nat)(v1:bB)(v2:bB)(r:Int)(J:yI N v1 v2=some r):bg Tryz.prog 169 [(eZ v1),(eZ v2)] (·=(ak r)):=by
 rw[yI]at J;refine bD Tryz.func169 (by kernel_rfl) (by kernel_rfl) ?_;refine au af [[],[]] ?_;refine bc J (fun h1 J=> ?_) fun h1 J=> ?_
 ·cases J;exact wr af [[(0,bF (cG h1))],[]]
 cases J;exact wr af [[(0,bT (cU h1))],[]]
def yu(N:Nat)(v8:aiE bB)(aH:Bool):aiG (bB×Int):=
 bif aH then
  Option.bind (v8[0]?) fun aT=>
  Option.bind (v8[1]?) fun bK=>
  Option.bind (yI N aT bK) fun v20=>
  some (fA,v20)
 else
  Option.bind (v8[0]?) fun v21=>
  Option.bind (v8[1]?) fun di=>
  Option.bind (yI N v21 di) fun cS=>
  some (v21,cS)
def yG(N:Nat)(v1:aq)(v8:aiE bB)(aW:Bool):aiG (bB×Int):=
 bif aW then
  some (fA,(0:Int))
 else
  bif (v1.aX==(13:Int))then
   yu N v8 (v1.aX==(13:Int))
  else
   bif (v1.aX==(14:Int))then
    yu N v8 (v1.aX==(14:Int))
   else
    yu N v8 (v1.aX==(15:Int))
def BS(N:Nat)(v1:aq)(v2:aQ)(v3:aiE (aiF×Int))(v8:aiE bB)(v9:Bool):aiG (bB×Int):=
 bif v9 then
  some (v1.aw,(0:Int))
 else
  bif (v1.aX==(2:Int))then
   Option.bind (yE N v1.aK v2 v3) fun v10=>
   some ((⟨(3:Int),(0:Int),(0:Int),(0:Int),(0:Int)⟩:bB),v10)
  else
   bif (v1.aX==(3:Int))then
    Option.bind (Ev N v1 v2 v3) fun v11=>
    some (v11.1,v11.2)
   else
    bif (v1.aX==(8:Int))then
     Option.bind (v8[0]?) fun v12=>
     some (v12,(0:Int))
    else
     bif (v1.aX==(11:Int))then
      Option.bind (v8[1]?) fun aE=>
      Option.bind (v8[2]?) fun aC=>
      Option.bind (yI N aE aC) fun aP=>
      some (aE,aP)
     else
      bif (v1.aX==(16:Int))then
       yG N v1 v8 (v1.aX==(16:Int))
      else
       bif (v1.aX==(17:Int))then
        yG N v1 v8 (v1.aX==(17:Int))
       else
        yG N v1 v8 (v1.aX==(18:Int))
def oX(N:Nat)(v1:aq)(v2:aQ)(v3:aiE (aiF×Int))(TU:aq→aQ→(aiE (aiF×Int))→aiG (bB×Int)):aiE aq→Nat→(aiE bB)→aiG (bB×Int)
 |[],_,v8=>
  bif (v1.aX==(1:Int))then
   BS N v1 v2 v3 v8 (v1.aX==(1:Int))
  else
   BS N v1 v2 v3 v8 (v1.aX==(12:Int))
 |v6::v7,v4,v8=>
  Option.bind (TU v6 v2 v3) fun v24=>
  bif (v24.2 !=(0:Int))then
   some (fA,v24.2)
  else
   bif (Nat.ble ((v8.length+1)*40) 140737488355328)then
   (fun b6=>oX N v1 v2 v3 TU v7 (v4+1) b6) (v8++[v24.1])
   else none
def tD(N:Nat):Nat→aq→aQ→(aiE (aiF×Int))→aiG (bB×Int)
 |0,_,_,_=>none
 |d+1,v1,v2,v3=>
  oX N v1 v2 v3 (tD N d) v1.aM 0 []
def KR(N:Nat)(v1:aq)(v2:aQ)(v3:aiE (aiF×Int)):aiG (bB×Int):=tD N N v1 v2 v3
theorem afM(N:Nat):∀d:Nat,(∀(v1:aq)(v2:aQ)(v3:aiE (aiF×Int))(r:bB×Int),tD N d v1 v2 v3=some r→bY Tryz.prog 138 [(.ptr 0 0),(aF v1)] [.cells (dL v2 [(.mp 1)]), .map (dC v3)] fun r1 h1=>r1=(.cb [(eZ r.1),(ak r.2)])∧h1=[.cells (dL v2 [(.mp 1)]), .map (dC v3)]):=by
 intro d
 induction d with
 |zero=>intro v1 v2 v3 r J;rw[tD]at J;cases J
 |succ d ih=>
  have ac1:=ih;intro v1 v2 v3 r J;rw[tD]at J;refine eu 2 Tryz.func138 (by kernel_rfl) (by kernel_rfl) (ahX rfl) ?_;refine au af [[],[],[(7,oL v1.aM b7)]] ?_;refine nV 6 42 5 [] (.inr (by kernel_rfl)) ?_;refine dq 13 (cT v1.aM) (by kernel_rfl) fun h1=> ?_;have h2:=cd b7 h1;refine cx af 1 [] [0,3,4,6,13,14,15] 5 (fun((v4,v5,v8):Nat×(aiE aq)×(aiE bB))=>⟨102,[(0,(.ptr 0 0)),(3,(.ptr 2 0)),(4,(.ptr 3 0)),(6,(.own 4 (jT v8))),(13,(.d (.sl (cT v1.aM)))),(14,(ak (v1.aM.length:Int))),(15,(ak (v4:Int)))],[.cells (dL v2 [(.mp 1)]), .map (dC v3), .cells (aF v1).cells, .cells jg, .front 42 5 v8.length]⟩) (fun((v4,v5,v8):Nat×(aiE aq)×(aiE bB))=>v1.aM.drop v4=v5∧oX N v1 v2 v3 (tD N d) v5 v4 v8=some r) (fun((v4,v5,v8):Nat×(aiE aq)×(aiE bB))=>v5.length) (0,v1.aM,[]) ⟨rfl,J⟩ ?_;rintro⟨v4,v5,v8⟩ ⟨h3,J⟩ f1 aN;cases v5 with
  |nil=>
   rw[oX]at J;refine l0 af 2 [[],[(0,bF (bO h3))],[],[],[]] [0,3,4,6,11,35,36] 5 (fun(v9:Bool)=>⟨102,[(0,(.ptr 0 0)),(3,(.ptr 2 0)),(4,(.ptr 3 0)),(6,(.own 4 (jT v8))),(11,(.fn 169 [])),(35,(ak v1.aX)),(36,(aJ v9))],[.cells (dL v2 [(.mp 1)]), .map (dC v3), .cells (aF v1).cells, .cells jg, .front 42 5 v8.length]⟩) (fun(v9:Bool)=>BS N v1 v2 v3 v8 v9=some r) ?_ ?_
   ·intro f2 dU;refine bc J (fun iW J=> ?_) fun iW J=> ?_
    ·exact dR af dU (v1.aX==(1:Int)) [[(0,bT iW)]] J
    exact dR af dU (v1.aX==(12:Int)) [[(0,bF iW)],[]] J
   rintro v9 J
   try dsimp only at J
   rw[BS]at J;refine bc J (fun h4 J=> ?_) fun h4 J=> ?_
   ·cases J;exact ca af [[(0,bT h4)],[]]
   refine au af [[(0,bF h4)],[]] ?_;refine bc J (fun h5 J=> ?_) fun h5 J=> ?_
   ·obtain⟨v10,h6,J⟩:=ar J;cases J;exact ca af [[(0,bT h5)],[(13,⟨_,_, .rq (cQ:=[(.ptr 0 0),(b9 v1.aK)]) (h:=[.cells (dL v2 [(.mp 1)]), .map (dC v3), .cells (aF v1).cells, .cells jg, .front 42 5 v8.length]) (l:=[0,1]) (by kernel_rfl) (by kernel_rfl) (by kernel_rfl) (by kernel_rfl) (IJ N v1.aK v2 v3 v10 h6)⟩)]]
   refine au af [[(0,bF h5)],[]] ?_;refine bc J (fun h7 J=> ?_) fun h7 J=> ?_
   ·obtain⟨v11,h8,J⟩:=ar J;cases J;exact ca af [[(0,bT h7)],[(7,⟨_,_, .rq (cQ:=[(.ptr 0 0),(aF v1)]) (h:=[.cells (dL v2 [(.mp 1)]), .map (dC v3), .cells (aF v1).cells, .cells jg, .front 42 5 v8.length]) (l:=[0,1]) (by kernel_rfl) (by kernel_rfl) (by kernel_rfl) (by kernel_rfl) (af8 N v1 v2 v3 v11 h8)⟩)]]
   refine au af [[(0,bF h7)],[]] ?_;refine bc J (fun h9 J=> ?_) fun h9 J=> ?_
   ·obtain⟨v12,aA,J⟩:=ar J;cases J;exact ca af [[(0,bT h9)],[(4,oE (k:=0) (kP aA))]]
   refine au af [[(0,bF h9)],[]] ?_;refine bc J (fun a7 J=> ?_) fun a7 J=> ?_
   ·obtain⟨aE,bk,J⟩:=ar J;obtain⟨aC,cg,J⟩:=ar J;obtain⟨aP,bm,J⟩:=ar J;cases J;exact ca af [[(0,bT a7)],[(4,oE (k:=1) (kP bk)),(16,oE (k:=1) (kP bk)),(25,oE (k:=2) (kP cg)),(31,cL (IT N aE aC aP bm))]]
   refine l0 af 3 [[(0,bF a7)],[]] [4,6,11,35,73] 5 (fun(aW:Bool)=>⟨102,[(4,(.ptr 3 0)),(6,(.own 4 (jT v8))),(11,(.fn 169 [])),(35,(ak v1.aX)),(73,(aJ aW))],[.cells (dL v2 [(.mp 1)]), .map (dC v3), .cells (aF v1).cells, .cells jg, .front 42 5 v8.length]⟩) (fun(aW:Bool)=>yG N v1 v8 aW=some r) ?_ ?_
   ·intro f3 jB;refine bc J (fun fu J=> ?_) fun fu J=> ?_
    ·exact dR af jB (v1.aX==(16:Int)) [[(0,bT fu)]] J
    refine au af [[(0,bF fu)],[]] ?_;refine bc J (fun hX J=> ?_) fun hX J=> ?_
    ·exact dR af jB (v1.aX==(17:Int)) [[(0,bT hX)]] J
    exact dR af jB (v1.aX==(18:Int)) [[(0,bF hX)],[]] J
   rintro aW J
   try dsimp only at J
   rw[yG]at J;refine bc J (fun bQ J=> ?_) fun bQ J=> ?_
   ·cases J;exact ca af [[(0,bT bQ)],[]]
   refine l0 af 4 [[(0,bF bQ)],[]] [4,6,11,78] 5 (fun(aH:Bool)=>⟨102,[(4,(.ptr 3 0)),(6,(.own 4 (jT v8))),(11,(.fn 169 [])),(78,(aJ aH))],[.cells (dL v2 [(.mp 1)]), .map (dC v3), .cells (aF v1).cells, .cells jg, .front 42 5 v8.length]⟩) (fun(aH:Bool)=>yu N v8 aH=some r) ?_ ?_
   ·intro f4 nQ;refine bc J (fun fg J=> ?_) fun fg J=> ?_
    ·exact dR af nQ (v1.aX==(13:Int)) [[(0,bT fg)]] J
    refine au af [[(0,bF fg)],[]] ?_;refine bc J (fun eN J=> ?_) fun eN J=> ?_
    ·exact dR af nQ (v1.aX==(14:Int)) [[(0,bT eN)]] J
    exact dR af nQ (v1.aX==(15:Int)) [[(0,bF eN)],[]] J
   rintro aH J
   try dsimp only at J
   rw[yu]at J;refine bc J (fun bo J=> ?_) fun bo J=> ?_
   ·obtain⟨aT,cC,J⟩:=ar J;obtain⟨bK,bW,J⟩:=ar J;obtain⟨v20,dh,J⟩:=ar J;cases J;exact ca af [[(0,bT bo)],[(10,oE (k:=0) (kP cC)),(19,oE (k:=1) (kP bW)),(25,cL (IT N aT bK v20 dh))]]
   obtain⟨v21,dH,J⟩:=ar J;obtain⟨di,eJ,J⟩:=ar J;obtain⟨cS,fk,J⟩:=ar J;cases J;exact ca af [[(0,bF bo)],[(4,oE (k:=0) (kP dH)),(16,oE (k:=0) (kP dH)),(25,oE (k:=1) (kP eJ)),(31,cL (IT N v21 di cS fk))]]
  |cons v6 v7=>
   rw[oX]at J;obtain⟨v24,lI,J⟩:=ar J;refine au af [[],[(0,bT (bN h3))],[(1,oE (ik (aU h3)))],[(7,⟨_,_, .rq (cQ:=[(.ptr 0 0),(aF v6)]) (h:=[.cells (dL v2 [(.mp 1)]), .map (dC v3), .cells (aF v1).cells, .cells jg, .front 42 5 v8.length, .cells (aF v6).cells]) (l:=[0,1]) (by kernel_rfl) (by kernel_rfl) (by kernel_rfl) (by kernel_rfl) (ac1 v6 v2 v3 v24 lI)⟩)],[]] ?_;refine bc J (fun ku J=> ?_) fun ku J=> ?_
   ·cases J;exact ca af [[(0,bT ku)],[]]
   obtain⟨pL,J⟩:=dg J;exact ct af aN (v4+1,v7,(v8++[v24.1])) [[(0,bF ku)],[(10,⟨_,_, .app (xs:=jT v8) (ys:=jT [v24.1]) (zs:=jT (v8++[v24.1])) (n:=(v8++[v24.1]).length) gh.symm EN EN (by rw[(gh (l:=v8)),(gh (l:=[v24.1]))];exact(de pL (by decide)).1) (by rw[(gh (l:=v8)),(gh (l:=[v24.1]))];exact(de pL (by decide)).2) Nt (by first|(rw[(gh (l:=v8)),(gh (l:=[v24.1]))];done)|(rw[(gh (l:=v8)),(gh (l:=[v24.1]))];rfl)|(rw[(gh (l:=v8)),(gh (l:=[v24.1])),ahQ];done)|(rw[(gh (l:=v8)),(gh (l:=[v24.1])),ahQ];rfl)|(rw[(gh (l:=v8)),(gh (l:=[v24.1])),ah9]))⟩)],[(2,oq (bV h3 rfl h2))]] ⟨bR h3,J⟩
theorem aeu(N:Nat)(v1:aq)(v2:aQ)(v3:aiE (aiF×Int))(r:bB×Int)(J:KR N v1 v2 v3=some r):bY Tryz.prog 138 [(.ptr 0 0),(aF v1)] [.cells (dL v2 [(.mp 1)]), .map (dC v3)] fun r1 h1=>r1=(.cb [(eZ r.1),(ak r.2)])∧h1=[.cells (dL v2 [(.mp 1)]), .map (dC v3)]:=(afM N N) v1 v2 v3 r J
def og(N:Nat)(v3:aq)(v1:aQ):aiE aiF→Nat→(aiE (aiF×Int))→aiG (bB×Int)
 |[],_,aP=>
  Option.bind (KR N v3 v1 aP) fun aW=>
  bif (aW.2 !=(0:Int))then
   some (fA,aW.2)
  else
   some (aW.1,(0:Int))
 |aE::aC,v11,aP=>
  bif (Nat.blt aP.length 9223372036854775807)then
  (fun fI=>og N v3 v1 aC (v11+1) fI) ((aE,(3:Int))::aP)
  else none
def vu(N:Nat)(v3:aq)(v1:aQ)(v2:aiE aiF):aiE aiF→Nat→(aiE (aiF×Int))→aiG (bB×Int)
 |[],_,v10=>
  og N v3 v1 v2 0 v10
 |v8::v9,v6,v10=>
  bif (Nat.blt v10.length 9223372036854775807)then
  (fun b6=>vu N v3 v1 v2 v9 (v6+1) b6) ((v8,(1:Int))::v10)
  else none
def BK(N:Nat)(v1:aQ)(v2:aiE aiF)(v3:aq):aiG (bB×Int):=
 Option.bind (BF N v3) fun v4=>
 bif (v4 !=(0:Int))then
  some (fA,v4)
 else
  Option.bind (y8 N v3) fun v5=>
  bif v5 then
   some (fA,(10:Int))
  else
   vu N v3 v1 v2 v1.ba 0 []
theorem ag0(N:Nat)(v1:aQ)(v2:aiE aiF)(v3:aq)(r:bB×Int)(J:BK N v1 v2 v3=some r):bg Tryz.prog 102 [(aS v1),(.d (.sl (aB v2))),(aF v3)] (·=(.cb [(eZ r.1),(ak r.2)])):=by
 rw[BK]at J;refine bD Tryz.func102 (by kernel_rfl) (by kernel_rfl) ?_;obtain⟨v4,h1,J⟩:=ar J;refine au af [[],[(4,cL (Yu N v3 v4 h1))],[]] ?_;refine bc J (fun h2 J=> ?_) fun h2 J=> ?_
 ·cases J;exact wr af [[(0,bT h2)],[]]
 obtain⟨v5,h3,J⟩:=ar J;refine au af [[(0,bF h2)],[(4,cL (SM N v3 v5 h3))]] ?_;refine bc J (fun h4 J=> ?_) fun h4 J=> ?_
 ·cases J;exact wr af [[(0,bT h4)],[]]
 refine au af [[(0,bF h4)],[],[(7,oL v1.ba bC)]] ?_;refine dq 30 (aB v1.ba) (by kernel_rfl) fun h5=> ?_;have h6:=cd bC h5;refine cx af 1 [] [1,5,6,9,30,31,32] 5 (fun((v6,v7,v10):Nat×(aiE aiF)×(aiE (aiF×Int)))=>⟨65,[(1,(.d (.sl (aB v2)))),(5,(.ptr 1 0)),(6,(.ptr 2 0)),(9,(.ptr 4 0)),(30,(.d (.sl (aB v1.ba)))),(31,(ak (v1.ba.length:Int))),(32,(ak (v6:Int)))],[.cells (aS v1).cells, .cells (aF v3).cells, .cells jg, .map (dC v10), .cells (dL v1 [(.mp 3)])]⟩) (fun((v6,v7,v10):Nat×(aiE aiF)×(aiE (aiF×Int)))=>v1.ba.drop v6=v7∧vu N v3 v1 v2 v7 v6 v10=some r) (fun((v6,v7,v10):Nat×(aiE aiF)×(aiE (aiF×Int)))=>v7.length) (0,v1.ba,[]) ⟨rfl,J⟩ ?_;rintro⟨v6,v7,v10⟩ ⟨h7,J⟩ f1 aN;cases v7 with
 |nil=>
  rw[vu]at J;refine au af [[],[(0,bF (bO h7))],[(4,oL v2 bC)]] ?_;refine dq 1 (aB v2) (by kernel_rfl) fun h8=> ?_;have h9:=cd bC h8;refine cx af 2 [] [5,6,9,42,43,44] 5 (fun((v11,v12,aP):Nat×(aiE aiF)×(aiE (aiF×Int)))=>⟨65,[(5,(.ptr 1 0)),(6,(.ptr 2 0)),(9,(.ptr 4 0)),(42,(.d (.sl (aB v2)))),(43,(ak (v2.length:Int))),(44,(ak (v11:Int)))],[.cells (aS v1).cells, .cells (aF v3).cells, .cells jg, .map (dC aP), .cells (dL v1 [(.mp 3)])]⟩) (fun((v11,v12,aP):Nat×(aiE aiF)×(aiE (aiF×Int)))=>v2.drop v11=v12∧og N v3 v1 v12 v11 aP=some r) (fun((v11,v12,aP):Nat×(aiE aiF)×(aiE (aiF×Int)))=>v12.length) (0,v2,v10) ⟨rfl,J⟩ ?_;rintro⟨v11,v12,aP⟩ ⟨aA,J⟩ f2 dU;cases v12 with
  |nil=>
   rw[og]at J;obtain⟨aW,a7,J⟩:=ar J;refine au af [[],[(0,bF (bO aA))],[(7,⟨_,_, .rq (cQ:=[(.ptr 4 0),(aF v3)]) (h:=[.cells (aS v1).cells, .cells (aF v3).cells, .cells jg, .map (dC aP), .cells (dL v1 [(.mp 3)])]) (l:=[4,3]) (by kernel_rfl) (by kernel_rfl) (by kernel_rfl) (by kernel_rfl) (aeu N v3 v1 aP aW a7)⟩)],[]] ?_;refine bc J (fun bk J=> ?_) fun bk J=> ?_
   ·cases J;exact wr af [[(0,bT bk)],[]]
   cases J;exact wr af [[(0,bF bk)],[]]
  |cons aE aC=>
   rw[og]at J;obtain⟨cg,J⟩:=dg J;exact ct af dU (v11+1,aC,((aE,(3:Int))::aP)) [[],[(0,bT (bN aA))],[(1,oE (kK (aU aA)))],[(16,⟨_,_, .sd (o:= .none) (Ka cg)⟩)],[(2,oq (bV aA rfl h9))]] ⟨bR aA,J⟩
 |cons v8 v9=>
  rw[vu]at J;obtain⟨bm,J⟩:=dg J;exact ct af aN (v6+1,v9,((v8,(1:Int))::v10)) [[],[(0,bT (bN h7))],[(1,oE (kK (aU h7)))],[(16,⟨_,_, .sd (o:= .none) (Ka bm)⟩)],[(2,oq (bV h7 rfl h6))]] ⟨bR h7,J⟩
def Cd(N:Nat)(v1:Int)(v2:aQ)(v3:aiE (aiF×Int)):aiG (Int×(aiE (aiF×Int))):=
 bif (decide ((0:Int)≤v1))then
 Option.bind (v2.ay[(v1).toNat]?) fun v4=>
 Option.bind (ya N v4.ao (2:Int) v2 v3) fun v5=>
 bif (v5.1 !=(0:Int))then
  some (v5.1,v5.2)
 else
  Option.bind (sL N v4.aw ([(v4.aI.length:Int),(v4.bz.length:Int)])) fun v6=>
  bif (v6 !=(0:Int))then
   some (v6,v5.2)
  else
   Option.bind (CJ N v4 v2 v5.2) fun v7=>
   bif (v7 !=(0:Int))then
    some (v7,v5.2)
   else
    Option.bind (CX N v4) fun v8=>
    bif (v8 !=(0:Int))then
     some (v8,v5.2)
    else
     bif (decide ((v1).toNat≤v2.ay.length))then
     Option.bind (Cb N v4) fun v9=>
     Option.bind (BK N (⟨v2.ba,v2.cm,v2.a8,((v2.ay.take (v1).toNat).drop 0),v2.cl⟩:aQ) v9 v4.bx) fun v10=>
     bif (v10.2 !=(0:Int))then
      some (v10.2,v5.2)
     else
      bif ((v10.1.ck==v4.aw.ck)&&((v10.1.cq==v4.aw.cq)&&((v10.1.cJ==v4.aw.cJ)&&((v10.1.cH==v4.aw.cH)&&((v10.1.cK==v4.aw.cK)&&true)))))then
       some ((0:Int),v5.2)
      else
       some ((10:Int),v5.2)
     else none
 else none
theorem aga(N:Nat)(v1:Int)(v2:aQ)(v3:aiE (aiF×Int))(r:Int×(aiE (aiF×Int)))(J:Cd N v1 v2 v3=some r):bY Tryz.prog 63 [(.ptr 0 0),(ak v1)] [.cells (dL v2 [(.mp 1)]), .map (dC v3)] fun r1 h1=>r1=(ak r.1)∧h1=[.cells (dL v2 [(.mp 1)]), .map (dC r.2)]:=by
 rw[Cd]at J;refine eu 2 Tryz.func63 (by kernel_rfl) (by kernel_rfl) (ahX rfl) ?_;obtain⟨h2,J⟩:=dg J;obtain⟨v4,h1,J⟩:=ar J;obtain⟨v5,h3,J⟩:=ar J;refine au af [[],[(19,⟨_,_, .el (xs:=b8 v2.ay) (i:=v1) (of_decide_eq_true h2) (fW h1)⟩)],[(10,⟨_,_, .iK (cQ:=[(.ptr 0 0),(bw v4.ao),(ak (2:Int))]) (h:=[.cells (dL v2 [(.mp 1)]), .map (dC v3), .cells (cy v4).cells]) (l:=[0,1]) (by kernel_rfl) (by kernel_rfl) (by kernel_rfl) (by kernel_rfl) (JK N v4.ao (2:Int) v2 v3 v5 h3)⟩)],[]] ?_;refine bc J (fun h4 J=> ?_) fun h4 J=> ?_
 ·cases J;exact ca af [[(0,bT h4)],[]]
 obtain⟨v6,h5,J⟩:=ar J;refine au af [[(0,bF h4)],[(13,oL v4.aI b5),(22,oL v4.bz b5),(28,cL (TL N v4.aw ([(v4.aI.length:Int),(v4.bz.length:Int)]) v6 h5))],[]] ?_;refine bc J (fun h6 J=> ?_) fun h6 J=> ?_
 ·cases J;exact ca af [[(0,bT h6)],[]]
 obtain⟨v7,h7,J⟩:=ar J;refine au af [[(0,bF h6)],[(7,⟨_,_, .rq (cQ:=[(.ptr 0 0),(cy v4)]) (h:=[.cells (dL v2 [(.mp 1)]), .map (dC v5.2), .cells (cy v4).cells]) (l:=[0,1]) (by kernel_rfl) (by kernel_rfl) (by kernel_rfl) (by kernel_rfl) (ahl N v4 v2 v5.2 v7 h7)⟩)],[]] ?_;refine bc J (fun h8 J=> ?_) fun h8 J=> ?_
 ·cases J;exact ca af [[(0,bT h8)],[]]
 obtain⟨v8,h9,J⟩:=ar J;refine au af [[(0,bF h8)],[(4,cL (W5 N v4 v8 h9))],[]] ?_;refine bc J (fun aA J=> ?_) fun aA J=> ?_
 ·cases J;exact ca af [[(0,bT aA)],[]]
 obtain⟨a7,J⟩:=dg J;obtain⟨v9,bk,J⟩:=ar J;obtain⟨v10,cg,J⟩:=ar J;refine au af [[(0,bF aA)],[],[(19,⟨_,_, .sub (xs:=b8 v2.ay) (lo:=(0:Int)) (hi:=v1) (by decide) (Nat.zero_le _) (of_decide_eq_true h2) (by rw[du];exact(of_decide_eq_true a7)) Dh RU⟩)],[(7,cL (afp N v4 v9 bk)),(16,cL (ag0 N (⟨v2.ba,v2.cm,v2.a8,((v2.ay.take (v1).toNat).drop 0),v2.cl⟩:aQ) v9 v4.bx v10 cg))],[]] ?_;refine bc J (fun bm J=> ?_) fun bm J=> ?_
 ·cases J;exact ca af [[(0,bT bm)],[]]
 refine au af [[(0,bF bm)],[]] ?_;refine bc J (fun bQ J=> ?_) fun bQ J=> ?_
 ·cases J;exact ca af [[(0,bF (cG bQ))],[]]
 cases J;exact ca af [[(0,bT (cU bQ))],[]]
def sG(N:Nat)(cS:aiE (aiF×Int))(v1:aQ):aiE aiF→Nat→Int→aiG (Int×Int)
 |[],_,_=>
  some ((0:Int),(0:Int))
 |mi::tB,v24,v28=>
  bif ((gL cS mi 0) !=(2:Int))then
   some (v28,(9:Int))
  else
   bif (decide (((v24:Int)).toNat≤v1.cl.length))then
   Option.bind (uk N ((v1.cl.take ((v24:Int)).toNat).drop 0) mi) fun JI=>
   bif JI then
    some (v28,(8:Int))
   else
    (fun Z2=>sG N cS v1 tB (v24+1) Z2) (aV (v28+(1:Int)))
   else none
def rz(N:Nat)(v1:aQ):aiE aG→Nat→Int→(aiE (aiF×Int))→aiG (Int×Int)
 |[],_,di,cS=>
  sG N cS v1 v1.cl 0 di
 |_::v21,aT,di,cS=>
  Option.bind (Cd N (aT:Int) v1 cS) fun v30=>
  bif (v30.1 !=(0:Int))then
   some (di,v30.1)
  else
   (fun vY W9=>rz N v1 v21 (aT+1) vY W9) (aV (di+(1:Int))) v30.2
def qP(N:Nat)(v1:aQ):aiE bX→Nat→Int→(aiE (aiF×Int))→aiG (Int×Int)
 |[],_,aW,aH=>
  rz N v1 v1.ay 0 aW aH
 |aC::aP,v12,aW,aH=>
  Option.bind (C4 N aC v1 aH) fun v31=>
  bif (v31.1 !=(0:Int))then
   some (aW,v31.1)
  else
   (fun lC vH=>qP N v1 aP (v12+1) lC vH) (aV (aW+(1:Int))) v31.2
def tk(N:Nat)(v1:aQ)(v7:aiE (aiF×Int)):aiE cf→Nat→aiG (Int×Int)
 |[],_=>
  qP N v1 v1.a8 0 (2:Int) v7
 |v10::v11,v8=>
  Option.bind (Cq N v10 v1 v7) fun Ix=>
  bif (Ix !=(0:Int))then
   some ((1:Int),Ix)
  else
   (tk N v1 v7 v11 (v8+1))
def uZ(N:Nat)(v1:aQ):aiE aiF→Nat→(aiE (aiF×Int))→aiG (Int×Int)
 |[],_,v7=>
  tk N v1 v7 v1.cm 0
 |v5::v6,v3,v7=>
  Option.bind (ya N v5 (1:Int) v1 v7) fun zF=>
  bif (zF.1 !=(0:Int))then
   some ((0:Int),zF.1)
  else
   (fun b6=>uZ N v1 v6 (v3+1) b6) zF.2
def uy(N:Nat)(v1:aQ):aiG (Int×Int):=
 Option.bind (AN N v1) fun v2=>
 bif v2 then
  uZ N v1 v1.ba 0 []
 else
  some ((0:Int),(2:Int))
theorem Ii(N:Nat)(v1:aQ)(r:Int×Int)(J:uy N v1=some r):bg Tryz.prog 30 [(aS v1)] (·=(.cb [(ak r.1),(ak r.2)])):=by
 rw[uy]at J;refine bD Tryz.func30 (by kernel_rfl) (by kernel_rfl) ?_;obtain⟨v2,h1,J⟩:=ar J;refine au af [[],[(4,cL (agt N v1 v2 h1))]] ?_;refine bc J (fun h2 J=> ?_) fun h2 J=> ?_
 ·refine au af [[(0,bF (cG h2))],[],[(7,oL v1.ba bC)]] ?_;refine dq 27 (aB v1.ba) (by kernel_rfl) fun h3=> ?_;have h4:=cd bC h3;refine cx af 1 [] [1,4,27,28,29] 3 (fun((v3,v4,v7):Nat×(aiE aiF)×(aiE (aiF×Int)))=>⟨115,[(1,(.ptr 0 0)),(4,(.ptr 2 0)),(27,(.d (.sl (aB v1.ba)))),(28,(ak (v1.ba.length:Int))),(29,(ak (v3:Int)))],[.cells (aS v1).cells, .map (dC v7), .cells (dL v1 [(.mp 1)])]⟩) (fun((v3,v4,v7):Nat×(aiE aiF)×(aiE (aiF×Int)))=>v1.ba.drop v3=v4∧uZ N v1 v4 v3 v7=some r) (fun((v3,v4,v7):Nat×(aiE aiF)×(aiE (aiF×Int)))=>v4.length) (0,v1.ba,[]) ⟨rfl,J⟩ ?_;rintro⟨v3,v4,v7⟩ ⟨h5,J⟩ f1 aN;cases v4 with
  |nil=>
   rw[uZ]at J;refine au af [[],[(0,bF (bO h5))],[(7,oL v1.cm eO)]] ?_;refine dq 41 (bG v1.cm) (by kernel_rfl) fun h6=> ?_;have h7:=cd eO h6;refine cx af 2 [] [1,4,41,42,43] 3 (fun((v8,v9):Nat×(aiE cf))=>⟨115,[(1,(.ptr 0 0)),(4,(.ptr 2 0)),(41,(.d (.sl (bG v1.cm)))),(42,(ak (v1.cm.length:Int))),(43,(ak (v8:Int)))],[.cells (aS v1).cells, .map (dC v7), .cells (dL v1 [(.mp 1)])]⟩) (fun((v8,v9):Nat×(aiE cf))=>v1.cm.drop v8=v9∧tk N v1 v7 v9 v8=some r) (fun((v8,v9):Nat×(aiE cf))=>v9.length) (0,v1.cm) ⟨rfl,J⟩ ?_;rintro⟨v8,v9⟩ ⟨h8,J⟩ f2 dU;cases v9 with
   |nil=>
    rw[tk]at J;refine au af [[],[(0,bF (bO h8))],[],[(7,oL v1.a8 ee)]] ?_;refine dq 55 (bI v1.a8) (by kernel_rfl) fun h9=> ?_;have aA:=cd ee h9;refine cx af 3 [] [1,4,11,55,56,57] 3 (fun((v12,aE,aW,aH):Nat×(aiE bX)×Int×(aiE (aiF×Int)))=>⟨115,[(1,(.ptr 0 0)),(4,(.ptr 2 0)),(11,(ak aW)),(55,(.d (.sl (bI v1.a8)))),(56,(ak (v1.a8.length:Int))),(57,(ak (v12:Int)))],[.cells (aS v1).cells, .map (dC aH), .cells (dL v1 [(.mp 1)])]⟩) (fun((v12,aE,aW,aH):Nat×(aiE bX)×Int×(aiE (aiF×Int)))=>v1.a8.drop v12=aE∧qP N v1 aE v12 aW aH=some r) (fun((v12,aE,aW,aH):Nat×(aiE bX)×Int×(aiE (aiF×Int)))=>aE.length) (0,v1.a8,(2:Int),v7) ⟨rfl,J⟩ ?_;rintro⟨v12,aE,aW,aH⟩ ⟨a7,J⟩ f3 jB;cases aE with
    |nil=>
     rw[qP]at J;refine au af [[],[(0,bF (bO a7))],[(7,oL v1.ay du)]] ?_;refine dX 0 3 (b8 v1.ay) (by kernel_rfl) fun bk=> ?_;have cg:=cd du bk;refine cx af 4 [] [1,4,11,73,74] 3 (fun((aT,bK,di,cS):Nat×(aiE aG)×Int×(aiE (aiF×Int)))=>⟨115,[(1,(.ptr 0 0)),(4,(.ptr 2 0)),(11,(ak di)),(73,(ak (v1.ay.length:Int))),(74,(ak (aT:Int)))],[.cells (aS v1).cells, .map (dC cS), .cells (dL v1 [(.mp 1)])]⟩) (fun((aT,bK,di,cS):Nat×(aiE aG)×Int×(aiE (aiF×Int)))=>v1.ay.drop aT=bK∧rz N v1 bK aT di cS=some r) (fun((aT,bK,di,cS):Nat×(aiE aG)×Int×(aiE (aiF×Int)))=>bK.length) (0,v1.ay,aW,aH) ⟨rfl,J⟩ ?_;rintro⟨aT,bK,di,cS⟩ ⟨bm,J⟩ f4 nQ;cases bK with
     |nil=>
      rw[rz]at J;refine au af [[],[(0,bF (bO bm))],[(7,oL v1.cl bC)]] ?_;refine dq 88 (aB v1.cl) (by kernel_rfl) fun bQ=> ?_;have bo:=cd bC bQ;refine cx af 5 [] [1,4,11,88,89,90] 3 (fun((v24,eC,v28):Nat×(aiE aiF)×Int)=>⟨115,[(1,(.ptr 0 0)),(4,(.ptr 2 0)),(11,(ak v28)),(88,(.d (.sl (aB v1.cl)))),(89,(ak (v1.cl.length:Int))),(90,(ak (v24:Int)))],[.cells (aS v1).cells, .map (dC cS), .cells (dL v1 [(.mp 1)])]⟩) (fun((v24,eC,v28):Nat×(aiE aiF)×Int)=>v1.cl.drop v24=eC∧sG N cS v1 eC v24 v28=some r) (fun((v24,eC,v28):Nat×(aiE aiF)×Int)=>eC.length) (0,v1.cl,di) ⟨rfl,J⟩ ?_;rintro⟨v24,eC,v28⟩ ⟨cC,J⟩ f5 hf5;cases eC with
      |nil=>
       rw[sG]at J;cases J;exact wr af [[],[(0,bF (bO cC))],[]]
      |cons mi tB=>
       rw[sG]at J;refine au af [[],[(0,bT (bN cC))],[(4,oE (kK (aU cC)))],[(17,⟨_,_, .eq (Du false cS mi)⟩)]] ?_;refine bc J (fun bW J=> ?_) fun bW J=> ?_
       ·cases J;exact wr af [[(0,bT bW)],[]]
       obtain⟨dh,J⟩:=dg J;obtain⟨JI,dH,J⟩:=ar J;refine au af [[(0,bF bW)],[(10,⟨_,_, .sub (xs:=aB v1.cl) (lo:=(0:Int)) (hi:=(v24:Int)) (by decide) (Nat.zero_le _) (of_decide_eq_true (aix (Int.natCast_nonneg _))) (by rw[bC];exact(of_decide_eq_true dh)) jq KG⟩),(16,cL (LO N ((v1.cl.take ((v24:Int)).toNat).drop 0) mi JI dH))]] ?_;refine bc J (fun eJ J=> ?_) fun eJ J=> ?_
       ·cases J;exact wr af [[(0,bT eJ)],[]]
       exact ct af hf5 (v24+1,tB,(aV (v28+(1:Int)))) [[(0,bF eJ)],[],[(2,oq (bV cC rfl bo))]] ⟨bR cC,J⟩
     |cons v20 v21=>
      rw[rz]at J;obtain⟨v30,fk,J⟩:=ar J;refine au af [[],[(0,bT (bN bm))],[],[(7,⟨_,_, .iK (cQ:=[(.ptr 2 0),(ak (aT:Int))]) (h:=[.cells (aS v1).cells, .map (dC cS), .cells (dL v1 [(.mp 1)])]) (l:=[2,1]) (by kernel_rfl) (by kernel_rfl) (by kernel_rfl) (by kernel_rfl) (aga N (aT:Int) v1 cS v30 fk)⟩)],[]] ?_;refine bc J (fun fg J=> ?_) fun fg J=> ?_
      ·cases J;exact wr af [[(0,bT fg)],[]]
      exact ct af nQ (aT+1,v21,(aV (di+(1:Int))),v30.2) [[(0,bF fg)],[],[(2,oq (bV bm rfl cg))]] ⟨bR bm,J⟩
    |cons aC aP=>
     rw[qP]at J;obtain⟨v31,eN,J⟩:=ar J;refine au af [[],[(0,bT (bN a7))],[(1,oE (jV (aU a7)))],[(7,⟨_,_, .iK (cQ:=[(.ptr 2 0),(lf aC)]) (h:=[.cells (aS v1).cells, .map (dC aH), .cells (dL v1 [(.mp 1)]), .cells (lf aC).cells]) (l:=[2,1]) (by kernel_rfl) (by kernel_rfl) (by kernel_rfl) (by kernel_rfl) (Ze N aC v1 aH v31 eN)⟩)],[]] ?_;refine bc J (fun fu J=> ?_) fun fu J=> ?_
     ·cases J;exact wr af [[(0,bT fu)],[]]
     exact ct af jB (v12+1,aP,(aV (aW+(1:Int))),v31.2) [[(0,bF fu)],[],[(2,oq (bV a7 rfl aA))]] ⟨bR a7,J⟩
   |cons v10 v11=>
    rw[tk]at J;obtain⟨Ix,hX,J⟩:=ar J;refine au af [[],[(0,bT (bN h8))],[(1,oE (sX (aU h8)))],[(7,⟨_,_, .rq (cQ:=[(.ptr 2 0),(kE v10)]) (h:=[.cells (aS v1).cells, .map (dC v7), .cells (dL v1 [(.mp 1)]), .cells (kE v10).cells]) (l:=[2,1]) (by kernel_rfl) (by kernel_rfl) (by kernel_rfl) (by kernel_rfl) (afN N v10 v1 v7 Ix hX)⟩)],[]] ?_;refine bc J (fun iW J=> ?_) fun iW J=> ?_
    ·cases J;exact wr af [[(0,bT iW)],[]]
    exact ct af dU (v8+1,v11) [[(0,bF iW)],[(2,oq (bV h8 rfl h7))]] ⟨bR h8,J⟩
  |cons v5 v6=>
   rw[uZ]at J;obtain⟨zF,lI,J⟩:=ar J;refine au af [[],[(0,bT (bN h5))],[(1,oE (kK (aU h5)))],[(7,⟨_,_, .iK (cQ:=[(.ptr 2 0),(bw v5),(ak (1:Int))]) (h:=[.cells (aS v1).cells, .map (dC v7), .cells (dL v1 [(.mp 1)])]) (l:=[2,1]) (by kernel_rfl) (by kernel_rfl) (by kernel_rfl) (by kernel_rfl) (JK N v5 (1:Int) v1 v7 zF lI)⟩)],[]] ?_;refine bc J (fun ku J=> ?_) fun ku J=> ?_
   ·cases J;exact wr af [[(0,bT ku)],[]]
   exact ct af aN (v3+1,v6,zF.2) [[(0,bF ku)],[(2,oq (bV h5 rfl h4))]] ⟨bR h5,J⟩
 cases J;exact wr af [[(0,bT (cU h2))],[]]
def Hv(N:Nat)(v1:az)(v2:aiF):aiG Bool:=
 some (bL v1.bn==bL v2)
theorem Z3(N:Nat)(v1:az)(v2:aiF)(r:Bool)(J:Hv N v1 v2=some r):bY Tryz.prog 35 [(fx v1),(.ptr 0 0)] [.cells [(bw v2)]] fun r1 h1=>r1=(aJ r)∧h1=[.cells [(bw v2)]]:=by
 rw[Hv]at J;refine eu 1 Tryz.func35 (by kernel_rfl) (by kernel_rfl) (ahX rfl) ?_;cases J;exact ca af [[],[]]
def vi(N:Nat)(v2:aiF):aiE az→Nat→aiG Int
 |[],_=>
  some (-1:Int)
 |v5::v6,v3=>
  Option.bind (Hv N v5 v2) fun v7=>
  bif v7 then
   some (v3:Int)
  else
   (vi N v2 v6 (v3+1))
def HT(N:Nat)(v1:aiE az)(v2:aiF):aiG Int:=
 vi N v2 v1 0
theorem ae1(N:Nat)(v1:aiE az)(v2:aiF)(r:Int)(J:HT N v1 v2=some r):bY Tryz.prog 72 [(.d (.sl (bJ v1))),(.fn 35 [(.ptr 0 0)])] [.cells [(bw v2)]] fun r1 h1=>r1=(ak r)∧h1=[.cells [(bw v2)]]:=by
 rw[HT]at J;refine eu 1 Tryz.func72 (by kernel_rfl) (by kernel_rfl) (ahX rfl) ?_;refine au af [[],[(4,oL v1 cn)]] ?_;refine dq 0 (bJ v1) (by kernel_rfl) fun h1=> ?_;have h2:=cd cn h1;refine cx af 1 [] [0,1,7,8] 1 (fun((v3,v4):Nat×(aiE az))=>⟨19,[(0,(.d (.sl (bJ v1)))),(1,(.fn 35 [(.ptr 0 0)])),(7,(ak (v1.length:Int))),(8,(ak (v3:Int)))],[.cells [(bw v2)]]⟩) (fun((v3,v4):Nat×(aiE az))=>v1.drop v3=v4∧vi N v2 v4 v3=some r) (fun((v3,v4):Nat×(aiE az))=>v4.length) (0,v1) ⟨rfl,J⟩ ?_;rintro⟨v3,v4⟩ ⟨h3,J⟩ f1 aN;cases v4 with
 |nil=>
  rw[vi]at J;cases J;exact ca af [[],[(0,bF (bO h3))],[]]
 |cons v5 v6=>
  rw[vi]at J;obtain⟨v7,h4,J⟩:=ar J;refine au af [[],[(0,bT (bN h3))],[],[(10,oE (eH (aU h3))),(16,⟨_,_, .rq (cQ:=[(fx v5),(.ptr 0 0)]) (h:=[.cells [(bw v2)]]) (l:=[0]) (by kernel_rfl) (by kernel_rfl) (by kernel_rfl) (by kernel_rfl) (Z3 N v5 v2 v7 h4)⟩)]] ?_;refine bc J (fun h5 J=> ?_) fun h5 J=> ?_
  ·cases J;exact ca af [[(0,bT h5)],[]]
  exact ct af aN (v3+1,v6) [[(0,bF h5)],[(2,oq (bV h3 rfl h2))]] ⟨bR h3,J⟩
def AW(N:Nat)(v1:aiE az)(v2:aiF):aiG Bool:=
 Option.bind (HT N v1 v2) fun v3=>
 some (decide (v3≥(0:Int)))
theorem Fv(N:Nat)(v1:aiE az)(v2:aiF)(r:Bool)(J:AW N v1 v2=some r):bY Tryz.prog 36 [(.d (.sl (bJ v1))),(.fn 35 [(.ptr 0 0)])] [.cells [(bw v2)]] fun r1 h1=>r1=(aJ r)∧h1=[.cells [(bw v2)]]:=by
 rw[AW]at J;refine eu 1 Tryz.func36 (by kernel_rfl) (by kernel_rfl) (ahX rfl) ?_;obtain⟨v3,h1,J⟩:=ar J;cases J;exact ca af [[],[(7,⟨_,_, .rq (cQ:=[(.d (.sl (bJ v1))),(.fn 35 [(.ptr 0 0)])]) (h:=[.cells [(bw v2)]]) (l:=[0]) (by kernel_rfl) (by kernel_rfl) (by kernel_rfl) (by kernel_rfl) (ae1 N v1 v2 v3 h1)⟩)]]
def Gw(N:Nat)(v1:az):aiG Bool:=
 some (!(bL v1.bn==bL (bs [])))
theorem afn(N:Nat)(v1:az)(r:Bool)(J:Gw N v1=some r):bg Tryz.prog 37 [(fx v1)] (·=(aJ r)):=by
 rw[Gw]at J;refine bD Tryz.func37 (by kernel_rfl) (by kernel_rfl) ?_;cases J;exact wr af [[],[]]
def wU(N:Nat):aiE az→Nat→aiG Int
 |[],_=>
  some (-1:Int)
 |v4::v5,v2=>
  Option.bind (Gw N v4) fun v6=>
  bif v6 then
   some (v2:Int)
  else
   (wU N v5 (v2+1))
def F7(N:Nat)(v1:aiE az):aiG Int:=
 wU N v1 0
theorem aag(N:Nat)(v1:aiE az)(r:Int)(J:F7 N v1=some r):bY Tryz.prog 72 [(.d (.sl (bJ v1))),(.fn 37 [])] [] fun r1 h1=>r1=(ak r)∧h1=[]:=by
 rw[F7]at J;refine eu 0 Tryz.func72 (by kernel_rfl) (by kernel_rfl) (ahX rfl) ?_;refine au af [[],[(4,oL v1 cn)]] ?_;refine dq 0 (bJ v1) (by kernel_rfl) fun h1=> ?_;have h2:=cd cn h1;refine cx af 1 [] [0,1,7,8] 0 (fun((v2,v3):Nat×(aiE az))=>⟨19,[(0,(.d (.sl (bJ v1)))),(1,(.fn 37 [])),(7,(ak (v1.length:Int))),(8,(ak (v2:Int)))],[]⟩) (fun((v2,v3):Nat×(aiE az))=>v1.drop v2=v3∧wU N v3 v2=some r) (fun((v2,v3):Nat×(aiE az))=>v3.length) (0,v1) ⟨rfl,J⟩ ?_;rintro⟨v2,v3⟩ ⟨h3,J⟩ f1 aN;cases v3 with
 |nil=>
  rw[wU]at J;cases J;exact ca af [[],[(0,bF (bO h3))],[]]
 |cons v4 v5=>
  rw[wU]at J;obtain⟨v6,h4,J⟩:=ar J;refine au af [[],[(0,bT (bN h3))],[],[(10,oE (eH (aU h3))),(16,cL (afn N v4 v6 h4))]] ?_;refine bc J (fun h5 J=> ?_) fun h5 J=> ?_
  ·cases J;exact ca af [[(0,bT h5)],[]]
  exact ct af aN (v2+1,v5) [[(0,bF h5)],[(2,oq (bV h3 rfl h2))]] ⟨bR h3,J⟩
def AL(N:Nat)(v1:aiE az):aiG Bool:=
 Option.bind (F7 N v1) fun v2=>
 some (decide (v2≥(0:Int)))
theorem af3(N:Nat)(v1:aiE az)(r:Bool)(J:AL N v1=some r):bY Tryz.prog 36 [(.d (.sl (bJ v1))),(.fn 37 [])] [] fun r1 h1=>r1=(aJ r)∧h1=[]:=by
 rw[AL]at J;refine eu 0 Tryz.func36 (by kernel_rfl) (by kernel_rfl) (ahX rfl) ?_;obtain⟨v2,h1,J⟩:=ar J;cases J;exact ca af [[],[(7,⟨_,_, .rq (cQ:=[(.d (.sl (bJ v1))),(.fn 37 [])]) (h:=[]) (l:=[]) (by kernel_rfl) (by kernel_rfl) (by kernel_rfl) (by kernel_rfl) (aag N v1 v2 h1)⟩)]]
def xv(N:Nat)(gz:aiG Int)(v2:aiF):aiE aq→aiG Int
 |[]=>
  gz
 |v11::v12=>
  Option.bind (AW N v11.xIdx v2) fun aE=>
  Option.bind (bif aE then some true else(bif (v11.aX==(3:Int))then(bif (bL v11.ao==bL v2)then Option.bind (AL N v11.xIdx) fun aC=>
  some aC else some false)else some false)) fun aP=>
  bif aP then
   some (1:Int)
  else
   (xv N gz v2 v12)
def tT(N:Nat)(v2:aiF):aiE aG→Nat→aiG Int
 |[],_=>
  some (0:Int)
 |v8::v9,v6=>
  Option.bind (ze N v8.bx) fun v10=>
  xv N (tT N v2 v9 (v6+1)) v2 (dJ v10)
def DQ(N:Nat)(v1:aQ)(v2:aiF):aiG Int:=
 Option.bind (uy N v1) fun v3=>
 bif (v3.2 !=(0:Int))then
  some v3.2
 else
  Option.bind (wB N v1 v2) fun v4=>
  bif (decide (v4<(0:Int)))then
   some (9:Int)
  else
   bif (decide ((0:Int)≤v4))then
   Option.bind (v1.ay[(v4).toNat]?) fun v5=>
   bif (v5.cP !=(0:Int))then
    some (1:Int)
   else
    tT N v2 v1.ay 0
   else none
theorem acn(N:Nat)(v1:aQ)(v2:aiF)(r:Int)(J:DQ N v1 v2=some r):bg Tryz.prog 10 [(aS v1),(bw v2)] (·=(ak r)):=by
 rw[DQ]at J;refine qg Tryz.func10 rfl (by kernel_rfl) ?_;refine gF [0,1] 0 (ah0 _) (s':=⟨65,[(0,(aS v1)),(1,(bw v2))],[]⟩) (by kernel_rfl) ?_;refine aR ?_;refine rg [] [(2,(.ptr 0 0)),(3,(.ptr 1 0)),(4,(.ptr 2 0))] [.cells (aS v1).cells, .cells [(bw v2)], .cells [(ak (0:Int))]] (by kernel_rfl) ?_;refine aR ?_;refine aR ?_;obtain⟨v3,h1,J⟩:=ar J;refine rg [(4,cL (Ii N v1 v3 h1))] [(6,(ak v3.2))] [.cells (aS v1).cells, .cells [(bw v2)], .cells [(ak (0:Int))]] (by kernel_rfl) ?_;refine aR ?_;refine rg [] [(18,(aJ (v3.2 !=(0:Int))))] [.cells (aS v1).cells, .cells [(bw v2)], .cells [(ak (0:Int))]] (by kernel_rfl) ?_;rcases fQ (v3.2 !=(0:Int))with h2|h2
 ·replace J:=(dA h2).symm.trans J;refine fB (t:=(v3.2 !=(0:Int))) (by kernel_rfl) h2 ?_;refine aR ?_;refine rg [] [] [.cells (aS v1).cells, .cells [(bw v2)], .cells [(ak v3.2)]] (by kernel_rfl) ?_;refine dN (ej ?_);have hr:=ah8 J;subst hr;exact gn (by kernel_rfl)
 replace J:=(fS h2).symm.trans J;refine fv (t:=(v3.2 !=(0:Int))) (by kernel_rfl) h2 ?_;refine et ?_;refine cv ?_;refine aR ?_;obtain⟨v4,h3,J⟩:=ar J;refine rg [(7,cL (J0 N v1 v2 v4 h3))] [(7,(ak v4))] [.cells (aS v1).cells, .cells [(bw v2)], .cells [(ak (0:Int))]] (by kernel_rfl) ?_;refine aR ?_;refine aR ?_;refine rg [] [(24,(aJ (decide (v4<(0:Int)))))] [.cells (aS v1).cells, .cells [(bw v2)], .cells [(ak (0:Int))]] (by kernel_rfl) ?_;rcases fQ (decide (v4<(0:Int)))with h4|h4
 ·replace J:=(dA h4).symm.trans J;refine fB (t:=(decide (v4<(0:Int)))) (by kernel_rfl) h4 ?_;refine aR ?_;refine rg [] [] [.cells (aS v1).cells, .cells [(bw v2)], .cells [(ak (9:Int))]] (by kernel_rfl) ?_;refine dN (ej ?_);have hr:=ah8 J;subst hr;exact gn (by kernel_rfl)
 replace J:=(fS h4).symm.trans J;refine fv (t:=(decide (v4<(0:Int)))) (by kernel_rfl) h4 ?_;refine et ?_;refine cv ?_;refine aR ?_;refine aR ?_;have h6:=fw J;replace J:=(dA h6).symm.trans J;obtain⟨v5,h5,J⟩:=ar J;refine rg [(10,⟨_,_, .el (xs:=b8 v1.ay) (i:=v4) (of_decide_eq_true h6) (fW h5)⟩)] [(31,(aJ (v5.cP !=(0:Int))))] [.cells (aS v1).cells, .cells [(bw v2)], .cells [(ak (0:Int))]] (by kernel_rfl) ?_;rcases fQ (v5.cP !=(0:Int))with h7|h7
 ·replace J:=(dA h7).symm.trans J;refine fB (t:=(v5.cP !=(0:Int))) (by kernel_rfl) h7 ?_;refine aR ?_;refine rg [] [] [.cells (aS v1).cells, .cells [(bw v2)], .cells [(ak (1:Int))]] (by kernel_rfl) ?_;refine dN (ej ?_);have hr:=ah8 J;subst hr;exact gn (by kernel_rfl)
 replace J:=(fS h7).symm.trans J;refine fv (t:=(v5.cP !=(0:Int))) (by kernel_rfl) h7 ?_;refine et ?_;refine cv ?_;refine aR ?_;refine aR ?_;refine rg [(7,oL v1.ay du)] [(33,(.d (.sl (b8 v1.ay)))),(34,(ak (v1.ay.length:Int))),(35,(ak (0:Int)))] [.cells (aS v1).cells, .cells [(bw v2)], .cells [(ak (0:Int))]] (by kernel_rfl) ?_;refine fe ?_;refine pF 33 (b8 v1.ay) (by kernel_rfl) fun h8=> ?_;have h9:=cd du h8;refine P2 [3,4,33,34,35] 3 (fun((v6,v7):Nat×(aiE aG))=>⟨65,[(3,(.ptr 1 0)),(4,(.ptr 2 0)),(33,(.d (.sl (b8 v1.ay)))),(34,(ak (v1.ay.length:Int))),(35,(ak (v6:Int)))],[.cells (aS v1).cells, .cells [(bw v2)], .cells [(ak (0:Int))]]⟩) (fun((v6,v7):Nat×(aiE aG))=>v1.ay.drop v6=v7∧tT N v2 v7 v6=some r) (fun((v6,v7):Nat×(aiE aG))=>v7.length) (0,v1.ay) (ahX rfl) (by kernel_rfl) ⟨rfl,J⟩ ?_;rintro⟨v6,v7⟩ ⟨aA,J⟩;cases v7 with
 |nil=>
  rw[tT]at J;refine aR ?_;refine rg [] [(36,(aJ (decide ((v6:Int)<(v1.ay.length:Int)))))] [.cells (aS v1).cells, .cells [(bw v2)], .cells [(ak (0:Int))]] (by kernel_rfl) ?_;refine aR ?_;refine fv (t:=(decide ((v6:Int)<(v1.ay.length:Int)))) (by kernel_rfl) (bO aA) ?_;refine kZ (gH (gH (lJ rfl ?_)));refine cv ?_;refine aR ?_;refine rg [] [] [.cells (aS v1).cells, .cells [(bw v2)], .cells [(ak (0:Int))]] (by kernel_rfl) ?_;refine dN ?_;have hr:=ah8 J;subst hr;exact gn (by kernel_rfl)
 |cons v8 v9=>
  rw[tT]at J;refine aR ?_;refine rg [] [(36,(aJ (decide ((v6:Int)<(v1.ay.length:Int)))))] [.cells (aS v1).cells, .cells [(bw v2)], .cells [(ak (0:Int))]] (by kernel_rfl) ?_;refine aR ?_;refine fB (t:=(decide ((v6:Int)<(v1.ay.length:Int)))) (by kernel_rfl) (bN aA) ?_;refine et ?_;refine cv ?_;refine aR ?_;refine fe ?_;refine aR ?_;refine rg [(1,oE (fW (aU aA)))] [(9,(.ptr 3 0))] [.cells (aS v1).cells, .cells [(bw v2)], .cells [(ak (0:Int))], .cells (cy v8).cells] (by kernel_rfl) ?_;refine aR ?_;obtain⟨v10,a7,J⟩:=ar J;refine rg [(7,cL (Kc N v8.bx v10 a7))] [(41,(.fn 70 [(.bt [dy v10] 0 0)]))] [.cells (aS v1).cells, .cells [(bw v2)], .cells [(ak (0:Int))], .cells (cy v8).cells] (by kernel_rfl) ?_;refine fe ?_;refine gF [3,4,33,34,35,41] 4 (ahX rfl) (s':=⟨65,[(3,(.ptr 1 0)),(4,(.ptr 2 0)),(33,(.d (.sl (b8 v1.ay)))),(34,(ak (v1.ay.length:Int))),(35,(ak (v6:Int))),(41,(.fn 70 [(.bt [dy v10] 0 0)]))],[.cells (aS v1).cells, .cells [(bw v2)], .cells [(ak (0:Int))], .cells (cy v8).cells]⟩) (by kernel_rfl) ?_;refine HO (m:=4) (enc:=aF) (xs:=(dJ v10)) (by kernel_rfl) (Lm v10) (fun(_:Unit)=>[.cells (aS v1).cells, .cells [(bw v2)], .cells [(ak (0:Int))], .cells (cy v8).cells]) (fun(_:Unit) l=>xv N (tT N v2 v9 (v6+1)) v2 l=some r) () (by kernel_rfl) J (by rintro _;rfl) (by rintro _;kernel_rfl) (by kernel_rfl) rfl ?_ ?_
  ·rintro _ v11 v12 J bk nZ nC
   try dsimp only at J
   rw[xv]at J;refine gF [3,4,33,34,35,42] 5 (ah0 _) (s':=⟨65,[(3,(.ptr 1 0)),(4,(.ptr 2 0)),(33,(.d (.sl (b8 v1.ay)))),(34,(ak (v1.ay.length:Int))),(35,(ak (v6:Int))),(42,(aF v11))],[.cells (aS v1).cells, .cells [(bw v2)], .cells [(ak (0:Int))], .cells (cy v8).cells, .lp .ready 42 nZ nC (dM 65 [(3,(.ptr 1 0)),(4,(.ptr 2 0)),(33,(.d (.sl (b8 v1.ay)))),(34,(ak (v1.ay.length:Int))),(35,(ak (v6:Int))),(41,(.fn 70 [(.bt [dy v10] 0 0)]))])]⟩) (by kernel_rfl) ?_;refine re [] [(10,(.ptr 5 0))] [.cells (aS v1).cells, .cells [(bw v2)], .cells [(ak (0:Int))], .cells (cy v8).cells, .lp .ready 42 nZ nC (dM 65 [(3,(.ptr 1 0)),(4,(.ptr 2 0)),(33,(.d (.sl (b8 v1.ay)))),(34,(ak (v1.ay.length:Int))),(35,(ak (v6:Int))),(41,(.fn 70 [(.bt [dy v10] 0 0)]))]), .cells (aF v11).cells] (by kernel_rfl) ?_;refine cv ?_;refine⟨[.cells (aS v1).cells, .cells [(bw v2)], .cells [(ak (0:Int))], .cells (cy v8).cells],[.cells (aF v11).cells],rfl,(by kernel_rfl),?_⟩;refine gF [3,4,10,33,34,35,42] 6 (ahX rfl) (s':=⟨65,[(3,(.ptr 1 0)),(4,(.ptr 2 0)),(10,(.ptr 5 0)),(33,(.d (.sl (b8 v1.ay)))),(34,(ak (v1.ay.length:Int))),(35,(ak (v6:Int))),(42,(aF v11))],[.cells (aS v1).cells, .cells [(bw v2)], .cells [(ak (0:Int))], .cells (cy v8).cells, .lp .busy 42 nZ nC (dM 65 [(3,(.ptr 1 0)),(4,(.ptr 2 0)),(33,(.d (.sl (b8 v1.ay)))),(34,(ak (v1.ay.length:Int))),(35,(ak (v6:Int))),(41,(.fn 70 [(.bt [dy v10] 0 0)]))]), .cells (aF v11).cells]⟩) (by kernel_rfl) ?_
   refine fe ?_;refine aR ?_;refine rg [] [(11,(.fn 35 [(.ptr 1 0)]))] [.cells (aS v1).cells, .cells [(bw v2)], .cells [(ak (0:Int))], .cells (cy v8).cells, .lp .busy 42 nZ nC (dM 65 [(3,(.ptr 1 0)),(4,(.ptr 2 0)),(33,(.d (.sl (b8 v1.ay)))),(34,(ak (v1.ay.length:Int))),(35,(ak (v6:Int))),(41,(.fn 70 [(.bt [dy v10] 0 0)]))]), .cells (aF v11).cells] (by kernel_rfl) ?_;refine aR ?_;obtain⟨aE,cg,J⟩:=ar J;obtain⟨aP,bW,J⟩:=ar J;refine VS [(63,(aJ aP))] [.cells (aS v1).cells, .cells [(bw v2)], .cells [(ak (0:Int))], .cells (cy v8).cells, .lp .busy 42 nZ nC (dM 65 [(3,(.ptr 1 0)),(4,(.ptr 2 0)),(33,(.d (.sl (b8 v1.ay)))),(34,(ak (v1.ay.length:Int))),(35,(ak (v6:Int))),(41,(.fn 70 [(.bt [dy v10] 0 0)]))]), .cells (aF v11).cells] ?_ ?_
   ·rcases fQ aE with bm|bm
    ·replace bW:=(dA bm).symm.trans bW;have he:=ah8 bW;subst he;exact⟨[(10,⟨_,_, .rq (cQ:=[(.d (.sl (bJ v11.xIdx))),(.fn 35 [(.ptr 1 0)])]) (h:=[.cells (aS v1).cells, .cells [(bw v2)], .cells [(ak (0:Int))], .cells (cy v8).cells, .lp .busy 42 nZ nC (dM 65 [(3,(.ptr 1 0)),(4,(.ptr 2 0)),(33,(.d (.sl (b8 v1.ay)))),(34,(ak (v1.ay.length:Int))),(35,(ak (v6:Int))),(41,(.fn 70 [(.bt [dy v10] 0 0)]))]), .cells (aF v11).cells]) (l:=[1]) (by kernel_rfl) (by kernel_rfl) (by kernel_rfl) (by kernel_rfl) (Fv N v11.xIdx v2 aE cg)⟩),(15,bT bm),(18,bT bm),(21,bT bm),(24,bT bm),(27,uN),(30,uN),(33,uN),(36,uN),(39,bT bm),(42,bT bm),(45,uN),(48,uN),(51,uN),(54,bT bm),(58,bT bm)],by kernel_rfl⟩
    replace bW:=(fS bm).symm.trans bW;rcases fQ (v11.aX==(3:Int))with bQ|bQ
    ·replace bW:=(dA bQ).symm.trans bW;rcases fQ (bL v11.ao==bL v2)with bo|bo
     ·replace bW:=(dA bo).symm.trans bW;obtain⟨aC,cC,bW⟩:=ar bW;have he:=ah8 bW;subst he;exact⟨[(10,⟨_,_, .rq (cQ:=[(.d (.sl (bJ v11.xIdx))),(.fn 35 [(.ptr 1 0)])]) (h:=[.cells (aS v1).cells, .cells [(bw v2)], .cells [(ak (0:Int))], .cells (cy v8).cells, .lp .busy 42 nZ nC (dM 65 [(3,(.ptr 1 0)),(4,(.ptr 2 0)),(33,(.d (.sl (b8 v1.ay)))),(34,(ak (v1.ay.length:Int))),(35,(ak (v6:Int))),(41,(.fn 70 [(.bt [dy v10] 0 0)]))]), .cells (aF v11).cells]) (l:=[1]) (by kernel_rfl) (by kernel_rfl) (by kernel_rfl) (by kernel_rfl) (Fv N v11.xIdx v2 aE cg)⟩),(15,bF bm),(18,bF bm),(21,bF bm),(24,bF bm),(27,bT bQ),(30,bT bQ),(33,bT bQ),(36,bT bQ),(39,bF bm),(40,bT bQ),(42,bF bm),(45,bT bo),(48,bT bo),(51,bT bo),(52,⟨_,_, .rq (cQ:=[(.d (.sl (bJ v11.xIdx))),(.fn 37 [])]) (h:=[.cells (aS v1).cells, .cells [(bw v2)], .cells [(ak (0:Int))], .cells (cy v8).cells, .lp .busy 42 nZ nC (dM 65 [(3,(.ptr 1 0)),(4,(.ptr 2 0)),(33,(.d (.sl (b8 v1.ay)))),(34,(ak (v1.ay.length:Int))),(35,(ak (v6:Int))),(41,(.fn 70 [(.bt [dy v10] 0 0)]))]), .cells (aF v11).cells]) (l:=[]) (by kernel_rfl) (by kernel_rfl) (by kernel_rfl) (by kernel_rfl) (af3 N v11.xIdx aC cC)⟩),(54,bF bm),(55,bT bo),(58,bF bm)],by kernel_rfl⟩
     replace bW:=(fS bo).symm.trans bW;have he:=ah8 bW;subst he;exact⟨[(10,⟨_,_, .rq (cQ:=[(.d (.sl (bJ v11.xIdx))),(.fn 35 [(.ptr 1 0)])]) (h:=[.cells (aS v1).cells, .cells [(bw v2)], .cells [(ak (0:Int))], .cells (cy v8).cells, .lp .busy 42 nZ nC (dM 65 [(3,(.ptr 1 0)),(4,(.ptr 2 0)),(33,(.d (.sl (b8 v1.ay)))),(34,(ak (v1.ay.length:Int))),(35,(ak (v6:Int))),(41,(.fn 70 [(.bt [dy v10] 0 0)]))]), .cells (aF v11).cells]) (l:=[1]) (by kernel_rfl) (by kernel_rfl) (by kernel_rfl) (by kernel_rfl) (Fv N v11.xIdx v2 aE cg)⟩),(15,bF bm),(18,bF bm),(21,bF bm),(24,bF bm),(27,bT bQ),(30,bT bQ),(33,bT bQ),(36,bT bQ),(39,bF bm),(40,bT bQ),(42,bF bm),(45,bF bo),(48,bF bo),(51,bF bo),(54,bF bm),(55,bF bo),(58,bF bm)],by kernel_rfl⟩
    replace bW:=(fS bQ).symm.trans bW;have he:=ah8 bW;subst he;exact⟨[(10,⟨_,_, .rq (cQ:=[(.d (.sl (bJ v11.xIdx))),(.fn 35 [(.ptr 1 0)])]) (h:=[.cells (aS v1).cells, .cells [(bw v2)], .cells [(ak (0:Int))], .cells (cy v8).cells, .lp .busy 42 nZ nC (dM 65 [(3,(.ptr 1 0)),(4,(.ptr 2 0)),(33,(.d (.sl (b8 v1.ay)))),(34,(ak (v1.ay.length:Int))),(35,(ak (v6:Int))),(41,(.fn 70 [(.bt [dy v10] 0 0)]))]), .cells (aF v11).cells]) (l:=[1]) (by kernel_rfl) (by kernel_rfl) (by kernel_rfl) (by kernel_rfl) (Fv N v11.xIdx v2 aE cg)⟩),(15,bF bm),(18,bF bm),(21,bF bm),(24,bF bm),(27,bF bQ),(30,bF bQ),(33,bF bQ),(36,bF bQ),(39,bF bm),(40,bF bQ),(42,bF bm),(45,bF rfl),(48,bF rfl),(51,bF rfl),(54,bF bm),(55,bF rfl),(58,bF bm)],by kernel_rfl⟩
   rcases fQ aP with dh|dh
   ·replace J:=(dA dh).symm.trans J;refine fB (t:=aP) (by kernel_rfl) dh ?_;refine aR ?_;refine rg [] [] [.cells (aS v1).cells, .cells [(bw v2)], .cells [(ak (1:Int))], .cells (cy v8).cells, .lp .busy 42 nZ nC (dM 65 [(3,(.ptr 1 0)),(4,(.ptr 2 0)),(33,(.d (.sl (b8 v1.ay)))),(34,(ak (v1.ay.length:Int))),(35,(ak (v6:Int))),(41,(.fn 70 [(.bt [dy v10] 0 0)]))]), .cells (aF v11).cells] (by kernel_rfl) ?_;refine dN (fq ?_);refine Jj [.cells (aS v1).cells, .cells [(bw v2)], .cells [(ak (1:Int))], .cells (cy v8).cells] rfl (by kernel_rfl) (by kernel_rfl) ?_;refine(fq (fq (ej (ej (fq (ej ?_))))));have hr:=ah8 J;subst hr;exact gn (by kernel_rfl)
   replace J:=(fS dh).symm.trans J;refine fv (t:=aP) (by kernel_rfl) dh ?_;refine et ?_;refine iA ?_;refine E8 [.cells (aS v1).cells, .cells [(bw v2)], .cells [(ak (0:Int))], .cells (cy v8).cells] rfl (by kernel_rfl) (by kernel_rfl) ?_;exact⟨(),(by kernel_rfl),J⟩
  rintro _ J
  try dsimp only at J
  rw[xv]at J;refine iA ?_;refine iA ?_;refine cv ?_;refine re [(2,oq (bV aA rfl h9))] [(35,(ak ((v6+1:Nat):Int))),(64,(ak ((v6+1:Nat):Int)))] [.cells (aS v1).cells, .cells [(bw v2)], .cells [(ak (0:Int))], .cells (cy v8).cells, .gone] (by kernel_rfl) ?_;refine cv ?_;exact⟨(v6+1,v9),by kernel_rfl,⟨bR aA,J⟩,aiC _⟩
def E3(N:Nat)(v1:aiE aiF):aiG (aiE aiF):=bif Nat.ble (v1.length*16) 140737488355328 then some v1 else none
theorem Uh(N:Nat)(v1 r:aiE aiF)(J:E3 N v1=some r):bg Tryz.prog 51 [(.d (.sl (aB v1)))] (·=(.d (.sl (aB r)))):=by
 obtain⟨hb,rfl⟩:=eh J;have hc:=de hb (by decide);exact ahv jq (by rw[bC];exact hc.1) (by rw[bC];exact hc.2)
def sS(N:Nat):aiE bj→Nat→(aiE bj)→aiG ((aiE bj))
 |[],_,v6=>
  some v6
 |v4::v5,v2,v6=>
  Option.bind (ub N v4.dB) fun v7=>
  bif (Nat.ble ((v6.length+1)*48) 140737488355328)then
  (fun b6=>sS N v5 (v2+1) b6) (v6++[(⟨v4.ao,v7⟩:bj)])
  else none
def sy(N:Nat)(v1:aiE bj):aiG ((aiE bj)):=
 sS N v1 0 []
theorem Qx(N:Nat)(v1:aiE bj)(r:(aiE bj))(J:sy N v1=some r):bg Tryz.prog 54 [(.d (.sl (cu v1)))] (·=(.d (.sl (cu r)))):=by
 rw[sy]at J;refine bD Tryz.func54 (by kernel_rfl) (by kernel_rfl) ?_;refine au af [[],[],[(4,oL v1 b5)]] ?_;refine nV 3 64 3 [] (.inr (by kernel_rfl)) ?_;refine dq 0 (cu v1) (by kernel_rfl) fun h1=> ?_;have h2:=cd b5 h1;refine cx af 1 [] [3,6,7,8] 1 (fun((v2,v3,v6):Nat×(aiE bj)×(aiE bj))=>⟨23,[(3,(.own 0 (cu v6))),(6,(.d (.sl (cu v1)))),(7,(ak (v1.length:Int))),(8,(ak (v2:Int)))],[.front 64 3 v6.length]⟩) (fun((v2,v3,v6):Nat×(aiE bj)×(aiE bj))=>v1.drop v2=v3∧sS N v3 v2 v6=some r) (fun((v2,v3,v6):Nat×(aiE bj)×(aiE bj))=>v3.length) (0,v1,[]) ⟨rfl,J⟩ ?_;rintro⟨v2,v3,v6⟩ ⟨h3,J⟩ f1 aN;cases v3 with
 |nil=>
  rw[sS]at J;cases J;exact wr af [[],[(0,bF (bO h3))],[]]
 |cons v4 v5=>
  rw[sS]at J;obtain⟨v7,h4,J⟩:=ar J;obtain⟨h5,J⟩:=dg J;exact ct af aN (v2+1,v5,(v6++[(⟨v4.ao,v7⟩:bj)])) [[],[(0,bT (bN h3))],[(1,oE (jK (aU h3)))],[(16,cL (ET N v4.dB v7 h4)),(25,⟨_,_, .app (xs:=cu v6) (ys:=cu [(⟨v4.ao,v7⟩:bj)]) (zs:=cu (v6++[(⟨v4.ao,v7⟩:bj)])) (n:=(v6++[(⟨v4.ao,v7⟩:bj)]).length) b5.symm oh oh (by rw[(b5 (l:=v6)),(b5 (l:=[(⟨v4.ao,v7⟩:bj)]))];exact(de h5 (by decide)).1) (by rw[(b5 (l:=v6)),(b5 (l:=[(⟨v4.ao,v7⟩:bj)]))];exact(de h5 (by decide)).2) Gm (by first|(rw[(b5 (l:=v6)),(b5 (l:=[(⟨v4.ao,v7⟩:bj)]))];done)|(rw[(b5 (l:=v6)),(b5 (l:=[(⟨v4.ao,v7⟩:bj)]))];rfl)|(rw[(b5 (l:=v6)),(b5 (l:=[(⟨v4.ao,v7⟩:bj)])),ahQ];done)|(rw[(b5 (l:=v6)),(b5 (l:=[(⟨v4.ao,v7⟩:bj)])),ahQ];rfl)|(rw[(b5 (l:=v6)),(b5 (l:=[(⟨v4.ao,v7⟩:bj)])),ah9]))⟩)],[(2,oq (bV h3 rfl h2))]] ⟨bR h3,J⟩
def wm(N:Nat)(v1:ax):aiG (ax×Int):=
 Option.bind (Ds N v1.xL) fun v2=>
 some ((⟨v1.xK,v2⟩:ax),(0:Int))
theorem Jb(N:Nat)(v1:ax)(r:ax×Int)(J:wm N v1=some r):bg Tryz.prog 87 [(b9 v1)] (·=(.cb [(b9 r.1),(ak r.2)])):=by
 rw[wm]at J;refine bD Tryz.func87 (by kernel_rfl) (by kernel_rfl) ?_;obtain⟨v2,h1,J⟩:=ar J;cases J;exact wr af [[],[(13,cL (VY N v1.xL v2 h1))]]
def JP(N:Nat)(v1:aiE az):aiG (aiE az):=bif Nat.ble (v1.length*72) 140737488355328 then some v1 else none
theorem aeH(N:Nat)(v1 r:aiE az)(J:JP N v1=some r):bY Tryz.prog 120 [(.d (.sl (bJ v1)))] [] fun r1 h1=>r1=(.vec 0 0 r.length r.length 4)∧h1=[.vec 80 4 (aO (r.map fK))]:=by
 obtain⟨hb,rfl⟩:=eh J;have hc:=de hb (by decide);have h1:=Xl (xs:=bJ v1) vW (by rw[cn];exact hc.1) (by rw[cn];exact hc.2);have h2:aO (v1.map fK)=aO (bJ v1):=by rw[qo]
 have h3:=cn (l:=v1);rw[h3]at h1;rw[h2];exact h1
def Js(N:Nat)(v1:aiE ax):aiG (aiE ax):=bif Nat.ble (v1.length*32) 140737488355328 then some v1 else none
theorem aep(N:Nat)(v1 r:aiE ax)(J:Js N v1=some r):bY Tryz.prog 121 [(.d (.sl (cz v1)))] [] fun r1 h1=>r1=(.vec 0 0 r.length r.length 2)∧h1=[.vec 48 2 (aO (r.map j0))]:=by
 obtain⟨hb,rfl⟩:=eh J;have hc:=de hb (by decide);have h1:=ahr (xs:=cz v1) nI (by rw[bM];exact hc.1) (by rw[bM];exact hc.2);have h2:aO (v1.map j0)=aO (cz v1):=by rw[rK]
 have h3:=bM (l:=v1);rw[h3]at h1;rw[h2];exact h1
def Jn(N:Nat)(v1:aiE aq):aiG (aiE aq):=bif Nat.ble (v1.length*160) 140737488355328 then some v1 else none
theorem Zz(N:Nat)(v1 r:aiE aq)(J:Jn N v1=some r):bY Tryz.prog 122 [(.d (.sl (cT v1)))] [] fun r1 h1=>r1=(.vec 0 0 r.length r.length 13)∧h1=[.vec 52 13 (aO (r.map dy))]:=by
 obtain⟨hb,rfl⟩:=eh J;have hc:=de hb (by decide);have h1:=aeW (xs:=cT v1) rC (by rw[b7];exact hc.1) (by rw[b7];exact hc.2);have h2:aO (v1.map dy)=aO (cT v1):=by rw[kL]
 have h3:=b7 (l:=v1);rw[h3]at h1;rw[h2];exact h1
def tQ(N:Nat)(v8:aiE az)(v3:aiE az)(v9:aiE aq)(v1:aq)(v2:ax×Int)(AT:aq→aiG (aq×Int)):aiE aq→Nat→(aiE aq)→aiG (aq×Int)
 |[],_,aC=>
  bif (Nat.beq v8.length v3.length)then
  bif (Nat.beq aC.length v9.length)then
  some ((⟨v1.aX,v1.ao,v1.db,v1.aw,v2.1,v8,aC⟩:aq),(0:Int))
  else none
  else none
 |v12::aE,v10,aC=>
  Option.bind (AT v12) fun aP=>
  bif (Nat.beq aC.length v9.length)then
  bif (decide ((v10:Int)<(v9.length:Int)))then
  Option.bind (aC[v10]?) fun aW=>
  bif (aP.2 !=(0:Int))then
   some (fV,aP.2)
  else
   (fun fI=>tQ N v8 v3 v9 v1 v2 AT aE (v10+1) fI) (aC.set v10 aP.1)
  else none
  else none
def tY(N:Nat)(bK:aiE ax)(gz:(aiE az)→aiG (aq×Int))(v8:aiE az)(v4:Nat)(aH:ax×Int)(aT:az):aiE ax→Nat→(aiE ax)→aiG (aq×Int)
 |[],_,v24=>
  bif (Nat.beq v24.length bK.length)then
  gz ((v8.set v4 (⟨aH.1,aT.bn,aT.bp⟩:az)).set v4 (⟨(⟨aH.1,aT.bn,aT.bp⟩:az).aK,(⟨aH.1,aT.bn,aT.bp⟩:az).bn,v24⟩:az))
  else none
 |di::cS,v20,v24=>
  Option.bind (wm N di) fun eC=>
  bif (Nat.beq v24.length bK.length)then
  bif (decide ((v20:Int)<(bK.length:Int)))then
  Option.bind (v24[v20]?) fun mi=>
  bif (eC.2 !=(0:Int))then
   some (fV,eC.2)
  else
   (fun lC=>tY N bK gz v8 v4 aH aT cS (v20+1) lC) (v24.set v20 eC.1)
  else none
  else none
def qh(N:Nat)(v1:aq)(v3:aiE az)(v2:ax×Int)(AT:aq→aiG (aq×Int)):aiE az→Nat→(aiE az)→aiG (aq×Int)
 |[],_,v8=>
  Option.bind (Jn N v1.aM) fun v9=>
  tQ N v8 v3 v9 v1 v2 AT v1.aM 0 v9
 |v6::v7,v4,v8=>
  Option.bind (wm N v6.aK) fun aH=>
  bif (Nat.beq v8.length v3.length)then
  bif (decide ((v4:Int)<(v3.length:Int)))then
  Option.bind (v8[v4]?) fun aT=>
  bif (aH.2 !=(0:Int))then
   some (fV,aH.2)
  else
   Option.bind (Js N v6.bp) fun bK=>
   bif (Nat.beq (v8.set v4 (⟨aH.1,aT.bn,aT.bp⟩:az)).length v3.length)then
   tY N bK (fun b6=>qh N v1 v3 v2 AT v7 (v4+1) b6) v8 v4 aH aT v6.bp 0 bK
   else none
  else none
  else none
def oW(N:Nat):Nat→aq→aiG (aq×Int)
 |0,_=>none
 |d+1,v1=>
  Option.bind (wm N v1.aK) fun v2=>
  bif (v2.2 !=(0:Int))then
   some (fV,v2.2)
  else
   Option.bind (JP N v1.xIdx) fun v3=>
   qh N v1 v3 v2 (oW N d) v1.xIdx 0 v3
def MC(N:Nat)(v1:aq):aiG (aq×Int):=oW N N v1
theorem afY(N:Nat):∀d:Nat,(∀(v1:aq)(r:aq×Int),oW N d v1=some r→bY Tryz.prog 86 [(aF v1),(.fn 87 [])] [] fun r1 h1=>r1=(.cb [(aF r.1),(ak r.2)])∧h1=[]):=by
 intro d
 induction d with
 |zero=>intro v1 r J;rw[oW]at J;cases J
 |succ d ih=>
  have afj:=ih;intro v1 r J;rw[oW]at J;refine eu 0 Tryz.func86 (by kernel_rfl) (by kernel_rfl) (ahX rfl) ?_;obtain⟨v2,h1,J⟩:=ar J;refine au af [[],[],[],[(10,cL (Jb N v1.aK v2 h1))],[]] ?_;refine bc J (fun h2 J=> ?_) fun h2 J=> ?_
  ·cases J;exact ca af [[(0,bT h2)],[]]
  obtain⟨v3,h3,J⟩:=ar J;refine au af [[(0,bF h2)],[(7,⟨_,_, .me gZ (kH (xs:=(v3.map fK)) gZ) (cQ:=[(.d (.sl (bJ v1.xIdx)))]) (h:=[.cells (aF v1).cells, .cells ir, .cells (mu v1 [(bu v2.1.xK),(.d (.sl (bP v2.1.xL))),(.d (.sl (bJ v1.xIdx))),(.d (.sl (cT v1.aM)))])]) (l:=[]) (by kernel_rfl) (by kernel_rfl) (by kernel_rfl) (by kernel_rfl) (aeH N v1.xIdx v3 h3)⟩)],[(7,oL v1.xIdx cn)]] ?_;refine dq 32 (bJ v1.xIdx) (by kernel_rfl) fun h4=> ?_;have h5:=cd cn h4;refine jt af 1 [] [1,2,4,6,32,33,34] 4 [] [(1,10),(1,11),(1,12)] (fun((v4,v5,v8):Nat×(aiE az)×(aiE az))=>⟨119,[(1,(.fn 87 [])),(2,(.ptr 0 0)),(4,(.ptr 1 0)),(6,(.ptr 2 0)),(32,(.d (.sl (bJ v1.xIdx)))),(33,(ak (v1.xIdx.length:Int))),(34,(ak (v4:Int)))],[.cells (aF v1).cells, .cells ir, .cells (mu v1 [(bu v2.1.xK),(.d (.sl (bP v2.1.xL))),(.vec 3 0 v3.length v3.length 4),(.d (.sl (cT v1.aM)))]), .vec 80 4 (aO (v8.map fK))]⟩) (fun((v4,v5,v8):Nat×(aiE az)×(aiE az))=>v1.xIdx.drop v4=v5∧qh N v1 v3 v2 (oW N d) v5 v4 v8=some r) (fun((v4,v5,v8):Nat×(aiE az)×(aiE az))=>v5.length) (0,v1.xIdx,v3) ⟨rfl,J⟩ ?_ (jH:=[.gY (v3.map fK)]);rintro⟨v4,v5,v8⟩ ⟨h6,J⟩ f1 aN;cases v5 with
  |nil=>
   rw[qh]at J;obtain⟨v9,h7,J⟩:=ar J;refine au af [[],[(0,bF (bO h6))],[(7,⟨_,_, .me gZ (kH (xs:=(v9.map dy)) gZ) (cQ:=[(.d (.sl (cT v1.aM)))]) (h:=[.cells (aF v1).cells, .cells ir, .cells (mu v1 [(bu v2.1.xK),(.d (.sl (bP v2.1.xL))),(.vec 3 0 v3.length v3.length 4),(.d (.sl (cT v1.aM)))]), .vec 80 4 (aO (v8.map fK))]) (l:=[]) (by kernel_rfl) (by kernel_rfl) (by kernel_rfl) (by kernel_rfl) (Zz N v1.aM v9 h7)⟩)],[(7,oL v1.aM b7)]] ?_;refine dq 96 (cT v1.aM) (by kernel_rfl) fun h8=> ?_;have h9:=cd b7 h8;refine jt af 2 [] [1,4,6,96,97,98] 5 [] [(1,10),(1,11),(1,12)] (fun((v10,v11,aC):Nat×(aiE aq)×(aiE aq))=>⟨119,[(1,(.fn 87 [])),(4,(.ptr 1 0)),(6,(.ptr 2 0)),(96,(.d (.sl (cT v1.aM)))),(97,(ak (v1.aM.length:Int))),(98,(ak (v10:Int)))],[.cells (aF v1).cells, .cells ir, .cells (mu v1 [(bu v2.1.xK),(.d (.sl (bP v2.1.xL))),(.vec 3 0 v3.length v3.length 4),(.vec 4 0 v9.length v9.length 13)]), .vec 80 4 (aO (v8.map fK)), .vec 52 13 (aO (aC.map dy))]⟩) (fun((v10,v11,aC):Nat×(aiE aq)×(aiE aq))=>v1.aM.drop v10=v11∧tQ N v8 v3 v9 v1 v2 (oW N d) v11 v10 aC=some r) (fun((v10,v11,aC):Nat×(aiE aq)×(aiE aq))=>v11.length) (0,v1.aM,v9) ⟨rfl,J⟩ ?_ (jH:=[.gY (v8.map fK), .gY (v9.map dy)])
   rintro⟨v10,v11,aC⟩ ⟨aA,J⟩ f2 dU;cases v11 with
   |nil=>
    rw[tQ]at J;obtain⟨a7,J⟩:=dg J;obtain⟨bk,J⟩:=dg J;refine au af [[],[(0,bF (bO aA))]] ?_;refine Fq [4,6] 3 (bJ v8) v3.length 1 80 4 [.gY (v8.map fK), .gY (aC.map dy)] (qi (ah3 a7)) (qo _) (oY (fun _=>rfl) _) ?_;refine Fq [4,6] 4 (cT aC) v9.length 1 52 13 [.gY (aC.map dy)] (qi (ah3 bk)) (kL _) (oY (fun _=>rfl) _) ?_;cases J;exact ca af [[]]
   |cons v12 aE=>
    rw[tQ]at J;obtain⟨aP,cg,J⟩:=ar J;obtain⟨bm,J⟩:=dg J;obtain⟨bQ,J⟩:=dg J;obtain⟨aW,bo,J⟩:=ar J;refine au af [[],[(0,bT (bN aA))],[(4,oE (ik (aU aA)))],[(16,⟨_,_, .rq (cQ:=[(aF v12),(.fn 87 [])]) (h:=[.cells (aF v1).cells, .cells ir, .cells (mu v1 [(bu v2.1.xK),(.d (.sl (bP v2.1.xL))),(.vec 3 0 v3.length v3.length 4),(.vec 4 0 v9.length v9.length 13)]), .vec 80 4 (aO (v8.map fK)), .vec 52 13 (aO (aC.map dy)), .cells (aF v12).cells]) (l:=[]) (by kernel_rfl) (by kernel_rfl) (by kernel_rfl) (by kernel_rfl) (afj v12 aP cg)⟩),(28,⟨_,_, .pr (.ix v10) (la (gJ (f:=dy) (ah3 bm)) (Int.natCast_nonneg _) (of_decide_eq_true bQ) (aih _))⟩),(31,⟨_,_, .pr (.st ((dy aW).map AV.d) (aO ((aC.set v10 aP.1).map dy))) (yB (f:=dy) (j:=0) (y:=aP.1) (zs:=[(ak aP.1.aX),(bw aP.1.ao),(bu aP.1.db.xN),(bu aP.1.db.xD),(ak aP.1.aw.ck),(ak aP.1.aw.cq),(ak aP.1.aw.cJ),(ak aP.1.aw.cH),(ak aP.1.aw.cK),(bu aP.1.aK.xK),(.d (.sl (bP aP.1.aK.xL))),(.d (.sl (bJ aP.1.xIdx))),(.d (.sl (cT aP.1.aM)))]) (ah3 bm) bo rfl)⟩)],[]] ?_;refine bc J (fun cC J=> ?_) fun cC J=> ?_
    ·cases J;exact ca af [[(0,bT cC)],[]]
    exact gN af dU (v10+1,aE,(aC.set v10 aP.1)) [[(0,bF cC)],[(2,oq (bV aA rfl h9))]] ⟨bR aA,J⟩ (jH:=[.gY (v8.map fK), .gY ((aC.set v10 aP.1).map dy)])
  |cons v6 v7=>
   rw[qh]at J;obtain⟨aH,bW,J⟩:=ar J;obtain⟨dh,J⟩:=dg J;obtain⟨dH,J⟩:=dg J;obtain⟨aT,eJ,J⟩:=ar J;refine au af [[],[(0,bT (bN h6))],[(4,oE (eH (aU h6)))],[(19,cL (Jb N v6.aK aH bW)),(31,⟨_,_, .pr (.ix v4) (la (gJ (f:=fK) (ah3 dh)) (Int.natCast_nonneg _) (of_decide_eq_true dH) (aih _))⟩),(34,⟨_,_, .pr .no trivial⟩),(37,⟨_,_, .pr (.st ((fK aT).map AV.d) (aO ((v8.set v4 (⟨aH.1,aT.bn,aT.bp⟩:az)).map fK))) (yB (f:=fK) (j:=0) (y:=(⟨aH.1,aT.bn,aT.bp⟩:az)) (zs:=[(bu aH.1.xK),(.d (.sl (bP aH.1.xL)))]) (ah3 dh) eJ rfl)⟩)],[]] ?_;refine bc J (fun fk J=> ?_) fun fk J=> ?_
   ·cases J;exact ca af [[(0,bT fk)],[]]
   obtain⟨bK,fg,J⟩:=ar J;obtain⟨eN,J⟩:=dg J;refine au af [[(0,bF fk)],[(16,⟨_,_, .me gZ (kH (xs:=(bK.map j0)) gZ) (cQ:=[(.d (.sl (cz v6.bp)))]) (h:=[.cells (aF v1).cells, .cells ir, .cells (mu v1 [(bu v2.1.xK),(.d (.sl (bP v2.1.xL))),(.vec 3 0 v3.length v3.length 4),(.d (.sl (cT v1.aM)))]), .vec 80 4 (aO ((v8.set v4 (⟨aH.1,aT.bn,aT.bp⟩:az)).map fK)), .cells (fx v6).cells]) (l:=[]) (by kernel_rfl) (by kernel_rfl) (by kernel_rfl) (by kernel_rfl) (aep N v6.bp bK fg)⟩),(19,⟨_,_, .pr (.ix v4) (la (gJ (f:=fK) (ah3 eN)) (Int.natCast_nonneg _) (of_decide_eq_true dH) (aih _))⟩),(22,⟨_,_, .pr .no trivial⟩),(25,⟨_,_, .pr (.st ((fK (⟨aH.1,aT.bn,aT.bp⟩:az)).map AV.d) ((aO ((v8.set v4 (⟨aH.1,aT.bn,aT.bp⟩:az)).map fK)).set v4 [(bu (⟨aH.1,aT.bn,aT.bp⟩:az).aK.xK),(.d (.sl (bP (⟨aH.1,aT.bn,aT.bp⟩:az).aK.xL))),(bw (⟨aH.1,aT.bn,aT.bp⟩:az).bn),(.vec 5 0 bK.length bK.length 2)])) (abB (f:=fK) (j:=3) (r:=[(bu (⟨aH.1,aT.bn,aT.bp⟩:az).aK.xK),(.d (.sl (bP (⟨aH.1,aT.bn,aT.bp⟩:az).aK.xL))),(bw (⟨aH.1,aT.bn,aT.bp⟩:az).bn),(.vec 5 0 bK.length bK.length 2)]) (zs:=[(.vec 5 0 bK.length bK.length 2)]) (ah3 eN) (QP eJ) rfl)⟩)],[(7,oL v6.bp bM)]] ?_
   refine dq 64 (cz v6.bp) (by kernel_rfl) fun fu=> ?_;have hX:=cd bM fu;refine jt af 3 [] [1,2,4,6,8,32,33,34,64,65,66] 6 [] [(1,10),(1,11),(1,12)] (fun((v20,v21,v24):Nat×(aiE ax)×(aiE ax))=>⟨119,[(1,(.fn 87 [])),(2,(.ptr 0 0)),(4,(.ptr 1 0)),(6,(.ptr 2 0)),(8,(ak (v4:Int))),(32,(.d (.sl (bJ v1.xIdx)))),(33,(ak (v1.xIdx.length:Int))),(34,(ak (v4:Int))),(64,(.d (.sl (cz v6.bp)))),(65,(ak (v6.bp.length:Int))),(66,(ak (v20:Int)))],[.cells (aF v1).cells, .cells ir, .cells (mu v1 [(bu v2.1.xK),(.d (.sl (bP v2.1.xL))),(.vec 3 0 v3.length v3.length 4),(.d (.sl (cT v1.aM)))]), .vec 80 4 ((aO ((v8.set v4 (⟨aH.1,aT.bn,aT.bp⟩:az)).map fK)).set v4 [(bu (⟨aH.1,aT.bn,aT.bp⟩:az).aK.xK),(.d (.sl (bP (⟨aH.1,aT.bn,aT.bp⟩:az).aK.xL))),(bw (⟨aH.1,aT.bn,aT.bp⟩:az).bn),(.vec 5 0 bK.length bK.length 2)]), .cells (fx v6).cells, .vec 48 2 (aO (v24.map j0))]⟩) (fun((v20,v21,v24):Nat×(aiE ax)×(aiE ax))=>v6.bp.drop v20=v21∧tY N bK (fun b6=>qh N v1 v3 v2 (oW N d) v7 (v4+1) b6) v8 v4 aH aT v21 v20 v24=some r) (fun((v20,v21,v24):Nat×(aiE ax)×(aiE ax))=>v21.length) (0,v6.bp,bK) ⟨rfl,J⟩ ?_ (jH:=[.row ((v8.set v4 (⟨aH.1,aT.bn,aT.bp⟩:az)).map fK) v4 [(bu (⟨aH.1,aT.bn,aT.bp⟩:az).aK.xK),(.d (.sl (bP (⟨aH.1,aT.bn,aT.bp⟩:az).aK.xL))),(bw (⟨aH.1,aT.bn,aT.bp⟩:az).bn),(.vec 5 0 bK.length bK.length 2)], .gY (bK.map j0)])
   rintro⟨v20,v21,v24⟩ ⟨iW,J⟩ f3 jB;cases v21 with
   |nil=>
    rw[tY]at J;obtain⟨lI,J⟩:=dg J;refine au af [[],[(0,bF (bO iW))]] ?_;refine Fq [1,2,4,6,32,33,34] 5 (cz v24) bK.length 0 48 2 [.row fK (v8.set v4 (⟨aH.1,aT.bn,aT.bp⟩:az)) v4 [(bu (⟨aH.1,aT.bn,aT.bp⟩:az).aK.xK),(.d (.sl (bP (⟨aH.1,aT.bn,aT.bp⟩:az).aK.xL))),(bw (⟨aH.1,aT.bn,aT.bp⟩:az).bn),(.vec 5 0 bK.length bK.length 2)] (⟨(⟨aH.1,aT.bn,aT.bp⟩:az).aK,(⟨aH.1,aT.bn,aT.bp⟩:az).bn,v24⟩:az) 1, .gY (v24.map j0)] (qi (ah3 lI)) (rK _) (oY (fun _=>rfl) _) ?_;exact gN af aN (v4+1,v7,((v8.set v4 (⟨aH.1,aT.bn,aT.bp⟩:az)).set v4 (⟨(⟨aH.1,aT.bn,aT.bp⟩:az).aK,(⟨aH.1,aT.bn,aT.bp⟩:az).bn,v24⟩:az))) [[(2,oq (bV h6 rfl h5))]] ⟨bR h6,J⟩ (jH:=[.gY (((v8.set v4 (⟨aH.1,aT.bn,aT.bp⟩:az)).set v4 (⟨(⟨aH.1,aT.bn,aT.bp⟩:az).aK,(⟨aH.1,aT.bn,aT.bp⟩:az).bn,v24⟩:az)).map fK)])
   |cons di cS=>
    rw[tY]at J;obtain⟨eC,ku,J⟩:=ar J;obtain⟨pL,J⟩:=dg J;obtain⟨Di,J⟩:=dg J;obtain⟨mi,XN,J⟩:=ar J;refine au af [[],[(0,bT (bN iW))],[(4,oE (hY (aU iW)))],[(10,⟨_,_, .pr (.ix v4) (la (ac2 (i:=v4) (r:=[(bu (⟨aH.1,aT.bn,aT.bp⟩:az).aK.xK),(.d (.sl (bP (⟨aH.1,aT.bn,aT.bp⟩:az).aK.xL))),(bw (⟨aH.1,aT.bn,aT.bp⟩:az).bn),(.vec 5 0 bK.length bK.length 2)]) (f:=fK) (ah3 eN)) (Int.natCast_nonneg _) (of_decide_eq_true dH) (aih _))⟩),(13,⟨_,_, .pr .no trivial⟩),(16,⟨_,_, .pr (.el [(bu (⟨aH.1,aT.bn,aT.bp⟩:az).aK.xK),(.d (.sl (bP (⟨aH.1,aT.bn,aT.bp⟩:az).aK.xL))),(bw (⟨aH.1,aT.bn,aT.bp⟩:az).bn),(.vec 5 0 bK.length bK.length 2)]) (agn (f:=fK) [(bu (⟨aH.1,aT.bn,aT.bp⟩:az).aK.xK),(.d (.sl (bP (⟨aH.1,aT.bn,aT.bp⟩:az).aK.xL))),(bw (⟨aH.1,aT.bn,aT.bp⟩:az).bn),(.vec 5 0 bK.length bK.length 2)] (ah3 eN) (QP eJ))⟩),(28,cL (Jb N di eC ku)),(40,⟨_,_, .pr (.ix v20) (la (gJ (f:=j0) (ah3 pL)) (Int.natCast_nonneg _) (of_decide_eq_true Di) (aih _))⟩),(43,⟨_,_, .pr (.st ((j0 mi).map AV.d) (aO ((v24.set v20 eC.1).map j0))) (yB (f:=j0) (j:=0) (y:=eC.1) (zs:=[(bu eC.1.xK),(.d (.sl (bP eC.1.xL)))]) (ah3 pL) XN rfl)⟩)],[]] ?_
    refine bc J (fun Jw J=> ?_) fun Jw J=> ?_
    ·cases J;exact ca af [[(0,bT Jw)],[]]
    exact gN af jB (v20+1,cS,(v24.set v20 eC.1)) [[(0,bF Jw)],[(2,oq (bV iW rfl hX))]] ⟨bR iW,J⟩ (jH:=[.row ((v8.set v4 (⟨aH.1,aT.bn,aT.bp⟩:az)).map fK) v4 [(bu (⟨aH.1,aT.bn,aT.bp⟩:az).aK.xK),(.d (.sl (bP (⟨aH.1,aT.bn,aT.bp⟩:az).aK.xL))),(bw (⟨aH.1,aT.bn,aT.bp⟩:az).bn),(.vec 5 0 bK.length bK.length 2)], .gY ((v24.set v20 eC.1).map j0)])
theorem aaQ(N:Nat)(v1:aq)(r:aq×Int)(J:MC N v1=some r):bY Tryz.prog 86 [(aF v1),(.fn 87 [])] [] fun r1 h1=>r1=(.cb [(aF r.1),(ak r.2)])∧h1=[]:=(afY N N) v1 r J
def C2(N:Nat)(v1:aq):aiG aq:=
 Option.bind (MC N v1) fun v2=>
 some v2.1
theorem adL(N:Nat)(v1:aq)(r:aq)(J:C2 N v1=some r):bg Tryz.prog 55 [(aF v1)] (·=(aF r)):=by
 rw[C2]at J;refine bD Tryz.func55 (by kernel_rfl) (by kernel_rfl) ?_;obtain⟨v2,h1,J⟩:=ar J;cases J;exact wr af [[],[(4,⟨_,_, .rq (cQ:=[(aF v1),(.fn 87 [])]) (h:=[.cells (aF v1).cells, .cells ir]) (l:=[]) (by kernel_rfl) (by kernel_rfl) (by kernel_rfl) (by kernel_rfl) (aaQ N v1 v2 h1)⟩)],[]]
end Go.Proofs.YtphmhnabilhbgaaGreatDoor
