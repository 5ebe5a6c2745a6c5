/-
  Part 10 of the proof: PQ4.
-/
import Derived.Test.YtphmhnabilhbgaaGreatDoorPm9
namespace Go.Proofs.YtphmhnabilhbgaaGreatDoor
open Go.RowKit
set_option maxRecDepth 100000
set_option maxHeartbeats 0
set_option linter.unusedVariables false
def di:agU AV:=[(.d (.v (.slice none 0 0))),(.d (.v (.slice none 0 0))),(.d (.v (.slice none 0 0))),(.d (.v (.slice none 0 0))),(.d (.v (.slice none 0 0)))]
def s9:agU AV:=[(bt (0:Int64)),(.d (.v (.slice none 0 0)))]
def GS(v:ar)(r:agU AV):agU AV:=(ao v.aQ)::(bp v.aq)::(bt v.dm.xN)::(bt v.dm.xD)::(ao v.aC.bW)::(ao v.aC.ca)::(ao v.aC.cF)::(ao v.aC.cE)::(ao v.aC.cJ)::(bt v.aL.xK)::(.d (.sl (bJ v.aL.xL)))::(.d (.sl (bC v.xIdx)))::(.d (.sl (cQ v.a7)))::r
def rX(N:Nat)(v2:agU agV)(v8:agU cv)(aH:agU bN)(v3:agU agV):agU aG→Nat→Nat→(agU aG)→agW ((agU agV)×(agU cv)×(agU bN)×Nat×(agU agV)×(agU aG))
 |[],_,aR,bG=>
  some (v2,v8,aH,aR,v3,bG)
 |aX::aK,aA,aR,bG=>
  Option.bind (rV N aX.aS) fun v20=>
  Option.bind (rV N aX.bI) fun v21=>
  Option.bind (yJ N aX.bq) fun cY=>
  bif (Nat.beq bG.length aR)then
  bif (Nat.ble ((aR+1)*272) 140737488355328)then
  (fun jq m7=>rX N v2 v8 aH v3 aK (aA+1) jq m7) (aR+1) (bG++[(⟨aX.aq,aX.aC,v20,v21,aX.cG,cY⟩:aG)])
  else none
  else none
def qG(N:Nat)(v2:agU agV)(v8:agU cv)(v3:agU agV)(v1:aY):agU bN→Nat→(agU bN)→agW ((agU agV)×(agU cv)×(agU bN)×Nat×(agU agV)×(agU aG))
 |[],_,aH=>
  rX N v2 v8 aH v3 v1.ay 0 0 []
 |v11::v12,v9,aH=>
  Option.bind (vE N v11.aS) fun cz=>
  bif (Nat.ble ((aH.length+1)*80) 140737488355328)then
  (fun fx=>qG N v2 v8 v3 v1 v12 (v9+1) fx) (aH++[(⟨v11.aq,v11.aC,cz⟩:bN)])
  else none
def qV(N:Nat)(v2:agU agV)(v3:agU agV)(v1:aY):agU cv→Nat→(agU cv)→agW ((agU agV)×(agU cv)×(agU bN)×Nat×(agU agV)×(agU aG))
 |[],_,v8=>
  qG N v2 v8 v3 v1 v1.bk 0 []
 |v6::v7,v4,v8=>
  Option.bind (qJ N v6.aL) fun v24=>
  bif (Nat.ble ((v8.length+1)*40) 140737488355328)then
  (fun bE=>qV N v2 v3 v1 v7 (v4+1) bE) (v8++[(⟨v24,v6.gK⟩:cv)])
  else none
def sK(N:Nat)(v1:aY):agW ((agU agV)×(agU cv)×(agU bN)×Nat×(agU agV)×(agU aG)):=
 Option.bind (FC N v1.bu) fun v2=>
 Option.bind (FC N v1.cu) fun v3=>
 qV N v2 v3 v1 v1.cM 0 []
theorem DN(N:Nat)(v1:aY)(r:(agU agV)×(agU cv)×(agU bN)×Nat×(agU agV)×(agU aG))(J:sK N v1=some r):bD Tryz.prog 26 [(aZ v1)] [] fun r1 h1=>r1=(.agg [(.d (.sl (aB r.1))),(.own 3 (bw r.2.1)),(.own 4 (bx r.2.2.1)),(.vec 5 0 r.2.2.2.1 r.2.2.2.1 22),(.d (.sl (aB r.2.2.2.2.1)))])∧h1=[.gone, .cells [(.d (.sl (aB r.1))),(.own 3 (bw r.2.1)),(.own 4 (bx r.2.2.1)),(.vec 5 0 r.2.2.2.1 r.2.2.2.1 22),(.d (.sl (aB r.2.2.2.2.1)))], .gone, .front 57 3 r.2.1.length, .front 60 7 r.2.2.1.length, .vec 54 22 (aI (r.2.2.2.2.2.map b6))]:=by
 rw[sK]at J;refine vR 6 Tryz.func26 rfl (by kernel_rfl) (agd rfl) ?_;refine mG (s':=⟨81,[(0,(aZ v1))],[]⟩) (by kernel_rfl) ?_;refine aP ?_;refine rg [] [(1,(.ptr 0 0)),(2,(.ptr 1 0))] [.cells (aZ v1).cells, .cells di] (by kernel_rfl) ?_;refine aP ?_;obtain⟨v2,h1,J⟩:=au J;obtain⟨v3,h2,J⟩:=au J;refine rt 3 ak [(7,cL (S6 N v1.bu v2 h1)),(16,cL (S6 N v1.cu v3 h2))] [(3,(.ptr 2 0))] [.cells (aZ v1).cells, .cells di, .cells [(.d (.sl (aB v2))),(.d (.v (.slice none 0 0))),(.d (.v (.slice none 0 0))),(.d (.v (.slice none 0 0))),(.d (.sl (aB v3)))]] (by kernel_rfl) ?_;refine aP ?_;refine aP ?_;refine rg [(7,oL v1.cM fv)] [(18,(.d (.sl (bw v1.cM)))),(19,(ao (v1.cM.length:Int))),(20,(ao (0:Int)))] [.cells (aZ v1).cells, .cells di, .cells [(.d (.sl (aB v2))),(.d (.v (.slice none 0 0))),(.d (.v (.slice none 0 0))),(.d (.v (.slice none 0 0))),(.d (.sl (aB v3)))]] (by kernel_rfl) ?_;refine fi ?_;refine CS 2 1 57 3 [] rfl (.inr ⟨rfl,rfl⟩) ?_;refine oJ 18 (bw v1.cM) (by kernel_rfl) fun h3=> ?_;have h4:=cP fv h3;refine vp [1,2,3,18,19,20] 4 [] [(1,0),(1,1),(1,2),(1,3),(1,4),(2,2),(2,3)] (fun((v4,v5,v8):Nat×(agU cv)×(agU cv))=>⟨81,[(1,(.ptr 0 0)),(2,(.ptr 1 0)),(3,(.ptr 2 0)),(18,(.d (.sl (bw v1.cM)))),(19,(ao (v1.cM.length:Int))),(20,(ao (v4:Int)))],[.cells (aZ v1).cells, .cells di, .cells [(.d (.sl (aB v2))),(.own 3 (bw v8)),(.d (.v (.slice none 0 0))),(.d (.v (.slice none 0 0))),(.d (.sl (aB v3)))], .front 57 3 v8.length]⟩) (fun((v4,v5,v8):Nat×(agU cv)×(agU cv))=>v1.cM.drop v4=v5∧qV N v2 v3 v1 v5 v4 v8=some r) (fun((v4,v5,v8):Nat×(agU cv)×(agU cv))=>v5.length) (0,v1.cM,[]) (agd rfl) ⟨(cw trivial (cw trivial (cw trivial (cw trivial fj)))),by kernel_rfl⟩ ⟨rfl,J⟩ ?_
 rintro⟨v4,v5,v8⟩ ⟨h5,J⟩;cases v5 with
 |nil=>
  rw[qV]at J;refine aP ?_;refine rg [] [(21,(aU (decide ((v4:Int)<(v1.cM.length:Int)))))] [.cells (aZ v1).cells, .cells di, .cells [(.d (.sl (aB v2))),(.own 3 (bw v8)),(.d (.v (.slice none 0 0))),(.d (.v (.slice none 0 0))),(.d (.sl (aB v3)))], .front 57 3 v8.length] (by kernel_rfl) ?_;refine aP ?_;refine fp (t:=(decide ((v4:Int)<(v1.cM.length:Int)))) (by kernel_rfl) (ck h5) ?_;refine lL (iU (iU (nb rfl ?_)));refine bX ?_;refine aP ?_;refine aP ?_;refine rg [(7,oL v1.bk e9)] [(37,(.d (.sl (bx v1.bk)))),(38,(ao (v1.bk.length:Int))),(39,(ao (0:Int)))] [.cells (aZ v1).cells, .cells di, .cells [(.d (.sl (aB v2))),(.own 3 (bw v8)),(.d (.v (.slice none 0 0))),(.d (.v (.slice none 0 0))),(.d (.sl (aB v3)))], .front 57 3 v8.length] (by kernel_rfl) ?_;refine fi ?_;refine CS 2 2 60 7 [] rfl (.inr ⟨rfl,rfl⟩) ?_;refine oJ 37 (bx v1.bk) (by kernel_rfl) fun h6=> ?_;have h7:=cP e9 h6;refine vp [1,2,3,37,38,39] 5 [] [(1,0),(1,1),(1,2),(1,3),(1,4),(2,3)] (fun((v9,v10,aH):Nat×(agU bN)×(agU bN))=>⟨81,[(1,(.ptr 0 0)),(2,(.ptr 1 0)),(3,(.ptr 2 0)),(37,(.d (.sl (bx v1.bk)))),(38,(ao (v1.bk.length:Int))),(39,(ao (v9:Int)))],[.cells (aZ v1).cells, .cells di, .cells [(.d (.sl (aB v2))),(.own 3 (bw v8)),(.own 4 (bx aH)),(.d (.v (.slice none 0 0))),(.d (.sl (aB v3)))], .front 57 3 v8.length, .front 60 7 aH.length]⟩) (fun((v9,v10,aH):Nat×(agU bN)×(agU bN))=>v1.bk.drop v9=v10∧qG N v2 v8 v3 v1 v10 v9 aH=some r) (fun((v9,v10,aH):Nat×(agU bN)×(agU bN))=>v10.length) (0,v1.bk,[]) (agd rfl) ⟨(cw trivial (cw trivial (cw trivial (cw trivial (cw trivial fj))))),by kernel_rfl⟩ ⟨rfl,J⟩ ?_
  rintro⟨v9,v10,aH⟩ ⟨h8,J⟩;cases v10 with
  |nil=>
   rw[qG]at J;refine aP ?_;refine rg [] [(40,(aU (decide ((v9:Int)<(v1.bk.length:Int)))))] [.cells (aZ v1).cells, .cells di, .cells [(.d (.sl (aB v2))),(.own 3 (bw v8)),(.own 4 (bx aH)),(.d (.v (.slice none 0 0))),(.d (.sl (aB v3)))], .front 57 3 v8.length, .front 60 7 aH.length] (by kernel_rfl) ?_;refine aP ?_;refine fp (t:=(decide ((v9:Int)<(v1.bk.length:Int)))) (by kernel_rfl) (ck h8) ?_;refine lL (iU (iU (nb rfl ?_)));refine bX ?_;refine aP ?_;refine aP ?_;refine rg [(7,oL v1.ay eI)] [(55,(.d (.sl (bP v1.ay)))),(56,(ao (v1.ay.length:Int))),(57,(ao (0:Int)))] [.cells (aZ v1).cells, .cells di, .cells [(.d (.sl (aB v2))),(.own 3 (bw v8)),(.own 4 (bx aH)),(.d (.v (.slice none 0 0))),(.d (.sl (aB v3)))], .front 57 3 v8.length, .front 60 7 aH.length] (by kernel_rfl) ?_;refine fi ?_;refine N8 2 3 54 22 rfl rfl ?_;refine oJ 55 (bP v1.ay) (by kernel_rfl) fun h9=> ?_;have aJ:=cP eI h9;refine vp [2,3,55,56,57] 6 [] [(1,0),(1,1),(1,2),(1,3),(1,4)] (fun((aA,aT,aR,bG):Nat×(agU aG)×Nat×(agU aG))=>⟨81,[(2,(.ptr 1 0)),(3,(.ptr 2 0)),(55,(.d (.sl (bP v1.ay)))),(56,(ao (v1.ay.length:Int))),(57,(ao (aA:Int)))],[.cells (aZ v1).cells, .cells di, .cells [(.d (.sl (aB v2))),(.own 3 (bw v8)),(.own 4 (bx aH)),(.vec 5 0 aR aR 22),(.d (.sl (aB v3)))], .front 57 3 v8.length, .front 60 7 aH.length, .vec 54 22 (aI (bG.map b6))]⟩) (fun((aA,aT,aR,bG):Nat×(agU aG)×Nat×(agU aG))=>v1.ay.drop aA=aT∧rX N v2 v8 aH v3 aT aA aR bG=some r) (fun((aA,aT,aR,bG):Nat×(agU aG)×Nat×(agU aG))=>aT.length) (0,v1.ay,0,[]) (agd rfl) ⟨(cw trivial (cw trivial (cw trivial (cw trivial (cw trivial (gp (xs:=(([]:agU aG).map b6)) fj)))))),by kernel_rfl⟩ ⟨rfl,J⟩ ?_
   rintro⟨aA,aT,aR,bG⟩ ⟨bQ,J⟩;cases aT with
   |nil=>
    rw[rX]at J;refine aP ?_;refine rg [] [(58,(aU (decide ((aA:Int)<(v1.ay.length:Int)))))] [.cells (aZ v1).cells, .cells di, .cells [(.d (.sl (aB v2))),(.own 3 (bw v8)),(.own 4 (bx aH)),(.vec 5 0 aR aR 22),(.d (.sl (aB v3)))], .front 57 3 v8.length, .front 60 7 aH.length, .vec 54 22 (aI (bG.map b6))] (by kernel_rfl) ?_;refine aP ?_;refine fp (t:=(decide ((aA:Int)<(v1.ay.length:Int)))) (by kernel_rfl) (ck bQ) ?_;refine lL (iU (iU (nb rfl ?_)));refine bX ?_;refine aP ?_;refine rg [] [] [.cells (aZ v1).cells, .cells [(.d (.sl (aB v2))),(.own 3 (bw v8)),(.own 4 (bx aH)),(.vec 5 0 aR aR 22),(.d (.sl (aB v3)))], .cells [(.d (.sl (aB v2))),(.own 3 (bw v8)),(.own 4 (bx aH)),(.vec 5 0 aR aR 22),(.d (.sl (aB v3)))], .front 57 3 v8.length, .front 60 7 aH.length, .vec 54 22 (aI (bG.map b6))] (by kernel_rfl) ?_;refine Tk 0 ?_;refine Tk 2 ?_;refine dD ?_;have hr:=agp J;subst hr;exact nL (cw trivial (cw trivial (cw trivial (cw trivial (cw trivial (gp (xs:=(bG.map b6)) fj)))))) (by kernel_rfl)
   |cons aX aK=>
    rw[rX]at J;refine aP ?_;refine rg [] [(58,(aU (decide ((aA:Int)<(v1.ay.length:Int)))))] [.cells (aZ v1).cells, .cells di, .cells [(.d (.sl (aB v2))),(.own 3 (bw v8)),(.own 4 (bx aH)),(.vec 5 0 aR aR 22),(.d (.sl (aB v3)))], .front 57 3 v8.length, .front 60 7 aH.length, .vec 54 22 (aI (bG.map b6))] (by kernel_rfl) ?_;refine aP ?_;refine fy (t:=(decide ((aA:Int)<(v1.ay.length:Int)))) (by kernel_rfl) (cf bQ) ?_;refine eo ?_;refine bX ?_;refine aP ?_;refine fi ?_;refine aP ?_;refine rg [(1,oE (gP (bS bQ)))] [(9,(.ptr 6 0))] [.cells (aZ v1).cells, .cells di, .cells [(.d (.sl (aB v2))),(.own 3 (bw v8)),(.own 4 (bx aH)),(.vec 5 0 aR aR 22),(.d (.sl (aB v3)))], .front 57 3 v8.length, .front 60 7 aH.length, .vec 54 22 (aI (bG.map b6)), .cells (cp aX).cells] (by kernel_rfl) ?_;refine aP ?_;obtain⟨v20,cl,J⟩:=au J;obtain⟨v21,dg,J⟩:=au J;obtain⟨cY,cg,J⟩:=au J;refine rd ak (by kernel_rfl) [(7,cL (P6 N aX.aS v20 cl)),(16,cL (P6 N aX.bI v21 dg)),(25,cL (ac2 N aX.bq cY cg))] [] [.cells (aZ v1).cells, .cells di, .cells [(.d (.sl (aB v2))),(.own 3 (bw v8)),(.own 4 (bx aH)),(.vec 5 0 aR aR 22),(.d (.sl (aB v3)))], .front 57 3 v8.length, .front 60 7 aH.length, .vec 54 22 (aI (bG.map b6)), .cells ((bp aX.aq)::(ao aX.aC.bW)::(ao aX.aC.ca)::(ao aX.aC.cF)::(ao aX.aC.cE)::(ao aX.aC.cJ)::(.d (.sl (cm v20)))::(.d (.sl (cm v21)))::(ao aX.cG)::GS cY [])] (by kernel_rfl) ?_
    have cV:=iu J;replace J:=(dM cV).symm.trans J;have b9:=iu J;replace J:=(dM b9).symm.trans J;refine re [(13,⟨_,_, .pr (.ap (aI ((bG++[(⟨aX.aq,aX.aC,v20,v21,aX.cG,cY⟩:aG)]).map b6)) (aI (([(⟨aX.aq,aX.aC,v20,v21,aX.cG,cY⟩:aG)]).map b6)) (aR+1) (aR+1)) (Im (f:=b6) (h:=[.cells (aZ v1).cells, .cells di, .cells [(.d (.sl (aB v2))),(.own 3 (bw v8)),(.own 4 (bx aH)),(.vec 5 0 aR aR 22),(.d (.sl (aB v3)))], .front 57 3 v8.length, .front 60 7 aH.length, .vec 54 22 (aI (bG.map b6)), .cells ((bp aX.aq)::(ao aX.aC.bW)::(ao aX.aC.ca)::(ao aX.aC.cF)::(ao aX.aC.cE)::(ao aX.aC.cJ)::(.d (.sl (cm v20)))::(.d (.sl (cm v21)))::(ao aX.cG)::GS cY [])]) (y:=(.full (bP [(⟨aX.aq,aX.aC,v20,v21,aX.cG,cY⟩:aG)]))) (k:=22) (agk cV) rfl (fun c hc=>Oh c (by rw[me];exact hc)) rfl rfl (dQ b9 (by decide)).1 (dQ b9 (by decide)).2)⟩)] [(78,(.ptr 2 3)),(77,(.vec 5 0 (aR+1) (aR+1) 22)),(76,(.full (bP [(⟨aX.aq,aX.aC,v20,v21,aX.cG,cY⟩:aG)]))),(75,(.agg [(bp aX.aq),(ao aX.aC.bW),(ao aX.aC.ca),(ao aX.aC.cF),(ao aX.aC.cE),(ao aX.aC.cJ),(.d (.sl (cm v20))),(.d (.sl (cm v21))),(ao aX.cG),(ao cY.aQ),(bp cY.aq),(bt cY.dm.xN),(bt cY.dm.xD),(ao cY.aC.bW),(ao cY.aC.ca),(ao cY.aC.cF),(ao cY.aC.cE),(ao cY.aC.cJ),(bt cY.aL.xK),(.d (.sl (bJ cY.aL.xL))),(.d (.sl (bC cY.xIdx))),(.d (.sl (cQ cY.a7)))])),(74,(.vec 5 0 aR aR 22)),(73,(.ptr 2 3))] [.cells (aZ v1).cells, .cells di, .cells [(.d (.sl (aB v2))),(.own 3 (bw v8)),(.own 4 (bx aH)),(.vec 5 0 (aR+1) (aR+1) 22),(.d (.sl (aB v3)))], .front 57 3 v8.length, .front 60 7 aH.length, .vec 54 22 (aI ((bG++[(⟨aX.aq,aX.aC,v20,v21,aX.cG,cY⟩:aG)]).map b6)), .cells ((bp aX.aq)::(ao aX.aC.bW)::(ao aX.aC.ca)::(ao aX.aC.cF)::(ao aX.aC.cE)::(ao aX.aC.cJ)::(.d (.sl (cm v20)))::(.d (.sl (cm v21)))::(ao aX.cG)::GS cY [])] (by kernel_rfl) ?_
    refine ie ?_;refine bX ?_;refine re [(2,oq (cx bQ rfl aJ))] [(57,(ao ((aA+1:Nat):Int))),(79,(ao ((aA+1:Nat):Int)))] [.cells (aZ v1).cells, .cells di, .cells [(.d (.sl (aB v2))),(.own 3 (bw v8)),(.own 4 (bx aH)),(.vec 5 0 (aR+1) (aR+1) 22),(.d (.sl (aB v3)))], .front 57 3 v8.length, .front 60 7 aH.length, .vec 54 22 (aI ((bG++[(⟨aX.aq,aX.aC,v20,v21,aX.cG,cY⟩:aG)]).map b6)), .cells ((bp aX.aq)::(ao aX.aC.bW)::(ao aX.aC.ca)::(ao aX.aC.cF)::(ao aX.aC.cE)::(ao aX.aC.cJ)::(.d (.sl (cm v20)))::(.d (.sl (cm v21)))::(ao aX.cG)::GS cY [])] (by kernel_rfl) ?_;refine bX ?_;exact⟨(aA+1,aK,(aR+1),(bG++[(⟨aX.aq,aX.aC,v20,v21,aX.cG,cY⟩:aG)])),⟨(cw trivial (cw trivial (cw trivial (cw trivial (cw trivial (gp (xs:=((bG++[(⟨aX.aq,aX.aC,v20,v21,aX.cG,cY⟩:aG)]).map b6)) fj)))))),by kernel_rfl⟩,⟨ct bQ,J⟩,agS _⟩
  |cons v11 v12=>
   rw[qG]at J;refine aP ?_;refine rg [] [(40,(aU (decide ((v9:Int)<(v1.bk.length:Int)))))] [.cells (aZ v1).cells, .cells di, .cells [(.d (.sl (aB v2))),(.own 3 (bw v8)),(.own 4 (bx aH)),(.d (.v (.slice none 0 0))),(.d (.sl (aB v3)))], .front 57 3 v8.length, .front 60 7 aH.length] (by kernel_rfl) ?_;refine aP ?_;refine fy (t:=(decide ((v9:Int)<(v1.bk.length:Int)))) (by kernel_rfl) (cf h8) ?_;refine eo ?_;refine bX ?_;refine aP ?_;refine fi ?_;refine aP ?_;refine rg [(1,oE (s5 (bS h8)))] [(7,(.ptr 5 0))] [.cells (aZ v1).cells, .cells di, .cells [(.d (.sl (aB v2))),(.own 3 (bw v8)),(.own 4 (bx aH)),(.d (.v (.slice none 0 0))),(.d (.sl (aB v3)))], .front 57 3 v8.length, .front 60 7 aH.length, .cells (lC v11).cells] (by kernel_rfl) ?_;refine aP ?_;obtain⟨cz,c8,J⟩:=au J;refine rg [(7,cL (Nh N v11.aS cz c8))] [] [.cells (aZ v1).cells, .cells di, .cells [(.d (.sl (aB v2))),(.own 3 (bw v8)),(.own 4 (bx aH)),(.d (.v (.slice none 0 0))),(.d (.sl (aB v3)))], .front 57 3 v8.length, .front 60 7 aH.length, .cells [(bp v11.aq),(ao v11.aC.bW),(ao v11.aC.ca),(ao v11.aC.cF),(ao v11.aC.cE),(ao v11.aC.cJ),(.d (.sl (cH cz)))]] (by kernel_rfl) ?_;have cr:=iu J;replace J:=(dM cr).symm.trans J
   refine re [(13,⟨_,_, .app (xs:=bx aH) (ys:=bx [(⟨v11.aq,v11.aC,cz⟩:bN)]) (zs:=bx (aH++[(⟨v11.aq,v11.aC,cz⟩:bN)])) (n:=(aH++[(⟨v11.aq,v11.aC,cz⟩:bN)]).length) e9.symm Sy Sy (by rw[(e9 (l:=aH)),(e9 (l:=[(⟨v11.aq,v11.aC,cz⟩:bN)]))];exact(dQ cr (by decide)).1) (by rw[(e9 (l:=aH)),(e9 (l:=[(⟨v11.aq,v11.aC,cz⟩:bN)]))];exact(dQ cr (by decide)).2) acD (by first|(rw[(e9 (l:=aH)),(e9 (l:=[(⟨v11.aq,v11.aC,cz⟩:bN)]))];done)|(rw[(e9 (l:=aH)),(e9 (l:=[(⟨v11.aq,v11.aC,cz⟩:bN)]))];rfl)|(rw[(e9 (l:=aH)),(e9 (l:=[(⟨v11.aq,v11.aC,cz⟩:bN)])),af6];done)|(rw[(e9 (l:=aH)),(e9 (l:=[(⟨v11.aq,v11.aC,cz⟩:bN)])),af6];rfl)|(rw[(e9 (l:=aH)),(e9 (l:=[(⟨v11.aq,v11.aC,cz⟩:bN)])),agq]))⟩)] [(52,(.ptr 2 2)),(51,(.own 4 (bx (aH++[(⟨v11.aq,v11.aC,cz⟩:bN)])))),(50,(.full (bx [(⟨v11.aq,v11.aC,cz⟩:bN)]))),(49,(.agg [(bp v11.aq),(ao v11.aC.bW),(ao v11.aC.ca),(ao v11.aC.cF),(ao v11.aC.cE),(ao v11.aC.cJ),(.d (.sl (cH cz)))])),(48,(.own 4 (bx aH))),(47,(.ptr 2 2))] [.cells (aZ v1).cells, .cells di, .cells [(.d (.sl (aB v2))),(.own 3 (bw v8)),(.own 4 (bx (aH++[(⟨v11.aq,v11.aC,cz⟩:bN)]))),(.d (.v (.slice none 0 0))),(.d (.sl (aB v3)))], .front 57 3 v8.length, .front 60 7 (aH++[(⟨v11.aq,v11.aC,cz⟩:bN)]).length, .cells [(bp v11.aq),(ao v11.aC.bW),(ao v11.aC.ca),(ao v11.aC.cF),(ao v11.aC.cE),(ao v11.aC.cJ),(.d (.sl (cH cz)))]] (by kernel_rfl) ?_
   refine ie ?_;refine bX ?_;refine re [(2,oq (cx h8 rfl h7))] [(39,(ao ((v9+1:Nat):Int))),(53,(ao ((v9+1:Nat):Int)))] [.cells (aZ v1).cells, .cells di, .cells [(.d (.sl (aB v2))),(.own 3 (bw v8)),(.own 4 (bx (aH++[(⟨v11.aq,v11.aC,cz⟩:bN)]))),(.d (.v (.slice none 0 0))),(.d (.sl (aB v3)))], .front 57 3 v8.length, .front 60 7 (aH++[(⟨v11.aq,v11.aC,cz⟩:bN)]).length, .cells [(bp v11.aq),(ao v11.aC.bW),(ao v11.aC.ca),(ao v11.aC.cF),(ao v11.aC.cE),(ao v11.aC.cJ),(.d (.sl (cH cz)))]] (by kernel_rfl) ?_;refine bX ?_;exact⟨(v9+1,v12,(aH++[(⟨v11.aq,v11.aC,cz⟩:bN)])),⟨(cw trivial (cw trivial (cw trivial (cw trivial (cw trivial fj))))),by kernel_rfl⟩,⟨ct h8,J⟩,agS _⟩
 |cons v6 v7=>
  rw[qV]at J;refine aP ?_;refine rg [] [(21,(aU (decide ((v4:Int)<(v1.cM.length:Int)))))] [.cells (aZ v1).cells, .cells di, .cells [(.d (.sl (aB v2))),(.own 3 (bw v8)),(.d (.v (.slice none 0 0))),(.d (.v (.slice none 0 0))),(.d (.sl (aB v3)))], .front 57 3 v8.length] (by kernel_rfl) ?_;refine aP ?_;refine fy (t:=(decide ((v4:Int)<(v1.cM.length:Int)))) (by kernel_rfl) (cf h5) ?_;refine eo ?_;refine bX ?_;refine aP ?_;refine fi ?_;refine aP ?_;refine rg [(1,oE (AT (bS h5)))] [(5,(.ptr 4 0))] [.cells (aZ v1).cells, .cells di, .cells [(.d (.sl (aB v2))),(.own 3 (bw v8)),(.d (.v (.slice none 0 0))),(.d (.v (.slice none 0 0))),(.d (.sl (aB v3)))], .front 57 3 v8.length, .cells (lV v6).cells] (by kernel_rfl) ?_;obtain⟨v24,dk,J⟩:=au J;have eY:=iu J;replace J:=(dM eY).symm.trans J;refine XT ak (by kernel_rfl) [(13,cL (E3 N v6.aL v24 dk)),(28,⟨_,_, .app (xs:=bw v8) (ys:=bw [(⟨v24,v6.gK⟩:cv)]) (zs:=bw (v8++[(⟨v24,v6.gK⟩:cv)])) (n:=(v8++[(⟨v24,v6.gK⟩:cv)]).length) fv.symm UI UI (by rw[(fv (l:=v8)),(fv (l:=[(⟨v24,v6.gK⟩:cv)]))];exact(dQ eY (by decide)).1) (by rw[(fv (l:=v8)),(fv (l:=[(⟨v24,v6.gK⟩:cv)]))];exact(dQ eY (by decide)).2) aeu (by first|(rw[(fv (l:=v8)),(fv (l:=[(⟨v24,v6.gK⟩:cv)]))];done)|(rw[(fv (l:=v8)),(fv (l:=[(⟨v24,v6.gK⟩:cv)]))];rfl)|(rw[(fv (l:=v8)),(fv (l:=[(⟨v24,v6.gK⟩:cv)])),af6];done)|(rw[(fv (l:=v8)),(fv (l:=[(⟨v24,v6.gK⟩:cv)])),af6];rfl)|(rw[(fv (l:=v8)),(fv (l:=[(⟨v24,v6.gK⟩:cv)])),agq]))⟩)] [(34,(.ptr 2 1)),(33,(.own 3 (bw (v8++[(⟨v24,v6.gK⟩:cv)])))),(32,(.full (bw [(⟨v24,v6.gK⟩:cv)]))),(31,(.agg [(bt v24.xK),(.d (.sl (bJ v24.xL))),(aU v6.gK)])),(30,(aU v6.gK)),(29,(.ptr 4 2)),(28,(bY v24)),(27,(bY v6.aL)),(26,(.ptr 4 0)),(25,(.own 3 (bw v8))),(24,(.ptr 2 1))] [.cells (aZ v1).cells, .cells di, .cells [(.d (.sl (aB v2))),(.own 3 (bw (v8++[(⟨v24,v6.gK⟩:cv)]))),(.d (.v (.slice none 0 0))),(.d (.v (.slice none 0 0))),(.d (.sl (aB v3)))], .front 57 3 (v8++[(⟨v24,v6.gK⟩:cv)]).length, .cells (lV v6).cells] (by kernel_rfl) ?_
  refine ie ?_;refine bX ?_;refine re [(2,oq (cx h5 rfl h4))] [(20,(ao ((v4+1:Nat):Int))),(35,(ao ((v4+1:Nat):Int)))] [.cells (aZ v1).cells, .cells di, .cells [(.d (.sl (aB v2))),(.own 3 (bw (v8++[(⟨v24,v6.gK⟩:cv)]))),(.d (.v (.slice none 0 0))),(.d (.v (.slice none 0 0))),(.d (.sl (aB v3)))], .front 57 3 (v8++[(⟨v24,v6.gK⟩:cv)]).length, .cells (lV v6).cells] (by kernel_rfl) ?_;refine bX ?_;exact⟨(v4+1,v7,(v8++[(⟨v24,v6.gK⟩:cv)])),⟨(cw trivial (cw trivial (cw trivial (cw trivial fj)))),by kernel_rfl⟩,⟨ct h5,J⟩,agS _⟩
def uC(N:Nat)(v1:Nat)(v2:agU aG)(v3:agV):Nat→Int→agW Int
 |0,_=>none
 |v4+1,v5=>
  bif (decide (v5<(v1:Int)))then
   bif (decide ((0:Int)≤v5))then
   Option.bind (v2[(v5).toNat]?) fun v6=>
   Option.bind (vU N v6 v3) fun v7=>
   bif v7 then
    some v5
   else
    (fun bE=>uC N v1 v2 v3 v4 bE) (a8 (v5+(1:Int)))
   else none
  else
   some (-1:Int)
def FJ(N:Nat)(v1:Nat)(v2:agU aG)(v3:agV):agW Int:=
 bif (Nat.beq v2.length v1)then
 uC N v1 v2 v3 N (0:Int)
 else none
theorem Vq(N:Nat)(v1:Nat)(v2:agU aG)(v3:agV)(r:Int)(J:FJ N v1 v2 v3=some r):bD Tryz.prog 45 [(.vec 0 0 v1 v1 22),(.fn 46 [(.ptr 1 0)])] [.vec 54 22 (aI (v2.map b6)), .cells [(bp v3)]] fun r1 h1=>r1=(ao r)∧h1=[.vec 54 22 (aI (v2.map b6)), .cells [(bp v3)]]:=by
 rw[FJ]at J;refine vR 2 Tryz.func45 rfl (by kernel_rfl) (agd rfl) ?_;refine mG (s':=⟨19,[(0,(.vec 0 0 v1 v1 22)),(1,(.fn 46 [(.ptr 1 0)]))],[.vec 54 22 (aI (v2.map b6)), .cells [(bp v3)]]⟩) (by kernel_rfl) ?_;refine aP ?_;refine rg [] [] [.vec 54 22 (aI (v2.map b6)), .cells [(bp v3)]] (by kernel_rfl) ?_;refine aP ?_;refine aP ?_;have h1:=iu J;replace J:=(dM h1).symm.trans J;refine rg [(4,⟨_,_, .pr .no (jQ (f:=b6) (agk h1))⟩)] [(7,(ao (v1:Int))),(8,(ao (0:Int)))] [.vec 54 22 (aI (v2.map b6)), .cells [(bp v3)]] (by kernel_rfl) ?_;refine fi ?_;refine vp [0,1,7,8] 2 [] [] (fun((v4,v5):Nat×Int)=>⟨19,[(0,(.vec 0 0 v1 v1 22)),(1,(.fn 46 [(.ptr 1 0)])),(7,(ao (v1:Int))),(8,(ao v5))],[.vec 54 22 (aI (v2.map b6)), .cells [(bp v3)]]⟩) (fun((v4,v5):Nat×Int)=>uC N v1 v2 v3 v4 v5=some r) (fun((v4,v5):Nat×Int)=>v4) (N,(0:Int)) (agd rfl) ⟨(gp (xs:=(v2.map b6)) (cw trivial fj)),by kernel_rfl⟩ J ?_;rintro⟨v4,v5⟩ J
 try dsimp only at J
 cases v4 with
 |zero=>
  rw[uC]at J;cases J
 |succ v4=>
  rw[uC]at J;refine aP ?_;refine rg [] [(9,(aU (decide (v5<(v1:Int)))))] [.vec 54 22 (aI (v2.map b6)), .cells [(bp v3)]] (by kernel_rfl) ?_;refine aP ?_;rcases fS (decide (v5<(v1:Int)))with h2|h2
  ·replace J:=(dM h2).symm.trans J;refine fy (t:=(decide (v5<(v1:Int)))) (by kernel_rfl) h2 ?_;refine eo ?_;refine bX ?_;refine aP ?_;refine fi ?_;refine aP ?_;refine rg [] [(5,(ao v5))] [.vec 54 22 (aI (v2.map b6)), .cells [(bp v3)]] (by kernel_rfl) ?_;refine aP ?_;have h3:=iu J;replace J:=(dM h3).symm.trans J;obtain⟨v6,h4,J⟩:=au J;obtain⟨v7,h5,J⟩:=au J;refine rg [(10,⟨_,_, .pr (.ix ((v5).toNat)) (oV (jQ (f:=b6) (agk h1)) (of_decide_eq_true h3) (of_decide_eq_true h2) rfl)⟩),(13,⟨_,_, .pr (.el ((b6 v6).map AV.d)) (KE (f:=b6) (agk h1) h4)⟩),(16,⟨_,_, .rq (cb:=[(cp v6),(.ptr 1 0)]) (h:=[.vec 54 22 (aI (v2.map b6)), .cells [(bp v3)]]) (l:=[1]) (by kernel_rfl) (by kernel_rfl) (by kernel_rfl) (by kernel_rfl) (TV N v6 v3 v7 h5)⟩)] [(16,(aU v7))] [.vec 54 22 (aI (v2.map b6)), .cells [(bp v3)]] (by kernel_rfl) ?_;rcases fS v7 with h6|h6
   ·replace J:=(dM h6).symm.trans J;refine fy (t:=v7) (by kernel_rfl) h6 ?_;refine aP ?_;refine rg [] [(4,(ao v5))] [.vec 54 22 (aI (v2.map b6)), .cells [(bp v3)]] (by kernel_rfl) ?_;refine dD (ff (dW (dW (ff (dW ?_)))));have hr:=agp J;subst hr;exact nL (gp (xs:=(v2.map b6)) (cw trivial fj)) (by kernel_rfl)
   replace J:=(fP h6).symm.trans J;refine fp (t:=v7) (by kernel_rfl) h6 ?_;refine eo ?_;refine ie ?_;refine bX ?_;refine re [] [(8,(ao (a8 (v5+(1:Int))))),(18,(ao (a8 (v5+(1:Int)))))] [.vec 54 22 (aI (v2.map b6)), .cells [(bp v3)]] (by kernel_rfl) ?_;refine bX ?_;exact⟨(v4,(a8 (v5+(1:Int)))),⟨(gp (xs:=(v2.map b6)) (cw trivial fj)),by kernel_rfl⟩,J,agS _⟩
  replace J:=(fP h2).symm.trans J;refine fp (t:=(decide (v5<(v1:Int)))) (by kernel_rfl) h2 ?_;refine lL (iU (iU (nb rfl ?_)));refine bX ?_;refine aP ?_;refine rg [] [(4,(ao (-1:Int)))] [.vec 54 22 (aI (v2.map b6)), .cells [(bp v3)]] (by kernel_rfl) ?_;refine dD ?_;have hr:=agp J;subst hr;exact nL (gp (xs:=(v2.map b6)) (cw trivial fj)) (by kernel_rfl)
def BM(N:Nat)(v1:agU agV)(v2:agU cv)(v3:agU bN)(v4:Nat)(v5:agU agV)(v6:agV)(v7:agU aG):agW Int:=
 Option.bind (FJ N v4 v7 v6) fun v8=>
 some v8
theorem aev(N:Nat)(v1:agU agV)(v2:agU cv)(v3:agU bN)(v4:Nat)(v5:agU agV)(v6:agV)(v7:agU aG)(r:Int)(J:BM N v1 v2 v3 v4 v5 v6 v7=some r):bD Tryz.prog 16 [(.agg [(.d (.sl (aB v1))),(.d (.sl (bw v2))),(.d (.sl (bx v3))),(.vec 0 0 v4 v4 22),(.d (.sl (aB v5)))]),(bp v6)] [.vec 54 22 (aI (v7.map b6))] fun r1 h1=>r1=(ao r)∧h1=[.vec 54 22 (aI (v7.map b6))]:=by
 rw[BM]at J;refine vR 1 Tryz.func16 rfl (by kernel_rfl) (agd rfl) ?_;refine mG (s':=⟨9,[(0,(.agg [(.d (.sl (aB v1))),(.d (.sl (bw v2))),(.d (.sl (bx v3))),(.vec 0 0 v4 v4 22),(.d (.sl (aB v5)))])),(1,(bp v6))],[.vec 54 22 (aI (v7.map b6))]⟩) (by kernel_rfl) ?_;refine aP ?_;refine rg [] [(2,(.ptr 1 0)),(3,(.ptr 2 0))] [.vec 54 22 (aI (v7.map b6)), .cells [(.d (.sl (aB v1))),(.d (.sl (bw v2))),(.d (.sl (bx v3))),(.vec 0 0 v4 v4 22),(.d (.sl (aB v5)))], .cells [(bp v6)]] (by kernel_rfl) ?_;refine aP ?_;obtain⟨v8,h1,J⟩:=au J;refine rg [(10,⟨_,_, .lT (lv (xs:=(v7.map b6)) (xn ij)) (lv (xs:=(v7.map b6)) (xn ij)) (cb:=[(.vec 0 0 v4 v4 22),(.fn 46 [(.ptr 2 0)])]) (h:=[.vec 54 22 (aI (v7.map b6)), .cells [(.d (.sl (aB v1))),(.d (.sl (bw v2))),(.d (.sl (bx v3))),(.vec 0 0 v4 v4 22),(.d (.sl (aB v5)))], .cells [(bp v6)]]) (l:=[0,2]) (by kernel_rfl) (by kernel_rfl) (by kernel_rfl) (by kernel_rfl) (Vq N v4 v7 v6 v8 h1)⟩)] [(4,(ao v8))] [.vec 54 22 (aI (v7.map b6)), .cells [(.d (.sl (aB v1))),(.d (.sl (bw v2))),(.d (.sl (bx v3))),(.vec 0 0 v4 v4 22),(.d (.sl (aB v5)))], .cells [(bp v6)]] (by kernel_rfl) ?_;refine dD ?_;have hr:=agp J;subst hr;exact nL (gp (xs:=(v7.map b6)) fj) (by kernel_rfl)
def Kj(N:Nat)(v1:agU bf)(v2:agU az):agW ((agU bf)×(agU az)):=
 some (v1,v2)
theorem abQ(N:Nat)(v1:agU bf)(v2:agU az)(r:(agU bf)×(agU az))(J:Kj N v1 v2=some r):bD Tryz.prog 56 [(.d (.sl (cm v1))),(.d (.sl (bC v2)))] [] fun r1 h1=>r1=(.fn 88 [(.aW [[(.sl (cm r.1))]] 0 0),(.aW [[(.sl (bC r.2))]] 0 0)])∧h1=[]:=by
 rw[Kj]at J;refine BX 0 Tryz.func56 rfl (by kernel_rfl) (agd rfl) ?_;refine mG (s':=⟨6,[(0,(.d (.sl (cm v1)))),(1,(.d (.sl (bC v2))))],[]⟩) (by kernel_rfl) ?_;refine aP ?_;refine rg [] [(2,(.ptr 0 0)),(3,(.ptr 1 0))] [.cells [(.d (.sl (cm v1)))], .cells [(.d (.sl (bC v2)))]] (by kernel_rfl) ?_;refine aP ?_;refine rg [] [(4,(.fn 88 [(.ptr 0 0),(.ptr 1 0)]))] [.cells [(.d (.sl (cm v1)))], .cells [(.d (.sl (bC v2)))]] (by kernel_rfl) ?_;refine gk [4] 2 (agd rfl) (s':=⟨6,[(4,(.fn 88 [(.ptr 0 0),(.ptr 1 0)]))],[.cells [(.d (.sl (cm v1)))], .cells [(.d (.sl (bC v2)))]]⟩) (by kernel_rfl) ?_;refine Pm 0 (s':=⟨6,[(4,(.fn 88 [(.aW [[(.sl (cm v1))]] 0 0),(.ptr 1 0)]))],[.gone, .cells [(.d (.sl (bC v2)))]]⟩) (by kernel_rfl) ?_;refine Pm 1 (s':=⟨6,[(4,(.fn 88 [(.aW [[(.sl (cm v1))]] 0 0),(.aW [[(.sl (bC v2))]] 0 0)]))],[.gone, .gone]⟩) (by kernel_rfl) ?_;refine dD ?_;have hr:=agp J;subst hr;exact yM (by kernel_rfl)
def Kz(N:Nat)(v1:Int64):agW aw:=
 some (⟨v1,[]⟩:aw)
theorem ae0(N:Nat)(v1:Int64)(r:aw)(J:Kz N v1=some r):bA Tryz.prog 89 [(bt v1)] (·=(bY r)):=by
 rw[Kz]at J;refine bZ Tryz.func89 (by kernel_rfl) (by kernel_rfl) ?_;cases J;exact wr ak [[],[]]
def DZ(N:Nat)(v1:agV):agW aw:=
 Option.bind (xV N v1) fun v2=>
 bif v2 then
  some (⟨(0:Int64),[(⟨v1,(1:Int64)⟩:aF)]⟩:aw)
 else
  some dB
theorem aar(N:Nat)(v1:agV)(r:aw)(J:DZ N v1=some r):bA Tryz.prog 90 [(bp v1)] (·=(bY r)):=by
 rw[DZ]at J;refine bZ Tryz.func90 (by kernel_rfl) (by kernel_rfl) ?_;obtain⟨v2,h1,J⟩:=au J;refine ax ak [[],[(4,cL (zP N v1 v2 h1))]] ?_;refine bc J (fun h2 J=> ?_) fun h2 J=> ?_
 ·cases J;exact wr ak [[(0,bF (dH h2))],[]]
 cases J;exact wr ak [[(0,bT (dK h2))],[]]
def Ec(N:Nat)(v1:bf)(v2:aF):agW Bool:=
 some (bL v1.aq==bL v2.aq)
theorem Z0(N:Nat)(v1:bf)(v2:aF)(r:Bool)(J:Ec N v1 v2=some r):bD Tryz.prog 92 [(pM v1),(.ptr 0 0)] [.cells (mh v2).cells] fun r1 h1=>r1=(aU r)∧h1=[.cells (mh v2).cells]:=by
 rw[Ec]at J;refine dS 1 Tryz.func92 (by kernel_rfl) (by kernel_rfl) (agd rfl) ?_;cases J;exact bH ak [[],[]]
def sN(N:Nat)(v2:aF):agU bf→Nat→agW Int
 |[],_=>
  some (-1:Int)
 |v5::v6,v3=>
  Option.bind (Ec N v5 v2) fun v7=>
  bif v7 then
   some (v3:Int)
  else
   (sN N v2 v6 (v3+1))
def F3(N:Nat)(v1:agU bf)(v2:aF):agW Int:=
 sN N v2 v1 0
theorem Vz(N:Nat)(v1:agU bf)(v2:aF)(r:Int)(J:F3 N v1 v2=some r):bD Tryz.prog 91 [(.d (.sl (cm v1))),(.fn 92 [(.ptr 0 0)])] [.cells (mh v2).cells] fun r1 h1=>r1=(ao r)∧h1=[.cells (mh v2).cells]:=by
 rw[F3]at J;refine dS 1 Tryz.func91 (by kernel_rfl) (by kernel_rfl) (agd rfl) ?_;refine ax ak [[],[(4,oL v1 cK)]] ?_;refine dj 0 (cm v1) (by kernel_rfl) fun h1=> ?_;have h2:=cP cK h1;refine c9 ak 1 [] [0,1,7,8] 1 (fun((v3,v4):Nat×(agU bf))=>⟨19,[(0,(.d (.sl (cm v1)))),(1,(.fn 92 [(.ptr 0 0)])),(7,(ao (v1.length:Int))),(8,(ao (v3:Int)))],[.cells (mh v2).cells]⟩) (fun((v3,v4):Nat×(agU bf))=>v1.drop v3=v4∧sN N v2 v4 v3=some r) (fun((v3,v4):Nat×(agU bf))=>v4.length) (0,v1) ⟨rfl,J⟩ ?_;rintro⟨v3,v4⟩ ⟨h3,J⟩ f1 ba;cases v4 with
 |nil=>
  rw[sN]at J;cases J;exact bH ak [[],[(0,bF (ck h3))],[]]
 |cons v5 v6=>
  rw[sN]at J;obtain⟨v7,h4,J⟩:=au J;refine ax ak [[],[(0,bT (cf h3))],[],[(10,oE (rB (bS h3))),(16,⟨_,_, .rq (cb:=[(pM v5),(.ptr 0 0)]) (h:=[.cells (mh v2).cells]) (l:=[0]) (by kernel_rfl) (by kernel_rfl) (by kernel_rfl) (by kernel_rfl) (Z0 N v5 v2 v7 h4)⟩)]] ?_;refine bc J (fun h5 J=> ?_) fun h5 J=> ?_
  ·cases J;exact bH ak [[(0,bT h5)],[]]
  exact cU ak ba (v3+1,v6) [[(0,bF h5)],[(2,oq (cx h3 rfl h2))]] ⟨ct h3,J⟩
def vx(N:Nat)(v1:Int64):agW Int:=
 bif (decide (v1.toInt<(0:Int)))then
  some (IntKind.u64.wrap (0-(IntKind.u64.wrap v1.toInt)))
 else
  some (IntKind.u64.wrap v1.toInt)
theorem To(N:Nat)(v1:Int64)(r:Int)(J:vx N v1=some r):bA Tryz.prog 160 [(bt v1)] (·=(.d (.v (.int .u64 r)))):=by
 rw[vx]at J;refine bZ Tryz.func160 (by kernel_rfl) (by kernel_rfl) ?_;refine ax ak [[],[]] ?_;refine bc J (fun h1 J=> ?_) fun h1 J=> ?_
 ·cases J;exact wr ak [[(0,bT h1)],[]]
 cases J;exact wr ak [[(0,bF h1)],[]]
def Ay(N:Nat)(v1:Int)(v2:Int):agW (Int×Int):=
 some ((IntKind.u64.wrap ((IntKind.u64.wrap ((IntKind.u64.wrap (((v1).fdiv (2^(min ((32:Int)).toNat (IntKind.bits .u64))))*((v2).fdiv (2^(min ((32:Int)).toNat (IntKind.bits .u64))))))+(((IntKind.u64.wrap ((IntKind.u64.wrap (((v1).fdiv (2^(min ((32:Int)).toNat (IntKind.bits .u64))))*(IntKind.u64.wrap ((BitVec.ofInt (IntKind.bits .u64) v2&&&BitVec.ofInt (IntKind.bits .u64) (4294967295:Int)).toNat:Int))))+(((IntKind.u64.wrap ((IntKind.u64.wrap ((BitVec.ofInt (IntKind.bits .u64) v1&&&BitVec.ofInt (IntKind.bits .u64) (4294967295:Int)).toNat:Int))*(IntKind.u64.wrap ((BitVec.ofInt (IntKind.bits .u64) v2&&&BitVec.ofInt (IntKind.bits .u64) (4294967295:Int)).toNat:Int))))).fdiv (2^(min ((32:Int)).toNat (IntKind.bits .u64))))))).fdiv (2^(min ((32:Int)).toNat (IntKind.bits .u64))))))+(((IntKind.u64.wrap ((IntKind.u64.wrap ((IntKind.u64.wrap ((BitVec.ofInt (IntKind.bits .u64) v1&&&BitVec.ofInt (IntKind.bits .u64) (4294967295:Int)).toNat:Int))*((v2).fdiv (2^(min ((32:Int)).toNat (IntKind.bits .u64))))))+(IntKind.u64.wrap ((BitVec.ofInt (IntKind.bits .u64) (IntKind.u64.wrap ((IntKind.u64.wrap (((v1).fdiv (2^(min ((32:Int)).toNat (IntKind.bits .u64))))*(IntKind.u64.wrap ((BitVec.ofInt (IntKind.bits .u64) v2&&&BitVec.ofInt (IntKind.bits .u64) (4294967295:Int)).toNat:Int))))+(((IntKind.u64.wrap ((IntKind.u64.wrap ((BitVec.ofInt (IntKind.bits .u64) v1&&&BitVec.ofInt (IntKind.bits .u64) (4294967295:Int)).toNat:Int))*(IntKind.u64.wrap ((BitVec.ofInt (IntKind.bits .u64) v2&&&BitVec.ofInt (IntKind.bits .u64) (4294967295:Int)).toNat:Int))))).fdiv (2^(min ((32:Int)).toNat (IntKind.bits .u64))))))&&&BitVec.ofInt (IntKind.bits .u64) (4294967295:Int)).toNat:Int))))).fdiv (2^(min ((32:Int)).toNat (IntKind.bits .u64)))))),(IntKind.u64.wrap (v1*v2)))
theorem acM(N:Nat)(v1:Int)(v2:Int)(r:Int×Int)(J:Ay N v1 v2=some r):bA Tryz.prog 159 [(.d (.v (.int .u64 v1))),(.d (.v (.int .u64 v2)))] (·=(.bU [(.d (.v (.int .u64 r.1))),(.d (.v (.int .u64 r.2)))])):=by
 rw[Ay]at J;refine bZ Tryz.func159 (by kernel_rfl) (by kernel_rfl) ?_;cases J;exact wr ak [[],[],[(4,⟨_,_, .nn (b:=(32:Int)) (by decide)⟩),(19,⟨_,_, .nn (b:=(32:Int)) (by decide)⟩)],[(10,⟨_,_, .nn (b:=(32:Int)) (by decide)⟩)],[(4,⟨_,_, .nn (b:=(32:Int)) (by decide)⟩),(10,⟨_,_, .nn (b:=(32:Int)) (by decide)⟩),(19,⟨_,_, .nn (b:=(32:Int)) (by decide)⟩),(28,⟨_,_, .nn (b:=(32:Int)) (by decide)⟩)]]
def wB(N:Nat)(v1:Int64)(v2:Int64):agW (Int64×Bool):=
 Option.bind (vx N v1) fun v3=>
 Option.bind (vx N v2) fun v4=>
 Option.bind (Ay N v3 v4) fun v5=>
 Option.bind (bif (v5.1 !=(0:Int))then some true else(bif (decide (v5.2>(9223372036854775808:Int)))then some true else(bif (v5.2==(9223372036854775808:Int))then some (!(!((decide (v1.toInt<(0:Int)))==(decide (v2.toInt<(0:Int))))))else some false))) fun v6=>
 bif v6 then
  some ((0:Int64),false)
 else
  bif ((decide (v1.toInt<(0:Int)))==(decide (v2.toInt<(0:Int))))then
   some ((Int64.ofInt v5.2),true)
  else
   some ((Int64.ofInt (IntKind.u64.wrap (0-v5.2))),true)
theorem T3(N:Nat)(v1:Int64)(v2:Int64)(r:Int64×Bool)(J:wB N v1 v2=some r):bA Tryz.prog 125 [(bt v1),(bt v2)] (·=(.bU [(bt r.1),(aU r.2)])):=by
 rw[wB]at J;refine bZ Tryz.func125 (by kernel_rfl) (by kernel_rfl) ?_;obtain⟨v3,h1,J⟩:=au J;obtain⟨v4,h2,J⟩:=au J;obtain⟨v5,h3,J⟩:=au J;refine ax ak [[],[(4,cL (To N v1 v3 h1)),(10,cL (To N v2 v4 h2)),(13,cL (acM N v3 v4 v5 h3))],[]] ?_;obtain⟨v6,h7,J⟩:=au J;refine dn ak [(22,(aU v6))] [] ?_ ?_
 ·refine bc h7 (fun h4 h7=> ?_) fun h4 h7=> ?_
  ·cases h7;exact⟨so (os [9,12,16] (bT h4) (os [21,24,27,36,40] (bT rfl) (os [30,33] uN []))),by kernel_rfl⟩
  refine bc h7 (fun h5 h7=> ?_) fun h5 h7=> ?_
  ·cases h7;exact⟨so (os [9,12,16] (bF h4) (os [21,24,27,36,40] (bT h5) (os [30,33] uN []))),by kernel_rfl⟩
  refine bc h7 (fun h6 h7=> ?_) fun h6 h7=> ?_
  ·cases h7;exact⟨so (os [9,12,16] (bF h4) (os [21,24,27,36,40] (bF h5) (os [30,33,37] (bT h6) []))),by kernel_rfl⟩
  cases h7;exact⟨so (os [9,12,16] (bF h4) (os [21,24,27,36,40] (bF h5) (os [30,33,37] (bF h6) []))),by kernel_rfl⟩
 refine bc J (fun h8 J=> ?_) fun h8 J=> ?_
 ·cases J;exact wr ak [[(0,bT h8)],[]]
 refine ax ak [[(0,bF h8)],[]] ?_;refine bc J (fun h9 J=> ?_) fun h9 J=> ?_
 ·cases J;exact wr ak [[(0,bF (dH h9))],[(5,⟨_,_, .eq (BA v5.2)⟩)]]
 cases J;exact wr ak [[(0,bT (dK h9))],[(8,⟨_,_, .eq (BA (IntKind.u64.wrap (0-v5.2)))⟩)]]
def sB(N:Nat)(v4:Int64×Bool)(v2:Int64):agU aF→Nat→Bool→(agU aF)→agW (aw×Int)
 |[],_,v9,v10=>
  bif v9 then
   some ((⟨v4.1,v10⟩:aw),(0:Int))
  else
   some (dB,(3:Int))
 |v7::v8,v5,v9,v10=>
  Option.bind (wB N v7.cZ v2) fun v11=>
  Option.bind (bif v9 then some v11.2 else some false) fun v12=>
  bif (Nat.ble ((v10.length+1)*24) 140737488355328)then
  (fun bE dP=>sB N v4 v2 v8 (v5+1) bE dP) v12 (v10++[(⟨v7.aq,v11.1⟩:aF)])
  else none
def y5(N:Nat)(v1:aw)(v2:Int64):agW (aw×Int):=
 Option.bind (pz N v1) fun v3=>
 bif (v3 !=(0:Int))then
  some (dB,(1:Int))
 else
  bif (v2.toInt==(0:Int))then
   some (dB,(0:Int))
  else
   Option.bind (wB N v1.xK v2) fun v4=>
   sB N v4 v2 v1.xL 0 v4.2 []
theorem X2(N:Nat)(v1:aw)(v2:Int64)(r:aw×Int)(J:y5 N v1 v2=some r):bA Tryz.prog 93 [(bY v1),(bt v2)] (·=(.bU [(bY r.1),(ao r.2)])):=by
 rw[y5]at J;refine bZ Tryz.func93 (by kernel_rfl) (by kernel_rfl) ?_;obtain⟨v3,h1,J⟩:=au J;refine ax ak [[],[(4,cL (vh N v1 v3 h1))]] ?_;refine bc J (fun h2 J=> ?_) fun h2 J=> ?_
 ·cases J;exact wr ak [[(0,bT h2)],[]]
 refine ax ak [[(0,bF h2)],[]] ?_;refine bc J (fun h3 J=> ?_) fun h3 J=> ?_
 ·cases J;exact wr ak [[(0,bT h3)],[]]
 obtain⟨v4,h4,J⟩:=au J;refine ax ak [[(0,bF h3)],[(10,cL (T3 N v1.xK v2 v4 h4))],[],[(7,oL v1.xL cS)]] ?_;refine C1 2 1 92 2 [] (.inr (by kernel_rfl)) ?_;refine dj 30 (bJ v1.xL) (by kernel_rfl) fun h5=> ?_;have h6:=cP cS h5;refine pv ak 1 [] [1,4,7,8,30,31,32] 4 [] [(1,1)] (fun((v5,v6,v9,v10):Nat×(agU aF)×Bool×(agU aF))=>⟨61,[(1,(bt v2)),(4,(.ptr 1 0)),(7,(aU v9)),(8,(.ptr 2 0)),(30,(.d (.sl (bJ v1.xL)))),(31,(ao (v1.xL.length:Int))),(32,(ao (v5:Int)))],[.cells (bY v1).cells, .cells s9, .cells [(bt v4.1),(.own 3 (bJ v10))], .front 92 2 v10.length]⟩) (fun((v5,v6,v9,v10):Nat×(agU aF)×Bool×(agU aF))=>v1.xL.drop v5=v6∧sB N v4 v2 v6 v5 v9 v10=some r) (fun((v5,v6,v9,v10):Nat×(agU aF)×Bool×(agU aF))=>v6.length) (0,v1.xL,v4.2,[]) ⟨rfl,J⟩ ?_;rintro⟨v5,v6,v9,v10⟩ ⟨h7,J⟩ f1 ba;cases v6 with
 |nil=>
  rw[sB]at J;refine ax ak [[],[(0,bF (ck h7))],[]] ?_;refine bc J (fun h8 J=> ?_) fun h8 J=> ?_
  ·cases J;exact wr ak [[(0,bF (dH h8))],[]]
  cases J;exact wr ak [[(0,bT (dK h8))],[]]
 |cons v7 v8=>
  rw[sB]at J;obtain⟨v11,h9,J⟩:=au J;refine ax ak [[],[(0,bT (cf h7))],[(1,oE (gV (bS h7)))],[(10,cL (T3 N v7.cZ v2 v11 h9))]] ?_;obtain⟨v12,bQ,J⟩:=au J;refine dn ak [(7,(aU v12))] [.cells (bY v1).cells, .cells s9, .cells [(bt v4.1),(.own 3 (bJ v10))], .front 92 2 v10.length, .cells (mh v7).cells] ?_ ?_
  ·refine bc bQ (fun aJ bQ=> ?_) fun aJ bQ=> ?_
   ·cases bQ;exact⟨so (os [6,10] (bT aJ) []),by kernel_rfl⟩
   cases bQ;exact⟨so (os [6,10] (bF aJ) []),by kernel_rfl⟩
  obtain⟨cl,J⟩:=dO J;exact nu ak ba (v5+1,v8,v12,(v10++[(⟨v7.aq,v11.1⟩:aF)])) [[(22,⟨_,_, .app (xs:=bJ v10) (ys:=bJ [(⟨v7.aq,v11.1⟩:aF)]) (zs:=bJ (v10++[(⟨v7.aq,v11.1⟩:aF)])) (n:=(v10++[(⟨v7.aq,v11.1⟩:aF)]).length) cS.symm pC pC (by rw[(cS (l:=v10)),(cS (l:=[(⟨v7.aq,v11.1⟩:aF)]))];exact(dQ cl (by decide)).1) (by rw[(cS (l:=v10)),(cS (l:=[(⟨v7.aq,v11.1⟩:aF)]))];exact(dQ cl (by decide)).2) Qb (by first|(rw[(cS (l:=v10)),(cS (l:=[(⟨v7.aq,v11.1⟩:aF)]))];done)|(rw[(cS (l:=v10)),(cS (l:=[(⟨v7.aq,v11.1⟩:aF)]))];rfl)|(rw[(cS (l:=v10)),(cS (l:=[(⟨v7.aq,v11.1⟩:aF)])),af6];done)|(rw[(cS (l:=v10)),(cS (l:=[(⟨v7.aq,v11.1⟩:aF)])),af6];rfl)|(rw[(cS (l:=v10)),(cS (l:=[(⟨v7.aq,v11.1⟩:aF)])),agq]))⟩)],[(2,oq (cx h7 rfl h6))]] ⟨ct h7,J⟩
def wE(N:Nat)(v1:Int64)(v2:Int64):agW (Int64×Bool):=
 some ((v1+v2),((decide ((v1+v2).toInt>v1.toInt))==(decide (v2.toInt>(0:Int)))))
theorem Pr(N:Nat)(v1:Int64)(v2:Int64)(r:Int64×Bool)(J:wE N v1 v2=some r):bA Tryz.prog 126 [(bt v1),(bt v2)] (·=(.bU [(bt r.1),(aU r.2)])):=by
 rw[wE]at J;refine bZ Tryz.func126 (by kernel_rfl) (by kernel_rfl) ?_;cases J;exact wr ak [[],[(8,⟨_,_, .eq (QC v1 v2)⟩)],[]]
def uQ(N:Nat)(v1:agV)(v2:Int64)(v3:Int64)(v4:Bool)(v5:Int64)(v6:agU aF):agW (Bool×(agU aF)):=
 Option.bind (wE N v2 v3) fun v7=>
 Option.bind (bif v4 then some v7.2 else some false) fun v8=>
 bif (v7.1.toInt !=(0:Int))then
  bif (Nat.ble ((v6.length+1)*24) 140737488355328)then
  some (v8,(v6++[(⟨v1,v7.1⟩:aF)]))
  else none
 else
  some (v8,v6)
theorem Lv(N:Nat)(v1:agV)(v2:Int64)(v3:Int64)(v4:Bool)(v5:Int64)(v6:agU aF)(r:Bool×(agU aF))(J:uQ N v1 v2 v3 v4 v5 v6=some r):bD Tryz.prog 128 [(bp v1),(bt v2),(bt v3),(.ptr 0 0),(.ptr 1 0)] [.cells [(aU v4)], .cells [(bt v5),(.own 2 (bJ v6))], .front 92 2 v6.length] fun r1 h1=>r1=(.bU [])∧h1=[.cells [(aU r.1)], .cells [(bt v5),(.own 2 (bJ r.2))], .front 92 2 r.2.length]:=by
 rw[uQ]at J;refine dS 3 Tryz.func128 (by kernel_rfl) (by kernel_rfl) (agd rfl) ?_;obtain⟨v7,h1,J⟩:=au J;refine ax ak [[(7,cL (Pr N v2 v3 v7 h1))]] ?_;obtain⟨v8,h3,J⟩:=au J;refine dn ak [] [.cells [(aU v8)], .cells [(bt v5),(.own 2 (bJ v6))], .front 92 2 v6.length] ?_ ?_
 ·refine bc h3 (fun h2 h3=> ?_) fun h2 h3=> ?_
  ·cases h3;exact⟨so (os [6,10] (bT h2) []),by kernel_rfl⟩
  cases h3;exact⟨so (os [6,10] (bF h2) []),by kernel_rfl⟩
 refine ax ak [[]] ?_;refine bc J (fun h4 J=> ?_) fun h4 J=> ?_
 ·obtain⟨h5,J⟩:=dO J;cases J;exact bH ak [[(0,bT h4)],[(19,⟨_,_, .app (xs:=bJ v6) (ys:=bJ [(⟨v1,v7.1⟩:aF)]) (zs:=bJ (v6++[(⟨v1,v7.1⟩:aF)])) (n:=(v6++[(⟨v1,v7.1⟩:aF)]).length) cS.symm pC pC (by rw[(cS (l:=v6)),(cS (l:=[(⟨v1,v7.1⟩:aF)]))];exact(dQ h5 (by decide)).1) (by rw[(cS (l:=v6)),(cS (l:=[(⟨v1,v7.1⟩:aF)]))];exact(dQ h5 (by decide)).2) Qb (by first|(rw[(cS (l:=v6)),(cS (l:=[(⟨v1,v7.1⟩:aF)]))];done)|(rw[(cS (l:=v6)),(cS (l:=[(⟨v1,v7.1⟩:aF)]))];rfl)|(rw[(cS (l:=v6)),(cS (l:=[(⟨v1,v7.1⟩:aF)])),af6];done)|(rw[(cS (l:=v6)),(cS (l:=[(⟨v1,v7.1⟩:aF)])),af6];rfl)|(rw[(cS (l:=v6)),(cS (l:=[(⟨v1,v7.1⟩:aF)])),agq]))⟩)]]
 cases J;exact bH ak [[(0,bF h4)]]
def kR(N:Nat)(v4:Int64):Nat→(agU aF)→(agU aF)→Bool→(agU aF)→agW (Bool×(agU aF))
 |0,_,_,_,_=>none
 |v5+1,v6,v7,v8,v9=>
  Option.bind (bif (decide ((v6.length:Int)>(0:Int)))then some true else some (decide ((v7.length:Int)>(0:Int)))) fun v10=>
  bif v10 then
   Option.bind (bif ((v7.length:Int)==(0:Int))then some true else(bif (decide ((v6.length:Int)>(0:Int)))then Option.bind (v6[0]?) fun v11=>
   Option.bind (v7[0]?) fun v12=>
   some (Op.bytesLess (bL v11.aq) (bL v12.aq))else some false)) fun aH=>
   bif aH then
    Option.bind (v6[0]?) fun aA=>
    Option.bind (uQ N aA.aq aA.cZ (0:Int64) v8 v4 v9) fun aT=>
    bif (decide (1≤v6.length))then
    (fun bE dP kM nh=>kR N v4 v5 bE dP kM nh) (v6.drop 1) v7 aT.1 aT.2
    else none
   else
    Option.bind (bif ((v6.length:Int)==(0:Int))then some true else Option.bind (v7[0]?) fun aX=>
    Option.bind (v6[0]?) fun aK=>
    some (Op.bytesLess (bL aX.aq) (bL aK.aq))) fun aR=>
    bif aR then
     Option.bind (v7[0]?) fun bG=>
     Option.bind (uQ N bG.aq (0:Int64) bG.cZ v8 v4 v9) fun v20=>
     bif (decide (1≤v7.length))then
     (fun bE dP kM nh=>kR N v4 v5 bE dP kM nh) v6 (v7.drop 1) v20.1 v20.2
     else none
    else
     Option.bind (v6[0]?) fun v21=>
     Option.bind (v7[0]?) fun cY=>
     Option.bind (uQ N v21.aq v21.cZ cY.cZ v8 v4 v9) fun cz=>
     bif (decide (1≤v6.length))then
     bif (decide (1≤v7.length))then
     (fun bE dP kM nh=>kR N v4 v5 bE dP kM nh) (v6.drop 1) (v7.drop 1) cz.1 cz.2
     else none
     else none
  else
   some (v8,v9)
def Dg(N:Nat)(v1:agU aF)(v2:agU aF)(v3:Bool)(v4:Int64):agW (Bool×(agU aF)):=
 kR N v4 N v1 v2 v3 []
theorem WA(N:Nat)(v1:agU aF)(v2:agU aF)(v3:Bool)(v4:Int64)(r:Bool×(agU aF))(J:Dg N v1 v2 v3 v4=some r):bD Tryz.prog 127 [(.d (.sl (bJ v1))),(.d (.sl (bJ v2))),(.fn 128 [(.ptr 0 0),(.ptr 1 0)])] [.cells [(aU v3)], .cells [(bt v4),(.d (.v (.slice none 0 0)))]] fun r1 h1=>r1=(.bU [])∧h1=[.cells [(aU r.1)], .cells [(bt v4),(.own 2 (bJ r.2))], .front 92 2 r.2.length]:=by
 rw[Dg]at J;refine dS 3 Tryz.func127 (by kernel_rfl) (by kernel_rfl) (agd rfl) ?_;refine C1 1 1 92 2 [] (.inr (by kernel_rfl)) ?_;refine c9 ak 1 [] [0,1,2] 3 (fun((v5,v6,v7,v8,v9):Nat×(agU aF)×(agU aF)×Bool×(agU aF))=>⟨91,[(0,(.d (.sl (bJ v6)))),(1,(.d (.sl (bJ v7)))),(2,(.fn 128 [(.ptr 0 0),(.ptr 1 0)]))],[.cells [(aU v8)], .cells [(bt v4),(.own 2 (bJ v9))], .front 92 2 v9.length]⟩) (fun((v5,v6,v7,v8,v9):Nat×(agU aF)×(agU aF)×Bool×(agU aF))=>kR N v4 v5 v6 v7 v8 v9=some r) (fun((v5,v6,v7,v8,v9):Nat×(agU aF)×(agU aF)×Bool×(agU aF))=>v5) (N,v1,v2,v3,[]) J ?_;rintro⟨v5,v6,v7,v8,v9⟩ J f1 ba
 try dsimp only at J
 cases v5 with
 |zero=>
  rw[kR]at J;cases J
 |succ v5=>
  rw[kR]at J;obtain⟨v10,h2,J⟩:=au J;refine dn ak [(13,(aU v10))] [.cells [(aU v8)], .cells [(bt v4),(.own 2 (bJ v9))], .front 92 2 v9.length] ?_ ?_
  ·refine bc h2 (fun h1 h2=> ?_) fun h1 h2=> ?_
   ·cases h2;exact⟨so (os [12,15,18,22] (bT h1) [(4,oL v6 cS)]),by kernel_rfl⟩
   cases h2;exact⟨so (os [12,15,18,22] (bF h1) [(4,oL v6 cS),(16,oL v7 cS)]),by kernel_rfl⟩
  refine bc J (fun h3 J=> ?_) fun h3 J=> ?_
  ·refine ax ak [[(0,bT h3)]] ?_;obtain⟨aH,h8,J⟩:=au J;refine dn ak [(32,(aU aH))] [.cells [(aU v8)], .cells [(bt v4),(.own 2 (bJ v9))], .front 92 2 v9.length] ?_ ?_
   ·refine bc h8 (fun h4 h8=> ?_) fun h4 h8=> ?_
    ·cases h8;exact⟨so (os [12,15,18,21,51,55] (bT h4) (os [24,27,30,33,36,39,42,45,48] uN [(4,oL v7 cS)])),by kernel_rfl⟩
    refine bc h8 (fun h5 h8=> ?_) fun h5 h8=> ?_
    ·obtain⟨v11,h6,h8⟩:=au h8;obtain⟨v12,h7,h8⟩:=au h8;cases h8;exact⟨so (os [12,15,18,21,51,55] (bF h4) (os [24,27,30,33,36,39,42,45,48,52] (bT h5) [(4,oL v7 cS),(16,oL v6 cS),(28,oE (k:=0) (gV h6)),(40,oE (k:=0) (gV h7))])),by kernel_rfl⟩
    cases h8;exact⟨so (os [12,15,18,21,51,55] (bF h4) (os [24,27,30,33,36,39,42,45,48,52] (bF h5) [(4,oL v7 cS),(16,oL v6 cS)])),by kernel_rfl⟩
   refine bc J (fun h9 J=> ?_) fun h9 J=> ?_
   ·refine ax ak [[(0,bT h9)]] ?_;obtain⟨aA,aJ,J⟩:=au J;obtain⟨aT,bQ,J⟩:=au J;refine Ma ak [(7,oE (k:=0) (gV aJ)),(19,oE (k:=0) (gV aJ)),(28,⟨_,_, .iN (cb:=[(bp aA.aq),(bt aA.cZ),(bt (0:Int64)),(.ptr 0 0),(.ptr 1 0)]) (h:=[.cells [(aU v8)], .cells [(bt v4),(.own 2 (bJ v9))], .front 92 2 v9.length]) (l:=[0,1,2]) (by kernel_rfl) (by kernel_rfl) (by kernel_rfl) (by kernel_rfl) (Lv N aA.aq aA.cZ (0:Int64) v8 v4 v9 aT bQ)⟩)] [] [.cells [(aU aT.1)], .cells [(bt v4),(.own 2 (bJ aT.2))], .front 92 2 aT.2.length] ?_;obtain⟨cl,J⟩:=dO J;exact cU ak ba (v5,(v6.drop 1),v7,aT.1,aT.2) [[(4,⟨_,_, .BJ (xs:=bJ v6) (lo:=(1:Int)) (by decide) (by rw[cS];exact(of_decide_eq_true cl)) pC Gm⟩)]] J
   refine ax ak [[(0,bF h9)]] ?_;obtain⟨aR,b9,J⟩:=au J;refine dn ak [(64,(aU aR))] [.cells [(aU v8)], .cells [(bt v4),(.own 2 (bJ v9))], .front 92 2 v9.length] ?_ ?_
   ·refine bc b9 (fun dg b9=> ?_) fun dg b9=> ?_
    ·cases b9;exact⟨so (os [12,15,18,21,24,27,30,33,36,40] (bT dg) [(4,oL v6 cS)]),by kernel_rfl⟩
    obtain⟨aX,cg,b9⟩:=au b9;obtain⟨aK,cV,b9⟩:=au b9;cases b9;exact⟨so (os [12,15,18,21,24,27,30,33,36,40] (bF dg) [(4,oL v6 cS),(16,oE (k:=0) (gV cg)),(28,oE (k:=0) (gV cV))]),by kernel_rfl⟩
   refine bc J (fun c8 J=> ?_) fun c8 J=> ?_
   ·refine ax ak [[(0,bT c8)]] ?_;obtain⟨bG,cr,J⟩:=au J;obtain⟨v20,dk,J⟩:=au J;refine Ma ak [(7,oE (k:=0) (gV cr)),(19,oE (k:=0) (gV cr)),(28,⟨_,_, .iN (cb:=[(bp bG.aq),(bt (0:Int64)),(bt bG.cZ),(.ptr 0 0),(.ptr 1 0)]) (h:=[.cells [(aU v8)], .cells [(bt v4),(.own 2 (bJ v9))], .front 92 2 v9.length]) (l:=[0,1,2]) (by kernel_rfl) (by kernel_rfl) (by kernel_rfl) (by kernel_rfl) (Lv N bG.aq (0:Int64) bG.cZ v8 v4 v9 v20 dk)⟩)] [] [.cells [(aU v20.1)], .cells [(bt v4),(.own 2 (bJ v20.2))], .front 92 2 v20.2.length] ?_;obtain⟨eY,J⟩:=dO J;exact cU ak ba (v5,v6,(v7.drop 1),v20.1,v20.2) [[(4,⟨_,_, .BJ (xs:=bJ v7) (lo:=(1:Int)) (by decide) (by rw[cS];exact(of_decide_eq_true eY)) pC Gm⟩)]] J
   refine ax ak [[(0,bF c8)]] ?_;obtain⟨v21,gB,J⟩:=au J;obtain⟨cY,gn,J⟩:=au J;obtain⟨cz,iH,J⟩:=au J;refine Ma ak [(7,oE (k:=0) (gV gB)),(19,oE (k:=0) (gV gB)),(31,oE (k:=0) (gV gn)),(40,⟨_,_, .iN (cb:=[(bp v21.aq),(bt v21.cZ),(bt cY.cZ),(.ptr 0 0),(.ptr 1 0)]) (h:=[.cells [(aU v8)], .cells [(bt v4),(.own 2 (bJ v9))], .front 92 2 v9.length]) (l:=[0,1,2]) (by kernel_rfl) (by kernel_rfl) (by kernel_rfl) (by kernel_rfl) (Lv N v21.aq v21.cZ cY.cZ v8 v4 v9 cz iH)⟩)] [] [.cells [(aU cz.1)], .cells [(bt v4),(.own 2 (bJ cz.2))], .front 92 2 cz.2.length] ?_;obtain⟨gU,J⟩:=dO J;obtain⟨jn,J⟩:=dO J;exact cU ak ba (v5,(v6.drop 1),(v7.drop 1),cz.1,cz.2) [[(4,⟨_,_, .BJ (xs:=bJ v6) (lo:=(1:Int)) (by decide) (by rw[cS];exact(of_decide_eq_true gU)) pC Gm⟩),(10,⟨_,_, .BJ (xs:=bJ v7) (lo:=(1:Int)) (by decide) (by rw[cS];exact(of_decide_eq_true jn)) pC Gm⟩)]] J
  cases J;exact bH ak [[(0,bF h3)]]
def xA(N:Nat)(v1:aw)(v2:aw):agW (aw×Int):=
 Option.bind (pz N v1) fun v3=>
 Option.bind (bif (v3 !=(0:Int))then some true else Option.bind (pz N v2) fun v4=>
 some (v4 !=(0:Int))) fun v5=>
 bif v5 then
  some (dB,(1:Int))
 else
  Option.bind (wE N v1.xK v2.xK) fun v6=>
  Option.bind (Dg N v1.xL v2.xL v6.2 v6.1) fun v7=>
  bif v7.1 then
   some ((⟨v6.1,v7.2⟩:aw),(0:Int))
  else
   some (dB,(3:Int))
theorem YI(N:Nat)(v1:aw)(v2:aw)(r:aw×Int)(J:xA N v1 v2=some r):bA Tryz.prog 94 [(bY v1),(bY v2)] (·=(.bU [(bY r.1),(ao r.2)])):=by
 rw[xA]at J;refine bZ Tryz.func94 (by kernel_rfl) (by kernel_rfl) ?_;refine ax ak [[]] ?_;obtain⟨v3,h1,J⟩:=au J;obtain⟨v5,h4,J⟩:=au J;refine dn ak [(15,(aU v5))] [.cells (bY v1).cells, .cells (bY v2).cells, .cells s9] ?_ ?_
 ·refine bc h4 (fun h2 h4=> ?_) fun h2 h4=> ?_
  ·cases h4;exact⟨so (os [12,15,18,22] (bT h2) [(4,cL (vh N v1 v3 h1))]),by kernel_rfl⟩
  obtain⟨v4,h3,h4⟩:=au h4;cases h4;exact⟨so (os [12,15,18,22] (bF h2) [(4,cL (vh N v1 v3 h1)),(16,cL (vh N v2 v4 h3))]),by kernel_rfl⟩
 refine bc J (fun h5 J=> ?_) fun h5 J=> ?_
 ·cases J;exact wr ak [[(0,bT h5)],[]]
 obtain⟨v6,h6,J⟩:=au J;obtain⟨v7,h7,J⟩:=au J;refine ax ak [[(0,bF h5)],[],[],[(13,cL (Pr N v1.xK v2.xK v6 h6))],[(16,⟨_,_, .iN (cb:=[(.d (.sl (bJ v1.xL))),(.d (.sl (bJ v2.xL))),(.fn 128 [(.ptr 4 0),(.ptr 3 0)])]) (h:=[.cells (bY v1).cells, .cells (bY v2).cells, .cells s9, .cells [(bt v6.1),(.d (.v (.slice none 0 0)))], .cells [(aU v6.2)]]) (l:=[4,3]) (by kernel_rfl) (by kernel_rfl) (by kernel_rfl) (by kernel_rfl) (WA N v1.xL v2.xL v6.2 v6.1 v7 h7)⟩)],[]] ?_;refine bc J (fun h8 J=> ?_) fun h8 J=> ?_
 ·cases J;exact wr ak [[(0,bF (dH h8))],[]]
 cases J;exact wr ak [[(0,bT (dK h8))],[]]
def tX(N:Nat)(v7:aF)(v9:Int64)(v10:agU aF)(fa:Int64→(agU aF)→agW (aw×Int))(aH:Int64)(aA:agU aF):agW (aw×Int):=
 Option.bind (y5 N (⟨aH,aA⟩:aw) v7.cZ) fun aT=>
 bif (aT.2 !=(0:Int))then
  some (dB,aT.2)
 else
  Option.bind (xA N (⟨v9,v10⟩:aw) aT.1) fun aX=>
  bif (aX.2 !=(0:Int))then
   some (dB,aX.2)
  else
   fa aX.1.xK aX.1.xL
def n3(N:Nat)(v2:agU bf)(v3:agU az):agU aF→Nat→Int64→(agU aF)→agW (aw×Int)
 |[],_,v9,v10=>
  some ((⟨v9,v10⟩:aw),(0:Int))
 |v7::v8,v5,v9,v10=>
  Option.bind (DZ N v7.aq) fun v11=>
  Option.bind (F3 N v2 v7) fun v12=>
  bif (decide (v12≥(0:Int)))then
   bif (decide ((0:Int)≤v12))then
   Option.bind (v3[(v12).toNat]?) fun aK=>
   tX N v7 v9 v10 (fun bE dP=>n3 N v2 v3 v8 (v5+1) bE dP) aK.aL.xK aK.aL.xL
   else none
  else
   tX N v7 v9 v10 (fun bE dP=>n3 N v2 v3 v8 (v5+1) bE dP) v11.xK v11.xL
def yf(N:Nat)(v1:aw)(v2:agU bf)(v3:agU az):agW (aw×Int):=
 Option.bind (Kz N v1.xK) fun v4=>
 n3 N v2 v3 v1.xL 0 v4.xK v4.xL
theorem JL(N:Nat)(v1:aw)(v2:agU bf)(v3:agU az)(r:aw×Int)(J:yf N v1 v2 v3=some r):bD Tryz.prog 88 [(bY v1),(.aW [[(.sl (cm v2))]] 0 0),(.aW [[(.sl (bC v3))]] 0 0)] [] fun r1 h1=>r1=(.bU [(bY r.1),(ao r.2)])∧h1=[]:=by
 rw[yf]at J;refine dS 0 Tryz.func88 (by kernel_rfl) (by kernel_rfl) (agd rfl) ?_;obtain⟨v4,h1,J⟩:=au J;refine ax ak [[],[(7,cL (ae0 N v1.xK v4 h1))],[(7,oL v1.xL cS)]] ?_;refine dj 17 (bJ v1.xL) (by kernel_rfl) fun h2=> ?_;have h3:=cP cS h2;refine pv ak 1 [] [1,2,4,6,17,18,19] 3 [] [(1,1)] (fun((v5,v6,v9,v10):Nat×(agU aF)×Int64×(agU aF))=>⟨59,[(1,(.aW [[(.sl (cm v2))]] 0 0)),(2,(.aW [[(.sl (bC v3))]] 0 0)),(4,(.ptr 1 0)),(6,(.ptr 2 0)),(17,(.d (.sl (bJ v1.xL)))),(18,(ao (v1.xL.length:Int))),(19,(ao (v5:Int)))],[.cells (bY v1).cells, .cells s9, .cells [(bt v9),(.d (.sl (bJ v10)))]]⟩) (fun((v5,v6,v9,v10):Nat×(agU aF)×Int64×(agU aF))=>v1.xL.drop v5=v6∧n3 N v2 v3 v6 v5 v9 v10=some r) (fun((v5,v6,v9,v10):Nat×(agU aF)×Int64×(agU aF))=>v6.length) (0,v1.xL,v4.xK,v4.xL) ⟨rfl,J⟩ ?_;rintro⟨v5,v6,v9,v10⟩ ⟨h4,J⟩ f1 ba;cases v6 with
 |nil=>
  rw[n3]at J;cases J;exact bH ak [[],[(0,bF (ck h4))],[]]
 |cons v7 v8=>
  rw[n3]at J;obtain⟨v11,h5,J⟩:=au J;obtain⟨v12,h6,J⟩:=au J;refine aeX ak 2 [[],[(0,bT (cf h4))],[(1,oE (gV (bS h4)))],[(7,cL (aar N v7.aq v11 h5))],[(7,⟨_,_, .rq (cb:=[(.d (.sl (cm v2))),(.fn 92 [(.ptr 3 0)])]) (h:=[.cells (bY v1).cells, .cells s9, .cells [(bt v9),(.d (.sl (bJ v10)))], .cells (mh v7).cells, .cells (bY v11).cells]) (l:=[3]) (by kernel_rfl) (by kernel_rfl) (by kernel_rfl) (by kernel_rfl) (Vz N v2 v7 v12 h6)⟩)],[]] [1,2,4,6,8,9,17,18,19] 5 [] [(1,1)] (fun((aH,aA):Int64×(agU aF))=>⟨59,[(1,(.aW [[(.sl (cm v2))]] 0 0)),(2,(.aW [[(.sl (bC v3))]] 0 0)),(4,(.ptr 1 0)),(6,(.ptr 2 0)),(8,(.ptr 3 0)),(9,(.ptr 4 0)),(17,(.d (.sl (bJ v1.xL)))),(18,(ao (v1.xL.length:Int))),(19,(ao (v5:Int)))],[.cells (bY v1).cells, .cells s9, .cells [(bt v9),(.d (.sl (bJ v10)))], .cells (mh v7).cells, .cells [(bt aH),(.d (.sl (bJ aA)))]]⟩) (fun((aH,aA):Int64×(agU aF))=>tX N v7 v9 v10 (fun bE dP=>n3 N v2 v3 v8 (v5+1) bE dP) aH aA=some r) ?_ ?_
  ·intro f2 fD;refine bc J (fun bQ J=> ?_) fun bQ J=> ?_
   ·obtain⟨dg,J⟩:=dO J;obtain⟨aK,cl,J⟩:=au J;exact Tt ak fD (aK.aL.xK,aK.aL.xL) [[(0,bT bQ)],[(7,⟨_,_, .el (xs:=bC v3) (i:=v12) (of_decide_eq_true dg) (ik cl)⟩)]] J
   exact Tt ak fD (v11.xK,v11.xL) [[(0,bF bQ)]] J
  rintro⟨aH,aA⟩ J
  try dsimp only at J
  rw[tX]at J;obtain⟨aT,h7,J⟩:=au J;refine ax ak [[(10,cL (X2 N (⟨aH,aA⟩:aw) v7.cZ aT h7))],[]] ?_;refine bc J (fun h8 J=> ?_) fun h8 J=> ?_
  ·cases J;exact bH ak [[(0,bT h8)],[]]
  obtain⟨aX,h9,J⟩:=au J;refine ax ak [[(0,bF h8)],[(7,cL (YI N (⟨v9,v10⟩:aw) aT.1 aX h9))],[]] ?_;refine bc J (fun aJ J=> ?_) fun aJ J=> ?_
  ·cases J;exact bH ak [[(0,bT aJ)],[]]
  exact nu ak ba (v5+1,v8,aX.1.xK,aX.1.xL) [[(0,bF aJ)],[(2,oq (cx h4 rfl h3))]] ⟨ct h4,J⟩
def qZ(N:Nat)(v8:agU az)(fa:(agU az)→agW ((agU az)×Int))(v9:aw×Int)(v6:az)(v1:agU bf)(v2:agU az):agU aw→Nat→Int64→(agU aF)→(agU aw)→agW ((agU az)×Int)
 |[],_,_,_,aX=>
  bif (Nat.ble ((v8.length+1)*72) 140737488355328)then
  fa (v8++[(⟨v9.1,v6.aV,aX⟩:az)])
  else none
 |v12::aH,v10,_,_,aX=>
  Option.bind (yf N v12 v1 v2) fun aK=>
  bif (aK.2 !=(0:Int))then
   some ([],aK.2)
  else
   bif (Nat.ble ((aX.length+1)*32) 140737488355328)then
   (fun fx oT abe=>qZ N v8 fa v9 v6 v1 v2 aH (v10+1) fx oT abe) aK.1.xK aK.1.xL (aX++[aK.1])
   else none
def qa(N:Nat)(v1:agU bf)(v2:agU az):agU az→Nat→(agU az)→agW ((agU az)×Int)
 |[],_,v8=>
  some (v8,(0:Int))
 |v6::v7,v4,v8=>
  Option.bind (yf N v6.aL v1 v2) fun v9=>
  bif (v9.2 !=(0:Int))then
   some ([],v9.2)
  else
   qZ N v8 (fun bE=>qa N v1 v2 v7 (v4+1) bE) v9 v6 v1 v2 v6.bj 0 v9.1.xK v9.1.xL []
def zX(N:Nat)(v1:agU bf)(v2:agU az)(v3:agU az):agW ((agU az)×Int):=
 qa N v1 v2 v3 0 []
theorem aaq(N:Nat)(v1:agU bf)(v2:agU az)(v3:agU az)(r:(agU az)×Int)(J:zX N v1 v2 v3=some r):bD Tryz.prog 95 [(.fn 88 [(.aW [[(.sl (cm v1))]] 0 0),(.aW [[(.sl (bC v2))]] 0 0)]),(.d (.sl (bC v3)))] [] fun r1 h1=>r1=(.bU [(.d (.sl (bC r.1))),(ao r.2)])∧h1=[]:=by
 rw[zX]at J;refine dS 0 Tryz.func95 (by kernel_rfl) (by kernel_rfl) (agd rfl) ?_;refine ax ak [[],[],[(4,oL v3 cW)]] ?_;refine qQ 6 80 4 [] (.inr (by kernel_rfl)) ?_;refine dj 1 (bC v3) (by kernel_rfl) fun h1=> ?_;have h2:=cP cW h1;refine c9 ak 1 [] [0,6,14,15,16] 1 (fun((v4,v5,v8):Nat×(agU az)×(agU az))=>⟨63,[(0,(.fn 88 [(.aW [[(.sl (cm v1))]] 0 0),(.aW [[(.sl (bC v2))]] 0 0)])),(6,(.own 0 (bC v8))),(14,(.d (.sl (bC v3)))),(15,(ao (v3.length:Int))),(16,(ao (v4:Int)))],[.front 80 4 v8.length]⟩) (fun((v4,v5,v8):Nat×(agU az)×(agU az))=>v3.drop v4=v5∧qa N v1 v2 v5 v4 v8=some r) (fun((v4,v5,v8):Nat×(agU az)×(agU az))=>v5.length) (0,v3,[]) ⟨rfl,J⟩ ?_;rintro⟨v4,v5,v8⟩ ⟨h3,J⟩ f1 ba;cases v5 with
 |nil=>
  rw[qa]at J;cases J;exact bH ak [[],[(0,bF (ck h3))],[]]
 |cons v6 v7=>
  rw[qa]at J;obtain⟨v9,h4,J⟩:=au J;refine ax ak [[],[(0,bT (cf h3))],[(1,oE (ik (bS h3)))],[(10,⟨_,_, .rq (cb:=[(bY v6.aL),(.aW [[(.sl (cm v1))]] 0 0),(.aW [[(.sl (bC v2))]] 0 0)]) (h:=[.front 80 4 v8.length, .cells (eC v6).cells]) (l:=[]) (by kernel_rfl) (by kernel_rfl) (by kernel_rfl) (by kernel_rfl) (JL N v6.aL v1 v2 v9 h4)⟩)],[]] ?_;refine bc J (fun h5 J=> ?_) fun h5 J=> ?_
  ·cases J;exact bH ak [[(0,bT h5)],[]]
  refine ax ak [[(0,bF h5)],[],[(7,oL v6.bj cd)]] ?_;refine C1 3 3 48 2 [] (.inr (by kernel_rfl)) ?_;refine dj 35 (cH v6.bj) (by kernel_rfl) fun h6=> ?_;have h7:=cP cd h6;refine c9 ak 2 [] [0,6,9,11,14,15,16,35,36,37] 5 (fun((v10,v11,aA,aT,aX):Nat×(agU aw)×Int64×(agU aF)×(agU aw))=>⟨63,[(0,(.fn 88 [(.aW [[(.sl (cm v1))]] 0 0),(.aW [[(.sl (bC v2))]] 0 0)])),(6,(.own 0 (bC v8))),(9,(.ptr 2 0)),(11,(.ptr 3 0)),(14,(.d (.sl (bC v3)))),(15,(ao (v3.length:Int))),(16,(ao (v4:Int))),(35,(.d (.sl (cH v6.bj)))),(36,(ao (v6.bj.length:Int))),(37,(ao (v10:Int)))],[.front 80 4 v8.length, .cells (eC v6).cells, .cells [(bt aA),(.d (.sl (bJ aT)))], .cells [(bt v9.1.xK),(.d (.sl (bJ v9.1.xL))),(bp v6.aV),(.own 4 (cH aX))], .front 48 2 aX.length]⟩) (fun((v10,v11,aA,aT,aX):Nat×(agU aw)×Int64×(agU aF)×(agU aw))=>v6.bj.drop v10=v11∧qZ N v8 (fun bE=>qa N v1 v2 v7 (v4+1) bE) v9 v6 v1 v2 v11 v10 aA aT aX=some r) (fun((v10,v11,aA,aT,aX):Nat×(agU aw)×Int64×(agU aF)×(agU aw))=>v11.length) (0,v6.bj,v9.1.xK,v9.1.xL,[]) ⟨rfl,J⟩ ?_;rintro⟨v10,v11,aA,aT,aX⟩ ⟨h8,J⟩ f2 fD;cases v11 with
  |nil=>
   rw[qZ]at J;obtain⟨h9,J⟩:=dO J;exact cU ak ba (v4+1,v7,(v8++[(⟨v9.1,v6.aV,aX⟩:az)])) [[],[(0,bF (ck h8))],[(10,⟨_,_, .app (xs:=bC v8) (ys:=bC [(⟨v9.1,v6.aV,aX⟩:az)]) (zs:=bC (v8++[(⟨v9.1,v6.aV,aX⟩:az)])) (n:=(v8++[(⟨v9.1,v6.aV,aX⟩:az)]).length) cW.symm A4 A4 (by rw[(cW (l:=v8)),(cW (l:=[(⟨v9.1,v6.aV,aX⟩:az)]))];exact(dQ h9 (by decide)).1) (by rw[(cW (l:=v8)),(cW (l:=[(⟨v9.1,v6.aV,aX⟩:az)]))];exact(dQ h9 (by decide)).2) On (by first|(rw[(cW (l:=v8)),(cW (l:=[(⟨v9.1,v6.aV,aX⟩:az)]))];done)|(rw[(cW (l:=v8)),(cW (l:=[(⟨v9.1,v6.aV,aX⟩:az)]))];rfl)|(rw[(cW (l:=v8)),(cW (l:=[(⟨v9.1,v6.aV,aX⟩:az)])),af6];done)|(rw[(cW (l:=v8)),(cW (l:=[(⟨v9.1,v6.aV,aX⟩:az)])),af6];rfl)|(rw[(cW (l:=v8)),(cW (l:=[(⟨v9.1,v6.aV,aX⟩:az)])),agq]))⟩)],[(2,oq (cx h3 rfl h2))]] ⟨ct h3,J⟩
  |cons v12 aH=>
   rw[qZ]at J;obtain⟨aK,aJ,J⟩:=au J;refine ax ak [[],[(0,bT (cf h8))],[(1,oE (ku (bS h8)))],[(7,⟨_,_, .rq (cb:=[(bY v12),(.aW [[(.sl (cm v1))]] 0 0),(.aW [[(.sl (bC v2))]] 0 0)]) (h:=[.front 80 4 v8.length, .cells (eC v6).cells, .cells [(bt aA),(.d (.sl (bJ aT)))], .cells [(bt v9.1.xK),(.d (.sl (bJ v9.1.xL))),(bp v6.aV),(.own 4 (cH aX))], .front 48 2 aX.length, .cells (bY v12).cells]) (l:=[]) (by kernel_rfl) (by kernel_rfl) (by kernel_rfl) (by kernel_rfl) (JL N v12 v1 v2 aK aJ)⟩)],[]] ?_;refine bc J (fun bQ J=> ?_) fun bQ J=> ?_
   ·cases J;exact bH ak [[(0,bT bQ)],[]]
   obtain⟨cl,J⟩:=dO J;exact cU ak fD (v10+1,aH,aK.1.xK,aK.1.xL,(aX++[aK.1])) [[(0,bF bQ)],[(13,⟨_,_, .app (xs:=cH aX) (ys:=cH [aK.1]) (zs:=cH (aX++[aK.1])) (n:=(aX++[aK.1]).length) cd.symm tF tF (by rw[(cd (l:=aX)),(cd (l:=[aK.1]))];exact(dQ cl (by decide)).1) (by rw[(cd (l:=aX)),(cd (l:=[aK.1]))];exact(dQ cl (by decide)).2) J2 (by first|(rw[(cd (l:=aX)),(cd (l:=[aK.1]))];done)|(rw[(cd (l:=aX)),(cd (l:=[aK.1]))];rfl)|(rw[(cd (l:=aX)),(cd (l:=[aK.1])),af6];done)|(rw[(cd (l:=aX)),(cd (l:=[aK.1])),af6];rfl)|(rw[(cd (l:=aX)),(cd (l:=[aK.1])),agq]))⟩)],[(2,oq (cx h8 rfl h7))]] ⟨ct h8,J⟩
def qO(N:Nat)(v3:ar)(v4:aw×Int)(v5:(agU az)×Int)(MT:(agU bf)→(agU az)→ar→agW (ar×Int))(v1:agU bf)(v2:agU az):agU ar→Nat→(agU ar)→agW (ar×Int)
 |[],_,v10=>
  some ((⟨v3.aQ,v3.aq,v3.dm,v3.aC,v4.1,v5.1,v10⟩:ar),(0:Int))
 |v8::v9,v6,v10=>
  Option.bind (MT v1 v2 v8) fun v11=>
  bif (v11.2 !=(0:Int))then
   some (fq,v11.2)
  else
   bif (Nat.ble ((v10.length+1)*160) 140737488355328)then
   (fun bE=>qO N v3 v4 v5 MT v1 v2 v9 (v6+1) bE) (v10++[v11.1])
   else none
def sw(N:Nat):Nat→(agU bf)→(agU az)→ar→agW (ar×Int)
 |0,_,_,_=>none
 |d+1,v1,v2,v3=>
  Option.bind (yf N v3.aL v1 v2) fun v4=>
  bif (v4.2 !=(0:Int))then
   some (fq,v4.2)
  else
   Option.bind (zX N v1 v2 v3.xIdx) fun v5=>
   bif (v5.2 !=(0:Int))then
    some (fq,v5.2)
   else
    qO N v3 v4 v5 (sw N d) v1 v2 v3.a7 0 []
def F1(N:Nat)(v1:agU bf)(v2:agU az)(v3:ar):agW (ar×Int):=sw N N v1 v2 v3
theorem VG(N:Nat):∀d:Nat,(∀(v1:agU bf)(v2:agU az)(v3:ar)(r:ar×Int),sw N d v1 v2 v3=some r→bD Tryz.prog 57 [(.fn 88 [(.aW [[(.sl (cm v1))]] 0 0),(.aW [[(.sl (bC v2))]] 0 0)]),(aD v3)] [] fun r1 h1=>r1=(.bU [(aD r.1),(ao r.2)])∧h1=[]):=by
 intro d
 induction d with
 |zero=>intro v1 v2 v3 r J;rw[sw]at J;cases J
 |succ d ih=>
  have adE:=ih;intro v1 v2 v3 r J;rw[sw]at J;refine dS 0 Tryz.func57 (by kernel_rfl) (by kernel_rfl) (agd rfl) ?_;obtain⟨v4,h1,J⟩:=au J;refine ax ak [[],[],[(10,⟨_,_, .rq (cb:=[(bY v3.aL),(.aW [[(.sl (cm v1))]] 0 0),(.aW [[(.sl (bC v2))]] 0 0)]) (h:=[.cells (aD v3).cells, .cells jM]) (l:=[]) (by kernel_rfl) (by kernel_rfl) (by kernel_rfl) (by kernel_rfl) (JL N v3.aL v1 v2 v4 h1)⟩)],[]] ?_;refine bc J (fun h2 J=> ?_) fun h2 J=> ?_
  ·cases J;exact bH ak [[(0,bT h2)],[]]
  obtain⟨v5,h3,J⟩:=au J;refine ax ak [[(0,bF h2)],[(10,⟨_,_, .rq (cb:=[(.fn 88 [(.aW [[(.sl (cm v1))]] 0 0),(.aW [[(.sl (bC v2))]] 0 0)]),(.d (.sl (bC v3.xIdx)))]) (h:=[.cells (ox v3 [(bt v4.1.xK),(.d (.sl (bJ v4.1.xL))),(.d (.sl (bC v3.xIdx))),(.d (.sl (cQ v3.a7)))]), .cells jM]) (l:=[]) (by kernel_rfl) (by kernel_rfl) (by kernel_rfl) (by kernel_rfl) (aaq N v1 v2 v3.xIdx v5 h3)⟩)],[]] ?_;refine bc J (fun h4 J=> ?_) fun h4 J=> ?_
  ·cases J;exact bH ak [[(0,bT h4)],[]]
  refine ax ak [[(0,bF h4)],[],[(7,oL v3.a7 da)]] ?_;refine qQ 7 52 13 [] (.inr (by kernel_rfl)) ?_;refine dj 37 (cQ v3.a7) (by kernel_rfl) fun h5=> ?_;have h6:=cP da h5;refine pv ak 1 [] [0,3,4,7,37,38,39] 3 [] [(1,10),(1,11),(1,12)] (fun((v6,v7,v10):Nat×(agU ar)×(agU ar))=>⟨61,[(0,(.fn 88 [(.aW [[(.sl (cm v1))]] 0 0),(.aW [[(.sl (bC v2))]] 0 0)])),(3,(.ptr 0 0)),(4,(.ptr 1 0)),(7,(.own 2 (cQ v10))),(37,(.d (.sl (cQ v3.a7)))),(38,(ao (v3.a7.length:Int))),(39,(ao (v6:Int)))],[.cells (ox v3 [(bt v4.1.xK),(.d (.sl (bJ v4.1.xL))),(.d (.sl (bC v5.1))),(.d (.sl (cQ v3.a7)))]), .cells jM, .front 52 13 v10.length]⟩) (fun((v6,v7,v10):Nat×(agU ar)×(agU ar))=>v3.a7.drop v6=v7∧qO N v3 v4 v5 (sw N d) v1 v2 v7 v6 v10=some r) (fun((v6,v7,v10):Nat×(agU ar)×(agU ar))=>v7.length) (0,v3.a7,[]) ⟨rfl,J⟩ ?_;rintro⟨v6,v7,v10⟩ ⟨h7,J⟩ f1 ba;cases v7 with
  |nil=>
   rw[qO]at J;cases J;exact bH ak [[],[(0,bF (ck h7))],[],[]]
  |cons v8 v9=>
   rw[qO]at J;obtain⟨v11,h8,J⟩:=au J;refine ax ak [[],[(0,bT (cf h7))],[(1,oE (lh (bS h7)))],[(7,⟨_,_, .rq (cb:=[(.fn 88 [(.aW [[(.sl (cm v1))]] 0 0),(.aW [[(.sl (bC v2))]] 0 0)]),(aD v8)]) (h:=[.cells (ox v3 [(bt v4.1.xK),(.d (.sl (bJ v4.1.xL))),(.d (.sl (bC v5.1))),(.d (.sl (cQ v3.a7)))]), .cells jM, .front 52 13 v10.length, .cells (aD v8).cells]) (l:=[]) (by kernel_rfl) (by kernel_rfl) (by kernel_rfl) (by kernel_rfl) (adE v1 v2 v8 v11 h8)⟩)],[]] ?_;refine bc J (fun h9 J=> ?_) fun h9 J=> ?_
   ·cases J;exact bH ak [[(0,bT h9)],[]]
   obtain⟨aJ,J⟩:=dO J;exact nu ak ba (v6+1,v9,(v10++[v11.1])) [[(0,bF h9)],[(8,⟨_,_, .eq (congrArg AV.full (lf [v11.1]).symm)⟩),(10,⟨_,_, .app (xs:=cQ v10) (ys:=cQ [v11.1]) (zs:=cQ (v10++[v11.1])) (n:=(v10++[v11.1]).length) da.symm AD AD (by rw[(da (l:=v10)),(da (l:=[v11.1]))];exact(dQ aJ (by decide)).1) (by rw[(da (l:=v10)),(da (l:=[v11.1]))];exact(dQ aJ (by decide)).2) MQ (by first|(rw[(da (l:=v10)),(da (l:=[v11.1]))];done)|(rw[(da (l:=v10)),(da (l:=[v11.1]))];rfl)|(rw[(da (l:=v10)),(da (l:=[v11.1])),af6];done)|(rw[(da (l:=v10)),(da (l:=[v11.1])),af6];rfl)|(rw[(da (l:=v10)),(da (l:=[v11.1])),agq]))⟩)],[(2,oq (cx h7 rfl h6))]] ⟨ct h7,J⟩
theorem abT(N:Nat)(v1:agU bf)(v2:agU az)(v3:ar)(r:ar×Int)(J:F1 N v1 v2 v3=some r):bD Tryz.prog 57 [(.fn 88 [(.aW [[(.sl (cm v1))]] 0 0),(.aW [[(.sl (bC v2))]] 0 0)]),(aD v3)] [] fun r1 h1=>r1=(.bU [(aD r.1),(ao r.2)])∧h1=[]:=(VG N N) v1 v2 v3 r J
def qh(N:Nat)(v1:ar)(Qa:ar→aG→agW (ar×Int))(v2:aG):agU ar→Nat→(agU ar)→agW (ar×Int)
 |[],_,v10=>
  some ((⟨v1.aQ,v1.aq,v1.dm,v1.aC,v1.aL,v1.xIdx,v10⟩:ar),(0:Int))
 |v8::v9,v6,v10=>
  Option.bind (Qa v8 v2) fun v11=>
  bif (v11.2 !=(0:Int))then
   some (fq,v11.2)
  else
   bif (Nat.ble ((v10.length+1)*160) 140737488355328)then
   (fun bE=>qh N v1 Qa v2 v9 (v6+1) bE) (v10++[v11.1])
   else none
def oh(N:Nat):Nat→ar→aG→agW (ar×Int)
 |0,_,_=>none
 |d+1,v1,v2=>
  Option.bind (bif (v1.aQ==(3:Int))then some (bL v1.aq==bL v2.aq)else some false) fun v3=>
  bif v3 then
   Option.bind (Kj N v2.aS v1.xIdx) fun v4=>
   Option.bind (F1 N v4.1 v4.2 v2.bq) fun v5=>
   some (v5.1,v5.2)
  else
   qh N v1 (oh N d) v2 v1.a7 0 []
def EJ(N:Nat)(v1:ar)(v2:aG):agW (ar×Int):=oh N N v1 v2
theorem adO(N:Nat):∀d:Nat,(∀(v1:ar)(v2:aG)(r:ar×Int),oh N d v1 v2=some r→bA Tryz.prog 27 [(aD v1),(cp v2)] (·=(.bU [(aD r.1),(ao r.2)]))):=by
 intro d
 induction d with
 |zero=>intro v1 v2 r J;rw[oh]at J;cases J
 |succ d ih=>
  have ael:=ih;intro v1 v2 r J;rw[oh]at J;refine bZ Tryz.func27 (by kernel_rfl) (by kernel_rfl) ?_;refine ax ak [[]] ?_;obtain⟨v3,h2,J⟩:=au J;refine dn ak [(20,(aU v3))] [.cells (aD v1).cells, .cells (cp v2).cells, .cells jM] ?_ ?_
  ·refine bc h2 (fun h1 h2=> ?_) fun h1 h2=> ?_
   ·cases h2;exact⟨so (os [12,15,18,21,24,28] (bT h1) []),by kernel_rfl⟩
   cases h2;exact⟨so (os [12,15,18,21,24,28] (bF h1) []),by kernel_rfl⟩
  refine bc J (fun h3 J=> ?_) fun h3 J=> ?_
  ·obtain⟨v4,h4,J⟩:=au J;obtain⟨v5,h5,J⟩:=au J;cases J;exact wr ak [[(0,bT h3)],[(13,⟨_,_, .rq (cb:=[(.d (.sl (cm v2.aS))),(.d (.sl (bC v1.xIdx)))]) (h:=[.cells (aD v1).cells, .cells (cp v2).cells, .cells jM]) (l:=[]) (by kernel_rfl) (by kernel_rfl) (by kernel_rfl) (by kernel_rfl) (abQ N v2.aS v1.xIdx v4 h4)⟩),(22,⟨_,_, .rq (cb:=[(.fn 88 [(.aW [[(.sl (cm v4.1))]] 0 0),(.aW [[(.sl (bC v4.2))]] 0 0)]),(aD v2.bq)]) (h:=[.cells (aD v1).cells, .cells (cp v2).cells, .cells jM]) (l:=[]) (by kernel_rfl) (by kernel_rfl) (by kernel_rfl) (by kernel_rfl) (abT N v4.1 v4.2 v2.bq v5 h5)⟩)]]
  refine ax ak [[(0,bF h3)],[],[(7,oL v1.a7 da)]] ?_;refine qQ 6 52 13 [] (.inr (by kernel_rfl)) ?_;refine dj 32 (cQ v1.a7) (by kernel_rfl) fun h6=> ?_;have h7:=cP da h6;refine pv ak 1 [] [2,3,4,6,32,33,34] 4 [] [(2,10),(2,11),(2,12)] (fun((v6,v7,v10):Nat×(agU ar)×(agU ar))=>⟨56,[(2,(.ptr 0 0)),(3,(.ptr 1 0)),(4,(.ptr 2 0)),(6,(.own 3 (cQ v10))),(32,(.d (.sl (cQ v1.a7)))),(33,(ao (v1.a7.length:Int))),(34,(ao (v6:Int)))],[.cells (aD v1).cells, .cells (cp v2).cells, .cells jM, .front 52 13 v10.length]⟩) (fun((v6,v7,v10):Nat×(agU ar)×(agU ar))=>v1.a7.drop v6=v7∧qh N v1 (oh N d) v2 v7 v6 v10=some r) (fun((v6,v7,v10):Nat×(agU ar)×(agU ar))=>v7.length) (0,v1.a7,[]) ⟨rfl,J⟩ ?_;rintro⟨v6,v7,v10⟩ ⟨h8,J⟩ f1 ba;cases v7 with
  |nil=>
   rw[qh]at J;cases J;exact wr ak [[],[(0,bF (ck h8))],[],[]]
  |cons v8 v9=>
   rw[qh]at J;obtain⟨v11,h9,J⟩:=au J;refine ax ak [[],[(0,bT (cf h8))],[(1,oE (lh (bS h8)))],[(7,cL (ael v8 v2 v11 h9))],[]] ?_;refine bc J (fun aJ J=> ?_) fun aJ J=> ?_
   ·cases J;exact wr ak [[(0,bT aJ)],[]]
   obtain⟨bQ,J⟩:=dO J;exact nu ak ba (v6+1,v9,(v10++[v11.1])) [[(0,bF aJ)],[(8,⟨_,_, .eq (congrArg AV.full (lf [v11.1]).symm)⟩),(10,⟨_,_, .app (xs:=cQ v10) (ys:=cQ [v11.1]) (zs:=cQ (v10++[v11.1])) (n:=(v10++[v11.1]).length) da.symm AD AD (by rw[(da (l:=v10)),(da (l:=[v11.1]))];exact(dQ bQ (by decide)).1) (by rw[(da (l:=v10)),(da (l:=[v11.1]))];exact(dQ bQ (by decide)).2) MQ (by first|(rw[(da (l:=v10)),(da (l:=[v11.1]))];done)|(rw[(da (l:=v10)),(da (l:=[v11.1]))];rfl)|(rw[(da (l:=v10)),(da (l:=[v11.1])),af6];done)|(rw[(da (l:=v10)),(da (l:=[v11.1])),af6];rfl)|(rw[(da (l:=v10)),(da (l:=[v11.1])),agq]))⟩)],[(2,oq (cx h8 rfl h7))]] ⟨ct h8,J⟩
theorem abD(N:Nat)(v1:ar)(v2:aG)(r:ar×Int)(J:EJ N v1 v2=some r):bA Tryz.prog 27 [(aD v1),(cp v2)] (·=(.bU [(aD r.1),(ao r.2)])):=(adO N N) v1 v2 r J
def Dx(N:Nat)(v1:agU aG)(v2:Int)(v3:Nat):agW (agU aG):=bif Nat.beq v1.length v3&&(decide ((0:Int)≤v2)&&(Nat.blt v2.toNat v3&&Nat.blt v3 9223372036854775807))then some (v1.take v2.toNat++v1.drop (v2.toNat+1))else none
theorem XC(N:Nat)(v1:agU aG)(v2:Int)(v3:Nat)(r:agU aG)(J:Dx N v1 v2 v3=some r):bD Tryz.prog 29 [(.vec 0 0 v3 v3 22),(ao v2),(ao (a8 (v2+(1:Int))))] [.vec 54 22 (aI (v1.map b6))] fun r1 h1=>r1=(.vec 0 0 (v3-1) v3 22)∧h1=[.vec 54 22 (aI (r.map b6)++[List.replicate 22 .dead])]:=by
 obtain⟨hb,rfl⟩:=dJ J;simp only[af7]at hb;obtain⟨h1,h2,h3,h4⟩:=hb;have h1:=agk h1;have h2:=of_decide_eq_true h2;have h3:v2.toNat<v3:=agd h3;have h4:v3<9223372036854775807:=agd h4;have e3:a8 (v2+(1:Int))=((v2.toNat+1:Nat):Int):=by unfold a8;rw[IntKind.wrap_i64];omega
 have e4:((v2.toNat:Nat):Int)=v2:=Int.toNat_of_nonneg h2;have h:=aaI (xs:=v1.map b6) h3 (by rw[aga];exact h1) (qt (fun _=>rfl) _);rw[aaQ,e4]at h;rw[e3];exact h
end Go.Proofs.YtphmhnabilhbgaaGreatDoor
