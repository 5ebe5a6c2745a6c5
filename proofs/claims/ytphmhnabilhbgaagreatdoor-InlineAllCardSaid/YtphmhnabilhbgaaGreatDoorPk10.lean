/-
  Part 10 of the proof: PQ4.
-/
import Derived.Test.YtphmhnabilhbgaaGreatDoorPk9
namespace Go.Proofs.YtphmhnabilhbgaaGreatDoor
open Go.RowKit
set_option maxRecDepth 100000
set_option maxHeartbeats 0
set_option linter.unusedVariables false
def dv:aiE AV:=[(.d (.v (.slice none 0 0))),(.d (.v (.slice none 0 0))),(.d (.v (.slice none 0 0))),(.d (.v (.slice none 0 0))),(.d (.v (.slice none 0 0)))]
def m7:aiE AV:=[(bu (0:Int64)),(.d (.v (.slice none 0 0)))]
def A0(v:aq)(r:aiE AV):aiE AV:=(ak v.aX)::(bw v.ao)::(bu v.db.xN)::(bu v.db.xD)::(ak v.aw.ck)::(ak v.aw.cq)::(ak v.aw.cJ)::(ak v.aw.cH)::(ak v.aw.cK)::(bu v.aK.xK)::(.d (.sl (bP v.aK.xL)))::(.d (.sl (bJ v.xIdx)))::(.d (.sl (cT v.aM)))::r
def sD(N:Nat)(v2:aiE aiF)(v8:aiE cf)(aE:aiE bX)(v3:aiE aiF):aiE aG→Nat→Nat→(aiE aG)→aiG ((aiE aiF)×(aiE cf)×(aiE bX)×Nat×(aiE aiF)×(aiE aG))
 |[],_,aT,bK=>
  some (v2,v8,aE,aT,v3,bK)
 |aW::aH,aC,aT,bK=>
  Option.bind (sy N aW.aI) fun v20=>
  Option.bind (sy N aW.bz) fun v21=>
  Option.bind (C2 N aW.bx) fun di=>
  bif (Nat.beq bK.length aT)then
  bif (Nat.ble ((aT+1)*272) 140737488355328)then
  (fun lC vH=>sD N v2 v8 aE v3 aH (aC+1) lC vH) (aT+1) (bK++[(⟨aW.ao,aW.aw,v20,v21,aW.cP,di⟩:aG)])
  else none
  else none
def rS(N:Nat)(v2:aiE aiF)(v8:aiE cf)(v3:aiE aiF)(v1:aQ):aiE bX→Nat→(aiE bX)→aiG ((aiE aiF)×(aiE cf)×(aiE bX)×Nat×(aiE aiF)×(aiE aG))
 |[],_,aE=>
  sD N v2 v8 aE v3 v1.ay 0 0 []
 |v11::v12,v9,aE=>
  Option.bind (AG N v11.aI) fun cS=>
  bif (Nat.ble ((aE.length+1)*80) 140737488355328)then
  (fun fI=>rS N v2 v8 v3 v1 v12 (v9+1) fI) (aE++[(⟨v11.ao,v11.aw,cS⟩:bX)])
  else none
def tC(N:Nat)(v2:aiE aiF)(v3:aiE aiF)(v1:aQ):aiE cf→Nat→(aiE cf)→aiG ((aiE aiF)×(aiE cf)×(aiE bX)×Nat×(aiE aiF)×(aiE aG))
 |[],_,v8=>
  rS N v2 v8 v3 v1 v1.a8 0 []
 |v6::v7,v4,v8=>
  Option.bind (ub N v6.aK) fun v24=>
  bif (Nat.ble ((v8.length+1)*40) 140737488355328)then
  (fun b6=>tC N v2 v3 v1 v7 (v4+1) b6) (v8++[(⟨v24,v6.fM⟩:cf)])
  else none
def sN(N:Nat)(v1:aQ):aiG ((aiE aiF)×(aiE cf)×(aiE bX)×Nat×(aiE aiF)×(aiE aG)):=
 Option.bind (E3 N v1.ba) fun v2=>
 Option.bind (E3 N v1.cl) fun v3=>
 tC N v2 v3 v1 v1.cm 0 []
theorem FI(N:Nat)(v1:aQ)(r:(aiE aiF)×(aiE cf)×(aiE bX)×Nat×(aiE aiF)×(aiE aG))(J:sN N v1=some r):bY Tryz.prog 26 [(aS v1)] [] fun r1 h1=>r1=(.agg [(.d (.sl (aB r.1))),(.own 3 (bG r.2.1)),(.own 4 (bI r.2.2.1)),(.vec 5 0 r.2.2.2.1 r.2.2.2.1 22),(.d (.sl (aB r.2.2.2.2.1)))])∧h1=[.gone, .cells [(.d (.sl (aB r.1))),(.own 3 (bG r.2.1)),(.own 4 (bI r.2.2.1)),(.vec 5 0 r.2.2.2.1 r.2.2.2.1 22),(.d (.sl (aB r.2.2.2.2.1)))], .gone, .front 57 3 r.2.1.length, .front 60 7 r.2.2.1.length, .vec 54 22 (aO (r.2.2.2.2.2.map cF))]:=by
 rw[sN]at J;refine tu 6 Tryz.func26 rfl (by kernel_rfl) (ahX rfl) ?_;refine lP (s':=⟨81,[(0,(aS v1))],[]⟩) (by kernel_rfl) ?_;refine aR ?_;refine rg [] [(1,(.ptr 0 0)),(2,(.ptr 1 0))] [.cells (aS v1).cells, .cells dv] (by kernel_rfl) ?_;refine aR ?_;obtain⟨v2,h1,J⟩:=ar J;obtain⟨v3,h2,J⟩:=ar J;refine rt 3 af [(7,cL (Uh N v1.ba v2 h1)),(16,cL (Uh N v1.cl v3 h2))] [(3,(.ptr 2 0))] [.cells (aS v1).cells, .cells dv, .cells [(.d (.sl (aB v2))),(.d (.v (.slice none 0 0))),(.d (.v (.slice none 0 0))),(.d (.v (.slice none 0 0))),(.d (.sl (aB v3)))]] (by kernel_rfl) ?_;refine aR ?_;refine aR ?_;refine rg [(7,oL v1.cm eO)] [(18,(.d (.sl (bG v1.cm)))),(19,(ak (v1.cm.length:Int))),(20,(ak (0:Int)))] [.cells (aS v1).cells, .cells dv, .cells [(.d (.sl (aB v2))),(.d (.v (.slice none 0 0))),(.d (.v (.slice none 0 0))),(.d (.v (.slice none 0 0))),(.d (.sl (aB v3)))]] (by kernel_rfl) ?_;refine fe ?_;refine Fj 2 1 57 3 [] rfl (.inr ⟨rfl,rfl⟩) ?_;refine pF 18 (bG v1.cm) (by kernel_rfl) fun h3=> ?_;have h4:=cd eO h3;refine oA [1,2,3,18,19,20] 4 [] [(1,0),(1,1),(1,2),(1,3),(1,4),(2,2),(2,3)] (fun((v4,v5,v8):Nat×(aiE cf)×(aiE cf))=>⟨81,[(1,(.ptr 0 0)),(2,(.ptr 1 0)),(3,(.ptr 2 0)),(18,(.d (.sl (bG v1.cm)))),(19,(ak (v1.cm.length:Int))),(20,(ak (v4:Int)))],[.cells (aS v1).cells, .cells dv, .cells [(.d (.sl (aB v2))),(.own 3 (bG v8)),(.d (.v (.slice none 0 0))),(.d (.v (.slice none 0 0))),(.d (.sl (aB v3)))], .front 57 3 v8.length]⟩) (fun((v4,v5,v8):Nat×(aiE cf)×(aiE cf))=>v1.cm.drop v4=v5∧tC N v2 v3 v1 v5 v4 v8=some r) (fun((v4,v5,v8):Nat×(aiE cf)×(aiE cf))=>v5.length) (0,v1.cm,[]) (ahX rfl) ⟨(dP trivial (dP trivial (dP trivial (dP trivial fh)))),by kernel_rfl⟩ ⟨rfl,J⟩ ?_
 rintro⟨v4,v5,v8⟩ ⟨h5,J⟩;cases v5 with
 |nil=>
  rw[tC]at J;refine aR ?_;refine rg [] [(21,(aJ (decide ((v4:Int)<(v1.cm.length:Int)))))] [.cells (aS v1).cells, .cells dv, .cells [(.d (.sl (aB v2))),(.own 3 (bG v8)),(.d (.v (.slice none 0 0))),(.d (.v (.slice none 0 0))),(.d (.sl (aB v3)))], .front 57 3 v8.length] (by kernel_rfl) ?_;refine aR ?_;refine fv (t:=(decide ((v4:Int)<(v1.cm.length:Int)))) (by kernel_rfl) (bO h5) ?_;refine kZ (gH (gH (lJ rfl ?_)));refine cv ?_;refine aR ?_;refine aR ?_;refine rg [(7,oL v1.a8 ee)] [(37,(.d (.sl (bI v1.a8)))),(38,(ak (v1.a8.length:Int))),(39,(ak (0:Int)))] [.cells (aS v1).cells, .cells dv, .cells [(.d (.sl (aB v2))),(.own 3 (bG v8)),(.d (.v (.slice none 0 0))),(.d (.v (.slice none 0 0))),(.d (.sl (aB v3)))], .front 57 3 v8.length] (by kernel_rfl) ?_;refine fe ?_;refine Fj 2 2 60 7 [] rfl (.inr ⟨rfl,rfl⟩) ?_;refine pF 37 (bI v1.a8) (by kernel_rfl) fun h6=> ?_;have h7:=cd ee h6;refine oA [1,2,3,37,38,39] 5 [] [(1,0),(1,1),(1,2),(1,3),(1,4),(2,3)] (fun((v9,v10,aE):Nat×(aiE bX)×(aiE bX))=>⟨81,[(1,(.ptr 0 0)),(2,(.ptr 1 0)),(3,(.ptr 2 0)),(37,(.d (.sl (bI v1.a8)))),(38,(ak (v1.a8.length:Int))),(39,(ak (v9:Int)))],[.cells (aS v1).cells, .cells dv, .cells [(.d (.sl (aB v2))),(.own 3 (bG v8)),(.own 4 (bI aE)),(.d (.v (.slice none 0 0))),(.d (.sl (aB v3)))], .front 57 3 v8.length, .front 60 7 aE.length]⟩) (fun((v9,v10,aE):Nat×(aiE bX)×(aiE bX))=>v1.a8.drop v9=v10∧rS N v2 v8 v3 v1 v10 v9 aE=some r) (fun((v9,v10,aE):Nat×(aiE bX)×(aiE bX))=>v10.length) (0,v1.a8,[]) (ahX rfl) ⟨(dP trivial (dP trivial (dP trivial (dP trivial (dP trivial fh))))),by kernel_rfl⟩ ⟨rfl,J⟩ ?_
  rintro⟨v9,v10,aE⟩ ⟨h8,J⟩;cases v10 with
  |nil=>
   rw[rS]at J;refine aR ?_;refine rg [] [(40,(aJ (decide ((v9:Int)<(v1.a8.length:Int)))))] [.cells (aS v1).cells, .cells dv, .cells [(.d (.sl (aB v2))),(.own 3 (bG v8)),(.own 4 (bI aE)),(.d (.v (.slice none 0 0))),(.d (.sl (aB v3)))], .front 57 3 v8.length, .front 60 7 aE.length] (by kernel_rfl) ?_;refine aR ?_;refine fv (t:=(decide ((v9:Int)<(v1.a8.length:Int)))) (by kernel_rfl) (bO h8) ?_;refine kZ (gH (gH (lJ rfl ?_)));refine cv ?_;refine aR ?_;refine aR ?_;refine rg [(7,oL v1.ay du)] [(55,(.d (.sl (b8 v1.ay)))),(56,(ak (v1.ay.length:Int))),(57,(ak (0:Int)))] [.cells (aS v1).cells, .cells dv, .cells [(.d (.sl (aB v2))),(.own 3 (bG v8)),(.own 4 (bI aE)),(.d (.v (.slice none 0 0))),(.d (.sl (aB v3)))], .front 57 3 v8.length, .front 60 7 aE.length] (by kernel_rfl) ?_;refine fe ?_;refine aho 2 3 54 22 rfl rfl ?_;refine pF 55 (b8 v1.ay) (by kernel_rfl) fun h9=> ?_;have aA:=cd du h9;refine oA [2,3,55,56,57] 6 [] [(1,0),(1,1),(1,2),(1,3),(1,4)] (fun((aC,aP,aT,bK):Nat×(aiE aG)×Nat×(aiE aG))=>⟨81,[(2,(.ptr 1 0)),(3,(.ptr 2 0)),(55,(.d (.sl (b8 v1.ay)))),(56,(ak (v1.ay.length:Int))),(57,(ak (aC:Int)))],[.cells (aS v1).cells, .cells dv, .cells [(.d (.sl (aB v2))),(.own 3 (bG v8)),(.own 4 (bI aE)),(.vec 5 0 aT aT 22),(.d (.sl (aB v3)))], .front 57 3 v8.length, .front 60 7 aE.length, .vec 54 22 (aO (bK.map cF))]⟩) (fun((aC,aP,aT,bK):Nat×(aiE aG)×Nat×(aiE aG))=>v1.ay.drop aC=aP∧sD N v2 v8 aE v3 aP aC aT bK=some r) (fun((aC,aP,aT,bK):Nat×(aiE aG)×Nat×(aiE aG))=>aP.length) (0,v1.ay,0,[]) (ahX rfl) ⟨(dP trivial (dP trivial (dP trivial (dP trivial (dP trivial (gq (xs:=(([]:aiE aG).map cF)) fh)))))),by kernel_rfl⟩ ⟨rfl,J⟩ ?_
   rintro⟨aC,aP,aT,bK⟩ ⟨a7,J⟩;cases aP with
   |nil=>
    rw[sD]at J;refine aR ?_;refine rg [] [(58,(aJ (decide ((aC:Int)<(v1.ay.length:Int)))))] [.cells (aS v1).cells, .cells dv, .cells [(.d (.sl (aB v2))),(.own 3 (bG v8)),(.own 4 (bI aE)),(.vec 5 0 aT aT 22),(.d (.sl (aB v3)))], .front 57 3 v8.length, .front 60 7 aE.length, .vec 54 22 (aO (bK.map cF))] (by kernel_rfl) ?_;refine aR ?_;refine fv (t:=(decide ((aC:Int)<(v1.ay.length:Int)))) (by kernel_rfl) (bO a7) ?_;refine kZ (gH (gH (lJ rfl ?_)));refine cv ?_;refine aR ?_;refine rg [] [] [.cells (aS v1).cells, .cells [(.d (.sl (aB v2))),(.own 3 (bG v8)),(.own 4 (bI aE)),(.vec 5 0 aT aT 22),(.d (.sl (aB v3)))], .cells [(.d (.sl (aB v2))),(.own 3 (bG v8)),(.own 4 (bI aE)),(.vec 5 0 aT aT 22),(.d (.sl (aB v3)))], .front 57 3 v8.length, .front 60 7 aE.length, .vec 54 22 (aO (bK.map cF))] (by kernel_rfl) ?_;refine Re 0 ?_;refine Re 2 ?_;refine dN ?_;have hr:=ah8 J;subst hr;exact lU (dP trivial (dP trivial (dP trivial (dP trivial (dP trivial (gq (xs:=(bK.map cF)) fh)))))) (by kernel_rfl)
   |cons aW aH=>
    rw[sD]at J;refine aR ?_;refine rg [] [(58,(aJ (decide ((aC:Int)<(v1.ay.length:Int)))))] [.cells (aS v1).cells, .cells dv, .cells [(.d (.sl (aB v2))),(.own 3 (bG v8)),(.own 4 (bI aE)),(.vec 5 0 aT aT 22),(.d (.sl (aB v3)))], .front 57 3 v8.length, .front 60 7 aE.length, .vec 54 22 (aO (bK.map cF))] (by kernel_rfl) ?_;refine aR ?_;refine fB (t:=(decide ((aC:Int)<(v1.ay.length:Int)))) (by kernel_rfl) (bN a7) ?_;refine et ?_;refine cv ?_;refine aR ?_;refine fe ?_;refine aR ?_;refine rg [(1,oE (fW (aU a7)))] [(9,(.ptr 6 0))] [.cells (aS v1).cells, .cells dv, .cells [(.d (.sl (aB v2))),(.own 3 (bG v8)),(.own 4 (bI aE)),(.vec 5 0 aT aT 22),(.d (.sl (aB v3)))], .front 57 3 v8.length, .front 60 7 aE.length, .vec 54 22 (aO (bK.map cF)), .cells (cy aW).cells] (by kernel_rfl) ?_;refine aR ?_;obtain⟨v20,bk,J⟩:=ar J;obtain⟨v21,cg,J⟩:=ar J;obtain⟨di,bm,J⟩:=ar J;refine rd af (by kernel_rfl) [(7,cL (Qx N aW.aI v20 bk)),(16,cL (Qx N aW.bz v21 cg)),(25,cL (adL N aW.bx di bm))] [] [.cells (aS v1).cells, .cells dv, .cells [(.d (.sl (aB v2))),(.own 3 (bG v8)),(.own 4 (bI aE)),(.vec 5 0 aT aT 22),(.d (.sl (aB v3)))], .front 57 3 v8.length, .front 60 7 aE.length, .vec 54 22 (aO (bK.map cF)), .cells ((bw aW.ao)::(ak aW.aw.ck)::(ak aW.aw.cq)::(ak aW.aw.cJ)::(ak aW.aw.cH)::(ak aW.aw.cK)::(.d (.sl (cu v20)))::(.d (.sl (cu v21)))::(ak aW.cP)::A0 di [])] (by kernel_rfl) ?_
    have bQ:=fw J;replace J:=(dA bQ).symm.trans J;have bo:=fw J;replace J:=(dA bo).symm.trans J;refine re [(13,⟨_,_, .pr (.ap (aO ((bK++[(⟨aW.ao,aW.aw,v20,v21,aW.cP,di⟩:aG)]).map cF)) (aO (([(⟨aW.ao,aW.aw,v20,v21,aW.cP,di⟩:aG)]).map cF)) (aT+1) (aT+1)) (Vg (f:=cF) (h:=[.cells (aS v1).cells, .cells dv, .cells [(.d (.sl (aB v2))),(.own 3 (bG v8)),(.own 4 (bI aE)),(.vec 5 0 aT aT 22),(.d (.sl (aB v3)))], .front 57 3 v8.length, .front 60 7 aE.length, .vec 54 22 (aO (bK.map cF)), .cells ((bw aW.ao)::(ak aW.aw.ck)::(ak aW.aw.cq)::(ak aW.aw.cJ)::(ak aW.aw.cH)::(ak aW.aw.cK)::(.d (.sl (cu v20)))::(.d (.sl (cu v21)))::(ak aW.cP)::A0 di [])]) (y:=(.full (b8 [(⟨aW.ao,aW.aw,v20,v21,aW.cP,di⟩:aG)]))) (k:=22) (ah3 bQ) rfl (fun c hc=>Dh c (by rw[lq];exact hc)) rfl rfl (de bo (by decide)).1 (de bo (by decide)).2)⟩)] [(78,(.ptr 2 3)),(77,(.vec 5 0 (aT+1) (aT+1) 22)),(76,(.full (b8 [(⟨aW.ao,aW.aw,v20,v21,aW.cP,di⟩:aG)]))),(75,(.agg [(bw aW.ao),(ak aW.aw.ck),(ak aW.aw.cq),(ak aW.aw.cJ),(ak aW.aw.cH),(ak aW.aw.cK),(.d (.sl (cu v20))),(.d (.sl (cu v21))),(ak aW.cP),(ak di.aX),(bw di.ao),(bu di.db.xN),(bu di.db.xD),(ak di.aw.ck),(ak di.aw.cq),(ak di.aw.cJ),(ak di.aw.cH),(ak di.aw.cK),(bu di.aK.xK),(.d (.sl (bP di.aK.xL))),(.d (.sl (bJ di.xIdx))),(.d (.sl (cT di.aM)))])),(74,(.vec 5 0 aT aT 22)),(73,(.ptr 2 3))] [.cells (aS v1).cells, .cells dv, .cells [(.d (.sl (aB v2))),(.own 3 (bG v8)),(.own 4 (bI aE)),(.vec 5 0 (aT+1) (aT+1) 22),(.d (.sl (aB v3)))], .front 57 3 v8.length, .front 60 7 aE.length, .vec 54 22 (aO ((bK++[(⟨aW.ao,aW.aw,v20,v21,aW.cP,di⟩:aG)]).map cF)), .cells ((bw aW.ao)::(ak aW.aw.ck)::(ak aW.aw.cq)::(ak aW.aw.cJ)::(ak aW.aw.cH)::(ak aW.aw.cK)::(.d (.sl (cu v20)))::(.d (.sl (cu v21)))::(ak aW.cP)::A0 di [])] (by kernel_rfl) ?_
    refine iA ?_;refine cv ?_;refine re [(2,oq (bV a7 rfl aA))] [(57,(ak ((aC+1:Nat):Int))),(79,(ak ((aC+1:Nat):Int)))] [.cells (aS v1).cells, .cells dv, .cells [(.d (.sl (aB v2))),(.own 3 (bG v8)),(.own 4 (bI aE)),(.vec 5 0 (aT+1) (aT+1) 22),(.d (.sl (aB v3)))], .front 57 3 v8.length, .front 60 7 aE.length, .vec 54 22 (aO ((bK++[(⟨aW.ao,aW.aw,v20,v21,aW.cP,di⟩:aG)]).map cF)), .cells ((bw aW.ao)::(ak aW.aw.ck)::(ak aW.aw.cq)::(ak aW.aw.cJ)::(ak aW.aw.cH)::(ak aW.aw.cK)::(.d (.sl (cu v20)))::(.d (.sl (cu v21)))::(ak aW.cP)::A0 di [])] (by kernel_rfl) ?_;refine cv ?_;exact⟨(aC+1,aH,(aT+1),(bK++[(⟨aW.ao,aW.aw,v20,v21,aW.cP,di⟩:aG)])),⟨(dP trivial (dP trivial (dP trivial (dP trivial (dP trivial (gq (xs:=((bK++[(⟨aW.ao,aW.aw,v20,v21,aW.cP,di⟩:aG)]).map cF)) fh)))))),by kernel_rfl⟩,⟨bR a7,J⟩,aiC _⟩
  |cons v11 v12=>
   rw[rS]at J;refine aR ?_;refine rg [] [(40,(aJ (decide ((v9:Int)<(v1.a8.length:Int)))))] [.cells (aS v1).cells, .cells dv, .cells [(.d (.sl (aB v2))),(.own 3 (bG v8)),(.own 4 (bI aE)),(.d (.v (.slice none 0 0))),(.d (.sl (aB v3)))], .front 57 3 v8.length, .front 60 7 aE.length] (by kernel_rfl) ?_;refine aR ?_;refine fB (t:=(decide ((v9:Int)<(v1.a8.length:Int)))) (by kernel_rfl) (bN h8) ?_;refine et ?_;refine cv ?_;refine aR ?_;refine fe ?_;refine aR ?_;refine rg [(1,oE (jV (aU h8)))] [(7,(.ptr 5 0))] [.cells (aS v1).cells, .cells dv, .cells [(.d (.sl (aB v2))),(.own 3 (bG v8)),(.own 4 (bI aE)),(.d (.v (.slice none 0 0))),(.d (.sl (aB v3)))], .front 57 3 v8.length, .front 60 7 aE.length, .cells (lf v11).cells] (by kernel_rfl) ?_;refine aR ?_;obtain⟨cS,cC,J⟩:=ar J;refine rg [(7,cL (VF N v11.aI cS cC))] [] [.cells (aS v1).cells, .cells dv, .cells [(.d (.sl (aB v2))),(.own 3 (bG v8)),(.own 4 (bI aE)),(.d (.v (.slice none 0 0))),(.d (.sl (aB v3)))], .front 57 3 v8.length, .front 60 7 aE.length, .cells [(bw v11.ao),(ak v11.aw.ck),(ak v11.aw.cq),(ak v11.aw.cJ),(ak v11.aw.cH),(ak v11.aw.cK),(.d (.sl (cz cS)))]] (by kernel_rfl) ?_;have bW:=fw J;replace J:=(dA bW).symm.trans J
   refine re [(13,⟨_,_, .app (xs:=bI aE) (ys:=bI [(⟨v11.ao,v11.aw,cS⟩:bX)]) (zs:=bI (aE++[(⟨v11.ao,v11.aw,cS⟩:bX)])) (n:=(aE++[(⟨v11.ao,v11.aw,cS⟩:bX)]).length) ee.symm VR VR (by rw[(ee (l:=aE)),(ee (l:=[(⟨v11.ao,v11.aw,cS⟩:bX)]))];exact(de bW (by decide)).1) (by rw[(ee (l:=aE)),(ee (l:=[(⟨v11.ao,v11.aw,cS⟩:bX)]))];exact(de bW (by decide)).2) ac0 (by first|(rw[(ee (l:=aE)),(ee (l:=[(⟨v11.ao,v11.aw,cS⟩:bX)]))];done)|(rw[(ee (l:=aE)),(ee (l:=[(⟨v11.ao,v11.aw,cS⟩:bX)]))];rfl)|(rw[(ee (l:=aE)),(ee (l:=[(⟨v11.ao,v11.aw,cS⟩:bX)])),ahQ];done)|(rw[(ee (l:=aE)),(ee (l:=[(⟨v11.ao,v11.aw,cS⟩:bX)])),ahQ];rfl)|(rw[(ee (l:=aE)),(ee (l:=[(⟨v11.ao,v11.aw,cS⟩:bX)])),ah9]))⟩)] [(52,(.ptr 2 2)),(51,(.own 4 (bI (aE++[(⟨v11.ao,v11.aw,cS⟩:bX)])))),(50,(.full (bI [(⟨v11.ao,v11.aw,cS⟩:bX)]))),(49,(.agg [(bw v11.ao),(ak v11.aw.ck),(ak v11.aw.cq),(ak v11.aw.cJ),(ak v11.aw.cH),(ak v11.aw.cK),(.d (.sl (cz cS)))])),(48,(.own 4 (bI aE))),(47,(.ptr 2 2))] [.cells (aS v1).cells, .cells dv, .cells [(.d (.sl (aB v2))),(.own 3 (bG v8)),(.own 4 (bI (aE++[(⟨v11.ao,v11.aw,cS⟩:bX)]))),(.d (.v (.slice none 0 0))),(.d (.sl (aB v3)))], .front 57 3 v8.length, .front 60 7 (aE++[(⟨v11.ao,v11.aw,cS⟩:bX)]).length, .cells [(bw v11.ao),(ak v11.aw.ck),(ak v11.aw.cq),(ak v11.aw.cJ),(ak v11.aw.cH),(ak v11.aw.cK),(.d (.sl (cz cS)))]] (by kernel_rfl) ?_
   refine iA ?_;refine cv ?_;refine re [(2,oq (bV h8 rfl h7))] [(39,(ak ((v9+1:Nat):Int))),(53,(ak ((v9+1:Nat):Int)))] [.cells (aS v1).cells, .cells dv, .cells [(.d (.sl (aB v2))),(.own 3 (bG v8)),(.own 4 (bI (aE++[(⟨v11.ao,v11.aw,cS⟩:bX)]))),(.d (.v (.slice none 0 0))),(.d (.sl (aB v3)))], .front 57 3 v8.length, .front 60 7 (aE++[(⟨v11.ao,v11.aw,cS⟩:bX)]).length, .cells [(bw v11.ao),(ak v11.aw.ck),(ak v11.aw.cq),(ak v11.aw.cJ),(ak v11.aw.cH),(ak v11.aw.cK),(.d (.sl (cz cS)))]] (by kernel_rfl) ?_;refine cv ?_;exact⟨(v9+1,v12,(aE++[(⟨v11.ao,v11.aw,cS⟩:bX)])),⟨(dP trivial (dP trivial (dP trivial (dP trivial (dP trivial fh))))),by kernel_rfl⟩,⟨bR h8,J⟩,aiC _⟩
 |cons v6 v7=>
  rw[tC]at J;refine aR ?_;refine rg [] [(21,(aJ (decide ((v4:Int)<(v1.cm.length:Int)))))] [.cells (aS v1).cells, .cells dv, .cells [(.d (.sl (aB v2))),(.own 3 (bG v8)),(.d (.v (.slice none 0 0))),(.d (.v (.slice none 0 0))),(.d (.sl (aB v3)))], .front 57 3 v8.length] (by kernel_rfl) ?_;refine aR ?_;refine fB (t:=(decide ((v4:Int)<(v1.cm.length:Int)))) (by kernel_rfl) (bN h5) ?_;refine et ?_;refine cv ?_;refine aR ?_;refine fe ?_;refine aR ?_;refine rg [(1,oE (sX (aU h5)))] [(5,(.ptr 4 0))] [.cells (aS v1).cells, .cells dv, .cells [(.d (.sl (aB v2))),(.own 3 (bG v8)),(.d (.v (.slice none 0 0))),(.d (.v (.slice none 0 0))),(.d (.sl (aB v3)))], .front 57 3 v8.length, .cells (kE v6).cells] (by kernel_rfl) ?_;obtain⟨v24,dh,J⟩:=ar J;have dH:=fw J;replace J:=(dA dH).symm.trans J;refine Xp af (by kernel_rfl) [(13,cL (ET N v6.aK v24 dh)),(28,⟨_,_, .app (xs:=bG v8) (ys:=bG [(⟨v24,v6.fM⟩:cf)]) (zs:=bG (v8++[(⟨v24,v6.fM⟩:cf)])) (n:=(v8++[(⟨v24,v6.fM⟩:cf)]).length) eO.symm RC RC (by rw[(eO (l:=v8)),(eO (l:=[(⟨v24,v6.fM⟩:cf)]))];exact(de dH (by decide)).1) (by rw[(eO (l:=v8)),(eO (l:=[(⟨v24,v6.fM⟩:cf)]))];exact(de dH (by decide)).2) abP (by first|(rw[(eO (l:=v8)),(eO (l:=[(⟨v24,v6.fM⟩:cf)]))];done)|(rw[(eO (l:=v8)),(eO (l:=[(⟨v24,v6.fM⟩:cf)]))];rfl)|(rw[(eO (l:=v8)),(eO (l:=[(⟨v24,v6.fM⟩:cf)])),ahQ];done)|(rw[(eO (l:=v8)),(eO (l:=[(⟨v24,v6.fM⟩:cf)])),ahQ];rfl)|(rw[(eO (l:=v8)),(eO (l:=[(⟨v24,v6.fM⟩:cf)])),ah9]))⟩)] [(34,(.ptr 2 1)),(33,(.own 3 (bG (v8++[(⟨v24,v6.fM⟩:cf)])))),(32,(.full (bG [(⟨v24,v6.fM⟩:cf)]))),(31,(.agg [(bu v24.xK),(.d (.sl (bP v24.xL))),(aJ v6.fM)])),(30,(aJ v6.fM)),(29,(.ptr 4 2)),(28,(b9 v24)),(27,(b9 v6.aK)),(26,(.ptr 4 0)),(25,(.own 3 (bG v8))),(24,(.ptr 2 1))] [.cells (aS v1).cells, .cells dv, .cells [(.d (.sl (aB v2))),(.own 3 (bG (v8++[(⟨v24,v6.fM⟩:cf)]))),(.d (.v (.slice none 0 0))),(.d (.v (.slice none 0 0))),(.d (.sl (aB v3)))], .front 57 3 (v8++[(⟨v24,v6.fM⟩:cf)]).length, .cells (kE v6).cells] (by kernel_rfl) ?_
  refine iA ?_;refine cv ?_;refine re [(2,oq (bV h5 rfl h4))] [(20,(ak ((v4+1:Nat):Int))),(35,(ak ((v4+1:Nat):Int)))] [.cells (aS v1).cells, .cells dv, .cells [(.d (.sl (aB v2))),(.own 3 (bG (v8++[(⟨v24,v6.fM⟩:cf)]))),(.d (.v (.slice none 0 0))),(.d (.v (.slice none 0 0))),(.d (.sl (aB v3)))], .front 57 3 (v8++[(⟨v24,v6.fM⟩:cf)]).length, .cells (kE v6).cells] (by kernel_rfl) ?_;refine cv ?_;exact⟨(v4+1,v7,(v8++[(⟨v24,v6.fM⟩:cf)])),⟨(dP trivial (dP trivial (dP trivial (dP trivial fh)))),by kernel_rfl⟩,⟨bR h5,J⟩,aiC _⟩
def uR(N:Nat)(v1:Nat)(v2:aiE aG)(v3:aiF):Nat→Int→aiG Int
 |0,_=>none
 |v4+1,v5=>
  bif (decide (v5<(v1:Int)))then
   bif (decide ((0:Int)≤v5))then
   Option.bind (v2[(v5).toNat]?) fun v6=>
   Option.bind (zX N v6 v3) fun v7=>
   bif v7 then
    some v5
   else
    (fun b6=>uR N v1 v2 v3 v4 b6) (aV (v5+(1:Int)))
   else none
  else
   some (-1:Int)
def Hg(N:Nat)(v1:Nat)(v2:aiE aG)(v3:aiF):aiG Int:=
 bif (Nat.beq v2.length v1)then
 uR N v1 v2 v3 N (0:Int)
 else none
theorem aen(N:Nat)(v1:Nat)(v2:aiE aG)(v3:aiF)(r:Int)(J:Hg N v1 v2 v3=some r):bY Tryz.prog 45 [(.vec 0 0 v1 v1 22),(.fn 46 [(.ptr 1 0)])] [.vec 54 22 (aO (v2.map cF)), .cells [(bw v3)]] fun r1 h1=>r1=(ak r)∧h1=[.vec 54 22 (aO (v2.map cF)), .cells [(bw v3)]]:=by
 rw[Hg]at J;refine tu 2 Tryz.func45 rfl (by kernel_rfl) (ahX rfl) ?_;refine lP (s':=⟨19,[(0,(.vec 0 0 v1 v1 22)),(1,(.fn 46 [(.ptr 1 0)]))],[.vec 54 22 (aO (v2.map cF)), .cells [(bw v3)]]⟩) (by kernel_rfl) ?_;refine aR ?_;refine rg [] [] [.vec 54 22 (aO (v2.map cF)), .cells [(bw v3)]] (by kernel_rfl) ?_;refine aR ?_;refine aR ?_;have h1:=fw J;replace J:=(dA h1).symm.trans J;refine rg [(4,⟨_,_, .pr .no (gJ (f:=cF) (ah3 h1))⟩)] [(7,(ak (v1:Int))),(8,(ak (0:Int)))] [.vec 54 22 (aO (v2.map cF)), .cells [(bw v3)]] (by kernel_rfl) ?_;refine fe ?_;refine oA [0,1,7,8] 2 [] [] (fun((v4,v5):Nat×Int)=>⟨19,[(0,(.vec 0 0 v1 v1 22)),(1,(.fn 46 [(.ptr 1 0)])),(7,(ak (v1:Int))),(8,(ak v5))],[.vec 54 22 (aO (v2.map cF)), .cells [(bw v3)]]⟩) (fun((v4,v5):Nat×Int)=>uR N v1 v2 v3 v4 v5=some r) (fun((v4,v5):Nat×Int)=>v4) (N,(0:Int)) (ahX rfl) ⟨(gq (xs:=(v2.map cF)) (dP trivial fh)),by kernel_rfl⟩ J ?_;rintro⟨v4,v5⟩ J
 try dsimp only at J
 cases v4 with
 |zero=>
  rw[uR]at J;cases J
 |succ v4=>
  rw[uR]at J;refine aR ?_;refine rg [] [(9,(aJ (decide (v5<(v1:Int)))))] [.vec 54 22 (aO (v2.map cF)), .cells [(bw v3)]] (by kernel_rfl) ?_;refine aR ?_;rcases fQ (decide (v5<(v1:Int)))with h2|h2
  ·replace J:=(dA h2).symm.trans J;refine fB (t:=(decide (v5<(v1:Int)))) (by kernel_rfl) h2 ?_;refine et ?_;refine cv ?_;refine aR ?_;refine fe ?_;refine aR ?_;refine rg [] [(5,(ak v5))] [.vec 54 22 (aO (v2.map cF)), .cells [(bw v3)]] (by kernel_rfl) ?_;refine aR ?_;have h3:=fw J;replace J:=(dA h3).symm.trans J;obtain⟨v6,h4,J⟩:=ar J;obtain⟨v7,h5,J⟩:=ar J;refine rg [(10,⟨_,_, .pr (.ix ((v5).toNat)) (la (gJ (f:=cF) (ah3 h1)) (of_decide_eq_true h3) (of_decide_eq_true h2) rfl)⟩),(13,⟨_,_, .pr (.el ((cF v6).map AV.d)) (sB (f:=cF) (ah3 h1) h4)⟩),(16,⟨_,_, .rq (cQ:=[(cy v6),(.ptr 1 0)]) (h:=[.vec 54 22 (aO (v2.map cF)), .cells [(bw v3)]]) (l:=[1]) (by kernel_rfl) (by kernel_rfl) (by kernel_rfl) (by kernel_rfl) (Wb N v6 v3 v7 h5)⟩)] [(16,(aJ v7))] [.vec 54 22 (aO (v2.map cF)), .cells [(bw v3)]] (by kernel_rfl) ?_;rcases fQ v7 with h6|h6
   ·replace J:=(dA h6).symm.trans J;refine fB (t:=v7) (by kernel_rfl) h6 ?_;refine aR ?_;refine rg [] [(4,(ak v5))] [.vec 54 22 (aO (v2.map cF)), .cells [(bw v3)]] (by kernel_rfl) ?_;refine dN (fq (ej (ej (fq (ej ?_)))));have hr:=ah8 J;subst hr;exact lU (gq (xs:=(v2.map cF)) (dP trivial fh)) (by kernel_rfl)
   replace J:=(fS h6).symm.trans J;refine fv (t:=v7) (by kernel_rfl) h6 ?_;refine et ?_;refine iA ?_;refine cv ?_;refine re [] [(8,(ak (aV (v5+(1:Int))))),(18,(ak (aV (v5+(1:Int)))))] [.vec 54 22 (aO (v2.map cF)), .cells [(bw v3)]] (by kernel_rfl) ?_;refine cv ?_;exact⟨(v4,(aV (v5+(1:Int)))),⟨(gq (xs:=(v2.map cF)) (dP trivial fh)),by kernel_rfl⟩,J,aiC _⟩
  replace J:=(fS h2).symm.trans J;refine fv (t:=(decide (v5<(v1:Int)))) (by kernel_rfl) h2 ?_;refine kZ (gH (gH (lJ rfl ?_)));refine cv ?_;refine aR ?_;refine rg [] [(4,(ak (-1:Int)))] [.vec 54 22 (aO (v2.map cF)), .cells [(bw v3)]] (by kernel_rfl) ?_;refine dN ?_;have hr:=ah8 J;subst hr;exact lU (gq (xs:=(v2.map cF)) (dP trivial fh)) (by kernel_rfl)
def Ep(N:Nat)(v1:aiE aiF)(v2:aiE cf)(v3:aiE bX)(v4:Nat)(v5:aiE aiF)(v6:aiF)(v7:aiE aG):aiG Int:=
 Option.bind (Hg N v4 v7 v6) fun v8=>
 some v8
theorem XP(N:Nat)(v1:aiE aiF)(v2:aiE cf)(v3:aiE bX)(v4:Nat)(v5:aiE aiF)(v6:aiF)(v7:aiE aG)(r:Int)(J:Ep N v1 v2 v3 v4 v5 v6 v7=some r):bY Tryz.prog 16 [(.agg [(.d (.sl (aB v1))),(.d (.sl (bG v2))),(.d (.sl (bI v3))),(.vec 0 0 v4 v4 22),(.d (.sl (aB v5)))]),(bw v6)] [.vec 54 22 (aO (v7.map cF))] fun r1 h1=>r1=(ak r)∧h1=[.vec 54 22 (aO (v7.map cF))]:=by
 rw[Ep]at J;refine tu 1 Tryz.func16 rfl (by kernel_rfl) (ahX rfl) ?_;refine lP (s':=⟨9,[(0,(.agg [(.d (.sl (aB v1))),(.d (.sl (bG v2))),(.d (.sl (bI v3))),(.vec 0 0 v4 v4 22),(.d (.sl (aB v5)))])),(1,(bw v6))],[.vec 54 22 (aO (v7.map cF))]⟩) (by kernel_rfl) ?_;refine aR ?_;refine rg [] [(2,(.ptr 1 0)),(3,(.ptr 2 0))] [.vec 54 22 (aO (v7.map cF)), .cells [(.d (.sl (aB v1))),(.d (.sl (bG v2))),(.d (.sl (bI v3))),(.vec 0 0 v4 v4 22),(.d (.sl (aB v5)))], .cells [(bw v6)]] (by kernel_rfl) ?_;refine aR ?_;obtain⟨v8,h1,J⟩:=ar J;refine rg [(10,⟨_,_, .me (kH (xs:=(v7.map cF)) (zu gZ)) (kH (xs:=(v7.map cF)) (zu gZ)) (cQ:=[(.vec 0 0 v4 v4 22),(.fn 46 [(.ptr 2 0)])]) (h:=[.vec 54 22 (aO (v7.map cF)), .cells [(.d (.sl (aB v1))),(.d (.sl (bG v2))),(.d (.sl (bI v3))),(.vec 0 0 v4 v4 22),(.d (.sl (aB v5)))], .cells [(bw v6)]]) (l:=[0,2]) (by kernel_rfl) (by kernel_rfl) (by kernel_rfl) (by kernel_rfl) (aen N v4 v7 v6 v8 h1)⟩)] [(4,(ak v8))] [.vec 54 22 (aO (v7.map cF)), .cells [(.d (.sl (aB v1))),(.d (.sl (bG v2))),(.d (.sl (bI v3))),(.vec 0 0 v4 v4 22),(.d (.sl (aB v5)))], .cells [(bw v6)]] (by kernel_rfl) ?_;refine dN ?_;have hr:=ah8 J;subst hr;exact lU (gq (xs:=(v7.map cF)) fh) (by kernel_rfl)
def IS(N:Nat)(v1:aiE bj)(v2:aiE az):aiG ((aiE bj)×(aiE az)):=
 some (v1,v2)
theorem Yd(N:Nat)(v1:aiE bj)(v2:aiE az)(r:(aiE bj)×(aiE az))(J:IS N v1 v2=some r):bY Tryz.prog 56 [(.d (.sl (cu v1))),(.d (.sl (bJ v2)))] [] fun r1 h1=>r1=(.fn 88 [(.bt [[(.sl (cu r.1))]] 0 0),(.bt [[(.sl (bJ r.2))]] 0 0)])∧h1=[]:=by
 rw[IS]at J;refine D5 0 Tryz.func56 rfl (by kernel_rfl) (ahX rfl) ?_;refine lP (s':=⟨6,[(0,(.d (.sl (cu v1)))),(1,(.d (.sl (bJ v2))))],[]⟩) (by kernel_rfl) ?_;refine aR ?_;refine rg [] [(2,(.ptr 0 0)),(3,(.ptr 1 0))] [.cells [(.d (.sl (cu v1)))], .cells [(.d (.sl (bJ v2)))]] (by kernel_rfl) ?_;refine aR ?_;refine rg [] [(4,(.fn 88 [(.ptr 0 0),(.ptr 1 0)]))] [.cells [(.d (.sl (cu v1)))], .cells [(.d (.sl (bJ v2)))]] (by kernel_rfl) ?_;refine gF [4] 2 (ahX rfl) (s':=⟨6,[(4,(.fn 88 [(.ptr 0 0),(.ptr 1 0)]))],[.cells [(.d (.sl (cu v1)))], .cells [(.d (.sl (bJ v2)))]]⟩) (by kernel_rfl) ?_;refine Ut 0 (s':=⟨6,[(4,(.fn 88 [(.bt [[(.sl (cu v1))]] 0 0),(.ptr 1 0)]))],[.gone, .cells [(.d (.sl (bJ v2)))]]⟩) (by kernel_rfl) ?_;refine Ut 1 (s':=⟨6,[(4,(.fn 88 [(.bt [[(.sl (cu v1))]] 0 0),(.bt [[(.sl (bJ v2))]] 0 0)]))],[.gone, .gone]⟩) (by kernel_rfl) ?_;refine dN ?_;have hr:=ah8 J;subst hr;exact EK (by kernel_rfl)
def Jd(N:Nat)(v1:Int64):aiG ax:=
 some (⟨v1,[]⟩:ax)
theorem adz(N:Nat)(v1:Int64)(r:ax)(J:Jd N v1=some r):bg Tryz.prog 89 [(bu v1)] (·=(b9 r)):=by
 rw[Jd]at J;refine bD Tryz.func89 (by kernel_rfl) (by kernel_rfl) ?_;cases J;exact wr af [[],[]]
def Hx(N:Nat)(v1:aiF):aiG ax:=
 Option.bind (zw N v1) fun v2=>
 bif v2 then
  some (⟨(0:Int64),[(⟨v1,(1:Int64)⟩:aD)]⟩:ax)
 else
  some dS
theorem ab1(N:Nat)(v1:aiF)(r:ax)(J:Hx N v1=some r):bg Tryz.prog 90 [(bw v1)] (·=(b9 r)):=by
 rw[Hx]at J;refine bD Tryz.func90 (by kernel_rfl) (by kernel_rfl) ?_;obtain⟨v2,h1,J⟩:=ar J;refine au af [[],[(4,cL (CL N v1 v2 h1))]] ?_;refine bc J (fun h2 J=> ?_) fun h2 J=> ?_
 ·cases J;exact wr af [[(0,bF (cG h2))],[]]
 cases J;exact wr af [[(0,bT (cU h2))],[]]
def Gy(N:Nat)(v1:bj)(v2:aD):aiG Bool:=
 some (bL v1.ao==bL v2.ao)
theorem Yy(N:Nat)(v1:bj)(v2:aD)(r:Bool)(J:Gy N v1 v2=some r):bY Tryz.prog 92 [(qV v1),(.ptr 0 0)] [.cells (mM v2).cells] fun r1 h1=>r1=(aJ r)∧h1=[.cells (mM v2).cells]:=by
 rw[Gy]at J;refine eu 1 Tryz.func92 (by kernel_rfl) (by kernel_rfl) (ahX rfl) ?_;cases J;exact ca af [[],[]]
def ug(N:Nat)(v2:aD):aiE bj→Nat→aiG Int
 |[],_=>
  some (-1:Int)
 |v5::v6,v3=>
  Option.bind (Gy N v5 v2) fun v7=>
  bif v7 then
   some (v3:Int)
  else
   (ug N v2 v6 (v3+1))
def ES(N:Nat)(v1:aiE bj)(v2:aD):aiG Int:=
 ug N v2 v1 0
theorem afP(N:Nat)(v1:aiE bj)(v2:aD)(r:Int)(J:ES N v1 v2=some r):bY Tryz.prog 91 [(.d (.sl (cu v1))),(.fn 92 [(.ptr 0 0)])] [.cells (mM v2).cells] fun r1 h1=>r1=(ak r)∧h1=[.cells (mM v2).cells]:=by
 rw[ES]at J;refine eu 1 Tryz.func91 (by kernel_rfl) (by kernel_rfl) (ahX rfl) ?_;refine au af [[],[(4,oL v1 b5)]] ?_;refine dq 0 (cu v1) (by kernel_rfl) fun h1=> ?_;have h2:=cd b5 h1;refine cx af 1 [] [0,1,7,8] 1 (fun((v3,v4):Nat×(aiE bj))=>⟨19,[(0,(.d (.sl (cu v1)))),(1,(.fn 92 [(.ptr 0 0)])),(7,(ak (v1.length:Int))),(8,(ak (v3:Int)))],[.cells (mM v2).cells]⟩) (fun((v3,v4):Nat×(aiE bj))=>v1.drop v3=v4∧ug N v2 v4 v3=some r) (fun((v3,v4):Nat×(aiE bj))=>v4.length) (0,v1) ⟨rfl,J⟩ ?_;rintro⟨v3,v4⟩ ⟨h3,J⟩ f1 aN;cases v4 with
 |nil=>
  rw[ug]at J;cases J;exact ca af [[],[(0,bF (bO h3))],[]]
 |cons v5 v6=>
  rw[ug]at J;obtain⟨v7,h4,J⟩:=ar J;refine au af [[],[(0,bT (bN h3))],[],[(10,oE (jK (aU h3))),(16,⟨_,_, .rq (cQ:=[(qV v5),(.ptr 0 0)]) (h:=[.cells (mM v2).cells]) (l:=[0]) (by kernel_rfl) (by kernel_rfl) (by kernel_rfl) (by kernel_rfl) (Yy N v5 v2 v7 h4)⟩)]] ?_;refine bc J (fun h5 J=> ?_) fun h5 J=> ?_
  ·cases J;exact ca af [[(0,bT h5)],[]]
  exact ct af aN (v3+1,v6) [[(0,bF h5)],[(2,oq (bV h3 rfl h2))]] ⟨bR h3,J⟩
def zj(N:Nat)(v1:Int64):aiG Int:=
 bif (decide (v1.toInt<(0:Int)))then
  some (IntKind.u64.wrap (0-(IntKind.u64.wrap v1.toInt)))
 else
  some (IntKind.u64.wrap v1.toInt)
theorem Sr(N:Nat)(v1:Int64)(r:Int)(J:zj N v1=some r):bg Tryz.prog 160 [(bu v1)] (·=(.d (.v (.int .u64 r)))):=by
 rw[zj]at J;refine bD Tryz.func160 (by kernel_rfl) (by kernel_rfl) ?_;refine au af [[],[]] ?_;refine bc J (fun h1 J=> ?_) fun h1 J=> ?_
 ·cases J;exact wr af [[(0,bT h1)],[]]
 cases J;exact wr af [[(0,bF h1)],[]]
def EF(N:Nat)(v1:Int)(v2:Int):aiG (Int×Int):=
 some ((IntKind.u64.wrap ((IntKind.u64.wrap ((IntKind.u64.wrap (((v1).fdiv (2^(min ((32:Int)).toNat (IntKind.bits .u64))))*((v2).fdiv (2^(min ((32:Int)).toNat (IntKind.bits .u64))))))+(((IntKind.u64.wrap ((IntKind.u64.wrap (((v1).fdiv (2^(min ((32:Int)).toNat (IntKind.bits .u64))))*(IntKind.u64.wrap ((BitVec.ofInt (IntKind.bits .u64) v2&&&BitVec.ofInt (IntKind.bits .u64) (4294967295:Int)).toNat:Int))))+(((IntKind.u64.wrap ((IntKind.u64.wrap ((BitVec.ofInt (IntKind.bits .u64) v1&&&BitVec.ofInt (IntKind.bits .u64) (4294967295:Int)).toNat:Int))*(IntKind.u64.wrap ((BitVec.ofInt (IntKind.bits .u64) v2&&&BitVec.ofInt (IntKind.bits .u64) (4294967295:Int)).toNat:Int))))).fdiv (2^(min ((32:Int)).toNat (IntKind.bits .u64))))))).fdiv (2^(min ((32:Int)).toNat (IntKind.bits .u64))))))+(((IntKind.u64.wrap ((IntKind.u64.wrap ((IntKind.u64.wrap ((BitVec.ofInt (IntKind.bits .u64) v1&&&BitVec.ofInt (IntKind.bits .u64) (4294967295:Int)).toNat:Int))*((v2).fdiv (2^(min ((32:Int)).toNat (IntKind.bits .u64))))))+(IntKind.u64.wrap ((BitVec.ofInt (IntKind.bits .u64) (IntKind.u64.wrap ((IntKind.u64.wrap (((v1).fdiv (2^(min ((32:Int)).toNat (IntKind.bits .u64))))*(IntKind.u64.wrap ((BitVec.ofInt (IntKind.bits .u64) v2&&&BitVec.ofInt (IntKind.bits .u64) (4294967295:Int)).toNat:Int))))+(((IntKind.u64.wrap ((IntKind.u64.wrap ((BitVec.ofInt (IntKind.bits .u64) v1&&&BitVec.ofInt (IntKind.bits .u64) (4294967295:Int)).toNat:Int))*(IntKind.u64.wrap ((BitVec.ofInt (IntKind.bits .u64) v2&&&BitVec.ofInt (IntKind.bits .u64) (4294967295:Int)).toNat:Int))))).fdiv (2^(min ((32:Int)).toNat (IntKind.bits .u64))))))&&&BitVec.ofInt (IntKind.bits .u64) (4294967295:Int)).toNat:Int))))).fdiv (2^(min ((32:Int)).toNat (IntKind.bits .u64)))))),(IntKind.u64.wrap (v1*v2)))
theorem afo(N:Nat)(v1:Int)(v2:Int)(r:Int×Int)(J:EF N v1 v2=some r):bg Tryz.prog 159 [(.d (.v (.int .u64 v1))),(.d (.v (.int .u64 v2)))] (·=(.cb [(.d (.v (.int .u64 r.1))),(.d (.v (.int .u64 r.2)))])):=by
 rw[EF]at J;refine bD Tryz.func159 (by kernel_rfl) (by kernel_rfl) ?_;cases J;exact wr af [[],[],[(4,⟨_,_, .nn (b:=(32:Int)) (by decide)⟩),(19,⟨_,_, .nn (b:=(32:Int)) (by decide)⟩)],[(10,⟨_,_, .nn (b:=(32:Int)) (by decide)⟩)],[(4,⟨_,_, .nn (b:=(32:Int)) (by decide)⟩),(10,⟨_,_, .nn (b:=(32:Int)) (by decide)⟩),(19,⟨_,_, .nn (b:=(32:Int)) (by decide)⟩),(28,⟨_,_, .nn (b:=(32:Int)) (by decide)⟩)]]
def yd(N:Nat)(v1:Int64)(v2:Int64):aiG (Int64×Bool):=
 Option.bind (zj N v1) fun v3=>
 Option.bind (zj N v2) fun v4=>
 Option.bind (EF N v3 v4) fun v5=>
 Option.bind (bif (v5.1 !=(0:Int))then some true else(bif (decide (v5.2>(9223372036854775808:Int)))then some true else(bif (v5.2==(9223372036854775808:Int))then some (!(!((decide (v1.toInt<(0:Int)))==(decide (v2.toInt<(0:Int))))))else some false))) fun v6=>
 bif v6 then
  some ((0:Int64),false)
 else
  bif ((decide (v1.toInt<(0:Int)))==(decide (v2.toInt<(0:Int))))then
   some ((Int64.ofInt v5.2),true)
  else
   some ((Int64.ofInt (IntKind.u64.wrap (0-v5.2))),true)
theorem Qq(N:Nat)(v1:Int64)(v2:Int64)(r:Int64×Bool)(J:yd N v1 v2=some r):bg Tryz.prog 125 [(bu v1),(bu v2)] (·=(.cb [(bu r.1),(aJ r.2)])):=by
 rw[yd]at J;refine bD Tryz.func125 (by kernel_rfl) (by kernel_rfl) ?_;obtain⟨v3,h1,J⟩:=ar J;obtain⟨v4,h2,J⟩:=ar J;obtain⟨v5,h3,J⟩:=ar J;refine au af [[],[(4,cL (Sr N v1 v3 h1)),(10,cL (Sr N v2 v4 h2)),(13,cL (afo N v3 v4 v5 h3))],[]] ?_;obtain⟨v6,h7,J⟩:=ar J;refine cM af [(22,(aJ v6))] [] ?_ ?_
 ·refine bc h7 (fun h4 h7=> ?_) fun h4 h7=> ?_
  ·cases h7;exact⟨so (os [9,12,16] (bT h4) (os [21,24,27,36,40] (bT rfl) (os [30,33] uN []))),by kernel_rfl⟩
  refine bc h7 (fun h5 h7=> ?_) fun h5 h7=> ?_
  ·cases h7;exact⟨so (os [9,12,16] (bF h4) (os [21,24,27,36,40] (bT h5) (os [30,33] uN []))),by kernel_rfl⟩
  refine bc h7 (fun h6 h7=> ?_) fun h6 h7=> ?_
  ·cases h7;exact⟨so (os [9,12,16] (bF h4) (os [21,24,27,36,40] (bF h5) (os [30,33,37] (bT h6) []))),by kernel_rfl⟩
  cases h7;exact⟨so (os [9,12,16] (bF h4) (os [21,24,27,36,40] (bF h5) (os [30,33,37] (bF h6) []))),by kernel_rfl⟩
 refine bc J (fun h8 J=> ?_) fun h8 J=> ?_
 ·cases J;exact wr af [[(0,bT h8)],[]]
 refine au af [[(0,bF h8)],[]] ?_;refine bc J (fun h9 J=> ?_) fun h9 J=> ?_
 ·cases J;exact wr af [[(0,bF (cG h9))],[(5,⟨_,_, .eq (nF v5.2)⟩)]]
 cases J;exact wr af [[(0,bT (cU h9))],[(8,⟨_,_, .eq (nF (IntKind.u64.wrap (0-v5.2)))⟩)]]
def tJ(N:Nat)(v4:Int64×Bool)(v2:Int64):aiE aD→Nat→Bool→(aiE aD)→aiG (ax×Int)
 |[],_,v9,v10=>
  bif v9 then
   some ((⟨v4.1,v10⟩:ax),(0:Int))
  else
   some (dS,(3:Int))
 |v7::v8,v5,v9,v10=>
  Option.bind (yd N v7.dd v2) fun v11=>
  Option.bind (bif v9 then some v11.2 else some false) fun v12=>
  bif (Nat.ble ((v10.length+1)*24) 140737488355328)then
  (fun b6 dZ=>tJ N v4 v2 v8 (v5+1) b6 dZ) v12 (v10++[(⟨v7.ao,v11.1⟩:aD)])
  else none
def EG(N:Nat)(v1:ax)(v2:Int64):aiG (ax×Int):=
 Option.bind (rk N v1) fun v3=>
 bif (v3 !=(0:Int))then
  some (dS,(1:Int))
 else
  bif (v2.toInt==(0:Int))then
   some (dS,(0:Int))
  else
   Option.bind (yd N v1.xK v2) fun v4=>
   tJ N v4 v2 v1.xL 0 v4.2 []
theorem afV(N:Nat)(v1:ax)(v2:Int64)(r:ax×Int)(J:EG N v1 v2=some r):bg Tryz.prog 93 [(b9 v1),(bu v2)] (·=(.cb [(b9 r.1),(ak r.2)])):=by
 rw[EG]at J;refine bD Tryz.func93 (by kernel_rfl) (by kernel_rfl) ?_;obtain⟨v3,h1,J⟩:=ar J;refine au af [[],[(4,cL (vK N v1 v3 h1))]] ?_;refine bc J (fun h2 J=> ?_) fun h2 J=> ?_
 ·cases J;exact wr af [[(0,bT h2)],[]]
 refine au af [[(0,bF h2)],[]] ?_;refine bc J (fun h3 J=> ?_) fun h3 J=> ?_
 ·cases J;exact wr af [[(0,bT h3)],[]]
 obtain⟨v4,h4,J⟩:=ar J;refine au af [[(0,bF h3)],[(10,cL (Qq N v1.xK v2 v4 h4))],[],[(7,oL v1.xL bZ)]] ?_;refine nu 2 1 92 2 [] (.inr (by kernel_rfl)) ?_;refine dq 30 (bP v1.xL) (by kernel_rfl) fun h5=> ?_;have h6:=cd bZ h5;refine jt af 1 [] [1,4,7,8,30,31,32] 4 [] [(1,1)] (fun((v5,v6,v9,v10):Nat×(aiE aD)×Bool×(aiE aD))=>⟨61,[(1,(bu v2)),(4,(.ptr 1 0)),(7,(aJ v9)),(8,(.ptr 2 0)),(30,(.d (.sl (bP v1.xL)))),(31,(ak (v1.xL.length:Int))),(32,(ak (v5:Int)))],[.cells (b9 v1).cells, .cells m7, .cells [(bu v4.1),(.own 3 (bP v10))], .front 92 2 v10.length]⟩) (fun((v5,v6,v9,v10):Nat×(aiE aD)×Bool×(aiE aD))=>v1.xL.drop v5=v6∧tJ N v4 v2 v6 v5 v9 v10=some r) (fun((v5,v6,v9,v10):Nat×(aiE aD)×Bool×(aiE aD))=>v6.length) (0,v1.xL,v4.2,[]) ⟨rfl,J⟩ ?_;rintro⟨v5,v6,v9,v10⟩ ⟨h7,J⟩ f1 aN;cases v6 with
 |nil=>
  rw[tJ]at J;refine au af [[],[(0,bF (bO h7))],[]] ?_;refine bc J (fun h8 J=> ?_) fun h8 J=> ?_
  ·cases J;exact wr af [[(0,bF (cG h8))],[]]
  cases J;exact wr af [[(0,bT (cU h8))],[]]
 |cons v7 v8=>
  rw[tJ]at J;obtain⟨v11,h9,J⟩:=ar J;refine au af [[],[(0,bT (bN h7))],[(1,oE (eY (aU h7)))],[(10,cL (Qq N v7.dd v2 v11 h9))]] ?_;obtain⟨v12,a7,J⟩:=ar J;refine cM af [(7,(aJ v12))] [.cells (b9 v1).cells, .cells m7, .cells [(bu v4.1),(.own 3 (bP v10))], .front 92 2 v10.length, .cells (mM v7).cells] ?_ ?_
  ·refine bc a7 (fun aA a7=> ?_) fun aA a7=> ?_
   ·cases a7;exact⟨so (os [6,10] (bT aA) []),by kernel_rfl⟩
   cases a7;exact⟨so (os [6,10] (bF aA) []),by kernel_rfl⟩
  obtain⟨bk,J⟩:=dg J;exact gN af aN (v5+1,v8,v12,(v10++[(⟨v7.ao,v11.1⟩:aD)])) [[(22,⟨_,_, .app (xs:=bP v10) (ys:=bP [(⟨v7.ao,v11.1⟩:aD)]) (zs:=bP (v10++[(⟨v7.ao,v11.1⟩:aD)])) (n:=(v10++[(⟨v7.ao,v11.1⟩:aD)]).length) bZ.symm mm mm (by rw[(bZ (l:=v10)),(bZ (l:=[(⟨v7.ao,v11.1⟩:aD)]))];exact(de bk (by decide)).1) (by rw[(bZ (l:=v10)),(bZ (l:=[(⟨v7.ao,v11.1⟩:aD)]))];exact(de bk (by decide)).2) Gn (by first|(rw[(bZ (l:=v10)),(bZ (l:=[(⟨v7.ao,v11.1⟩:aD)]))];done)|(rw[(bZ (l:=v10)),(bZ (l:=[(⟨v7.ao,v11.1⟩:aD)]))];rfl)|(rw[(bZ (l:=v10)),(bZ (l:=[(⟨v7.ao,v11.1⟩:aD)])),ahQ];done)|(rw[(bZ (l:=v10)),(bZ (l:=[(⟨v7.ao,v11.1⟩:aD)])),ahQ];rfl)|(rw[(bZ (l:=v10)),(bZ (l:=[(⟨v7.ao,v11.1⟩:aD)])),ah9]))⟩)],[(2,oq (bV h7 rfl h6))]] ⟨bR h7,J⟩
def AE(N:Nat)(v1:Int64)(v2:Int64):aiG (Int64×Bool):=
 some ((v1+v2),((decide ((v1+v2).toInt>v1.toInt))==(decide (v2.toInt>(0:Int)))))
theorem PR(N:Nat)(v1:Int64)(v2:Int64)(r:Int64×Bool)(J:AE N v1 v2=some r):bg Tryz.prog 126 [(bu v1),(bu v2)] (·=(.cb [(bu r.1),(aJ r.2)])):=by
 rw[AE]at J;refine bD Tryz.func126 (by kernel_rfl) (by kernel_rfl) ?_;cases J;exact wr af [[],[(8,⟨_,_, .eq (LV v1 v2)⟩)],[]]
def wY(N:Nat)(v1:aiF)(v2:Int64)(v3:Int64)(v4:Bool)(v5:Int64)(v6:aiE aD):aiG (Bool×(aiE aD)):=
 Option.bind (AE N v2 v3) fun v7=>
 Option.bind (bif v4 then some v7.2 else some false) fun v8=>
 bif (v7.1.toInt !=(0:Int))then
  bif (Nat.ble ((v6.length+1)*24) 140737488355328)then
  some (v8,(v6++[(⟨v1,v7.1⟩:aD)]))
  else none
 else
  some (v8,v6)
theorem Kf(N:Nat)(v1:aiF)(v2:Int64)(v3:Int64)(v4:Bool)(v5:Int64)(v6:aiE aD)(r:Bool×(aiE aD))(J:wY N v1 v2 v3 v4 v5 v6=some r):bY Tryz.prog 128 [(bw v1),(bu v2),(bu v3),(.ptr 0 0),(.ptr 1 0)] [.cells [(aJ v4)], .cells [(bu v5),(.own 2 (bP v6))], .front 92 2 v6.length] fun r1 h1=>r1=(.cb [])∧h1=[.cells [(aJ r.1)], .cells [(bu v5),(.own 2 (bP r.2))], .front 92 2 r.2.length]:=by
 rw[wY]at J;refine eu 3 Tryz.func128 (by kernel_rfl) (by kernel_rfl) (ahX rfl) ?_;obtain⟨v7,h1,J⟩:=ar J;refine au af [[(7,cL (PR N v2 v3 v7 h1))]] ?_;obtain⟨v8,h3,J⟩:=ar J;refine cM af [] [.cells [(aJ v8)], .cells [(bu v5),(.own 2 (bP v6))], .front 92 2 v6.length] ?_ ?_
 ·refine bc h3 (fun h2 h3=> ?_) fun h2 h3=> ?_
  ·cases h3;exact⟨so (os [6,10] (bT h2) []),by kernel_rfl⟩
  cases h3;exact⟨so (os [6,10] (bF h2) []),by kernel_rfl⟩
 refine au af [[]] ?_;refine bc J (fun h4 J=> ?_) fun h4 J=> ?_
 ·obtain⟨h5,J⟩:=dg J;cases J;exact ca af [[(0,bT h4)],[(19,⟨_,_, .app (xs:=bP v6) (ys:=bP [(⟨v1,v7.1⟩:aD)]) (zs:=bP (v6++[(⟨v1,v7.1⟩:aD)])) (n:=(v6++[(⟨v1,v7.1⟩:aD)]).length) bZ.symm mm mm (by rw[(bZ (l:=v6)),(bZ (l:=[(⟨v1,v7.1⟩:aD)]))];exact(de h5 (by decide)).1) (by rw[(bZ (l:=v6)),(bZ (l:=[(⟨v1,v7.1⟩:aD)]))];exact(de h5 (by decide)).2) Gn (by first|(rw[(bZ (l:=v6)),(bZ (l:=[(⟨v1,v7.1⟩:aD)]))];done)|(rw[(bZ (l:=v6)),(bZ (l:=[(⟨v1,v7.1⟩:aD)]))];rfl)|(rw[(bZ (l:=v6)),(bZ (l:=[(⟨v1,v7.1⟩:aD)])),ahQ];done)|(rw[(bZ (l:=v6)),(bZ (l:=[(⟨v1,v7.1⟩:aD)])),ahQ];rfl)|(rw[(bZ (l:=v6)),(bZ (l:=[(⟨v1,v7.1⟩:aD)])),ah9]))⟩)]]
 cases J;exact ca af [[(0,bF h4)]]
def lN(N:Nat)(v4:Int64):Nat→(aiE aD)→(aiE aD)→Bool→(aiE aD)→aiG (Bool×(aiE aD))
 |0,_,_,_,_=>none
 |v5+1,v6,v7,v8,v9=>
  Option.bind (bif (decide ((v6.length:Int)>(0:Int)))then some true else some (decide ((v7.length:Int)>(0:Int)))) fun v10=>
  bif v10 then
   Option.bind (bif ((v7.length:Int)==(0:Int))then some true else(bif (decide ((v6.length:Int)>(0:Int)))then Option.bind (v6[0]?) fun v11=>
   Option.bind (v7[0]?) fun v12=>
   some (Op.bytesLess (bL v11.ao) (bL v12.ao))else some false)) fun aE=>
   bif aE then
    Option.bind (v6[0]?) fun aC=>
    Option.bind (wY N aC.ao aC.dd (0:Int64) v8 v4 v9) fun aP=>
    bif (decide (1≤v6.length))then
    (fun b6 dZ b1_2 kA=>lN N v4 v5 b6 dZ b1_2 kA) (v6.drop 1) v7 aP.1 aP.2
    else none
   else
    Option.bind (bif ((v6.length:Int)==(0:Int))then some true else Option.bind (v7[0]?) fun aW=>
    Option.bind (v6[0]?) fun aH=>
    some (Op.bytesLess (bL aW.ao) (bL aH.ao))) fun aT=>
    bif aT then
     Option.bind (v7[0]?) fun bK=>
     Option.bind (wY N bK.ao (0:Int64) bK.dd v8 v4 v9) fun v20=>
     bif (decide (1≤v7.length))then
     (fun b6 dZ b1_2 kA=>lN N v4 v5 b6 dZ b1_2 kA) v6 (v7.drop 1) v20.1 v20.2
     else none
    else
     Option.bind (v6[0]?) fun v21=>
     Option.bind (v7[0]?) fun di=>
     Option.bind (wY N v21.ao v21.dd di.dd v8 v4 v9) fun cS=>
     bif (decide (1≤v6.length))then
     bif (decide (1≤v7.length))then
     (fun b6 dZ b1_2 kA=>lN N v4 v5 b6 dZ b1_2 kA) (v6.drop 1) (v7.drop 1) cS.1 cS.2
     else none
     else none
  else
   some (v8,v9)
def Hi(N:Nat)(v1:aiE aD)(v2:aiE aD)(v3:Bool)(v4:Int64):aiG (Bool×(aiE aD)):=
 lN N v4 N v1 v2 v3 []
theorem abH(N:Nat)(v1:aiE aD)(v2:aiE aD)(v3:Bool)(v4:Int64)(r:Bool×(aiE aD))(J:Hi N v1 v2 v3 v4=some r):bY Tryz.prog 127 [(.d (.sl (bP v1))),(.d (.sl (bP v2))),(.fn 128 [(.ptr 0 0),(.ptr 1 0)])] [.cells [(aJ v3)], .cells [(bu v4),(.d (.v (.slice none 0 0)))]] fun r1 h1=>r1=(.cb [])∧h1=[.cells [(aJ r.1)], .cells [(bu v4),(.own 2 (bP r.2))], .front 92 2 r.2.length]:=by
 rw[Hi]at J;refine eu 3 Tryz.func127 (by kernel_rfl) (by kernel_rfl) (ahX rfl) ?_;refine nu 1 1 92 2 [] (.inr (by kernel_rfl)) ?_;refine cx af 1 [] [0,1,2] 3 (fun((v5,v6,v7,v8,v9):Nat×(aiE aD)×(aiE aD)×Bool×(aiE aD))=>⟨91,[(0,(.d (.sl (bP v6)))),(1,(.d (.sl (bP v7)))),(2,(.fn 128 [(.ptr 0 0),(.ptr 1 0)]))],[.cells [(aJ v8)], .cells [(bu v4),(.own 2 (bP v9))], .front 92 2 v9.length]⟩) (fun((v5,v6,v7,v8,v9):Nat×(aiE aD)×(aiE aD)×Bool×(aiE aD))=>lN N v4 v5 v6 v7 v8 v9=some r) (fun((v5,v6,v7,v8,v9):Nat×(aiE aD)×(aiE aD)×Bool×(aiE aD))=>v5) (N,v1,v2,v3,[]) J ?_;rintro⟨v5,v6,v7,v8,v9⟩ J f1 aN
 try dsimp only at J
 cases v5 with
 |zero=>
  rw[lN]at J;cases J
 |succ v5=>
  rw[lN]at J;obtain⟨v10,h2,J⟩:=ar J;refine cM af [(13,(aJ v10))] [.cells [(aJ v8)], .cells [(bu v4),(.own 2 (bP v9))], .front 92 2 v9.length] ?_ ?_
  ·refine bc h2 (fun h1 h2=> ?_) fun h1 h2=> ?_
   ·cases h2;exact⟨so (os [12,15,18,22] (bT h1) [(4,oL v6 bZ)]),by kernel_rfl⟩
   cases h2;exact⟨so (os [12,15,18,22] (bF h1) [(4,oL v6 bZ),(16,oL v7 bZ)]),by kernel_rfl⟩
  refine bc J (fun h3 J=> ?_) fun h3 J=> ?_
  ·refine au af [[(0,bT h3)]] ?_;obtain⟨aE,h8,J⟩:=ar J;refine cM af [(32,(aJ aE))] [.cells [(aJ v8)], .cells [(bu v4),(.own 2 (bP v9))], .front 92 2 v9.length] ?_ ?_
   ·refine bc h8 (fun h4 h8=> ?_) fun h4 h8=> ?_
    ·cases h8;exact⟨so (os [12,15,18,21,51,55] (bT h4) (os [24,27,30,33,36,39,42,45,48] uN [(4,oL v7 bZ)])),by kernel_rfl⟩
    refine bc h8 (fun h5 h8=> ?_) fun h5 h8=> ?_
    ·obtain⟨v11,h6,h8⟩:=ar h8;obtain⟨v12,h7,h8⟩:=ar h8;cases h8;exact⟨so (os [12,15,18,21,51,55] (bF h4) (os [24,27,30,33,36,39,42,45,48,52] (bT h5) [(4,oL v7 bZ),(16,oL v6 bZ),(28,oE (k:=0) (eY h6)),(40,oE (k:=0) (eY h7))])),by kernel_rfl⟩
    cases h8;exact⟨so (os [12,15,18,21,51,55] (bF h4) (os [24,27,30,33,36,39,42,45,48,52] (bF h5) [(4,oL v7 bZ),(16,oL v6 bZ)])),by kernel_rfl⟩
   refine bc J (fun h9 J=> ?_) fun h9 J=> ?_
   ·refine au af [[(0,bT h9)]] ?_;obtain⟨aC,aA,J⟩:=ar J;obtain⟨aP,a7,J⟩:=ar J;refine Mi af [(7,oE (k:=0) (eY aA)),(19,oE (k:=0) (eY aA)),(28,⟨_,_, .iK (cQ:=[(bw aC.ao),(bu aC.dd),(bu (0:Int64)),(.ptr 0 0),(.ptr 1 0)]) (h:=[.cells [(aJ v8)], .cells [(bu v4),(.own 2 (bP v9))], .front 92 2 v9.length]) (l:=[0,1,2]) (by kernel_rfl) (by kernel_rfl) (by kernel_rfl) (by kernel_rfl) (Kf N aC.ao aC.dd (0:Int64) v8 v4 v9 aP a7)⟩)] [] [.cells [(aJ aP.1)], .cells [(bu v4),(.own 2 (bP aP.2))], .front 92 2 aP.2.length] ?_;obtain⟨bk,J⟩:=dg J;exact ct af aN (v5,(v6.drop 1),v7,aP.1,aP.2) [[(4,⟨_,_, .DF (xs:=bP v6) (lo:=(1:Int)) (by decide) (by rw[bZ];exact(of_decide_eq_true bk)) mm Ia⟩)]] J
   refine au af [[(0,bF h9)]] ?_;obtain⟨aT,bo,J⟩:=ar J;refine cM af [(64,(aJ aT))] [.cells [(aJ v8)], .cells [(bu v4),(.own 2 (bP v9))], .front 92 2 v9.length] ?_ ?_
   ·refine bc bo (fun cg bo=> ?_) fun cg bo=> ?_
    ·cases bo;exact⟨so (os [12,15,18,21,24,27,30,33,36,40] (bT cg) [(4,oL v6 bZ)]),by kernel_rfl⟩
    obtain⟨aW,bm,bo⟩:=ar bo;obtain⟨aH,bQ,bo⟩:=ar bo;cases bo;exact⟨so (os [12,15,18,21,24,27,30,33,36,40] (bF cg) [(4,oL v6 bZ),(16,oE (k:=0) (eY bm)),(28,oE (k:=0) (eY bQ))]),by kernel_rfl⟩
   refine bc J (fun cC J=> ?_) fun cC J=> ?_
   ·refine au af [[(0,bT cC)]] ?_;obtain⟨bK,bW,J⟩:=ar J;obtain⟨v20,dh,J⟩:=ar J;refine Mi af [(7,oE (k:=0) (eY bW)),(19,oE (k:=0) (eY bW)),(28,⟨_,_, .iK (cQ:=[(bw bK.ao),(bu (0:Int64)),(bu bK.dd),(.ptr 0 0),(.ptr 1 0)]) (h:=[.cells [(aJ v8)], .cells [(bu v4),(.own 2 (bP v9))], .front 92 2 v9.length]) (l:=[0,1,2]) (by kernel_rfl) (by kernel_rfl) (by kernel_rfl) (by kernel_rfl) (Kf N bK.ao (0:Int64) bK.dd v8 v4 v9 v20 dh)⟩)] [] [.cells [(aJ v20.1)], .cells [(bu v4),(.own 2 (bP v20.2))], .front 92 2 v20.2.length] ?_;obtain⟨dH,J⟩:=dg J;exact ct af aN (v5,v6,(v7.drop 1),v20.1,v20.2) [[(4,⟨_,_, .DF (xs:=bP v7) (lo:=(1:Int)) (by decide) (by rw[bZ];exact(of_decide_eq_true dH)) mm Ia⟩)]] J
   refine au af [[(0,bF cC)]] ?_;obtain⟨v21,eJ,J⟩:=ar J;obtain⟨di,fk,J⟩:=ar J;obtain⟨cS,fg,J⟩:=ar J;refine Mi af [(7,oE (k:=0) (eY eJ)),(19,oE (k:=0) (eY eJ)),(31,oE (k:=0) (eY fk)),(40,⟨_,_, .iK (cQ:=[(bw v21.ao),(bu v21.dd),(bu di.dd),(.ptr 0 0),(.ptr 1 0)]) (h:=[.cells [(aJ v8)], .cells [(bu v4),(.own 2 (bP v9))], .front 92 2 v9.length]) (l:=[0,1,2]) (by kernel_rfl) (by kernel_rfl) (by kernel_rfl) (by kernel_rfl) (Kf N v21.ao v21.dd di.dd v8 v4 v9 cS fg)⟩)] [] [.cells [(aJ cS.1)], .cells [(bu v4),(.own 2 (bP cS.2))], .front 92 2 cS.2.length] ?_;obtain⟨eN,J⟩:=dg J;obtain⟨fu,J⟩:=dg J;exact ct af aN (v5,(v6.drop 1),(v7.drop 1),cS.1,cS.2) [[(4,⟨_,_, .DF (xs:=bP v6) (lo:=(1:Int)) (by decide) (by rw[bZ];exact(of_decide_eq_true eN)) mm Ia⟩),(10,⟨_,_, .DF (xs:=bP v7) (lo:=(1:Int)) (by decide) (by rw[bZ];exact(of_decide_eq_true fu)) mm Ia⟩)]] J
  cases J;exact ca af [[(0,bF h3)]]
def zx(N:Nat)(v1:ax)(v2:ax):aiG (ax×Int):=
 Option.bind (rk N v1) fun v3=>
 Option.bind (bif (v3 !=(0:Int))then some true else Option.bind (rk N v2) fun v4=>
 some (v4 !=(0:Int))) fun v5=>
 bif v5 then
  some (dS,(1:Int))
 else
  Option.bind (AE N v1.xK v2.xK) fun v6=>
  Option.bind (Hi N v1.xL v2.xL v6.2 v6.1) fun v7=>
  bif v7.1 then
   some ((⟨v6.1,v7.2⟩:ax),(0:Int))
  else
   some (dS,(3:Int))
theorem aap(N:Nat)(v1:ax)(v2:ax)(r:ax×Int)(J:zx N v1 v2=some r):bg Tryz.prog 94 [(b9 v1),(b9 v2)] (·=(.cb [(b9 r.1),(ak r.2)])):=by
 rw[zx]at J;refine bD Tryz.func94 (by kernel_rfl) (by kernel_rfl) ?_;refine au af [[]] ?_;obtain⟨v3,h1,J⟩:=ar J;obtain⟨v5,h4,J⟩:=ar J;refine cM af [(15,(aJ v5))] [.cells (b9 v1).cells, .cells (b9 v2).cells, .cells m7] ?_ ?_
 ·refine bc h4 (fun h2 h4=> ?_) fun h2 h4=> ?_
  ·cases h4;exact⟨so (os [12,15,18,22] (bT h2) [(4,cL (vK N v1 v3 h1))]),by kernel_rfl⟩
  obtain⟨v4,h3,h4⟩:=ar h4;cases h4;exact⟨so (os [12,15,18,22] (bF h2) [(4,cL (vK N v1 v3 h1)),(16,cL (vK N v2 v4 h3))]),by kernel_rfl⟩
 refine bc J (fun h5 J=> ?_) fun h5 J=> ?_
 ·cases J;exact wr af [[(0,bT h5)],[]]
 obtain⟨v6,h6,J⟩:=ar J;obtain⟨v7,h7,J⟩:=ar J;refine au af [[(0,bF h5)],[],[],[(13,cL (PR N v1.xK v2.xK v6 h6))],[(16,⟨_,_, .iK (cQ:=[(.d (.sl (bP v1.xL))),(.d (.sl (bP v2.xL))),(.fn 128 [(.ptr 4 0),(.ptr 3 0)])]) (h:=[.cells (b9 v1).cells, .cells (b9 v2).cells, .cells m7, .cells [(bu v6.1),(.d (.v (.slice none 0 0)))], .cells [(aJ v6.2)]]) (l:=[4,3]) (by kernel_rfl) (by kernel_rfl) (by kernel_rfl) (by kernel_rfl) (abH N v1.xL v2.xL v6.2 v6.1 v7 h7)⟩)],[]] ?_;refine bc J (fun h8 J=> ?_) fun h8 J=> ?_
 ·cases J;exact wr af [[(0,bF (cG h8))],[]]
 cases J;exact wr af [[(0,bT (cU h8))],[]]
def wV(N:Nat)(v7:aD)(v9:Int64)(v10:aiE aD)(gz:Int64→(aiE aD)→aiG (ax×Int))(aE:Int64)(aC:aiE aD):aiG (ax×Int):=
 Option.bind (EG N (⟨aE,aC⟩:ax) v7.dd) fun aP=>
 bif (aP.2 !=(0:Int))then
  some (dS,aP.2)
 else
  Option.bind (zx N (⟨v9,v10⟩:ax) aP.1) fun aW=>
  bif (aW.2 !=(0:Int))then
   some (dS,aW.2)
  else
   gz aW.1.xK aW.1.xL
def pn(N:Nat)(v2:aiE bj)(v3:aiE az):aiE aD→Nat→Int64→(aiE aD)→aiG (ax×Int)
 |[],_,v9,v10=>
  some ((⟨v9,v10⟩:ax),(0:Int))
 |v7::v8,v5,v9,v10=>
  Option.bind (Hx N v7.ao) fun v11=>
  Option.bind (ES N v2 v7) fun v12=>
  bif (decide (v12≥(0:Int)))then
   bif (decide ((0:Int)≤v12))then
   Option.bind (v3[(v12).toNat]?) fun aH=>
   wV N v7 v9 v10 (fun b6 dZ=>pn N v2 v3 v8 (v5+1) b6 dZ) aH.aK.xK aH.aK.xL
   else none
  else
   wV N v7 v9 v10 (fun b6 dZ=>pn N v2 v3 v8 (v5+1) b6 dZ) v11.xK v11.xL
def zH(N:Nat)(v1:ax)(v2:aiE bj)(v3:aiE az):aiG (ax×Int):=
 Option.bind (Jd N v1.xK) fun v4=>
 pn N v2 v3 v1.xL 0 v4.xK v4.xL
theorem MX(N:Nat)(v1:ax)(v2:aiE bj)(v3:aiE az)(r:ax×Int)(J:zH N v1 v2 v3=some r):bY Tryz.prog 88 [(b9 v1),(.bt [[(.sl (cu v2))]] 0 0),(.bt [[(.sl (bJ v3))]] 0 0)] [] fun r1 h1=>r1=(.cb [(b9 r.1),(ak r.2)])∧h1=[]:=by
 rw[zH]at J;refine eu 0 Tryz.func88 (by kernel_rfl) (by kernel_rfl) (ahX rfl) ?_;obtain⟨v4,h1,J⟩:=ar J;refine au af [[],[(7,cL (adz N v1.xK v4 h1))],[(7,oL v1.xL bZ)]] ?_;refine dq 17 (bP v1.xL) (by kernel_rfl) fun h2=> ?_;have h3:=cd bZ h2;refine jt af 1 [] [1,2,4,6,17,18,19] 3 [] [(1,1)] (fun((v5,v6,v9,v10):Nat×(aiE aD)×Int64×(aiE aD))=>⟨59,[(1,(.bt [[(.sl (cu v2))]] 0 0)),(2,(.bt [[(.sl (bJ v3))]] 0 0)),(4,(.ptr 1 0)),(6,(.ptr 2 0)),(17,(.d (.sl (bP v1.xL)))),(18,(ak (v1.xL.length:Int))),(19,(ak (v5:Int)))],[.cells (b9 v1).cells, .cells m7, .cells [(bu v9),(.d (.sl (bP v10)))]]⟩) (fun((v5,v6,v9,v10):Nat×(aiE aD)×Int64×(aiE aD))=>v1.xL.drop v5=v6∧pn N v2 v3 v6 v5 v9 v10=some r) (fun((v5,v6,v9,v10):Nat×(aiE aD)×Int64×(aiE aD))=>v6.length) (0,v1.xL,v4.xK,v4.xL) ⟨rfl,J⟩ ?_;rintro⟨v5,v6,v9,v10⟩ ⟨h4,J⟩ f1 aN;cases v6 with
 |nil=>
  rw[pn]at J;cases J;exact ca af [[],[(0,bF (bO h4))],[]]
 |cons v7 v8=>
  rw[pn]at J;obtain⟨v11,h5,J⟩:=ar J;obtain⟨v12,h6,J⟩:=ar J;refine abZ af 2 [[],[(0,bT (bN h4))],[(1,oE (eY (aU h4)))],[(7,cL (ab1 N v7.ao v11 h5))],[(7,⟨_,_, .rq (cQ:=[(.d (.sl (cu v2))),(.fn 92 [(.ptr 3 0)])]) (h:=[.cells (b9 v1).cells, .cells m7, .cells [(bu v9),(.d (.sl (bP v10)))], .cells (mM v7).cells, .cells (b9 v11).cells]) (l:=[3]) (by kernel_rfl) (by kernel_rfl) (by kernel_rfl) (by kernel_rfl) (afP N v2 v7 v12 h6)⟩)],[]] [1,2,4,6,8,9,17,18,19] 5 [] [(1,1)] (fun((aE,aC):Int64×(aiE aD))=>⟨59,[(1,(.bt [[(.sl (cu v2))]] 0 0)),(2,(.bt [[(.sl (bJ v3))]] 0 0)),(4,(.ptr 1 0)),(6,(.ptr 2 0)),(8,(.ptr 3 0)),(9,(.ptr 4 0)),(17,(.d (.sl (bP v1.xL)))),(18,(ak (v1.xL.length:Int))),(19,(ak (v5:Int)))],[.cells (b9 v1).cells, .cells m7, .cells [(bu v9),(.d (.sl (bP v10)))], .cells (mM v7).cells, .cells [(bu aE),(.d (.sl (bP aC)))]]⟩) (fun((aE,aC):Int64×(aiE aD))=>wV N v7 v9 v10 (fun b6 dZ=>pn N v2 v3 v8 (v5+1) b6 dZ) aE aC=some r) ?_ ?_
  ·intro f2 dU;refine bc J (fun a7 J=> ?_) fun a7 J=> ?_
   ·obtain⟨cg,J⟩:=dg J;obtain⟨aH,bk,J⟩:=ar J;exact Pd af dU (aH.aK.xK,aH.aK.xL) [[(0,bT a7)],[(7,⟨_,_, .el (xs:=bJ v3) (i:=v12) (of_decide_eq_true cg) (eH bk)⟩)]] J
   exact Pd af dU (v11.xK,v11.xL) [[(0,bF a7)]] J
  rintro⟨aE,aC⟩ J
  try dsimp only at J
  rw[wV]at J;obtain⟨aP,h7,J⟩:=ar J;refine au af [[(10,cL (afV N (⟨aE,aC⟩:ax) v7.dd aP h7))],[]] ?_;refine bc J (fun h8 J=> ?_) fun h8 J=> ?_
  ·cases J;exact ca af [[(0,bT h8)],[]]
  obtain⟨aW,h9,J⟩:=ar J;refine au af [[(0,bF h8)],[(7,cL (aap N (⟨v9,v10⟩:ax) aP.1 aW h9))],[]] ?_;refine bc J (fun aA J=> ?_) fun aA J=> ?_
  ·cases J;exact ca af [[(0,bT aA)],[]]
  exact gN af aN (v5+1,v8,aW.1.xK,aW.1.xL) [[(0,bF aA)],[(2,oq (bV h4 rfl h3))]] ⟨bR h4,J⟩
def uc(N:Nat)(v8:aiE az)(gz:(aiE az)→aiG ((aiE az)×Int))(v9:ax×Int)(v6:az)(v1:aiE bj)(v2:aiE az):aiE ax→Nat→Int64→(aiE aD)→(aiE ax)→aiG ((aiE az)×Int)
 |[],_,_,_,aW=>
  bif (Nat.ble ((v8.length+1)*72) 140737488355328)then
  gz (v8++[(⟨v9.1,v6.bn,aW⟩:az)])
  else none
 |v12::aE,v10,_,_,aW=>
  Option.bind (zH N v12 v1 v2) fun aH=>
  bif (aH.2 !=(0:Int))then
   some ([],aH.2)
  else
   bif (Nat.ble ((aW.length+1)*32) 140737488355328)then
   (fun fI qA agT=>uc N v8 gz v9 v6 v1 v2 aE (v10+1) fI qA agT) aH.1.xK aH.1.xL (aW++[aH.1])
   else none
def rB(N:Nat)(v1:aiE bj)(v2:aiE az):aiE az→Nat→(aiE az)→aiG ((aiE az)×Int)
 |[],_,v8=>
  some (v8,(0:Int))
 |v6::v7,v4,v8=>
  Option.bind (zH N v6.aK v1 v2) fun v9=>
  bif (v9.2 !=(0:Int))then
   some ([],v9.2)
  else
   uc N v8 (fun b6=>rB N v1 v2 v7 (v4+1) b6) v9 v6 v1 v2 v6.bp 0 v9.1.xK v9.1.xL []
def Dq(N:Nat)(v1:aiE bj)(v2:aiE az)(v3:aiE az):aiG ((aiE az)×Int):=
 rB N v1 v2 v3 0 []
theorem ag3(N:Nat)(v1:aiE bj)(v2:aiE az)(v3:aiE az)(r:(aiE az)×Int)(J:Dq N v1 v2 v3=some r):bY Tryz.prog 95 [(.fn 88 [(.bt [[(.sl (cu v1))]] 0 0),(.bt [[(.sl (bJ v2))]] 0 0)]),(.d (.sl (bJ v3)))] [] fun r1 h1=>r1=(.cb [(.d (.sl (bJ r.1))),(ak r.2)])∧h1=[]:=by
 rw[Dq]at J;refine eu 0 Tryz.func95 (by kernel_rfl) (by kernel_rfl) (ahX rfl) ?_;refine au af [[],[],[(4,oL v3 cn)]] ?_;refine nV 6 80 4 [] (.inr (by kernel_rfl)) ?_;refine dq 1 (bJ v3) (by kernel_rfl) fun h1=> ?_;have h2:=cd cn h1;refine cx af 1 [] [0,6,14,15,16] 1 (fun((v4,v5,v8):Nat×(aiE az)×(aiE az))=>⟨63,[(0,(.fn 88 [(.bt [[(.sl (cu v1))]] 0 0),(.bt [[(.sl (bJ v2))]] 0 0)])),(6,(.own 0 (bJ v8))),(14,(.d (.sl (bJ v3)))),(15,(ak (v3.length:Int))),(16,(ak (v4:Int)))],[.front 80 4 v8.length]⟩) (fun((v4,v5,v8):Nat×(aiE az)×(aiE az))=>v3.drop v4=v5∧rB N v1 v2 v5 v4 v8=some r) (fun((v4,v5,v8):Nat×(aiE az)×(aiE az))=>v5.length) (0,v3,[]) ⟨rfl,J⟩ ?_;rintro⟨v4,v5,v8⟩ ⟨h3,J⟩ f1 aN;cases v5 with
 |nil=>
  rw[rB]at J;cases J;exact ca af [[],[(0,bF (bO h3))],[]]
 |cons v6 v7=>
  rw[rB]at J;obtain⟨v9,h4,J⟩:=ar J;refine au af [[],[(0,bT (bN h3))],[(1,oE (eH (aU h3)))],[(10,⟨_,_, .rq (cQ:=[(b9 v6.aK),(.bt [[(.sl (cu v1))]] 0 0),(.bt [[(.sl (bJ v2))]] 0 0)]) (h:=[.front 80 4 v8.length, .cells (fx v6).cells]) (l:=[]) (by kernel_rfl) (by kernel_rfl) (by kernel_rfl) (by kernel_rfl) (MX N v6.aK v1 v2 v9 h4)⟩)],[]] ?_;refine bc J (fun h5 J=> ?_) fun h5 J=> ?_
  ·cases J;exact ca af [[(0,bT h5)],[]]
  refine au af [[(0,bF h5)],[],[(7,oL v6.bp bM)]] ?_;refine nu 3 3 48 2 [] (.inr (by kernel_rfl)) ?_;refine dq 35 (cz v6.bp) (by kernel_rfl) fun h6=> ?_;have h7:=cd bM h6;refine cx af 2 [] [0,6,9,11,14,15,16,35,36,37] 5 (fun((v10,v11,aC,aP,aW):Nat×(aiE ax)×Int64×(aiE aD)×(aiE ax))=>⟨63,[(0,(.fn 88 [(.bt [[(.sl (cu v1))]] 0 0),(.bt [[(.sl (bJ v2))]] 0 0)])),(6,(.own 0 (bJ v8))),(9,(.ptr 2 0)),(11,(.ptr 3 0)),(14,(.d (.sl (bJ v3)))),(15,(ak (v3.length:Int))),(16,(ak (v4:Int))),(35,(.d (.sl (cz v6.bp)))),(36,(ak (v6.bp.length:Int))),(37,(ak (v10:Int)))],[.front 80 4 v8.length, .cells (fx v6).cells, .cells [(bu aC),(.d (.sl (bP aP)))], .cells [(bu v9.1.xK),(.d (.sl (bP v9.1.xL))),(bw v6.bn),(.own 4 (cz aW))], .front 48 2 aW.length]⟩) (fun((v10,v11,aC,aP,aW):Nat×(aiE ax)×Int64×(aiE aD)×(aiE ax))=>v6.bp.drop v10=v11∧uc N v8 (fun b6=>rB N v1 v2 v7 (v4+1) b6) v9 v6 v1 v2 v11 v10 aC aP aW=some r) (fun((v10,v11,aC,aP,aW):Nat×(aiE ax)×Int64×(aiE aD)×(aiE ax))=>v11.length) (0,v6.bp,v9.1.xK,v9.1.xL,[]) ⟨rfl,J⟩ ?_;rintro⟨v10,v11,aC,aP,aW⟩ ⟨h8,J⟩ f2 dU;cases v11 with
  |nil=>
   rw[uc]at J;obtain⟨h9,J⟩:=dg J;exact ct af aN (v4+1,v7,(v8++[(⟨v9.1,v6.bn,aW⟩:az)])) [[],[(0,bF (bO h8))],[(10,⟨_,_, .app (xs:=bJ v8) (ys:=bJ [(⟨v9.1,v6.bn,aW⟩:az)]) (zs:=bJ (v8++[(⟨v9.1,v6.bn,aW⟩:az)])) (n:=(v8++[(⟨v9.1,v6.bn,aW⟩:az)]).length) cn.symm vW vW (by rw[(cn (l:=v8)),(cn (l:=[(⟨v9.1,v6.bn,aW⟩:az)]))];exact(de h9 (by decide)).1) (by rw[(cn (l:=v8)),(cn (l:=[(⟨v9.1,v6.bn,aW⟩:az)]))];exact(de h9 (by decide)).2) Lg (by first|(rw[(cn (l:=v8)),(cn (l:=[(⟨v9.1,v6.bn,aW⟩:az)]))];done)|(rw[(cn (l:=v8)),(cn (l:=[(⟨v9.1,v6.bn,aW⟩:az)]))];rfl)|(rw[(cn (l:=v8)),(cn (l:=[(⟨v9.1,v6.bn,aW⟩:az)])),ahQ];done)|(rw[(cn (l:=v8)),(cn (l:=[(⟨v9.1,v6.bn,aW⟩:az)])),ahQ];rfl)|(rw[(cn (l:=v8)),(cn (l:=[(⟨v9.1,v6.bn,aW⟩:az)])),ah9]))⟩)],[(2,oq (bV h3 rfl h2))]] ⟨bR h3,J⟩
  |cons v12 aE=>
   rw[uc]at J;obtain⟨aH,aA,J⟩:=ar J;refine au af [[],[(0,bT (bN h8))],[(1,oE (hY (aU h8)))],[(7,⟨_,_, .rq (cQ:=[(b9 v12),(.bt [[(.sl (cu v1))]] 0 0),(.bt [[(.sl (bJ v2))]] 0 0)]) (h:=[.front 80 4 v8.length, .cells (fx v6).cells, .cells [(bu aC),(.d (.sl (bP aP)))], .cells [(bu v9.1.xK),(.d (.sl (bP v9.1.xL))),(bw v6.bn),(.own 4 (cz aW))], .front 48 2 aW.length, .cells (b9 v12).cells]) (l:=[]) (by kernel_rfl) (by kernel_rfl) (by kernel_rfl) (by kernel_rfl) (MX N v12 v1 v2 aH aA)⟩)],[]] ?_;refine bc J (fun a7 J=> ?_) fun a7 J=> ?_
   ·cases J;exact ca af [[(0,bT a7)],[]]
   obtain⟨bk,J⟩:=dg J;exact ct af dU (v10+1,aE,aH.1.xK,aH.1.xL,(aW++[aH.1])) [[(0,bF a7)],[(13,⟨_,_, .app (xs:=cz aW) (ys:=cz [aH.1]) (zs:=cz (aW++[aH.1])) (n:=(aW++[aH.1]).length) bM.symm nI nI (by rw[(bM (l:=aW)),(bM (l:=[aH.1]))];exact(de bk (by decide)).1) (by rw[(bM (l:=aW)),(bM (l:=[aH.1]))];exact(de bk (by decide)).2) Bw (by first|(rw[(bM (l:=aW)),(bM (l:=[aH.1]))];done)|(rw[(bM (l:=aW)),(bM (l:=[aH.1]))];rfl)|(rw[(bM (l:=aW)),(bM (l:=[aH.1])),ahQ];done)|(rw[(bM (l:=aW)),(bM (l:=[aH.1])),ahQ];rfl)|(rw[(bM (l:=aW)),(bM (l:=[aH.1])),ah9]))⟩)],[(2,oq (bV h8 rfl h7))]] ⟨bR h8,J⟩
def ui(N:Nat)(v3:aq)(v4:ax×Int)(v5:(aiE az)×Int)(Qp:(aiE bj)→(aiE az)→aq→aiG (aq×Int))(v1:aiE bj)(v2:aiE az):aiE aq→Nat→(aiE aq)→aiG (aq×Int)
 |[],_,v10=>
  some ((⟨v3.aX,v3.ao,v3.db,v3.aw,v4.1,v5.1,v10⟩:aq),(0:Int))
 |v8::v9,v6,v10=>
  Option.bind (Qp v1 v2 v8) fun v11=>
  bif (v11.2 !=(0:Int))then
   some (fV,v11.2)
  else
   bif (Nat.ble ((v10.length+1)*160) 140737488355328)then
   (fun b6=>ui N v3 v4 v5 Qp v1 v2 v9 (v6+1) b6) (v10++[v11.1])
   else none
def s4(N:Nat):Nat→(aiE bj)→(aiE az)→aq→aiG (aq×Int)
 |0,_,_,_=>none
 |d+1,v1,v2,v3=>
  Option.bind (zH N v3.aK v1 v2) fun v4=>
  bif (v4.2 !=(0:Int))then
   some (fV,v4.2)
  else
   Option.bind (Dq N v1 v2 v3.xIdx) fun v5=>
   bif (v5.2 !=(0:Int))then
    some (fV,v5.2)
   else
    ui N v3 v4 v5 (s4 N d) v1 v2 v3.aM 0 []
def HJ(N:Nat)(v1:aiE bj)(v2:aiE az)(v3:aq):aiG (aq×Int):=s4 N N v1 v2 v3
theorem Xu(N:Nat):∀d:Nat,(∀(v1:aiE bj)(v2:aiE az)(v3:aq)(r:aq×Int),s4 N d v1 v2 v3=some r→bY Tryz.prog 57 [(.fn 88 [(.bt [[(.sl (cu v1))]] 0 0),(.bt [[(.sl (bJ v2))]] 0 0)]),(aF v3)] [] fun r1 h1=>r1=(.cb [(aF r.1),(ak r.2)])∧h1=[]):=by
 intro d
 induction d with
 |zero=>intro v1 v2 v3 r J;rw[s4]at J;cases J
 |succ d ih=>
  have WU:=ih;intro v1 v2 v3 r J;rw[s4]at J;refine eu 0 Tryz.func57 (by kernel_rfl) (by kernel_rfl) (ahX rfl) ?_;obtain⟨v4,h1,J⟩:=ar J;refine au af [[],[],[(10,⟨_,_, .rq (cQ:=[(b9 v3.aK),(.bt [[(.sl (cu v1))]] 0 0),(.bt [[(.sl (bJ v2))]] 0 0)]) (h:=[.cells (aF v3).cells, .cells ir]) (l:=[]) (by kernel_rfl) (by kernel_rfl) (by kernel_rfl) (by kernel_rfl) (MX N v3.aK v1 v2 v4 h1)⟩)],[]] ?_;refine bc J (fun h2 J=> ?_) fun h2 J=> ?_
  ·cases J;exact ca af [[(0,bT h2)],[]]
  obtain⟨v5,h3,J⟩:=ar J;refine au af [[(0,bF h2)],[(10,⟨_,_, .rq (cQ:=[(.fn 88 [(.bt [[(.sl (cu v1))]] 0 0),(.bt [[(.sl (bJ v2))]] 0 0)]),(.d (.sl (bJ v3.xIdx)))]) (h:=[.cells (mu v3 [(bu v4.1.xK),(.d (.sl (bP v4.1.xL))),(.d (.sl (bJ v3.xIdx))),(.d (.sl (cT v3.aM)))]), .cells ir]) (l:=[]) (by kernel_rfl) (by kernel_rfl) (by kernel_rfl) (by kernel_rfl) (ag3 N v1 v2 v3.xIdx v5 h3)⟩)],[]] ?_;refine bc J (fun h4 J=> ?_) fun h4 J=> ?_
  ·cases J;exact ca af [[(0,bT h4)],[]]
  refine au af [[(0,bF h4)],[],[(7,oL v3.aM b7)]] ?_;refine nV 7 52 13 [] (.inr (by kernel_rfl)) ?_;refine dq 37 (cT v3.aM) (by kernel_rfl) fun h5=> ?_;have h6:=cd b7 h5;refine jt af 1 [] [0,3,4,7,37,38,39] 3 [] [(1,10),(1,11),(1,12)] (fun((v6,v7,v10):Nat×(aiE aq)×(aiE aq))=>⟨61,[(0,(.fn 88 [(.bt [[(.sl (cu v1))]] 0 0),(.bt [[(.sl (bJ v2))]] 0 0)])),(3,(.ptr 0 0)),(4,(.ptr 1 0)),(7,(.own 2 (cT v10))),(37,(.d (.sl (cT v3.aM)))),(38,(ak (v3.aM.length:Int))),(39,(ak (v6:Int)))],[.cells (mu v3 [(bu v4.1.xK),(.d (.sl (bP v4.1.xL))),(.d (.sl (bJ v5.1))),(.d (.sl (cT v3.aM)))]), .cells ir, .front 52 13 v10.length]⟩) (fun((v6,v7,v10):Nat×(aiE aq)×(aiE aq))=>v3.aM.drop v6=v7∧ui N v3 v4 v5 (s4 N d) v1 v2 v7 v6 v10=some r) (fun((v6,v7,v10):Nat×(aiE aq)×(aiE aq))=>v7.length) (0,v3.aM,[]) ⟨rfl,J⟩ ?_;rintro⟨v6,v7,v10⟩ ⟨h7,J⟩ f1 aN;cases v7 with
  |nil=>
   rw[ui]at J;cases J;exact ca af [[],[(0,bF (bO h7))],[],[]]
  |cons v8 v9=>
   rw[ui]at J;obtain⟨v11,h8,J⟩:=ar J;refine au af [[],[(0,bT (bN h7))],[(1,oE (ik (aU h7)))],[(7,⟨_,_, .rq (cQ:=[(.fn 88 [(.bt [[(.sl (cu v1))]] 0 0),(.bt [[(.sl (bJ v2))]] 0 0)]),(aF v8)]) (h:=[.cells (mu v3 [(bu v4.1.xK),(.d (.sl (bP v4.1.xL))),(.d (.sl (bJ v5.1))),(.d (.sl (cT v3.aM)))]), .cells ir, .front 52 13 v10.length, .cells (aF v8).cells]) (l:=[]) (by kernel_rfl) (by kernel_rfl) (by kernel_rfl) (by kernel_rfl) (WU v1 v2 v8 v11 h8)⟩)],[]] ?_;refine bc J (fun h9 J=> ?_) fun h9 J=> ?_
   ·cases J;exact ca af [[(0,bT h9)],[]]
   obtain⟨aA,J⟩:=dg J;exact gN af aN (v6+1,v9,(v10++[v11.1])) [[(0,bF h9)],[(8,⟨_,_, .eq (congrArg AV.full (kL [v11.1]).symm)⟩),(10,⟨_,_, .app (xs:=cT v10) (ys:=cT [v11.1]) (zs:=cT (v10++[v11.1])) (n:=(v10++[v11.1]).length) b7.symm rC rC (by rw[(b7 (l:=v10)),(b7 (l:=[v11.1]))];exact(de aA (by decide)).1) (by rw[(b7 (l:=v10)),(b7 (l:=[v11.1]))];exact(de aA (by decide)).2) HS (by first|(rw[(b7 (l:=v10)),(b7 (l:=[v11.1]))];done)|(rw[(b7 (l:=v10)),(b7 (l:=[v11.1]))];rfl)|(rw[(b7 (l:=v10)),(b7 (l:=[v11.1])),ahQ];done)|(rw[(b7 (l:=v10)),(b7 (l:=[v11.1])),ahQ];rfl)|(rw[(b7 (l:=v10)),(b7 (l:=[v11.1])),ah9]))⟩)],[(2,oq (bV h7 rfl h6))]] ⟨bR h7,J⟩
theorem YI(N:Nat)(v1:aiE bj)(v2:aiE az)(v3:aq)(r:aq×Int)(J:HJ N v1 v2 v3=some r):bY Tryz.prog 57 [(.fn 88 [(.bt [[(.sl (cu v1))]] 0 0),(.bt [[(.sl (bJ v2))]] 0 0)]),(aF v3)] [] fun r1 h1=>r1=(.cb [(aF r.1),(ak r.2)])∧h1=[]:=(Xu N N) v1 v2 v3 r J
def pK(N:Nat)(v1:aq)(QO:aq→aG→aiG (aq×Int))(v2:aG):aiE aq→Nat→(aiE aq)→aiG (aq×Int)
 |[],_,v10=>
  some ((⟨v1.aX,v1.ao,v1.db,v1.aw,v1.aK,v1.xIdx,v10⟩:aq),(0:Int))
 |v8::v9,v6,v10=>
  Option.bind (QO v8 v2) fun v11=>
  bif (v11.2 !=(0:Int))then
   some (fV,v11.2)
  else
   bif (Nat.ble ((v10.length+1)*160) 140737488355328)then
   (fun b6=>pK N v1 QO v2 v9 (v6+1) b6) (v10++[v11.1])
   else none
def oV(N:Nat):Nat→aq→aG→aiG (aq×Int)
 |0,_,_=>none
 |d+1,v1,v2=>
  Option.bind (bif (v1.aX==(3:Int))then some (bL v1.ao==bL v2.ao)else some false) fun v3=>
  bif v3 then
   Option.bind (IS N v2.aI v1.xIdx) fun v4=>
   Option.bind (HJ N v4.1 v4.2 v2.bx) fun v5=>
   some (v5.1,v5.2)
  else
   pK N v1 (oV N d) v2 v1.aM 0 []
def Ff(N:Nat)(v1:aq)(v2:aG):aiG (aq×Int):=oV N N v1 v2
theorem afx(N:Nat):∀d:Nat,(∀(v1:aq)(v2:aG)(r:aq×Int),oV N d v1 v2=some r→bg Tryz.prog 27 [(aF v1),(cy v2)] (·=(.cb [(aF r.1),(ak r.2)]))):=by
 intro d
 induction d with
 |zero=>intro v1 v2 r J;rw[oV]at J;cases J
 |succ d ih=>
  have ad3:=ih;intro v1 v2 r J;rw[oV]at J;refine bD Tryz.func27 (by kernel_rfl) (by kernel_rfl) ?_;refine au af [[]] ?_;obtain⟨v3,h2,J⟩:=ar J;refine cM af [(20,(aJ v3))] [.cells (aF v1).cells, .cells (cy v2).cells, .cells ir] ?_ ?_
  ·refine bc h2 (fun h1 h2=> ?_) fun h1 h2=> ?_
   ·cases h2;exact⟨so (os [12,15,18,21,24,28] (bT h1) []),by kernel_rfl⟩
   cases h2;exact⟨so (os [12,15,18,21,24,28] (bF h1) []),by kernel_rfl⟩
  refine bc J (fun h3 J=> ?_) fun h3 J=> ?_
  ·obtain⟨v4,h4,J⟩:=ar J;obtain⟨v5,h5,J⟩:=ar J;cases J;exact wr af [[(0,bT h3)],[(13,⟨_,_, .rq (cQ:=[(.d (.sl (cu v2.aI))),(.d (.sl (bJ v1.xIdx)))]) (h:=[.cells (aF v1).cells, .cells (cy v2).cells, .cells ir]) (l:=[]) (by kernel_rfl) (by kernel_rfl) (by kernel_rfl) (by kernel_rfl) (Yd N v2.aI v1.xIdx v4 h4)⟩),(22,⟨_,_, .rq (cQ:=[(.fn 88 [(.bt [[(.sl (cu v4.1))]] 0 0),(.bt [[(.sl (bJ v4.2))]] 0 0)]),(aF v2.bx)]) (h:=[.cells (aF v1).cells, .cells (cy v2).cells, .cells ir]) (l:=[]) (by kernel_rfl) (by kernel_rfl) (by kernel_rfl) (by kernel_rfl) (YI N v4.1 v4.2 v2.bx v5 h5)⟩)]]
  refine au af [[(0,bF h3)],[],[(7,oL v1.aM b7)]] ?_;refine nV 6 52 13 [] (.inr (by kernel_rfl)) ?_;refine dq 32 (cT v1.aM) (by kernel_rfl) fun h6=> ?_;have h7:=cd b7 h6;refine jt af 1 [] [2,3,4,6,32,33,34] 4 [] [(2,10),(2,11),(2,12)] (fun((v6,v7,v10):Nat×(aiE aq)×(aiE aq))=>⟨56,[(2,(.ptr 0 0)),(3,(.ptr 1 0)),(4,(.ptr 2 0)),(6,(.own 3 (cT v10))),(32,(.d (.sl (cT v1.aM)))),(33,(ak (v1.aM.length:Int))),(34,(ak (v6:Int)))],[.cells (aF v1).cells, .cells (cy v2).cells, .cells ir, .front 52 13 v10.length]⟩) (fun((v6,v7,v10):Nat×(aiE aq)×(aiE aq))=>v1.aM.drop v6=v7∧pK N v1 (oV N d) v2 v7 v6 v10=some r) (fun((v6,v7,v10):Nat×(aiE aq)×(aiE aq))=>v7.length) (0,v1.aM,[]) ⟨rfl,J⟩ ?_;rintro⟨v6,v7,v10⟩ ⟨h8,J⟩ f1 aN;cases v7 with
  |nil=>
   rw[pK]at J;cases J;exact wr af [[],[(0,bF (bO h8))],[],[]]
  |cons v8 v9=>
   rw[pK]at J;obtain⟨v11,h9,J⟩:=ar J;refine au af [[],[(0,bT (bN h8))],[(1,oE (ik (aU h8)))],[(7,cL (ad3 v8 v2 v11 h9))],[]] ?_;refine bc J (fun aA J=> ?_) fun aA J=> ?_
   ·cases J;exact wr af [[(0,bT aA)],[]]
   obtain⟨a7,J⟩:=dg J;exact gN af aN (v6+1,v9,(v10++[v11.1])) [[(0,bF aA)],[(8,⟨_,_, .eq (congrArg AV.full (kL [v11.1]).symm)⟩),(10,⟨_,_, .app (xs:=cT v10) (ys:=cT [v11.1]) (zs:=cT (v10++[v11.1])) (n:=(v10++[v11.1]).length) b7.symm rC rC (by rw[(b7 (l:=v10)),(b7 (l:=[v11.1]))];exact(de a7 (by decide)).1) (by rw[(b7 (l:=v10)),(b7 (l:=[v11.1]))];exact(de a7 (by decide)).2) HS (by first|(rw[(b7 (l:=v10)),(b7 (l:=[v11.1]))];done)|(rw[(b7 (l:=v10)),(b7 (l:=[v11.1]))];rfl)|(rw[(b7 (l:=v10)),(b7 (l:=[v11.1])),ahQ];done)|(rw[(b7 (l:=v10)),(b7 (l:=[v11.1])),ahQ];rfl)|(rw[(b7 (l:=v10)),(b7 (l:=[v11.1])),ah9]))⟩)],[(2,oq (bV h8 rfl h7))]] ⟨bR h8,J⟩
theorem WS(N:Nat)(v1:aq)(v2:aG)(r:aq×Int)(J:Ff N v1 v2=some r):bg Tryz.prog 27 [(aF v1),(cy v2)] (·=(.cb [(aF r.1),(ak r.2)])):=(afx N N) v1 v2 r J
def He(N:Nat)(v1:aiE aG)(v2:Int)(v3:Nat):aiG (aiE aG):=bif Nat.beq v1.length v3&&(decide ((0:Int)≤v2)&&(Nat.blt v2.toNat v3&&Nat.blt v3 9223372036854775807))then some (v1.take v2.toNat++v1.drop (v2.toNat+1))else none
theorem Wk(N:Nat)(v1:aiE aG)(v2:Int)(v3:Nat)(r:aiE aG)(J:He N v1 v2 v3=some r):bY Tryz.prog 29 [(.vec 0 0 v3 v3 22),(ak v2),(ak (aV (v2+(1:Int))))] [.vec 54 22 (aO (v1.map cF))] fun r1 h1=>r1=(.vec 0 0 (v3-1) v3 22)∧h1=[.vec 54 22 (aO (r.map cF)++[List.replicate 22 .dead])]:=by
 obtain⟨hb,rfl⟩:=eh J;simp only[ahR]at hb;obtain⟨h1,h2,h3,h4⟩:=hb;have h1:=ah3 h1;have h2:=of_decide_eq_true h2;have h3:v2.toNat<v3:=ahX h3;have h4:v3<9223372036854775807:=ahX h4;have e3:aV (v2+(1:Int))=((v2.toNat+1:Nat):Int):=by unfold aV;rw[IntKind.wrap_i64];omega
 have e4:((v2.toNat:Nat):Int)=v2:=Int.toNat_of_nonneg h2;have h:=adf (xs:=v1.map cF) h3 (by rw[ahU];exact h1) (oY (fun _=>rfl) _);rw[XV,e4]at h;rw[e3];exact h
end Go.Proofs.YtphmhnabilhbgaaGreatDoor
