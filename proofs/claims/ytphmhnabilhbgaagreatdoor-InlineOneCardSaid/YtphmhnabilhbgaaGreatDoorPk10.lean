/-
  Part 10 of the proof: PQ2.
-/
import Derived.Test.YtphmhnabilhbgaaGreatDoorPk9
namespace Go.Proofs.YtphmhnabilhbgaaGreatDoor
open Go.RowKit
set_option maxRecDepth 100000
set_option maxHeartbeats 0
set_option linter.unusedVariables false
def ji:List AV:=[(an (0:Int)),(an (0:Int)),(an (0:Int)),(an (0:Int)),(an (0:Int))]
def uj(N:Nat)(v1:aL)(v2:Bool):Option Int:=
 bif v2 then
  bif ((v1.bG.length:Int)==(0:Int))then
   some (11:Int)
  else
   some (0:Int)
 else
  bif (v1.cP==(5:Int))then
   Option.bind (bif (decide ((v1.bG.length:Int)>(0:Int)))then some true else some ((v1.aJ.length:Int)==(0:Int))) fun v3=>
   bif v3 then
    some (11:Int)
   else
    some (0:Int)
  else
   some (1:Int)
def DP(N:Nat)(v1:aL):Option Int:=
 bif (v1.cP==(0:Int))then
  bif (decide ((v1.bG.length:Int)>(0:Int)))then
   some (11:Int)
  else
   some (0:Int)
 else
  bif (v1.cP==(1:Int))then
   uj N v1 (v1.cP==(1:Int))
  else
   bif (v1.cP==(2:Int))then
    uj N v1 (v1.cP==(2:Int))
   else
    bif (v1.cP==(3:Int))then
     uj N v1 (v1.cP==(3:Int))
    else
     uj N v1 (v1.cP==(4:Int))
theorem aaq(N:Nat)(v1:aL)(r:Int)(J:DP N v1=some r):bm Tryz.prog 101 [(cE v1)] (·=(an r)):=by
 rw[DP]at J;refine bK Tryz.func101 (by kernel_rfl) (by kernel_rfl) ?_;refine au ai [[],[],[]] ?_;refine bc J (fun h1 J=> ?_) fun h1 J=> ?_
 ·refine au ai [[(0,bT h1)],[(7,oL v1.bG bV)]] ?_;refine bc J (fun h2 J=> ?_) fun h2 J=> ?_
  ·obtain rfl:=sj J;exact wr ai [[(0,bT h2)],[]]
  obtain rfl:=sj J;exact wr ai [[(0,bF h2)],[]]
 refine ma ai 1 [[(0,bF h1)],[]] [1,4,11] 1 (fun(v2:Bool)=>⟨32,[(1,(.ptr 0 0)),(4,(an v1.cP)),(11,(aM v2))],[.cells (cE v1).cells]⟩) (fun(v2:Bool)=>uj N v1 v2=some r) ?_ ?_
 ·intro f1 aV;refine bc J (fun h9 J=> ?_) fun h9 J=> ?_
  ·exact dT ai aV (v1.cP==(1:Int)) [[(0,bT h9)]] J
  refine au ai [[(0,bF h9)],[]] ?_;refine bc J (fun az J=> ?_) fun az J=> ?_
  ·exact dT ai aV (v1.cP==(2:Int)) [[(0,bT az)]] J
  refine au ai [[(0,bF az)],[]] ?_;refine bc J (fun aZ J=> ?_) fun aZ J=> ?_
  ·exact dT ai aV (v1.cP==(3:Int)) [[(0,bT aZ)]] J
  exact dT ai aV (v1.cP==(4:Int)) [[(0,bF aZ)],[]] J
 rintro v2 J
 try dsimp only at J
 rw[uj]at J;refine bc J (fun h3 J=> ?_) fun h3 J=> ?_
 ·refine au ai [[(0,bT h3)],[(7,oL v1.bG bV)]] ?_;refine bc J (fun h4 J=> ?_) fun h4 J=> ?_
  ·obtain rfl:=sj J;exact wr ai [[(0,bT h4)],[]]
  obtain rfl:=sj J;exact wr ai [[(0,bF h4)],[]]
 refine au ai [[(0,bF h3)],[]] ?_;refine bc J (fun h5 J=> ?_) fun h5 J=> ?_
 ·refine au ai [[(0,bT h5)]] ?_;obtain⟨v3,h7,J⟩:=ar J;refine cN ai [(31,(aM v3))] [.cells (cE v1).cells] ?_ ?_
  ·refine bc h7 (fun h6 h7=> ?_) fun h6 h7=> ?_
   ·obtain rfl:=sj h7;exact⟨so (os [15,18,21,24,28] (bT h6) [(7,oL v1.bG bV)]),by kernel_rfl⟩
   obtain rfl:=sj h7;exact⟨so (os [15,18,21,24,28] (bF h6) [(7,oL v1.bG bV),(22,oL v1.aJ bV)]),by kernel_rfl⟩
  refine bc J (fun h8 J=> ?_) fun h8 J=> ?_
  ·obtain rfl:=sj J;exact wr ai [[(0,bT h8)],[]]
  obtain rfl:=sj J;exact wr ai [[(0,bF h8)],[]]
 obtain rfl:=sj J;exact wr ai [[(0,bF h5)],[]]
def rF(N:Nat):List bk→Nat→(List ByteArray)→Option ((List ByteArray))
 |[],_,v7=>
  some v7
 |v5::v6,v3,v7=>
  bif (Nat.ble ((v7.length+1)*16) 140737488355328)then
  (fun ck=>rF N v6 (v3+1) ck) (v7++[v5.aq])
  else none
def Ck(N:Nat)(v1:aL):Option ((List ByteArray)):=
 Option.bind (zK N ([v1.aJ,v1.bG])) fun v2=>
 rF N v2 0 []
theorem ZW(N:Nat)(v1:aL)(r:(List ByteArray))(J:Ck N v1=some r):bm Tryz.prog 103 [(cE v1)] (·=(.d (.sl (ax r)))):=by
 rw[Ck]at J;refine bK Tryz.func103 (by kernel_rfl) (by kernel_rfl) ?_;obtain⟨v2,h1,J⟩:=ar J;refine au ai [[],[],[(16,cL (NA N ([v1.aJ,v1.bG]) v2 h1)),(19,oL v2 bV)]] ?_;refine m8 3 9 1 [] (.inr (by kernel_rfl)) ?_;refine dP 11 (cy v2) (by kernel_rfl) fun h2=> ?_;have h3:=cr bV h2;refine cC ai 1 [] [3,11,12,13] 2 (fun((v3,v4,v7):Nat×(List bk)×(List ByteArray))=>⟨24,[(3,(.own 1 (ax v7))),(11,(.d (.sl (cy v2)))),(12,(an (v2.length:Int))),(13,(an (v3:Int)))],[.cells (cE v1).cells, .front 9 1 v7.length]⟩) (fun((v3,v4,v7):Nat×(List bk)×(List ByteArray))=>v2.drop v3=v4∧rF N v4 v3 v7=some r) (fun((v3,v4,v7):Nat×(List bk)×(List ByteArray))=>v4.length) (0,v2,[]) ⟨rfl,J⟩ ?_;rintro⟨v3,v4,v7⟩ ⟨h4,J⟩ f1 aV;cases v4 with
 |nil=>
  rw[rF]at J;obtain rfl:=sj J;exact wr ai [[],[(0,bF (bS h4))],[]]
 |cons v5 v6=>
  rw[rF]at J;obtain⟨h5,J⟩:=c8 J;exact cx ai aV (v3+1,v6,(v7++[v5.aq])) [[],[(0,bT (bR h4))],[(1,oE (kg (bj h4)))],[(13,⟨_,_, .app (xs:=ax v7) (ys:=ax [v5.aq]) (zs:=ax (v7++[v5.aq])) (n:=(v7++[v5.aq]).length) bD.symm jz jz (by rw[(bD (l:=v7)),(bD (l:=[v5.aq]))];exact(cY h5 (by decide)).1) (by rw[(bD (l:=v7)),(bD (l:=[v5.aq]))];exact(cY h5 (by decide)).2) zD (by first|(rw[(bD (l:=v7)),(bD (l:=[v5.aq]))];done)|(rw[(bD (l:=v7)),(bD (l:=[v5.aq]))];rfl)|(rw[(bD (l:=v7)),(bD (l:=[v5.aq])),agu];done)|(rw[(bD (l:=v7)),(bD (l:=[v5.aq])),agu];rfl)|(rw[(bD (l:=v7)),(bD (l:=[v5.aq])),agN]))⟩)],[(2,oq (b8 h4 rfl h3))]] ⟨b7 h4,J⟩
def uW(N:Nat)(Q3:ao→Int→Option Int)(v2:Int):List ao→Nat→Int→Option Int
 |[],_,v7=>
  some v7
 |v5::v6,v3,v7=>
  Option.bind (Q3 v5 (a7 (v2-(1:Int)))) fun v8=>
  (fun ck=>uW N Q3 v2 v6 (v3+1) ck) (if(a7 ((1:Int)+v8))>v7 then(a7 ((1:Int)+v8))else v7)
def nr(N:Nat):Nat→ao→Int→Option Int
 |0,_,_=>none
 |d+1,v1,v2=>
  bif (decide (v2≤(1:Int)))then
   some v2
  else
   uW N (nr N d) v2 v1.aT 0 (1:Int)
def Lr(N:Nat)(v1:ao)(v2:Int):Option Int:=nr N N v1 v2
theorem Zg(N:Nat):∀d:Nat,(∀(v1:ao)(v2:Int)(r:Int),nr N d v1 v2=some r→bm Tryz.prog 199 [(aE v1),(an v2)] (·=(an r))):=by
 intro d
 induction d with
 |zero=>intro v1 v2 r J;rw[nr]at J;cases J
 |succ d ih=>
  have Xz:=ih;intro v1 v2 r J;rw[nr]at J;refine bK Tryz.func199 (by kernel_rfl) (by kernel_rfl) ?_;refine au ai [[],[]] ?_;refine bc J (fun h1 J=> ?_) fun h1 J=> ?_
  ·obtain rfl:=sj J;exact wr ai [[(0,bT h1)],[]]
  refine au ai [[(0,bF h1)],[],[(7,oL v1.aT ca)]] ?_;refine dP 12 (cW v1.aT) (by kernel_rfl) fun h2=> ?_;have h3:=cr ca h2;refine cC ai 1 [] [1,5,12,13,14] 1 (fun((v3,v4,v7):Nat×(List ao)×Int)=>⟨27,[(1,(an v2)),(5,(an v7)),(12,(.d (.sl (cW v1.aT)))),(13,(an (v1.aT.length:Int))),(14,(an (v3:Int)))],[.cells (aE v1).cells]⟩) (fun((v3,v4,v7):Nat×(List ao)×Int)=>v1.aT.drop v3=v4∧uW N (nr N d) v2 v4 v3 v7=some r) (fun((v3,v4,v7):Nat×(List ao)×Int)=>v4.length) (0,v1.aT,(1:Int)) ⟨rfl,J⟩ ?_;rintro⟨v3,v4,v7⟩ ⟨h4,J⟩ f1 aV;cases v4 with
  |nil=>
   rw[uW]at J;obtain rfl:=sj J;exact wr ai [[],[(0,bF (bS h4))],[]]
  |cons v5 v6=>
   rw[uW]at J;obtain⟨v8,h5,J⟩:=ar J;exact cx ai aV (v3+1,v6,(if(a7 ((1:Int)+v8))>v7 then(a7 ((1:Int)+v8))else v7)) [[],[(0,bT (bR h4))],[(1,oE (jn (bj h4)))],[(13,cL (Xz v5 (a7 (v2-(1:Int))) v8 h5))],[(2,oq (b8 h4 rfl h3))]] ⟨b7 h4,J⟩
theorem ae1(N:Nat)(v1:ao)(v2:Int)(r:Int)(J:Lr N v1 v2=some r):bm Tryz.prog 199 [(aE v1),(an v2)] (·=(an r)):=(Zg N N) v1 v2 r J
def Hr(N:Nat)(v1:ao):Option Int:=
 Option.bind (Lr N v1 (41:Int)) fun v2=>
 some v2
theorem acF(N:Nat)(v1:ao)(r:Int)(J:Hr N v1=some r):bm Tryz.prog 166 [(aE v1)] (·=(an r)):=by
 rw[Hr]at J;refine bK Tryz.func166 (by kernel_rfl) (by kernel_rfl) ?_;obtain⟨v2,h1,J⟩:=ar J;obtain rfl:=sj J;exact wr ai [[],[(4,cL (ae1 N v1 (41:Int) v2 h1))]]
def yk(N:Nat)(v1:ao):Option ao:=some v1
theorem Mu(N:Nat)(v1 r:ao)(J:yk N v1=some r):bm Tryz.prog 34 [(aE v1)] (·=(.fn 70 [(.bn [dw r] 0 0)])):=by
 cases J;exact ad3 v1
def sm(N:Nat):List ao→Int→Option Int
 |[],v3=>
  some v3
 |_::v5,v3=>
  bif (decide ((a7 (v3+(1:Int)))>(2000:Int)))then
   some (a7 (v3+(1:Int)))
  else
   (fun ck=>sm N v5 ck) (a7 (v3+(1:Int)))
def Bg(N:Nat)(v1:ao):Option Int:=
 Option.bind (yk N v1) fun v2=>
 sm N (dN v2) (0:Int)
theorem aeI(N:Nat)(v1:ao)(r:Int)(J:Bg N v1=some r):bm Tryz.prog 167 [(aE v1)] (·=(an r)):=by
 rw[Bg]at J;refine pY Tryz.func167 rfl (by kernel_rfl) ?_;refine gP [0] 0 (agE _) (s':=⟨12,[(0,(aE v1))],[]⟩) (by kernel_rfl) ?_;refine aN ?_;refine rg [] [(1,(.ptr 0 0))] [.cells (aE v1).cells] (by kernel_rfl) ?_;refine aN ?_;refine rg [] [(3,(.ptr 1 0))] [.cells (aE v1).cells, .cells [(an (0:Int))]] (by kernel_rfl) ?_;refine aN ?_;refine aN ?_;obtain⟨v2,h1,J⟩:=ar J;refine rg [(4,cL (Mu N v1 v2 h1))] [(5,(.fn 70 [(.bn [dw v2] 0 0)]))] [.cells (aE v1).cells, .cells [(an (0:Int))]] (by kernel_rfl) ?_;refine e6 ?_;refine gP [3,5] 2 (agB rfl) (s':=⟨12,[(3,(.ptr 1 0)),(5,(.fn 70 [(.bn [dw v2] 0 0)]))],[.cells (aE v1).cells, .cells [(an (0:Int))]]⟩) (by kernel_rfl) ?_;refine F7 (m:=2) (enc:=aE) (xs:=(dN v2)) (by kernel_rfl) (LX v2) (fun(v3:Int)=>[.cells (aE v1).cells, .cells [(an v3)]]) (fun(v3:Int) l=>sm N l v3=some r) (0:Int) (by kernel_rfl) J (by rintro v3;rfl) (by rintro v3;kernel_rfl) (by kernel_rfl) rfl ?_ ?_
 ·rintro v3 v4 v5 J h2 j7 ko
  try dsimp only at J
  rw[sm]at J;refine gP [3] 3 (agE _) (s':=⟨12,[(3,(.ptr 1 0))],[.cells (aE v1).cells, .cells [(an v3)], .lp .ready 6 j7 ko (dG 12 [(3,(.ptr 1 0)),(5,(.fn 70 [(.bn [dw v2] 0 0)]))])]⟩) (by kernel_rfl) ?_;refine et ?_;refine cm ?_;refine⟨[.cells (aE v1).cells, .cells [(an v3)]],[],rfl,(by kernel_rfl),?_⟩;refine gP [3] 3 (agB rfl) (s':=⟨12,[(3,(.ptr 1 0))],[.cells (aE v1).cells, .cells [(an v3)], .lp .busy 6 j7 ko (dG 12 [(3,(.ptr 1 0)),(5,(.fn 70 [(.bn [dw v2] 0 0)]))])]⟩) (by kernel_rfl) ?_;refine e6 ?_;refine aN ?_;refine rg [] [] [.cells (aE v1).cells, .cells [(an (a7 (v3+(1:Int))))], .lp .busy 6 j7 ko (dG 12 [(3,(.ptr 1 0)),(5,(.fn 70 [(.bn [dw v2] 0 0)]))])] (by kernel_rfl) ?_;refine aN ?_;refine rg [] [(10,(aM (decide ((a7 (v3+(1:Int)))>(2000:Int)))))] [.cells (aE v1).cells, .cells [(an (a7 (v3+(1:Int))))], .lp .busy 6 j7 ko (dG 12 [(3,(.ptr 1 0)),(5,(.fn 70 [(.bn [dw v2] 0 0)]))])] (by kernel_rfl) ?_;rcases fP (decide ((a7 (v3+(1:Int)))>(2000:Int)))with h3|h3
  ·replace J:=(dx h3).symm.trans J;refine fz (t:=(decide ((a7 (v3+(1:Int)))>(2000:Int)))) (by kernel_rfl) h3 ?_;refine jZ (Sm rfl ?_);refine W2 [.cells (aE v1).cells, .cells [(an (a7 (v3+(1:Int))))]] rfl (by kernel_rfl) (by kernel_rfl) ?_;refine(kZ rfl ?_);refine cm ?_;refine aN ?_;refine rg [] [(2,(an (a7 (v3+(1:Int)))))] [.cells (aE v1).cells, .cells [(an (a7 (v3+(1:Int))))], .gone] (by kernel_rfl) ?_;refine dM ?_;have hr:=agM J;subst hr;exact gi (by kernel_rfl)
  replace J:=(fR h3).symm.trans J;refine ft (t:=(decide ((a7 (v3+(1:Int)))>(2000:Int)))) (by kernel_rfl) h3 ?_;refine et ?_;refine iJ ?_;refine Ih [.cells (aE v1).cells, .cells [(an (a7 (v3+(1:Int))))]] rfl (by kernel_rfl) (by kernel_rfl) ?_;exact⟨(a7 (v3+(1:Int))),(by kernel_rfl),J⟩
 rintro v3 J
 try dsimp only at J
 rw[sm]at J;refine iJ ?_;refine cm ?_;refine aN ?_;refine rg [] [(2,(an v3))] [.cells (aE v1).cells, .cells [(an v3)], .gone] (by kernel_rfl) ?_;refine dM ?_;have hr:=agM J;subst hr;exact gi (by kernel_rfl)
def yy(N:Nat)(v1:aw):Option Bool:=
 Option.bind (bif (v1.xK.toInt==(0:Int))then some ((v1.xL.length:Int)==(0:Int))else some false) fun v2=>
 some v2
theorem Uv(N:Nat)(v1:aw)(r:Bool)(J:yy N v1=some r):bm Tryz.prog 228 [(b9 v1)] (·=(aM r)):=by
 rw[yy]at J;refine bK Tryz.func228 (by kernel_rfl) (by kernel_rfl) ?_;refine au ai [[]] ?_;obtain⟨v2,h2,J⟩:=ar J;refine cN ai [(2,(aM v2))] [.cells (b9 v1).cells] ?_ ?_
 ·refine bc h2 (fun h1 h2=> ?_) fun h1 h2=> ?_
  ·obtain rfl:=sj h2;exact⟨so (os [12,15,18,21,25] (bT h1) [(19,oL v1.xL b6)]),by kernel_rfl⟩
  obtain rfl:=sj h2;exact⟨so (os [12,15,18,21,25] (bF h1) []),by kernel_rfl⟩
 obtain rfl:=sj J;exact wr ai []
def Bq(N:Nat)(v1:ay):Option Bool:=
 bif (bL v1.bp==bL (bs []))then
  some ((v1.bw.length:Int)==(0:Int))
 else
  Option.bind (yy N v1.aQ) fun v2=>
  some v2
theorem XT(N:Nat)(v1:ay)(r:Bool)(J:Bq N v1=some r):bm Tryz.prog 230 [(fX v1)] (·=(aM r)):=by
 rw[Bq]at J;refine bK Tryz.func230 (by kernel_rfl) (by kernel_rfl) ?_;refine au ai [[],[]] ?_;refine bc J (fun h1 J=> ?_) fun h1 J=> ?_
 ·obtain rfl:=sj J;exact wr ai [[(0,bT h1)],[(7,oL v1.bw bO)]]
 obtain⟨v2,h2,J⟩:=ar J;obtain rfl:=sj J;exact wr ai [[(0,bF h1)],[(7,cL (Uv N v1.aQ v2 h2))]]
def Ft(N:Nat)(v1:ay):Option Bool:=
 Option.bind (Bq N v1) fun v2=>
 some (!v2)
theorem ac4(N:Nat)(v1:ay)(r:Bool)(J:Ft N v1=some r):bm Tryz.prog 229 [(fX v1)] (·=(aM r)):=by
 rw[Ft]at J;refine bK Tryz.func229 (by kernel_rfl) (by kernel_rfl) ?_;obtain⟨v2,h1,J⟩:=ar J;obtain rfl:=sj J;exact wr ai [[],[(4,cL (XT N v1 v2 h1))]]
def wT(N:Nat):List ay→Nat→Option Int
 |[],_=>
  some (-1:Int)
 |v4::v5,v2=>
  Option.bind (Ft N v4) fun v6=>
  bif v6 then
   some (v2:Int)
  else
   (wT N v5 (v2+1))
def HF(N:Nat)(v1:List ay):Option Int:=
 wT N v1 0
theorem afZ(N:Nat)(v1:List ay)(r:Int)(J:HF N v1=some r):bW Tryz.prog 72 [(.d (.sl (bM v1))),(.fn 229 [])] [] fun r1 h1=>r1=(an r)∧h1=[]:=by
 rw[HF]at J;refine fy 0 Tryz.func72 (by kernel_rfl) (by kernel_rfl) (agB rfl) ?_;refine au ai [[],[(4,oL v1 cn)]] ?_;refine dP 0 (bM v1) (by kernel_rfl) fun h1=> ?_;have h2:=cr cn h1;refine cC ai 1 [] [0,1,7,8] 0 (fun((v2,v3):Nat×(List ay))=>⟨19,[(0,(.d (.sl (bM v1)))),(1,(.fn 229 [])),(7,(an (v1.length:Int))),(8,(an (v2:Int)))],[]⟩) (fun((v2,v3):Nat×(List ay))=>v1.drop v2=v3∧wT N v3 v2=some r) (fun((v2,v3):Nat×(List ay))=>v3.length) (0,v1) ⟨rfl,J⟩ ?_;rintro⟨v2,v3⟩ ⟨h3,J⟩ f1 aV;cases v3 with
 |nil=>
  rw[wT]at J;obtain rfl:=sj J;exact cQ ai [[],[(0,bF (bS h3))],[]]
 |cons v4 v5=>
  rw[wT]at J;obtain⟨v6,h4,J⟩:=ar J;refine au ai [[],[(0,bT (bR h3))],[],[(10,oE (eM (bj h3))),(16,cL (ac4 N v4 v6 h4))]] ?_;refine bc J (fun h5 J=> ?_) fun h5 J=> ?_
  ·obtain rfl:=sj J;exact cQ ai [[(0,bT h5)],[]]
  exact cx ai aV (v2+1,v5) [[(0,bF h5)],[(2,oq (b8 h3 rfl h2))]] ⟨b7 h3,J⟩
def Dx(N:Nat)(v1:List ay):Option Bool:=
 Option.bind (HF N v1) fun v2=>
 some (decide (v2≥(0:Int)))
theorem adt(N:Nat)(v1:List ay)(r:Bool)(J:Dx N v1=some r):bW Tryz.prog 36 [(.d (.sl (bM v1))),(.fn 229 [])] [] fun r1 h1=>r1=(aM r)∧h1=[]:=by
 rw[Dx]at J;refine fy 0 Tryz.func36 (by kernel_rfl) (by kernel_rfl) (agB rfl) ?_;obtain⟨v2,h1,J⟩:=ar J;obtain rfl:=sj J;exact cQ ai [[],[(7,⟨_,_, .rq (db:=[(.d (.sl (bM v1))),(.fn 229 [])]) (h:=[]) (l:=[]) (by kernel_rfl) (by kernel_rfl) (by kernel_rfl) (by kernel_rfl) (afZ N v1 v2 h1)⟩)]]
def Dd(N:Nat)(v1:ao):Option Bool:=
 Option.bind (bif (v1.bg==(1:Int))then some true else some (v1.bg==(12:Int))) fun v2=>
 Option.bind (bif (decide (v1.bg<(1:Int)))then some true else some (decide (v1.bg>(18:Int)))) fun v3=>
 bif v3 then
  some false
 else
  Option.bind (bif (v1.bg==(1:Int))then some false else some (!((v1.dK.xN.toInt==(0:Int64).toInt)&&((v1.dK.xD.toInt==(0:Int64).toInt)&&true)))) fun v4=>
  bif v4 then
   some false
  else
   Option.bind (bif v2 then some false else some (!((v1.aB.cA==(0:Int))&&((v1.aB.cD==(0:Int))&&((v1.aB.dg==(0:Int))&&((v1.aB.de==(0:Int))&&((v1.aB.dc==(0:Int))&&true))))))) fun v5=>
   bif v5 then
    some false
   else
    Option.bind (bif (v1.bg==(2:Int))then some false else Option.bind (yy N v1.aQ) fun v6=>
    some (!v6)) fun v7=>
    bif v7 then
     some false
    else
     Option.bind (bif (v1.bg==(3:Int))then some false else(bif (bL v1.aq==bL (bs []))then some (decide ((v1.xIdx.length:Int)>(0:Int)))else some true)) fun v8=>
     bif v8 then
      some false
     else
      Option.bind (Dx N v1.xIdx) fun v9=>
      some (!v9)
theorem Vw(N:Nat)(v1:ao)(r:Bool)(J:Dd N v1=some r):bm Tryz.prog 200 [(aE v1)] (·=(aM r)):=by
 rw[Dd]at J;refine bK Tryz.func200 (by kernel_rfl) (by kernel_rfl) ?_;refine au ai [[]] ?_;obtain⟨v2,h2,J⟩:=ar J;refine cN ai [(3,(aM (v1.bg==(1:Int)))),(4,(aM v2))] [.cells (aE v1).cells] ?_ ?_
 ·refine bc h2 (fun h1 h2=> ?_) fun h1 h2=> ?_
  ·obtain rfl:=sj h2;exact⟨so (os [21,24,27,31] (bT h1) []),by kernel_rfl⟩
  obtain rfl:=sj h2;exact⟨so (os [21,24,27,31] (bF h1) []),by kernel_rfl⟩
 refine au ai [[]] ?_;obtain⟨v3,h4,J⟩:=ar J;refine cN ai [(24,(aM v3))] [.cells (aE v1).cells] ?_ ?_
 ·refine bc h4 (fun h3 h4=> ?_) fun h3 h4=> ?_
  ·obtain rfl:=sj h4;exact⟨so (os [12,15,18,22] (bT h3) []),by kernel_rfl⟩
  obtain rfl:=sj h4;exact⟨so (os [12,15,18,22] (bF h3) []),by kernel_rfl⟩
 refine bc J (fun h5 J=> ?_) fun h5 J=> ?_
 ·obtain rfl:=sj J;exact wr ai [[(0,bT h5)],[]]
 refine au ai [[(0,bF h5)]] ?_;obtain⟨v4,h7,J⟩:=ar J;refine cN ai [(33,(aM v4))] [.cells (aE v1).cells] ?_ ?_
 ·refine bc h7 (fun h6 h7=> ?_) fun h6 h7=> ?_
  ·obtain rfl:=sj h7;exact⟨so (os [9,12,15,18,22] (bF (cG h6)) []),by kernel_rfl⟩
  obtain rfl:=sj h7;exact⟨so (os [9,12,15,18,22] (bT (cT h6)) []),by kernel_rfl⟩
 refine bc J (fun h8 J=> ?_) fun h8 J=> ?_
 ·obtain rfl:=sj J;exact wr ai [[(0,bT h8)],[]]
 refine au ai [[(0,bF h8)]] ?_;obtain⟨v5,az,J⟩:=ar J;refine cN ai [(42,(aM v5))] [.cells (aE v1).cells] ?_ ?_
 ·refine bc az (fun h9 az=> ?_) fun h9 az=> ?_
  ·obtain rfl:=sj az;exact⟨so (os [9,12,15,18,22] (bF (cG h9)) []),by kernel_rfl⟩
  obtain rfl:=sj az;exact⟨so (os [9,12,15,18,22] (bT (cT h9)) []),by kernel_rfl⟩
 refine bc J (fun aZ J=> ?_) fun aZ J=> ?_
 ·obtain rfl:=sj J;exact wr ai [[(0,bT aZ)],[]]
 refine au ai [[(0,bF aZ)]] ?_;obtain⟨v7,a8,J⟩:=ar J;refine cN ai [(51,(aM v7))] [.cells (aE v1).cells] ?_ ?_
 ·refine bc a8 (fun bf a8=> ?_) fun bf a8=> ?_
  ·obtain rfl:=sj a8;exact⟨so (os [9,12,15,18,22] (bF (cG bf)) []),by kernel_rfl⟩
  obtain⟨v6,b5,a8⟩:=ar a8;obtain rfl:=sj a8;exact⟨so (os [9,12,15,18,22] (bT (cT bf)) [(16,cL (Uv N v1.aQ v6 b5))]),by kernel_rfl⟩
 refine bc J (fun bA J=> ?_) fun bA J=> ?_
 ·obtain rfl:=sj J;exact wr ai [[(0,bT bA)],[]]
 refine au ai [[(0,bF bA)]] ?_;obtain⟨v8,bQ,J⟩:=ar J;refine cN ai [(60,(aM v8))] [.cells (aE v1).cells] ?_ ?_
 ·refine bc bQ (fun a9 bQ=> ?_) fun a9 bQ=> ?_
  ·obtain rfl:=sj bQ;exact⟨so (os [9,12,15,18,33,37] (bF (cG a9)) (os [21,24,27,30] uN [])),by kernel_rfl⟩
  refine bc bQ (fun cv bQ=> ?_) fun cv bQ=> ?_
  ·obtain rfl:=sj bQ;exact⟨so (os [9,12,15,18,33,37] (bT (cT a9)) (os [21,24,27,30,34] (bF (cG cv)) [(28,oL v1.xIdx cn)])),by kernel_rfl⟩
  obtain rfl:=sj bQ;exact⟨so (os [9,12,15,18,33,37] (bT (cT a9)) (os [21,24,27,30,34] (bT (cT cv)) [])),by kernel_rfl⟩
 refine bc J (fun dk J=> ?_) fun dk J=> ?_
 ·obtain rfl:=sj J;exact wr ai [[(0,bT dk)],[]]
 obtain⟨v9,dJ,J⟩:=ar J;obtain rfl:=sj J;exact wr ai [[(0,bF dk)],[(7,⟨_,_, .rq (db:=[(.d (.sl (bM v1.xIdx))),(.fn 229 [])]) (h:=[.cells (aE v1).cells]) (l:=[]) (by kernel_rfl) (by kernel_rfl) (by kernel_rfl) (by kernel_rfl) (adt N v1.xIdx v9 dJ)⟩)]]
def CG(N:Nat)(v1:ay):Option Bool:=
 Option.bind (bif (bL v1.bp==bL (bs []))then some false else Option.bind (sS N v1.bp) fun v2=>
 some (!v2)) fun v3=>
 some v3
theorem aeb(N:Nat)(v1:ay)(r:Bool)(J:CG N v1=some r):bm Tryz.prog 231 [(fX v1)] (·=(aM r)):=by
 rw[CG]at J;refine bK Tryz.func231 (by kernel_rfl) (by kernel_rfl) ?_;refine au ai [[]] ?_;obtain⟨v3,h3,J⟩:=ar J;refine cN ai [(2,(aM v3))] [.cells (fX v1).cells] ?_ ?_
 ·refine bc h3 (fun h1 h3=> ?_) fun h1 h3=> ?_
  ·obtain rfl:=sj h3;exact⟨so (os [12,15,18,21,25] (bF (cG h1)) []),by kernel_rfl⟩
  obtain⟨v2,h2,h3⟩:=ar h3;obtain rfl:=sj h3;exact⟨so (os [12,15,18,21,25] (bT (cT h1)) [(19,cL (Hg N v1.bp v2 h2))]),by kernel_rfl⟩
 obtain rfl:=sj J;exact wr ai []
def wH(N:Nat):List ay→Nat→Option Int
 |[],_=>
  some (-1:Int)
 |v4::v5,v2=>
  Option.bind (CG N v4) fun v6=>
  bif v6 then
   some (v2:Int)
  else
   (wH N v5 (v2+1))
def Hw(N:Nat)(v1:List ay):Option Int:=
 wH N v1 0
theorem abV(N:Nat)(v1:List ay)(r:Int)(J:Hw N v1=some r):bW Tryz.prog 72 [(.d (.sl (bM v1))),(.fn 231 [])] [] fun r1 h1=>r1=(an r)∧h1=[]:=by
 rw[Hw]at J;refine fy 0 Tryz.func72 (by kernel_rfl) (by kernel_rfl) (agB rfl) ?_;refine au ai [[],[(4,oL v1 cn)]] ?_;refine dP 0 (bM v1) (by kernel_rfl) fun h1=> ?_;have h2:=cr cn h1;refine cC ai 1 [] [0,1,7,8] 0 (fun((v2,v3):Nat×(List ay))=>⟨19,[(0,(.d (.sl (bM v1)))),(1,(.fn 231 [])),(7,(an (v1.length:Int))),(8,(an (v2:Int)))],[]⟩) (fun((v2,v3):Nat×(List ay))=>v1.drop v2=v3∧wH N v3 v2=some r) (fun((v2,v3):Nat×(List ay))=>v3.length) (0,v1) ⟨rfl,J⟩ ?_;rintro⟨v2,v3⟩ ⟨h3,J⟩ f1 aV;cases v3 with
 |nil=>
  rw[wH]at J;obtain rfl:=sj J;exact cQ ai [[],[(0,bF (bS h3))],[]]
 |cons v4 v5=>
  rw[wH]at J;obtain⟨v6,h4,J⟩:=ar J;refine au ai [[],[(0,bT (bR h3))],[],[(10,oE (eM (bj h3))),(16,cL (aeb N v4 v6 h4))]] ?_;refine bc J (fun h5 J=> ?_) fun h5 J=> ?_
  ·obtain rfl:=sj J;exact cQ ai [[(0,bT h5)],[]]
  exact cx ai aV (v2+1,v5) [[(0,bF h5)],[(2,oq (b8 h3 rfl h2))]] ⟨b7 h3,J⟩
def E9(N:Nat)(v1:List ay):Option Bool:=
 Option.bind (Hw N v1) fun v2=>
 some (decide (v2≥(0:Int)))
theorem WE(N:Nat)(v1:List ay)(r:Bool)(J:E9 N v1=some r):bW Tryz.prog 36 [(.d (.sl (bM v1))),(.fn 231 [])] [] fun r1 h1=>r1=(aM r)∧h1=[]:=by
 rw[E9]at J;refine fy 0 Tryz.func36 (by kernel_rfl) (by kernel_rfl) (agB rfl) ?_;obtain⟨v2,h1,J⟩:=ar J;obtain rfl:=sj J;exact cQ ai [[],[(7,⟨_,_, .rq (db:=[(.d (.sl (bM v1))),(.fn 231 [])]) (h:=[]) (l:=[]) (by kernel_rfl) (by kernel_rfl) (by kernel_rfl) (by kernel_rfl) (abV N v1 v2 h1)⟩)]]
def Ci(N:Nat)(v1:ao):Option Bool:=
 Option.bind (bif (v1.bg==(3:Int))then Option.bind (sS N v1.aq) fun v2=>
 some (!v2)else some false) fun v3=>
 bif v3 then
  some false
 else
  Option.bind (E9 N v1.xIdx) fun v4=>
  some (!v4)
theorem adY(N:Nat)(v1:ao)(r:Bool)(J:Ci N v1=some r):bm Tryz.prog 201 [(aE v1)] (·=(aM r)):=by
 rw[Ci]at J;refine bK Tryz.func201 (by kernel_rfl) (by kernel_rfl) ?_;refine au ai [[]] ?_;obtain⟨v3,h3,J⟩:=ar J;refine cN ai [(11,(aM v3))] [.cells (aE v1).cells] ?_ ?_
 ·refine bc h3 (fun h1 h3=> ?_) fun h1 h3=> ?_
  ·obtain⟨v2,h2,h3⟩:=ar h3;obtain rfl:=sj h3;exact⟨so (os [12,15,18,21,25] (bT h1) [(19,cL (Hg N v1.aq v2 h2))]),by kernel_rfl⟩
  obtain rfl:=sj h3;exact⟨so (os [12,15,18,21,25] (bF h1) []),by kernel_rfl⟩
 refine bc J (fun h4 J=> ?_) fun h4 J=> ?_
 ·obtain rfl:=sj J;exact wr ai [[(0,bT h4)],[]]
 obtain⟨v4,h5,J⟩:=ar J;obtain rfl:=sj J;exact wr ai [[(0,bF h4)],[(7,⟨_,_, .rq (db:=[(.d (.sl (bM v1.xIdx))),(.fn 231 [])]) (h:=[.cells (aE v1).cells]) (l:=[]) (by kernel_rfl) (by kernel_rfl) (by kernel_rfl) (by kernel_rfl) (WE N v1.xIdx v4 h5)⟩)]]
def Ac(N:Nat)(v1:Int)(v3:Bool):Option Int:=
 bif v3 then
  some (1:Int)
 else
  bif (v1==(11:Int))then
   some (3:Int)
  else
   some (2:Int)
def yT(N:Nat)(v1:Int)(v2:Bool):Option Int:=
 bif v2 then
  some (0:Int)
 else
  bif (v1==(8:Int))then
   Ac N v1 (v1==(8:Int))
  else
   bif (v1==(12:Int))then
    Ac N v1 (v1==(12:Int))
   else
    Ac N v1 (v1==(18:Int))
def C2(N:Nat)(v1:Int):Option Int:=
 bif (v1==(1:Int))then
  yT N v1 (v1==(1:Int))
 else
  bif (v1==(2:Int))then
   yT N v1 (v1==(2:Int))
  else
   yT N v1 (v1==(3:Int))
theorem Sf(N:Nat)(v1:Int)(r:Int)(J:C2 N v1=some r):bm Tryz.prog 232 [(an v1)] (·=(an r)):=by
 rw[C2]at J;refine bK Tryz.func232 (by kernel_rfl) (by kernel_rfl) ?_;refine ma ai 1 [[],[],[]] [3,4] 0 (fun(v2:Bool)=>⟨14,[(3,(an v1)),(4,(aM v2))],[]⟩) (fun(v2:Bool)=>yT N v1 v2=some r) ?_ ?_
 ·intro f1 aV;refine bc J (fun h6 J=> ?_) fun h6 J=> ?_
  ·exact dT ai aV (v1==(1:Int)) [[(0,bT h6)]] J
  refine au ai [[(0,bF h6)],[]] ?_;refine bc J (fun h7 J=> ?_) fun h7 J=> ?_
  ·exact dT ai aV (v1==(2:Int)) [[(0,bT h7)]] J
  exact dT ai aV (v1==(3:Int)) [[(0,bF h7)],[]] J
 rintro v2 J
 try dsimp only at J
 rw[yT]at J;refine bc J (fun h1 J=> ?_) fun h1 J=> ?_
 ·obtain rfl:=sj J;exact wr ai [[(0,bT h1)],[]]
 refine ma ai 2 [[(0,bF h1)],[]] [3,8] 0 (fun(v3:Bool)=>⟨14,[(3,(an v1)),(8,(aM v3))],[]⟩) (fun(v3:Bool)=>Ac N v1 v3=some r) ?_ ?_
 ·intro f2 dX;refine bc J (fun h4 J=> ?_) fun h4 J=> ?_
  ·exact dT ai dX (v1==(8:Int)) [[(0,bT h4)]] J
  refine au ai [[(0,bF h4)],[]] ?_;refine bc J (fun h5 J=> ?_) fun h5 J=> ?_
  ·exact dT ai dX (v1==(12:Int)) [[(0,bT h5)]] J
  exact dT ai dX (v1==(18:Int)) [[(0,bF h5)],[]] J
 rintro v3 J
 try dsimp only at J
 rw[Ac]at J;refine bc J (fun h2 J=> ?_) fun h2 J=> ?_
 ·obtain rfl:=sj J;exact wr ai [[(0,bT h2)],[]]
 refine au ai [[(0,bF h2)],[]] ?_;refine bc J (fun h3 J=> ?_) fun h3 J=> ?_
 ·obtain rfl:=sj J;exact wr ai [[(0,bT h3)],[]]
 obtain rfl:=sj J;exact wr ai [[(0,bF h3)],[]]
def F0(N:Nat)(v1:ay):Option Bool:=
 some (decide ((v1.bw.length:Int)>(6:Int)))
theorem X7(N:Nat)(v1:ay)(r:Bool)(J:F0 N v1=some r):bm Tryz.prog 233 [(fX v1)] (·=(aM r)):=by
 rw[F0]at J;refine bK Tryz.func233 (by kernel_rfl) (by kernel_rfl) ?_;obtain rfl:=sj J;exact wr ai [[],[(7,oL v1.bw bO)]]
def uJ(N:Nat):List ay→Nat→Option Int
 |[],_=>
  some (-1:Int)
 |v4::v5,v2=>
  Option.bind (F0 N v4) fun v6=>
  bif v6 then
   some (v2:Int)
  else
   (uJ N v5 (v2+1))
def HM(N:Nat)(v1:List ay):Option Int:=
 uJ N v1 0
theorem YB(N:Nat)(v1:List ay)(r:Int)(J:HM N v1=some r):bW Tryz.prog 72 [(.d (.sl (bM v1))),(.fn 233 [])] [] fun r1 h1=>r1=(an r)∧h1=[]:=by
 rw[HM]at J;refine fy 0 Tryz.func72 (by kernel_rfl) (by kernel_rfl) (agB rfl) ?_;refine au ai [[],[(4,oL v1 cn)]] ?_;refine dP 0 (bM v1) (by kernel_rfl) fun h1=> ?_;have h2:=cr cn h1;refine cC ai 1 [] [0,1,7,8] 0 (fun((v2,v3):Nat×(List ay))=>⟨19,[(0,(.d (.sl (bM v1)))),(1,(.fn 233 [])),(7,(an (v1.length:Int))),(8,(an (v2:Int)))],[]⟩) (fun((v2,v3):Nat×(List ay))=>v1.drop v2=v3∧uJ N v3 v2=some r) (fun((v2,v3):Nat×(List ay))=>v3.length) (0,v1) ⟨rfl,J⟩ ?_;rintro⟨v2,v3⟩ ⟨h3,J⟩ f1 aV;cases v3 with
 |nil=>
  rw[uJ]at J;obtain rfl:=sj J;exact cQ ai [[],[(0,bF (bS h3))],[]]
 |cons v4 v5=>
  rw[uJ]at J;obtain⟨v6,h4,J⟩:=ar J;refine au ai [[],[(0,bT (bR h3))],[],[(10,oE (eM (bj h3))),(16,cL (X7 N v4 v6 h4))]] ?_;refine bc J (fun h5 J=> ?_) fun h5 J=> ?_
  ·obtain rfl:=sj J;exact cQ ai [[(0,bT h5)],[]]
  exact cx ai aV (v2+1,v5) [[(0,bF h5)],[(2,oq (b8 h3 rfl h2))]] ⟨b7 h3,J⟩
def Gu(N:Nat)(v1:List ay):Option Bool:=
 Option.bind (HM N v1) fun v2=>
 some (decide (v2≥(0:Int)))
theorem Vz(N:Nat)(v1:List ay)(r:Bool)(J:Gu N v1=some r):bW Tryz.prog 36 [(.d (.sl (bM v1))),(.fn 233 [])] [] fun r1 h1=>r1=(aM r)∧h1=[]:=by
 rw[Gu]at J;refine fy 0 Tryz.func36 (by kernel_rfl) (by kernel_rfl) (agB rfl) ?_;obtain⟨v2,h1,J⟩:=ar J;obtain rfl:=sj J;exact cQ ai [[],[(7,⟨_,_, .rq (db:=[(.d (.sl (bM v1))),(.fn 233 [])]) (h:=[]) (l:=[]) (by kernel_rfl) (by kernel_rfl) (by kernel_rfl) (by kernel_rfl) (YB N v1 v2 h1)⟩)]]
def D9(N:Nat)(v1:ao):Option Bool:=
 Option.bind (C2 N v1.bg) fun v2=>
 Option.bind (bif ((v1.aT.length:Int) !=v2)then some true else some (decide ((v1.xIdx.length:Int)>(6:Int)))) fun v3=>
 bif v3 then
  some false
 else
  Option.bind (Gu N v1.xIdx) fun v4=>
  some (!v4)
theorem ab1(N:Nat)(v1:ao)(r:Bool)(J:D9 N v1=some r):bm Tryz.prog 202 [(aE v1)] (·=(aM r)):=by
 rw[D9]at J;refine bK Tryz.func202 (by kernel_rfl) (by kernel_rfl) ?_;refine au ai [[]] ?_;obtain⟨v2,h1,J⟩:=ar J;obtain⟨v3,h3,J⟩:=ar J;refine cN ai [(15,(aM v3))] [.cells (aE v1).cells] ?_ ?_
 ·refine bc h3 (fun h2 h3=> ?_) fun h2 h3=> ?_
  ·obtain rfl:=sj h3;exact⟨so (os [24,27,30,33,37] (bT h2) [(7,oL v1.aT ca),(16,cL (Sf N v1.bg v2 h1))]),by kernel_rfl⟩
  obtain rfl:=sj h3;exact⟨so (os [24,27,30,33,37] (bF h2) [(7,oL v1.aT ca),(16,cL (Sf N v1.bg v2 h1)),(31,oL v1.xIdx cn)]),by kernel_rfl⟩
 refine bc J (fun h4 J=> ?_) fun h4 J=> ?_
 ·obtain rfl:=sj J;exact wr ai [[(0,bT h4)],[]]
 obtain⟨v4,h5,J⟩:=ar J;obtain rfl:=sj J;exact wr ai [[(0,bF h4)],[(7,⟨_,_, .rq (db:=[(.d (.sl (bM v1.xIdx))),(.fn 233 [])]) (h:=[.cells (aE v1).cells]) (l:=[]) (by kernel_rfl) (by kernel_rfl) (by kernel_rfl) (by kernel_rfl) (Vz N v1.xIdx v4 h5)⟩)]]
def y4(N:Nat)(v1:ao):Option Bool:=
 Option.bind (bif (decide ((13:Int)≤v1.bg))then some (decide (v1.bg≤(18:Int)))else some false) fun v2=>
 some v2
theorem U6(N:Nat)(v1:ao)(r:Bool)(J:y4 N v1=some r):bm Tryz.prog 137 [(aE v1)] (·=(aM r)):=by
 rw[y4]at J;refine bK Tryz.func137 (by kernel_rfl) (by kernel_rfl) ?_;refine au ai [[]] ?_;obtain⟨v2,h2,J⟩:=ar J;refine cN ai [(2,(aM v2))] [.cells (aE v1).cells] ?_ ?_
 ·refine bc h2 (fun h1 h2=> ?_) fun h1 h2=> ?_
  ·obtain rfl:=sj h2;exact⟨so (os [12,15,18,22] (bT h1) []),by kernel_rfl⟩
  obtain rfl:=sj h2;exact⟨so (os [12,15,18,22] (bF h1) []),by kernel_rfl⟩
 obtain rfl:=sj J;exact wr ai []
def y9(N:Nat)(v1:Int)(v2:Int)(v3:Bool):Option Bool:=
 bif v3 then
  some true
 else
  Option.bind (bif (v1==(11:Int))then some (v2==(0:Int))else some false) fun v4=>
  some v4
def Bf(N:Nat)(v1:Int)(v2:Int):Option Bool:=
 bif (v1==(16:Int))then
  y9 N v1 v2 (v1==(16:Int))
 else
  bif (v1==(17:Int))then
   y9 N v1 v2 (v1==(17:Int))
  else
   y9 N v1 v2 (v1==(18:Int))
theorem ad7(N:Nat)(v1:Int)(v2:Int)(r:Bool)(J:Bf N v1 v2=some r):bm Tryz.prog 234 [(an v1),(an v2)] (·=(aM r)):=by
 rw[Bf]at J;refine bK Tryz.func234 (by kernel_rfl) (by kernel_rfl) ?_;refine ma ai 1 [[],[],[]] [0,1,6] 0 (fun(v3:Bool)=>⟨16,[(0,(an v1)),(1,(an v2)),(6,(aM v3))],[]⟩) (fun(v3:Bool)=>y9 N v1 v2 v3=some r) ?_ ?_
 ·intro f1 aV;refine bc J (fun h4 J=> ?_) fun h4 J=> ?_
  ·exact dT ai aV (v1==(16:Int)) [[(0,bT h4)]] J
  refine au ai [[(0,bF h4)],[]] ?_;refine bc J (fun h5 J=> ?_) fun h5 J=> ?_
  ·exact dT ai aV (v1==(17:Int)) [[(0,bT h5)]] J
  exact dT ai aV (v1==(18:Int)) [[(0,bF h5)],[]] J
 rintro v3 J
 try dsimp only at J
 rw[y9]at J;refine bc J (fun h1 J=> ?_) fun h1 J=> ?_
 ·obtain rfl:=sj J;exact wr ai [[(0,bT h1)],[]]
 refine au ai [[(0,bF h1)]] ?_;obtain⟨v4,h3,J⟩:=ar J;refine cN ai [(4,(aM v4))] [] ?_ ?_
 ·refine bc h3 (fun h2 h3=> ?_) fun h2 h3=> ?_
  ·obtain rfl:=sj h3;exact⟨so (os [9,12,16] (bT h2) []),by kernel_rfl⟩
  obtain rfl:=sj h3;exact⟨so (os [9,12,16] (bF h2) []),by kernel_rfl⟩
 obtain rfl:=sj J;exact wr ai []
def xH(N:Nat)(v1:ao):List ao→Nat→Option Bool
 |[],_=>
  some true
 |v7::v8,v5=>
  Option.bind (y4 N v7) fun v9=>
  Option.bind (Bf N v1.bg (v5:Int)) fun v10=>
  bif (v9==v10)then
   (xH N v1 v8 (v5+1))
  else
   some false
def Ek(N:Nat)(v1:ao):Option Bool:=
 Option.bind (bif (v1.bg==(1:Int))then Option.bind (sV N v1.aB) fun v2=>
 some (v2 !=(0:Int))else(bif (v1.bg==(12:Int))then Option.bind (sV N v1.aB) fun v3=>
 some (v3 !=(0:Int))else some false)) fun v4=>
 bif v4 then
  some false
 else
  xH N v1 v1.aT 0
theorem Zt(N:Nat)(v1:ao)(r:Bool)(J:Ek N v1=some r):bm Tryz.prog 203 [(aE v1)] (·=(aM r)):=by
 rw[Ek]at J;refine bK Tryz.func203 (by kernel_rfl) (by kernel_rfl) ?_;refine au ai [[]] ?_;obtain⟨v4,h5,J⟩:=ar J;refine cN ai [(18,(aM v4))] [.cells (aE v1).cells] ?_ ?_
 ·refine bc h5 (fun h1 h5=> ?_) fun h1 h5=> ?_
  ·obtain⟨v2,h2,h5⟩:=ar h5;obtain rfl:=sj h5;exact⟨so (os [12,15,18,22] (bT h1) (os [27,30,33,36,40] (bT rfl) [(34,cL (Gv N v1.aB v2 h2))])),by kernel_rfl⟩
  refine bc h5 (fun h3 h5=> ?_) fun h3 h5=> ?_
  ·obtain⟨v3,h4,h5⟩:=ar h5;obtain rfl:=sj h5;exact⟨so (os [12,15,18,22] (bF h1) (os [27,30,33,36,40] (bT h3) [(34,cL (Gv N v1.aB v3 h4))])),by kernel_rfl⟩
  obtain rfl:=sj h5;exact⟨so (os [12,15,18,22] (bF h1) (os [27,30,33,36,40] (bF h3) [])),by kernel_rfl⟩
 refine bc J (fun h6 J=> ?_) fun h6 J=> ?_
 ·obtain rfl:=sj J;exact wr ai [[(0,bT h6)],[]]
 refine au ai [[(0,bF h6)],[(7,oL v1.aT ca)]] ?_;refine dP 20 (cW v1.aT) (by kernel_rfl) fun h7=> ?_;have h8:=cr ca h7;refine cC ai 1 [] [1,20,21,22] 1 (fun((v5,v6):Nat×(List ao))=>⟨35,[(1,(.ptr 0 0)),(20,(.d (.sl (cW v1.aT)))),(21,(an (v1.aT.length:Int))),(22,(an (v5:Int)))],[.cells (aE v1).cells]⟩) (fun((v5,v6):Nat×(List ao))=>v1.aT.drop v5=v6∧xH N v1 v6 v5=some r) (fun((v5,v6):Nat×(List ao))=>v6.length) (0,v1.aT) ⟨rfl,J⟩ ?_;rintro⟨v5,v6⟩ ⟨h9,J⟩ f1 aV;cases v6 with
 |nil=>
  rw[xH]at J;obtain rfl:=sj J;exact wr ai [[],[(0,bF (bS h9))],[]]
 |cons v7 v8=>
  rw[xH]at J;obtain⟨v9,az,J⟩:=ar J;obtain⟨v10,aZ,J⟩:=ar J;refine au ai [[],[(0,bT (bR h9))],[(4,oE (jn (bj h9)))],[(4,cL (U6 N v7 v9 az)),(16,cL (ad7 N v1.bg (v5:Int) v10 aZ))]] ?_;refine bc J (fun bf J=> ?_) fun bf J=> ?_
  ·exact cx ai aV (v5+1,v8) [[(0,bF (cG bf))],[(2,oq (b8 h9 rfl h8))]] ⟨b7 h9,J⟩
  obtain rfl:=sj J;exact wr ai [[(0,bT (cT bf))],[]]
def DC(N:Nat)(v1:Int):Option Bool:=
 Option.bind (bif (decide (v1≥(2:Int)))then some (decide (v1≤(31:Int)))else some false) fun v2=>
 some v2
theorem UR(N:Nat)(v1:Int)(r:Bool)(J:DC N v1=some r):bm Tryz.prog 253 [(an v1)] (·=(aM r)):=by
 rw[DC]at J;refine bK Tryz.func253 (by kernel_rfl) (by kernel_rfl) ?_;refine au ai [[]] ?_;obtain⟨v2,h2,J⟩:=ar J;refine cN ai [(2,(aM v2))] [] ?_ ?_
 ·refine bc h2 (fun h1 h2=> ?_) fun h1 h2=> ?_
  ·obtain rfl:=sj h2;exact⟨so (os [9,12,16] (bT h1) []),by kernel_rfl⟩
  obtain rfl:=sj h2;exact⟨so (os [9,12,16] (bF h1) []),by kernel_rfl⟩
 obtain rfl:=sj J;exact wr ai []
def FX(N:Nat)(v1:Int):Option Int64:=
 Option.bind (DC N v1) fun v2=>
 bif v2 then
  bif (decide ((0:Int)≤(IntKind.u64.wrap (a7 (v1-(1:Int))))))then
  some (-(Int64.ofInt ((1:Int)*2^(min ((IntKind.u64.wrap (a7 (v1-(1:Int))))).toNat (IntKind.bits .i64)))))
  else none
 else
  some (0:Int64)
theorem O8(N:Nat)(v1:Int)(r:Int64)(J:FX N v1=some r):bm Tryz.prog 245 [(an v1)] (·=(bt r)):=by
 rw[FX]at J;refine bK Tryz.func245 (by kernel_rfl) (by kernel_rfl) ?_;obtain⟨v2,h1,J⟩:=ar J;refine au ai [[],[(4,cL (UR N v1 v2 h1))]] ?_;refine bc J (fun h2 J=> ?_) fun h2 J=> ?_
 ·obtain⟨h3,J⟩:=c8 J;obtain rfl:=sj J;exact wr ai [[(0,bF (cG h2))],[(10,⟨_,_, .nn (b:=(IntKind.u64.wrap (a7 (v1-(1:Int))))) (of_decide_eq_true h3)⟩),(11,⟨_,_, .eq (nw ((1:Int)*2^(min ((IntKind.u64.wrap (a7 (v1-(1:Int))))).toNat (IntKind.bits .i64))))⟩),(14,⟨_,_, .eq (FF (Int64.ofInt ((1:Int)*2^(min ((IntKind.u64.wrap (a7 (v1-(1:Int))))).toNat (IntKind.bits .i64)))))⟩)]]
 obtain rfl:=sj J;exact wr ai [[(0,bT (cT h2))],[]]
def Gx(N:Nat)(v1:Int):Option Int64:=
 Option.bind (DC N v1) fun v2=>
 bif v2 then
  bif (decide ((0:Int)≤(IntKind.u64.wrap (a7 (v1-(1:Int))))))then
  some ((Int64.ofInt ((1:Int)*2^(min ((IntKind.u64.wrap (a7 (v1-(1:Int))))).toNat (IntKind.bits .i64))))-(1:Int64))
  else none
 else
  some (0:Int64)
theorem Wx(N:Nat)(v1:Int)(r:Int64)(J:Gx N v1=some r):bm Tryz.prog 246 [(an v1)] (·=(bt r)):=by
 rw[Gx]at J;refine bK Tryz.func246 (by kernel_rfl) (by kernel_rfl) ?_;obtain⟨v2,h1,J⟩:=ar J;refine au ai [[],[(4,cL (UR N v1 v2 h1))]] ?_;refine bc J (fun h2 J=> ?_) fun h2 J=> ?_
 ·obtain⟨h3,J⟩:=c8 J;obtain rfl:=sj J;exact wr ai [[(0,bF (cG h2))],[(10,⟨_,_, .nn (b:=(IntKind.u64.wrap (a7 (v1-(1:Int))))) (of_decide_eq_true h3)⟩),(11,⟨_,_, .eq (nw ((1:Int)*2^(min ((IntKind.u64.wrap (a7 (v1-(1:Int))))).toNat (IntKind.bits .i64))))⟩),(14,⟨_,_, .eq (uE (Int64.ofInt ((1:Int)*2^(min ((IntKind.u64.wrap (a7 (v1-(1:Int))))).toNat (IntKind.bits .i64)))) (1:Int64))⟩)]]
 obtain rfl:=sj J;exact wr ai [[(0,bT (cT h2))],[]]
def DI(N:Nat)(v1:bB)(v2:gj):Option Bool:=
 Option.bind (y0 N v1) fun v3=>
 Option.bind (bif (v3==(0:Int))then(bif (v2.xD.toInt==(1:Int))then Option.bind (FX N v1.cD) fun v4=>
 (bif (decide (v2.xN.toInt≥v4.toInt))then Option.bind (Gx N v1.cD) fun v5=>
 some (decide (v2.xN.toInt≤v5.toInt))else some false)else some false)else some false) fun v6=>
 some v6
theorem ac0(N:Nat)(v1:bB)(v2:gj)(r:Bool)(J:DI N v1 v2=some r):bm Tryz.prog 235 [(e9 v1),(qE v2)] (·=(aM r)):=by
 rw[DI]at J;refine bK Tryz.func235 (by kernel_rfl) (by kernel_rfl) ?_;refine au ai [[]] ?_;obtain⟨v3,h1,J⟩:=ar J;obtain⟨v6,h7,J⟩:=ar J;refine cN ai [(4,(aM v6))] [.cells (e9 v1).cells, .cells (qE v2).cells] ?_ ?_
 ·refine bc h7 (fun h2 h7=> ?_) fun h2 h7=> ?_
  ·refine bc h7 (fun h3 h7=> ?_) fun h3 h7=> ?_
   ·obtain⟨v4,h4,h7⟩:=ar h7;refine bc h7 (fun h5 h7=> ?_) fun h5 h7=> ?_
    ·obtain⟨v5,h6,h7⟩:=ar h7;obtain rfl:=sj h7;exact⟨so (os [12,15,18,22] (bT h2) (os [27,30,33,36,39,42,46] (bT h3) (os [51,54,57,60,63,66,70] (bT h5) [(4,cL (DK N v1 v3 h1)),(40,cL (O8 N v1.cD v4 h4)),(64,cL (Wx N v1.cD v5 h6))]))),by kernel_rfl⟩
    obtain rfl:=sj h7;exact⟨so (os [12,15,18,22] (bT h2) (os [27,30,33,36,39,42,46] (bT h3) (os [51,54,57,60,63,66,70] (bF h5) [(4,cL (DK N v1 v3 h1)),(40,cL (O8 N v1.cD v4 h4))]))),by kernel_rfl⟩
   obtain rfl:=sj h7;exact⟨so (os [12,15,18,22] (bT h2) (os [27,30,33,36,39,42,46] (bF h3) (os [51,54,57,60,63,66,70] (bF rfl) [(4,cL (DK N v1 v3 h1))]))),by kernel_rfl⟩
  obtain rfl:=sj h7;exact⟨so (os [12,15,18,22] (bF h2) (os [27,30,33,36,39,42,46,51,54,57,60,63,66,70] (bF rfl) [(4,cL (DK N v1 v3 h1))])),by kernel_rfl⟩
 obtain rfl:=sj J;exact wr ai []
def H9(N:Nat)(v1:Int64):Option Bool:=
 Option.bind (bif (decide (v1.toInt≥(-2147483647:Int)))then some (decide (v1.toInt≤(2147483647:Int)))else some false) fun v2=>
 some v2
theorem adE(N:Nat)(v1:Int64)(r:Bool)(J:H9 N v1=some r):bm Tryz.prog 236 [(bt v1)] (·=(aM r)):=by
 rw[H9]at J;refine bK Tryz.func236 (by kernel_rfl) (by kernel_rfl) ?_;refine au ai [[]] ?_;obtain⟨v2,h2,J⟩:=ar J;refine cN ai [(2,(aM v2))] [] ?_ ?_
 ·refine bc h2 (fun h1 h2=> ?_) fun h1 h2=> ?_
  ·obtain rfl:=sj h2;exact⟨so (os [9,12,16] (bT h1) []),by kernel_rfl⟩
  obtain rfl:=sj h2;exact⟨so (os [9,12,16] (bF h1) []),by kernel_rfl⟩
 obtain rfl:=sj J;exact wr ai []
def HZ(N:Nat)(v1:Int64):Option Bool:=
 Option.bind (bif (decide (v1.toInt≥(-2147483647:Int)))then some (decide (v1.toInt≤(2147483647:Int)))else some false) fun v2=>
 some v2
theorem Oq(N:Nat)(v1:Int64)(r:Bool)(J:HZ N v1=some r):bm Tryz.prog 247 [(bt v1)] (·=(aM r)):=by
 rw[HZ]at J;refine bK Tryz.func247 (by kernel_rfl) (by kernel_rfl) ?_;refine au ai [[]] ?_;obtain⟨v2,h2,J⟩:=ar J;refine cN ai [(2,(aM v2))] [] ?_ ?_
 ·refine bc h2 (fun h1 h2=> ?_) fun h1 h2=> ?_
  ·obtain rfl:=sj h2;exact⟨so (os [9,12,16] (bT h1) []),by kernel_rfl⟩
  obtain rfl:=sj h2;exact⟨so (os [9,12,16] (bF h1) []),by kernel_rfl⟩
 obtain rfl:=sj J;exact wr ai []
def C5(N:Nat)(v1:Int64):Option Int:=
 bif (decide (v1.toInt<(0:Int)))then
  some (IntKind.u64.wrap (0-(IntKind.u64.wrap v1.toInt)))
 else
  some (IntKind.u64.wrap v1.toInt)
theorem aeQ(N:Nat)(v1:Int64)(r:Int)(J:C5 N v1=some r):bm Tryz.prog 249 [(bt v1)] (·=(.d (.v (.int .u64 r)))):=by
 rw[C5]at J;refine bK Tryz.func249 (by kernel_rfl) (by kernel_rfl) ?_;refine au ai [[],[]] ?_;refine bc J (fun h1 J=> ?_) fun h1 J=> ?_
 ·obtain rfl:=sj J;exact wr ai [[(0,bT h1)],[]]
 obtain rfl:=sj J;exact wr ai [[(0,bF h1)],[]]
def vI(N:Nat):Nat→Int→Int→Option Int
 |0,_,_=>none
 |v3+1,v4,v5=>
  bif (v5 !=(0:Int))then
   (fun ck eQ=>vI N v3 ck eQ) v5 ((v4).tmod v5)
  else
   some v4
def EJ(N:Nat)(v1:Int)(v2:Int):Option Int:=
 vI N N v1 v2
theorem Zz(N:Nat)(v1:Int)(v2:Int)(r:Int)(J:EJ N v1 v2=some r):bm Tryz.prog 248 [(.d (.v (.int .u64 v1))),(.d (.v (.int .u64 v2)))] (·=(.d (.v (.int .u64 r)))):=by
 rw[EJ]at J;refine bK Tryz.func248 (by kernel_rfl) (by kernel_rfl) ?_;refine cC ai 1 [[]] [0,1] 0 (fun((v3,v4,v5):Nat×Int×Int)=>⟨12,[(0,(.d (.v (.int .u64 v4)))),(1,(.d (.v (.int .u64 v5))))],[]⟩) (fun((v3,v4,v5):Nat×Int×Int)=>vI N v3 v4 v5=some r) (fun((v3,v4,v5):Nat×Int×Int)=>v3) (N,v1,v2) J ?_;rintro⟨v3,v4,v5⟩ J f1 aV
 try dsimp only at J
 cases v3 with
 |zero=>
  rw[vI]at J;cases J
 |succ v3=>
  rw[vI]at J;refine au ai [[]] ?_;refine bc J (fun h1 J=> ?_) fun h1 J=> ?_
  ·exact cx ai aV (v3,v5,((v4).tmod v5)) [[(0,bT h1)],[(10,⟨_,_, .nz (b:=v5) (bne_iff_ne.1 h1)⟩)]] J
  obtain rfl:=sj J;exact wr ai [[(0,bF h1)],[]]
def Ey(N:Nat)(v1:gj):Option Bool:=
 Option.bind (bif (decide (v1.xD.toInt≥(1:Int)))then(bif (decide (v1.xD.toInt≤(2147483647:Int)))then Option.bind (HZ N v1.xN) fun v2=>
 (bif v2 then Option.bind (C5 N v1.xN) fun v3=>
 Option.bind (EJ N v3 (IntKind.u64.wrap v1.xD.toInt)) fun v4=>
 some (v4==(1:Int))else some false)else some false)else some false) fun v5=>
 some v5
theorem aad(N:Nat)(v1:gj)(r:Bool)(J:Ey N v1=some r):bm Tryz.prog 237 [(qE v1)] (·=(aM r)):=by
 rw[Ey]at J;refine bK Tryz.func237 (by kernel_rfl) (by kernel_rfl) ?_;refine au ai [[]] ?_;obtain⟨v5,h7,J⟩:=ar J;refine cN ai [(2,(aM v5))] [.cells (qE v1).cells] ?_ ?_
 ·refine bc h7 (fun h1 h7=> ?_) fun h1 h7=> ?_
  ·refine bc h7 (fun h2 h7=> ?_) fun h2 h7=> ?_
   ·obtain⟨v2,h3,h7⟩:=ar h7;refine bc h7 (fun h4 h7=> ?_) fun h4 h7=> ?_
    ·obtain⟨v3,h5,h7⟩:=ar h7;obtain⟨v4,h6,h7⟩:=ar h7;obtain rfl:=sj h7;exact⟨so (os [12,15,18,22] (bT h1) (os [27,30,33,37] (bT h2) (os [42,45,48,51,54,57,60,63,67] (bT h4) [(34,cL (Oq N v1.xN v2 h3)),(49,cL (aeQ N v1.xN v3 h5)),(61,cL (Zz N v3 (IntKind.u64.wrap v1.xD.toInt) v4 h6))]))),by kernel_rfl⟩
    obtain rfl:=sj h7;exact⟨so (os [12,15,18,22] (bT h1) (os [27,30,33,37] (bT h2) (os [42,45,48,51,54,57,60,63,67] (bF h4) [(34,cL (Oq N v1.xN v2 h3))]))),by kernel_rfl⟩
   obtain rfl:=sj h7;exact⟨so (os [12,15,18,22] (bT h1) (os [27,30,33,37] (bF h2) (os [42,45,48,51,54,57,60,63,67] (bF rfl) []))),by kernel_rfl⟩
  obtain rfl:=sj h7;exact⟨so (os [12,15,18,22] (bF h1) (os [27,30,33,37,42,45,48,51,54,57,60,63,67] (bF rfl) [])),by kernel_rfl⟩
 obtain rfl:=sj J;exact wr ai []
def BJ(N:Nat)(v1:bB)(v2:gj):Option Bool:=
 Option.bind (sV N v1) fun v3=>
 bif (v3 !=(0:Int))then
  some false
 else
  bif (v1.cA==(2:Int))then
   Option.bind (DI N v1 v2) fun v4=>
   some v4
  else
   bif (v1.cA==(3:Int))then
    Option.bind (bif (v2.xD.toInt==(1:Int))then Option.bind (H9 N v2.xN) fun v5=>
    some v5 else some false) fun v6=>
    some v6
   else
    Option.bind (Ey N v2) fun v7=>
    some v7
theorem abl(N:Nat)(v1:bB)(v2:gj)(r:Bool)(J:BJ N v1 v2=some r):bm Tryz.prog 204 [(e9 v1),(qE v2)] (·=(aM r)):=by
 rw[BJ]at J;refine bK Tryz.func204 (by kernel_rfl) (by kernel_rfl) ?_;obtain⟨v3,h1,J⟩:=ar J;refine au ai [[],[(4,cL (Gv N v1 v3 h1))]] ?_;refine bc J (fun h2 J=> ?_) fun h2 J=> ?_
 ·obtain rfl:=sj J;exact wr ai [[(0,bT h2)],[]]
 refine au ai [[(0,bF h2)],[],[]] ?_;refine bc J (fun h3 J=> ?_) fun h3 J=> ?_
 ·obtain⟨v4,h4,J⟩:=ar J;obtain rfl:=sj J;exact wr ai [[(0,bT h3)],[(7,cL (ac0 N v1 v2 v4 h4))]]
 refine au ai [[(0,bF h3)],[]] ?_;refine bc J (fun h5 J=> ?_) fun h5 J=> ?_
 ·refine au ai [[(0,bT h5)]] ?_;obtain⟨v6,h8,J⟩:=ar J;refine cN ai [(4,(aM v6))] [.cells (e9 v1).cells, .cells (qE v2).cells] ?_ ?_
  ·refine bc h8 (fun h6 h8=> ?_) fun h6 h8=> ?_
   ·obtain⟨v5,h7,h8⟩:=ar h8;obtain rfl:=sj h8;exact⟨so (os [12,15,18,22] (bT h6) [(19,cL (adE N v2.xN v5 h7))]),by kernel_rfl⟩
   obtain rfl:=sj h8;exact⟨so (os [12,15,18,22] (bF h6) []),by kernel_rfl⟩
  obtain rfl:=sj J;exact wr ai []
 obtain⟨v7,h9,J⟩:=ar J;obtain rfl:=sj J;exact wr ai [[(0,bF h5)],[(4,cL (aad N v2 v7 h9))]]
def Km(N:Nat)(v1:ao):Option ao:=some v1
theorem V0(N:Nat)(v1 r:ao)(J:Km N v1=some r):bm Tryz.prog 205 [(aE v1)] (·=(.fn 238 [(.bn [dw r] 0 0)])):=by
 cases J;exact Xd v1
def tO(N:Nat):List aw→Option Int
 |[]=>
  some (0:Int)
 |v9::v10=>
  Option.bind (qL N v9) fun v11=>
  bif (v11 !=(0:Int))then
   some (1:Int)
  else
   (tO N v10)
def C0(N:Nat)(v1:ao):Option Int:=
 Option.bind (Dd N v1) fun v2=>
 bif v2 then
  Option.bind (Ci N v1) fun v3=>
  bif v3 then
   Option.bind (D9 N v1) fun v4=>
   bif v4 then
    Option.bind (Ek N v1) fun v5=>
    bif v5 then
     Option.bind (bif (v1.bg==(1:Int))then Option.bind (BJ N v1.aB v1.dK) fun v6=>
     some (!v6)else some false) fun v7=>
     bif v7 then
      some (1:Int)
     else
      Option.bind (Km N v1) fun v8=>
      tO N (kd v8)
    else
     some (10:Int)
   else
    some (11:Int)
  else
   some (7:Int)
 else
  some (5:Int)
theorem aaZ(N:Nat)(v1:ao)(r:Int)(J:C0 N v1=some r):bm Tryz.prog 168 [(aE v1)] (·=(an r)):=by
 rw[C0]at J;refine pY Tryz.func168 rfl (by kernel_rfl) ?_;refine gP [0] 0 (agE _) (s':=⟨38,[(0,(aE v1))],[]⟩) (by kernel_rfl) ?_;refine aN ?_;refine rg [] [(1,(.ptr 0 0)),(2,(.ptr 1 0))] [.cells (aE v1).cells, .cells [(an (0:Int))]] (by kernel_rfl) ?_;refine aN ?_;refine e6 ?_;refine aN ?_;obtain⟨v2,h1,J⟩:=ar J;refine rg [(4,cL (Vw N v1 v2 h1))] [(4,(aM (!v2)))] [.cells (aE v1).cells, .cells [(an (0:Int))]] (by kernel_rfl) ?_;rcases fP v2 with h2|h2
 ·replace J:=(dx h2).symm.trans J;refine ft (t:=(!v2)) (by kernel_rfl) (cG h2) ?_;refine aN ?_;obtain⟨v3,h3,J⟩:=ar J;refine rg [(4,cL (adY N v1 v3 h3))] [(8,(aM (!v3)))] [.cells (aE v1).cells, .cells [(an (0:Int))]] (by kernel_rfl) ?_;rcases fP v3 with h4|h4
  ·replace J:=(dx h4).symm.trans J;refine ft (t:=(!v3)) (by kernel_rfl) (cG h4) ?_;refine aN ?_;obtain⟨v4,h5,J⟩:=ar J;refine rg [(4,cL (ab1 N v1 v4 h5))] [(12,(aM (!v4)))] [.cells (aE v1).cells, .cells [(an (0:Int))]] (by kernel_rfl) ?_;rcases fP v4 with h6|h6
   ·replace J:=(dx h6).symm.trans J;refine ft (t:=(!v4)) (by kernel_rfl) (cG h6) ?_;refine aN ?_;obtain⟨v5,h7,J⟩:=ar J;refine rg [(4,cL (Zt N v1 v5 h7))] [(16,(aM (!v5)))] [.cells (aE v1).cells, .cells [(an (0:Int))]] (by kernel_rfl) ?_;rcases fP v5 with h8|h8
    ·replace J:=(dx h8).symm.trans J;refine ft (t:=(!v5)) (by kernel_rfl) (cG h8) ?_;refine aN ?_;obtain⟨v7,aZ,J⟩:=ar J;refine PL [(20,(aM v7))] [.cells (aE v1).cells, .cells [(an (0:Int))]] ?_ ?_
     ·rcases fP (v1.bg==(1:Int))with h9|h9
      ·replace aZ:=(dx h9).symm.trans aZ;obtain⟨v6,az,aZ⟩:=ar aZ;have he:=agM aZ;subst he;exact⟨[(12,bT h9),(15,bT h9),(18,bT h9),(21,bT h9),(24,bT h9),(25,cL (abl N v1.aB v1.dK v6 az)),(27,bT h9),(31,bT h9)],by kernel_rfl⟩
      replace aZ:=(fR h9).symm.trans aZ;have he:=agM aZ;subst he;exact⟨[(12,bF h9),(15,bF h9),(18,bF h9),(21,bF h9),(24,bF h9),(27,bF h9),(31,bF h9)],by kernel_rfl⟩
     rcases fP v7 with bf|bf
     ·replace J:=(dx bf).symm.trans J;refine fz (t:=v7) (by kernel_rfl) bf ?_;refine aN ?_;refine rg [] [] [.cells (aE v1).cells, .cells [(an (1:Int))]] (by kernel_rfl) ?_;refine dM (fg (ej ?_));have hr:=agM J;subst hr;exact gi (by kernel_rfl)
     replace J:=(fR bf).symm.trans J;refine ft (t:=v7) (by kernel_rfl) bf ?_;refine et ?_;refine iJ ?_;refine cm ?_;refine aN ?_;refine aN ?_;obtain⟨v8,b5,J⟩:=ar J;refine rg [(4,cL (V0 N v1 v8 b5))] [(33,(.fn 238 [(.bn [dw v8] 0 0)]))] [.cells (aE v1).cells, .cells [(an (0:Int))]] (by kernel_rfl) ?_;refine e6 ?_;refine gP [2,33] 2 (agB rfl) (s':=⟨38,[(2,(.ptr 1 0)),(33,(.fn 238 [(.bn [dw v8] 0 0)]))],[.cells (aE v1).cells, .cells [(an (0:Int))]]⟩) (by kernel_rfl) ?_;refine F7 (m:=2) (enc:=b9) (xs:=(kd v8)) (by kernel_rfl) (adX v8) (fun(_:Unit)=>[.cells (aE v1).cells, .cells [(an (0:Int))]]) (fun(_:Unit) l=>tO N l=some r) () (by kernel_rfl) J (by rintro _;rfl) (by rintro _;kernel_rfl) (by kernel_rfl) rfl ?_ ?_
     ·rintro _ v9 v10 J a8 j7 ko
      try dsimp only at J
      rw[tO]at J;refine gP [2,34] 3 (agE _) (s':=⟨38,[(2,(.ptr 1 0)),(34,(b9 v9))],[.cells (aE v1).cells, .cells [(an (0:Int))], .lp .ready 34 j7 ko (dG 38 [(2,(.ptr 1 0)),(33,(.fn 238 [(.bn [dw v8] 0 0)]))])]⟩) (by kernel_rfl) ?_;refine re [] [(3,(.ptr 3 0))] [.cells (aE v1).cells, .cells [(an (0:Int))], .lp .ready 34 j7 ko (dG 38 [(2,(.ptr 1 0)),(33,(.fn 238 [(.bn [dw v8] 0 0)]))]), .cells (b9 v9).cells] (by kernel_rfl) ?_;refine cm ?_;refine⟨[.cells (aE v1).cells, .cells [(an (0:Int))]],[.cells (b9 v9).cells],rfl,(by kernel_rfl),?_⟩;refine gP [2,3] 4 (agB rfl) (s':=⟨38,[(2,(.ptr 1 0)),(3,(.ptr 3 0))],[.cells (aE v1).cells, .cells [(an (0:Int))], .lp .busy 34 j7 ko (dG 38 [(2,(.ptr 1 0)),(33,(.fn 238 [(.bn [dw v8] 0 0)]))]), .cells (b9 v9).cells]⟩) (by kernel_rfl) ?_;refine e6 ?_;refine aN ?_;obtain⟨v11,bA,J⟩:=ar J;refine rg [(4,cL (xM N v9 v11 bA))] [(37,(aM (v11 !=(0:Int))))] [.cells (aE v1).cells, .cells [(an (0:Int))], .lp .busy 34 j7 ko (dG 38 [(2,(.ptr 1 0)),(33,(.fn 238 [(.bn [dw v8] 0 0)]))]), .cells (b9 v9).cells] (by kernel_rfl) ?_;rcases fP (v11 !=(0:Int))with a9|a9
      ·replace J:=(dx a9).symm.trans J;refine fz (t:=(v11 !=(0:Int))) (by kernel_rfl) a9 ?_;refine aN ?_;refine rg [] [] [.cells (aE v1).cells, .cells [(an (1:Int))], .lp .busy 34 j7 ko (dG 38 [(2,(.ptr 1 0)),(33,(.fn 238 [(.bn [dw v8] 0 0)]))]), .cells (b9 v9).cells] (by kernel_rfl) ?_;refine dM (fg ?_);refine JC [.cells (aE v1).cells, .cells [(an (1:Int))]] rfl (by kernel_rfl) (by kernel_rfl) ?_;refine(fg (ej ?_));have hr:=agM J;subst hr;exact gi (by kernel_rfl)
      replace J:=(fR a9).symm.trans J;refine ft (t:=(v11 !=(0:Int))) (by kernel_rfl) a9 ?_;refine et ?_;refine iJ ?_;refine Ih [.cells (aE v1).cells, .cells [(an (0:Int))]] rfl (by kernel_rfl) (by kernel_rfl) ?_;exact⟨(),(by kernel_rfl),J⟩
     rintro _ J
     try dsimp only at J
     rw[tO]at J;refine iJ ?_;refine cm ?_;refine aN ?_;refine rg [] [] [.cells (aE v1).cells, .cells [(an (0:Int))], .gone] (by kernel_rfl) ?_;refine dM ?_;have hr:=agM J;subst hr;exact gi (by kernel_rfl)
    replace J:=(fR h8).symm.trans J;refine fz (t:=(!v5)) (by kernel_rfl) (cT h8) ?_;refine aN ?_;refine rg [] [] [.cells (aE v1).cells, .cells [(an (10:Int))]] (by kernel_rfl) ?_;refine dM (fg (ej ?_));have hr:=agM J;subst hr;exact gi (by kernel_rfl)
   replace J:=(fR h6).symm.trans J;refine fz (t:=(!v4)) (by kernel_rfl) (cT h6) ?_;refine aN ?_;refine rg [] [] [.cells (aE v1).cells, .cells [(an (11:Int))]] (by kernel_rfl) ?_;refine dM (fg (ej ?_));have hr:=agM J;subst hr;exact gi (by kernel_rfl)
  replace J:=(fR h4).symm.trans J;refine fz (t:=(!v3)) (by kernel_rfl) (cT h4) ?_;refine aN ?_;refine rg [] [] [.cells (aE v1).cells, .cells [(an (7:Int))]] (by kernel_rfl) ?_;refine dM (fg (ej ?_));have hr:=agM J;subst hr;exact gi (by kernel_rfl)
 replace J:=(fR h2).symm.trans J;refine fz (t:=(!v2)) (by kernel_rfl) (cT h2) ?_;refine aN ?_;refine rg [] [] [.cells (aE v1).cells, .cells [(an (5:Int))]] (by kernel_rfl) ?_;refine dM (fg (ej ?_));have hr:=agM J;subst hr;exact gi (by kernel_rfl)
def xv(N:Nat):List ao→Option Int
 |[]=>
  some (0:Int)
 |v5::v6=>
  Option.bind (C0 N v5) fun v7=>
  bif (v7 !=(0:Int))then
   some v7
  else
   (xv N v6)
def Ce(N:Nat)(v1:ao):Option Int:=
 Option.bind (Hr N v1) fun v2=>
 bif (decide (v2>(40:Int)))then
  some (13:Int)
 else
  Option.bind (Bg N v1) fun v3=>
  bif (decide (v3>(2000:Int)))then
   some (2:Int)
  else
   Option.bind (yk N v1) fun v4=>
   xv N (dN v4)
theorem Wk(N:Nat)(v1:ao)(r:Int)(J:Ce N v1=some r):bm Tryz.prog 136 [(aE v1)] (·=(an r)):=by
 rw[Ce]at J;refine pY Tryz.func136 rfl (by kernel_rfl) ?_;refine gP [0] 0 (agE _) (s':=⟨19,[(0,(aE v1))],[]⟩) (by kernel_rfl) ?_;refine aN ?_;refine rg [] [(1,(.ptr 0 0)),(2,(.ptr 1 0))] [.cells (aE v1).cells, .cells [(an (0:Int))]] (by kernel_rfl) ?_;refine aN ?_;refine aN ?_;obtain⟨v2,h1,J⟩:=ar J;refine rg [(4,cL (acF N v1 v2 h1))] [(7,(aM (decide (v2>(40:Int)))))] [.cells (aE v1).cells, .cells [(an (0:Int))]] (by kernel_rfl) ?_;rcases fP (decide (v2>(40:Int)))with h2|h2
 ·replace J:=(dx h2).symm.trans J;refine fz (t:=(decide (v2>(40:Int)))) (by kernel_rfl) h2 ?_;refine aN ?_;refine rg [] [] [.cells (aE v1).cells, .cells [(an (13:Int))]] (by kernel_rfl) ?_;refine dM (ej ?_);have hr:=agM J;subst hr;exact gi (by kernel_rfl)
 replace J:=(fR h2).symm.trans J;refine ft (t:=(decide (v2>(40:Int)))) (by kernel_rfl) h2 ?_;refine et ?_;refine cm ?_;refine aN ?_;refine aN ?_;obtain⟨v3,h3,J⟩:=ar J;refine rg [(4,cL (aeI N v1 v3 h3))] [(10,(aM (decide (v3>(2000:Int)))))] [.cells (aE v1).cells, .cells [(an (0:Int))]] (by kernel_rfl) ?_;rcases fP (decide (v3>(2000:Int)))with h4|h4
 ·replace J:=(dx h4).symm.trans J;refine fz (t:=(decide (v3>(2000:Int)))) (by kernel_rfl) h4 ?_;refine aN ?_;refine rg [] [] [.cells (aE v1).cells, .cells [(an (2:Int))]] (by kernel_rfl) ?_;refine dM (ej ?_);have hr:=agM J;subst hr;exact gi (by kernel_rfl)
 replace J:=(fR h4).symm.trans J;refine ft (t:=(decide (v3>(2000:Int)))) (by kernel_rfl) h4 ?_;refine et ?_;refine cm ?_;refine aN ?_;refine aN ?_;obtain⟨v4,h5,J⟩:=ar J;refine rg [(4,cL (Mu N v1 v4 h5))] [(12,(.fn 70 [(.bn [dw v4] 0 0)]))] [.cells (aE v1).cells, .cells [(an (0:Int))]] (by kernel_rfl) ?_;refine e6 ?_;refine gP [2,12] 2 (agB rfl) (s':=⟨19,[(2,(.ptr 1 0)),(12,(.fn 70 [(.bn [dw v4] 0 0)]))],[.cells (aE v1).cells, .cells [(an (0:Int))]]⟩) (by kernel_rfl) ?_;refine F7 (m:=2) (enc:=aE) (xs:=(dN v4)) (by kernel_rfl) (LX v4) (fun(_:Unit)=>[.cells (aE v1).cells, .cells [(an (0:Int))]]) (fun(_:Unit) l=>xv N l=some r) () (by kernel_rfl) J (by rintro _;rfl) (by rintro _;kernel_rfl) (by kernel_rfl) rfl ?_ ?_
 ·rintro _ v5 v6 J h6 j7 ko
  try dsimp only at J
  rw[xv]at J;refine gP [2,13] 3 (agE _) (s':=⟨19,[(2,(.ptr 1 0)),(13,(aE v5))],[.cells (aE v1).cells, .cells [(an (0:Int))], .lp .ready 13 j7 ko (dG 19 [(2,(.ptr 1 0)),(12,(.fn 70 [(.bn [dw v4] 0 0)]))])]⟩) (by kernel_rfl) ?_;refine re [] [(3,(.ptr 3 0))] [.cells (aE v1).cells, .cells [(an (0:Int))], .lp .ready 13 j7 ko (dG 19 [(2,(.ptr 1 0)),(12,(.fn 70 [(.bn [dw v4] 0 0)]))]), .cells (aE v5).cells] (by kernel_rfl) ?_;refine cm ?_;refine⟨[.cells (aE v1).cells, .cells [(an (0:Int))]],[.cells (aE v5).cells],rfl,(by kernel_rfl),?_⟩;refine gP [2,3] 4 (agB rfl) (s':=⟨19,[(2,(.ptr 1 0)),(3,(.ptr 3 0))],[.cells (aE v1).cells, .cells [(an (0:Int))], .lp .busy 13 j7 ko (dG 19 [(2,(.ptr 1 0)),(12,(.fn 70 [(.bn [dw v4] 0 0)]))]), .cells (aE v5).cells]⟩) (by kernel_rfl) ?_;refine e6 ?_;refine aN ?_;obtain⟨v7,h7,J⟩:=ar J;refine rg [(4,cL (aaZ N v5 v7 h7))] [(4,(an v7))] [.cells (aE v1).cells, .cells [(an (0:Int))], .lp .busy 13 j7 ko (dG 19 [(2,(.ptr 1 0)),(12,(.fn 70 [(.bn [dw v4] 0 0)]))]), .cells (aE v5).cells] (by kernel_rfl) ?_;refine aN ?_;refine rg [] [(17,(aM (v7 !=(0:Int))))] [.cells (aE v1).cells, .cells [(an (0:Int))], .lp .busy 13 j7 ko (dG 19 [(2,(.ptr 1 0)),(12,(.fn 70 [(.bn [dw v4] 0 0)]))]), .cells (aE v5).cells] (by kernel_rfl) ?_
  rcases fP (v7 !=(0:Int))with h8|h8
  ·replace J:=(dx h8).symm.trans J;refine fz (t:=(v7 !=(0:Int))) (by kernel_rfl) h8 ?_;refine aN ?_;refine rg [] [] [.cells (aE v1).cells, .cells [(an v7)], .lp .busy 13 j7 ko (dG 19 [(2,(.ptr 1 0)),(12,(.fn 70 [(.bn [dw v4] 0 0)]))]), .cells (aE v5).cells] (by kernel_rfl) ?_;refine dM (fg ?_);refine JC [.cells (aE v1).cells, .cells [(an v7)]] rfl (by kernel_rfl) (by kernel_rfl) ?_;refine(fg (ej ?_));have hr:=agM J;subst hr;exact gi (by kernel_rfl)
  replace J:=(fR h8).symm.trans J;refine ft (t:=(v7 !=(0:Int))) (by kernel_rfl) h8 ?_;refine et ?_;refine iJ ?_;refine Ih [.cells (aE v1).cells, .cells [(an (0:Int))]] rfl (by kernel_rfl) (by kernel_rfl) ?_;exact⟨(),(by kernel_rfl),J⟩
 rintro _ J
 try dsimp only at J
 rw[xv]at J;refine iJ ?_;refine cm ?_;refine aN ?_;refine rg [] [] [.cells (aE v1).cells, .cells [(an (0:Int))], .gone] (by kernel_rfl) ?_;refine dM ?_;have hr:=agM J;subst hr;exact gi (by kernel_rfl)
def wg(N:Nat)(v3:List (ByteArray×Int)):List aF→Nat→Option Int
 |[],_=>
  some (0:Int)
 |v6::v7,v4=>
  bif ((gF v3 v6.aq 0)==(0:Int))then
   some (9:Int)
  else
   (wg N v3 v7 (v4+1))
def za(N:Nat)(v1:aw)(v2:aY)(v3:List (ByteArray×Int)):Option Int:=
 wg N v3 v1.xL 0
theorem KI(N:Nat)(v1:aw)(v2:aY)(v3:List (ByteArray×Int))(r:Int)(J:za N v1 v2 v3=some r):bW Tryz.prog 170 [(.ptr 0 0),(b9 v1)] [.cells (dO v2 [(.mp 1)]), .map (dA v3)] fun r1 h1=>r1=(an r)∧h1=[.cells (dO v2 [(.mp 1)]), .map (dA v3)]:=by
 rw[za]at J;refine fy 2 Tryz.func170 (by kernel_rfl) (by kernel_rfl) (agB rfl) ?_;refine au ai [[],[(7,oL v1.xL b6)]] ?_;refine dP 8 (bP v1.xL) (by kernel_rfl) fun h1=> ?_;have h2:=cr b6 h1;refine cC ai 1 [] [0,8,9,10] 3 (fun((v4,v5):Nat×(List aF))=>⟨23,[(0,(.ptr 0 0)),(8,(.d (.sl (bP v1.xL)))),(9,(an (v1.xL.length:Int))),(10,(an (v4:Int)))],[.cells (dO v2 [(.mp 1)]), .map (dA v3), .cells (b9 v1).cells]⟩) (fun((v4,v5):Nat×(List aF))=>v1.xL.drop v4=v5∧wg N v3 v5 v4=some r) (fun((v4,v5):Nat×(List aF))=>v5.length) (0,v1.xL) ⟨rfl,J⟩ ?_;rintro⟨v4,v5⟩ ⟨h3,J⟩ f1 aV;cases v5 with
 |nil=>
  rw[wg]at J;obtain rfl:=sj J;exact cQ ai [[],[(0,bF (bS h3))],[]]
 |cons v6 v7=>
  rw[wg]at J;refine au ai [[],[(0,bT (bR h3))],[(1,oE (fu (bj h3)))],[(20,⟨_,_, .eq (BZ false v3 v6.aq)⟩)]] ?_;refine bc J (fun h4 J=> ?_) fun h4 J=> ?_
  ·obtain rfl:=sj J;exact cQ ai [[(0,bT h4)],[]]
  exact cx ai aV (v4+1,v7) [[(0,bF h4)],[(2,oq (b8 h3 rfl h2))]] ⟨b7 h3,J⟩
def BK(N:Nat)(v1:List aF):Option (List aF):=bif Nat.ble (v1.length*24) 140737488355328 then some v1 else none
theorem OL(N:Nat)(v1 r:List aF)(J:BK N v1=some r):bm Tryz.prog 85 [(.d (.sl (bP v1)))] (·=(.d (.sl (bP r)))):=by
 obtain⟨hb,rfl⟩:=cV J;have hc:=cY hb (by decide);exact Wh l9 (by rw[b6];exact hc.1) (by rw[b6];exact hc.2)
def sF(N:Nat)(v1:aw):Option aw:=
 Option.bind (BK N v1.xL) fun v2=>
 some (⟨v1.xK,v2⟩:aw)
theorem Gp(N:Nat)(v1:aw)(r:aw)(J:sF N v1=some r):bm Tryz.prog 52 [(b9 v1)] (·=(b9 r)):=by
 rw[sF]at J;refine bK Tryz.func52 (by kernel_rfl) (by kernel_rfl) ?_;obtain⟨v2,h1,J⟩:=ar J;obtain rfl:=sj J;exact wr ai [[],[(13,cL (OL N v1.xL v2 h1))]]
def rS(N:Nat):List aw→Nat→(List aw)→Option ((List aw))
 |[],_,v6=>
  some v6
 |v4::v5,v2,v6=>
  Option.bind (sF N v4) fun v7=>
  bif (Nat.ble ((v6.length+1)*32) 140737488355328)then
  (fun ck=>rS N v5 (v2+1) ck) (v6++[v7])
  else none
def yg(N:Nat)(v1:List aw):Option ((List aw)):=
 rS N v1 0 []
theorem SF(N:Nat)(v1:List aw)(r:(List aw))(J:yg N v1=some r):bm Tryz.prog 53 [(.d (.sl (cS v1)))] (·=(.d (.sl (cS r)))):=by
 rw[yg]at J;refine bK Tryz.func53 (by kernel_rfl) (by kernel_rfl) ?_;refine au ai [[],[],[(4,oL v1 bO)]] ?_;refine m8 3 48 2 [] (.inr (by kernel_rfl)) ?_;refine dP 0 (cS v1) (by kernel_rfl) fun h1=> ?_;have h2:=cr bO h1;refine cC ai 1 [] [3,6,7,8] 1 (fun((v2,v3,v6):Nat×(List aw)×(List aw))=>⟨19,[(3,(.own 0 (cS v6))),(6,(.d (.sl (cS v1)))),(7,(an (v1.length:Int))),(8,(an (v2:Int)))],[.front 48 2 v6.length]⟩) (fun((v2,v3,v6):Nat×(List aw)×(List aw))=>v1.drop v2=v3∧rS N v3 v2 v6=some r) (fun((v2,v3,v6):Nat×(List aw)×(List aw))=>v3.length) (0,v1,[]) ⟨rfl,J⟩ ?_;rintro⟨v2,v3,v6⟩ ⟨h3,J⟩ f1 aV;cases v3 with
 |nil=>
  rw[rS]at J;obtain rfl:=sj J;exact wr ai [[],[(0,bF (bS h3))],[]]
 |cons v4 v5=>
  rw[rS]at J;obtain⟨v7,h4,J⟩:=ar J;obtain⟨h5,J⟩:=c8 J;exact cx ai aV (v2+1,v5,(v6++[v7])) [[],[(0,bT (bR h3))],[(1,oE (jv (bj h3)))],[(7,cL (Gp N v4 v7 h4)),(13,⟨_,_, .app (xs:=cS v6) (ys:=cS [v7]) (zs:=cS (v6++[v7])) (n:=(v6++[v7]).length) bO.symm nC nC (by rw[(bO (l:=v6)),(bO (l:=[v7]))];exact(cY h5 (by decide)).1) (by rw[(bO (l:=v6)),(bO (l:=[v7]))];exact(cY h5 (by decide)).2) Eo (by first|(rw[(bO (l:=v6)),(bO (l:=[v7]))];done)|(rw[(bO (l:=v6)),(bO (l:=[v7]))];rfl)|(rw[(bO (l:=v6)),(bO (l:=[v7])),agu];done)|(rw[(bO (l:=v6)),(bO (l:=[v7])),agu];rfl)|(rw[(bO (l:=v6)),(bO (l:=[v7])),agN]))⟩)],[(2,oq (b8 h3 rfl h2))]] ⟨b7 h3,J⟩
def zG(N:Nat)(v1:aL)(v2:ByteArray):Option Bool:=
 some (bL v1.aq==bL v2)
theorem TB(N:Nat)(v1:aL)(v2:ByteArray)(r:Bool)(J:zG N v1 v2=some r):bW Tryz.prog 46 [(cE v1),(.ptr 0 0)] [.cells [(bq v2)]] fun r1 h1=>r1=(aM r)∧h1=[.cells [(bq v2)]]:=by
 rw[zG]at J;refine fy 1 Tryz.func46 (by kernel_rfl) (by kernel_rfl) (agB rfl) ?_;obtain rfl:=sj J;exact cQ ai [[],[]]
def uA(N:Nat)(v2:ByteArray):List aL→Nat→Option Int
 |[],_=>
  some (-1:Int)
 |v5::v6,v3=>
  Option.bind (zG N v5 v2) fun v7=>
  bif v7 then
   some (v3:Int)
  else
   (uA N v2 v6 (v3+1))
def EI(N:Nat)(v1:List aL)(v2:ByteArray):Option Int:=
 uA N v2 v1 0
theorem afn(N:Nat)(v1:List aL)(v2:ByteArray)(r:Int)(J:EI N v1 v2=some r):bW Tryz.prog 45 [(.d (.sl (cg v1))),(.fn 46 [(.ptr 0 0)])] [.cells [(bq v2)]] fun r1 h1=>r1=(an r)∧h1=[.cells [(bq v2)]]:=by
 rw[EI]at J;refine fy 1 Tryz.func45 (by kernel_rfl) (by kernel_rfl) (agB rfl) ?_;refine au ai [[],[(4,oL v1 dB)]] ?_;refine dP 0 (cg v1) (by kernel_rfl) fun h1=> ?_;have h2:=cr dB h1;refine cC ai 1 [] [0,1,7,8] 1 (fun((v3,v4):Nat×(List aL))=>⟨19,[(0,(.d (.sl (cg v1)))),(1,(.fn 46 [(.ptr 0 0)])),(7,(an (v1.length:Int))),(8,(an (v3:Int)))],[.cells [(bq v2)]]⟩) (fun((v3,v4):Nat×(List aL))=>v1.drop v3=v4∧uA N v2 v4 v3=some r) (fun((v3,v4):Nat×(List aL))=>v4.length) (0,v1) ⟨rfl,J⟩ ?_;rintro⟨v3,v4⟩ ⟨h3,J⟩ f1 aV;cases v4 with
 |nil=>
  rw[uA]at J;obtain rfl:=sj J;exact cQ ai [[],[(0,bF (bS h3))],[]]
 |cons v5 v6=>
  rw[uA]at J;obtain⟨v7,h4,J⟩:=ar J;refine au ai [[],[(0,bT (bR h3))],[],[(10,oE (gA (bj h3))),(16,⟨_,_, .rq (db:=[(cE v5),(.ptr 0 0)]) (h:=[.cells [(bq v2)]]) (l:=[0]) (by kernel_rfl) (by kernel_rfl) (by kernel_rfl) (by kernel_rfl) (TB N v5 v2 v7 h4)⟩)]] ?_;refine bc J (fun h5 J=> ?_) fun h5 J=> ?_
  ·obtain rfl:=sj J;exact cQ ai [[(0,bT h5)],[]]
  exact cx ai aV (v3+1,v6) [[(0,bF h5)],[(2,oq (b8 h3 rfl h2))]] ⟨b7 h3,J⟩
def xw(N:Nat)(v1:aY)(v2:ByteArray):Option Int:=
 Option.bind (EI N v1.aA v2) fun v3=>
 some v3
theorem JT(N:Nat)(v1:aY)(v2:ByteArray)(r:Int)(J:xw N v1 v2=some r):bm Tryz.prog 16 [(aX v1),(bq v2)] (·=(an r)):=by
 rw[xw]at J;refine bK Tryz.func16 (by kernel_rfl) (by kernel_rfl) ?_;obtain⟨v3,h1,J⟩:=ar J;obtain rfl:=sj J;exact wr ai [[],[(10,⟨_,_, .rq (db:=[(.d (.sl (cg v1.aA))),(.fn 46 [(.ptr 1 0)])]) (h:=[.cells (aX v1).cells, .cells [(bq v2)]]) (l:=[1]) (by kernel_rfl) (by kernel_rfl) (by kernel_rfl) (by kernel_rfl) (afn N v1.aA v2 v3 h1)⟩)]]
def sI(N:Nat)(v8:aL):List bk→Nat→(List aw)→Option (bB×(List aw)×Bool)
 |[],_,aI=>
  some (v8.aB,aI,true)
 |v11::aC,v9,aI=>
  Option.bind (sF N v11.dS) fun aD=>
  bif (Nat.ble ((aI.length+1)*32) 140737488355328)then
  (fun fS=>sI N v8 aC (v9+1) fS) (aI++[aD])
  else none
def rQ(N:Nat)(v1:aY)(v2:ByteArray):List cq→Nat→Option (bB×(List aw)×Bool)
 |[],_=>
  Option.bind (xw N v1 v2) fun v7=>
  bif (decide (v7≥(0:Int)))then
   bif (decide ((0:Int)≤v7))then
   Option.bind (v1.aA[(v7).toNat]?) fun v8=>
   sI N v8 v8.aJ 0 []
   else none
  else
   some (fD,[],false)
 |v5::v6,v3=>
  bif (bL v5.aq==bL v2)then
   Option.bind (yg N v5.aJ) fun aP=>
   some (v5.aB,aP,true)
  else
   (rQ N v1 v2 v6 (v3+1))
def Bp(N:Nat)(v1:aY)(v2:ByteArray):Option (bB×(List aw)×Bool):=
 rQ N v1 v2 v1.bu 0
theorem RV(N:Nat)(v1:aY)(v2:ByteArray)(r:bB×(List aw)×Bool)(J:Bp N v1 v2=some r):bm Tryz.prog 206 [(aX v1),(bq v2)] (·=(.bX [(e9 r.1),(.d (.sl (cS r.2.1))),(aM r.2.2)])):=by
 rw[Bp]at J;refine bK Tryz.func206 (by kernel_rfl) (by kernel_rfl) ?_;refine au ai [[],[(7,oL v1.bu er)]] ?_;refine dP 14 (bN v1.bu) (by kernel_rfl) fun h1=> ?_;have h2:=cr er h1;refine cC ai 1 [] [1,2,4,14,15,16] 2 (fun((v3,v4):Nat×(List cq))=>⟨61,[(1,(bq v2)),(2,(.ptr 0 0)),(4,(.ptr 1 0)),(14,(.d (.sl (bN v1.bu)))),(15,(an (v1.bu.length:Int))),(16,(an (v3:Int)))],[.cells (aX v1).cells, .cells ji]⟩) (fun((v3,v4):Nat×(List cq))=>v1.bu.drop v3=v4∧rQ N v1 v2 v4 v3=some r) (fun((v3,v4):Nat×(List cq))=>v4.length) (0,v1.bu) ⟨rfl,J⟩ ?_;rintro⟨v3,v4⟩ ⟨h3,J⟩ f1 aV;cases v4 with
 |nil=>
  rw[rQ]at J;obtain⟨v7,h4,J⟩:=ar J;refine au ai [[],[(0,bF (bS h3))],[(7,cL (JT N v1 v2 v7 h4))],[]] ?_;refine bc J (fun h5 J=> ?_) fun h5 J=> ?_
  ·obtain⟨h7,J⟩:=c8 J;obtain⟨v8,h6,J⟩:=ar J;refine au ai [[(0,bT h5)],[],[(10,⟨_,_, .el (xs:=cg v1.aA) (i:=v7) (of_decide_eq_true h7) (gA h6)⟩),(19,oL v8.aJ bV)]] ?_;refine m8 10 48 2 [] (.inr (by kernel_rfl)) ?_;refine dP 40 (cy v8.aJ) (by kernel_rfl) fun h8=> ?_;have h9:=cr bV h8;refine cC ai 2 [] [2,4,9,10,40,41,42] 3 (fun((v9,v10,aI):Nat×(List bk)×(List aw))=>⟨61,[(2,(.ptr 0 0)),(4,(.ptr 1 0)),(9,(an v7)),(10,(.own 2 (cS aI))),(40,(.d (.sl (cy v8.aJ)))),(41,(an (v8.aJ.length:Int))),(42,(an (v9:Int)))],[.cells (aX v1).cells, .cells ji, .front 48 2 aI.length]⟩) (fun((v9,v10,aI):Nat×(List bk)×(List aw))=>v8.aJ.drop v9=v10∧sI N v8 v10 v9 aI=some r) (fun((v9,v10,aI):Nat×(List bk)×(List aw))=>v10.length) (0,v8.aJ,[]) ⟨rfl,J⟩ ?_;rintro⟨v9,v10,aI⟩ ⟨az,J⟩ f2 dX;cases v10 with
   |nil=>
    rw[sI]at J;obtain rfl:=sj J;exact wr ai [[],[(0,bF (bS az))],[(10,⟨_,_, .el (xs:=cg v1.aA) (i:=v7) (of_decide_eq_true h7) (gA h6)⟩)]]
   |cons v11 aC=>
    rw[sI]at J;obtain⟨aD,aZ,J⟩:=ar J;obtain⟨bf,J⟩:=c8 J;exact cx ai dX (v9+1,aC,(aI++[aD])) [[],[(0,bT (bR az))],[(1,oE (kg (bj az)))],[(10,cL (Gp N v11.dS aD aZ)),(16,⟨_,_, .app (xs:=cS aI) (ys:=cS [aD]) (zs:=cS (aI++[aD])) (n:=(aI++[aD]).length) bO.symm nC nC (by rw[(bO (l:=aI)),(bO (l:=[aD]))];exact(cY bf (by decide)).1) (by rw[(bO (l:=aI)),(bO (l:=[aD]))];exact(cY bf (by decide)).2) Eo (by first|(rw[(bO (l:=aI)),(bO (l:=[aD]))];done)|(rw[(bO (l:=aI)),(bO (l:=[aD]))];rfl)|(rw[(bO (l:=aI)),(bO (l:=[aD])),agu];done)|(rw[(bO (l:=aI)),(bO (l:=[aD])),agu];rfl)|(rw[(bO (l:=aI)),(bO (l:=[aD])),agN]))⟩)],[(2,oq (b8 az rfl h9))]] ⟨b7 az,J⟩
  obtain rfl:=sj J;exact wr ai [[(0,bF h5)],[]]
 |cons v5 v6=>
  rw[rQ]at J;refine au ai [[],[(0,bT (bR h3))],[(1,oE (kJ (bj h3)))],[]] ?_;refine bc J (fun b5 J=> ?_) fun b5 J=> ?_
  ·obtain⟨aP,a8,J⟩:=ar J;obtain rfl:=sj J;exact wr ai [[(0,bT b5)],[(13,cL (SF N v5.aJ aP a8))]]
  exact cx ai aV (v3+1,v6) [[(0,bF b5)],[(2,oq (b8 h3 rfl h2))]] ⟨b7 h3,J⟩
def vM(N:Nat)(v2:aY)(v3:List (ByteArray×Int)):List aw→Nat→Option Int
 |[],_=>
  some (0:Int)
 |v8::v9,v6=>
  Option.bind (za N v8 v2 v3) fun v10=>
  bif (v10 !=(0:Int))then
   some v10
  else
   (vM N v2 v3 v9 (v6+1))
def Ef(N:Nat)(v1:ay)(v2:aY)(v3:List (ByteArray×Int)):Option Int:=
 bif (bL v1.bp==bL (bs []))then
  Option.bind (za N v1.aQ v2 v3) fun v4=>
  some v4
 else
  Option.bind (Bp N v2 v1.bp) fun v5=>
  bif v5.2.2 then
   bif (v5.1.cA !=(3:Int))then
    some (10:Int)
   else
    bif ((v1.bw.length:Int) !=(v5.2.1.length:Int))then
     some (11:Int)
    else
     vM N v2 v3 v1.bw 0
  else
   some (9:Int)
theorem aam(N:Nat)(v1:ay)(v2:aY)(v3:List (ByteArray×Int))(r:Int)(J:Ef N v1 v2 v3=some r):bW Tryz.prog 207 [(.ptr 0 0),(fX v1)] [.cells (dO v2 [(.mp 1)]), .map (dA v3)] fun r1 h1=>r1=(an r)∧h1=[.cells (dO v2 [(.mp 1)]), .map (dA v3)]:=by
 rw[Ef]at J;refine fy 2 Tryz.func207 (by kernel_rfl) (by kernel_rfl) (agB rfl) ?_;refine au ai [[],[]] ?_;refine bc J (fun h1 J=> ?_) fun h1 J=> ?_
 ·obtain⟨v4,h2,J⟩:=ar J;obtain rfl:=sj J;exact cQ ai [[(0,bT h1)],[(10,⟨_,_, .rq (db:=[(.ptr 0 0),(b9 v1.aQ)]) (h:=[.cells (dO v2 [(.mp 1)]), .map (dA v3), .cells (fX v1).cells]) (l:=[0,1]) (by kernel_rfl) (by kernel_rfl) (by kernel_rfl) (by kernel_rfl) (KI N v1.aQ v2 v3 v4 h2)⟩)]]
 obtain⟨v5,h3,J⟩:=ar J;refine au ai [[(0,bF h1)],[(19,cL (RV N v2 v1.bp v5 h3))],[]] ?_;refine bc J (fun h4 J=> ?_) fun h4 J=> ?_
 ·refine au ai [[(0,bF (cG h4))],[]] ?_;refine bc J (fun h5 J=> ?_) fun h5 J=> ?_
  ·obtain rfl:=sj J;exact cQ ai [[(0,bT h5)],[]]
  refine au ai [[(0,bF h5)],[(7,oL v1.bw bO),(13,oL v5.2.1 bO)]] ?_;refine bc J (fun h6 J=> ?_) fun h6 J=> ?_
  ·obtain rfl:=sj J;exact cQ ai [[(0,bT h6)],[]]
  refine au ai [[(0,bF h6)],[(7,oL v1.bw bO)]] ?_;refine dP 44 (cS v1.bw) (by kernel_rfl) fun h7=> ?_;have h8:=cr bO h7;refine cC ai 1 [] [0,44,45,46] 4 (fun((v6,v7):Nat×(List aw))=>⟨57,[(0,(.ptr 0 0)),(44,(.d (.sl (cS v1.bw)))),(45,(an (v1.bw.length:Int))),(46,(an (v6:Int)))],[.cells (dO v2 [(.mp 1)]), .map (dA v3), .cells (fX v1).cells, .cells (e9 v5.1).cells]⟩) (fun((v6,v7):Nat×(List aw))=>v1.bw.drop v6=v7∧vM N v2 v3 v7 v6=some r) (fun((v6,v7):Nat×(List aw))=>v7.length) (0,v1.bw) ⟨rfl,J⟩ ?_;rintro⟨v6,v7⟩ ⟨h9,J⟩ f1 aV;cases v7 with
  |nil=>
   rw[vM]at J;obtain rfl:=sj J;exact cQ ai [[],[(0,bF (bS h9))],[]]
  |cons v8 v9=>
   rw[vM]at J;obtain⟨v10,az,J⟩:=ar J;refine au ai [[],[(0,bT (bR h9))],[(1,oE (jv (bj h9)))],[(7,⟨_,_, .rq (db:=[(.ptr 0 0),(b9 v8)]) (h:=[.cells (dO v2 [(.mp 1)]), .map (dA v3), .cells (fX v1).cells, .cells (e9 v5.1).cells, .cells (b9 v8).cells]) (l:=[0,1]) (by kernel_rfl) (by kernel_rfl) (by kernel_rfl) (by kernel_rfl) (KI N v8 v2 v3 v10 az)⟩)],[]] ?_;refine bc J (fun aZ J=> ?_) fun aZ J=> ?_
   ·obtain rfl:=sj J;exact cQ ai [[(0,bT aZ)],[]]
   exact cx ai aV (v6+1,v9) [[(0,bF aZ)],[(2,oq (b8 h9 rfl h8))]] ⟨b7 h9,J⟩
 obtain rfl:=sj J;exact cQ ai [[(0,bT (cT h4))],[]]
end Go.Proofs.YtphmhnabilhbgaaGreatDoor
