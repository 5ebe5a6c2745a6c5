/-
  Part 11 of the proof: PQ2.
-/
import Derived.Test.YtpgmcallngdceaaGreatDoorSp10
namespace Go.Proofs.YtpgmcallngdceaaGreatDoor
open Go.RowKit
set_option maxRecDepth 100000
set_option maxHeartbeats 0
set_option linter.unusedVariables false
def ef:an:=⟨(0:Int),(bs []),bg,b8,zLin,[],[]⟩
def ep:akb AV:=[(aw (0:Int)),(aR (bs [])),(aH (0:Int64)),(aH (0:Int64)),(aw (0:Int)),(aw (0:Int)),(aw (0:Int)),(aw (0:Int)),(aw (0:Int)),(aH (0:Int64)),(.d (.v (.slice none 0 0))),(.d (.v (.slice none 0 0))),(.d (.v (.slice none 0 0)))]
def fx:akb AV:=[(aH (0:Int64)),(aH (0:Int64))]
def KO(v:an)(r:akb AV):akb AV:=(aw v.ar)::(aR v.aV)::(aH v.ba.xN)::(aH v.ba.xD)::(aw v.aC.a8)::(aw v.aC.bz)::(aw v.aC.bE)::(aw v.aC.bK)::(aw v.aC.bI)::r
def cf1(v:aD)(r:akb AV):akb AV:=(aw v.a8)::(aw v.bz)::(aw v.bE)::(aw v.bK)::(aw v.bI)::r
def wR(N:Nat):akb an→akd Int
 |[]=>
  some (0:Int)
 |v5::v6=>
  Option.bind (Dl N v5) fun v7=>
  bif (v7 !=(0:Int))then
   some v7
  else
   (wR N v6)
def Cw(N:Nat)(v1:an):akd Int:=
 Option.bind (IF N v1) fun v2=>
 bif (decide (v2>(40:Int)))then
  some (13:Int)
 else
  Option.bind (Dv N v1) fun v3=>
  bif (decide (v3>(2000:Int)))then
   some (2:Int)
  else
   Option.bind (G7 N v1) fun v4=>
   wR N (cQ v4)
def mA(v1:an)(l:akb aq):akb aq:= .cells (aA v1).cells:: .cells [(aw (0:Int))]::l
def K4(v1:an)(iN:Code)(iH:Code)(v4:an)(v5:an)(l:akb aq):akb aq:=mA v1 (.lp .busy 13 iN iH (dy 19 [(2,(.ptr 1 0)),(12,(.fn 65 [(.bD [cF v4] 0 0)]))]):: .cells (aA v5).cells::l)
theorem Zr(N:Nat)(v1:an)(r:Int)(hF:Cw N v1=some r):aG Tryz.prog 25 [(aA v1)] (·=(aw r)):=by
 rw[Cw]at hF;refine yW Tryz.func25 rfl (by kernel_rfl) ?_;refine ja [0] 0 (ajy _) (s':=⟨19,[(0,(aA v1))],[]⟩) (by kernel_rfl) ?_;refine bG ?_;refine rg [] [(1,(.ptr 0 0)),(2,(.ptr 1 0))] (mA v1 []) (by kernel_rfl) ?_;refine bG ?_;refine bG ?_;obtain⟨v2,h1,hF⟩:=ao hF;refine rg [(4,cL (Zx N v1 v2 h1))] [(7,(aB (decide (v2>(40:Int)))))] (mA v1 []) (by kernel_rfl) ?_;rcases jQ (decide (v2>(40:Int)))with h2|h2
 ·replace hF:=(eC h2).symm.trans hF;refine kd (t:=(decide (v2>(40:Int)))) (by kernel_rfl) h2 ?_;refine bG ?_;refine rg [] [] [.cells (aA v1).cells, .cells [(aw (13:Int))]] (by kernel_rfl) ?_;refine dV (fp ?_);have hr:=ajG hF;subst hr;exact jI (by kernel_rfl)
 replace hF:=(jG h2).symm.trans hF;refine j6 (t:=(decide (v2>(40:Int)))) (by kernel_rfl) h2 ?_;refine fG ?_;refine cz ?_;refine bG ?_;refine bG ?_;obtain⟨v3,h3,hF⟩:=ao hF;refine rg [(4,cL (acH N v1 v3 h3))] [(10,(aB (decide (v3>(2000:Int)))))] (mA v1 []) (by kernel_rfl) ?_;rcases jQ (decide (v3>(2000:Int)))with h4|h4
 ·replace hF:=(eC h4).symm.trans hF;refine kd (t:=(decide (v3>(2000:Int)))) (by kernel_rfl) h4 ?_;refine bG ?_;refine rg [] [] [.cells (aA v1).cells, .cells [(aw (2:Int))]] (by kernel_rfl) ?_;refine dV (fp ?_);have hr:=ajG hF;subst hr;exact jI (by kernel_rfl)
 replace hF:=(jG h4).symm.trans hF;refine j6 (t:=(decide (v3>(2000:Int)))) (by kernel_rfl) h4 ?_;refine fG ?_;refine cz ?_;refine bG ?_;refine bG ?_;obtain⟨v4,h5,hF⟩:=ao hF;refine rg [(4,cL (VB N v1 v4 h5))] [(12,(.fn 65 [(.bD [cF v4] 0 0)]))] (mA v1 []) (by kernel_rfl) ?_;refine gv ?_;refine ja [2,12] 2 (ajv rfl) (s':=⟨19,[(2,(.ptr 1 0)),(12,(.fn 65 [(.bD [cF v4] 0 0)]))],(mA v1 [])⟩) (by kernel_rfl) ?_;refine N9 (m:=2) (enc:=aA) (xs:=(cQ v4)) (by kernel_rfl) (T3 v4) (fun(_:Unit)=>(mA v1 [])) (fun(_:Unit) l=>wR N l=some r) () (by kernel_rfl) hF (by rintro _;rfl) (by rintro _;kernel_rfl) (by kernel_rfl) rfl ?_ ?_
 ·rintro _ v5 v6 hF h6 iN iH
  try dsimp only at hF
  rw[wR]at hF;refine ja [2,13] 3 (ajy _) (s':=⟨19,[(2,(.ptr 1 0)),(13,(aA v5))],(mA v1 [.lp .ready 13 iN iH (dy 19 [(2,(.ptr 1 0)),(12,(.fn 65 [(.bD [cF v4] 0 0)]))])])⟩) (by kernel_rfl) ?_;refine re [] [(3,(.ptr 3 0))] (mA v1 [.lp .ready 13 iN iH (dy 19 [(2,(.ptr 1 0)),(12,(.fn 65 [(.bD [cF v4] 0 0)]))]), .cells (aA v5).cells]) (by kernel_rfl) ?_;refine cz ?_;refine⟨(mA v1 []),[.cells (aA v5).cells],rfl,(by kernel_rfl),?_⟩;refine ja [2,3] 4 (ajv rfl) (s':=⟨19,[(2,(.ptr 1 0)),(3,(.ptr 3 0))],(K4 v1 iN iH v4 v5 [])⟩) (by kernel_rfl) ?_;refine gv ?_;refine bG ?_;obtain⟨v7,h7,hF⟩:=ao hF;refine rg [(4,cL (ah5 N v5 v7 h7))] [(4,(aw v7))] (K4 v1 iN iH v4 v5 []) (by kernel_rfl) ?_;refine bG ?_;refine rg [] [(17,(aB (v7 !=(0:Int))))] (K4 v1 iN iH v4 v5 []) (by kernel_rfl) ?_;rcases jQ (v7 !=(0:Int))with h8|h8
  ·replace hF:=(eC h8).symm.trans hF;refine kd (t:=(v7 !=(0:Int))) (by kernel_rfl) h8 ?_;refine bG ?_;refine rg [] [] [.cells (aA v1).cells, .cells [(aw v7)], .lp .busy 13 iN iH (dy 19 [(2,(.ptr 1 0)),(12,(.fn 65 [(.bD [cF v4] 0 0)]))]), .cells (aA v5).cells] (by kernel_rfl) ?_;refine dV (gi ?_);refine Vg [.cells (aA v1).cells, .cells [(aw v7)]] rfl (by kernel_rfl) (by kernel_rfl) ?_;refine(gi (fp ?_));have hr:=ajG hF;subst hr;exact jI (by kernel_rfl)
  replace hF:=(jG h8).symm.trans hF;refine j6 (t:=(v7 !=(0:Int))) (by kernel_rfl) h8 ?_;refine fG ?_;refine la ?_;refine MC (mA v1 []) rfl (by kernel_rfl) (by kernel_rfl) ?_;exact⟨(),(by kernel_rfl),hF⟩
 rintro _ hF
 try dsimp only at hF
 rw[wR]at hF;refine la ?_;refine cz ?_;refine bG ?_;refine rg [] [] (mA v1 [.gone]) (by kernel_rfl) ?_;refine dV ?_;have hr:=ajG hF;subst hr;exact jI (by kernel_rfl)
def Mw(N:Nat)(v1:akb aU):akd (akb aU):=bif Nat.ble (v1.length*24) 140737488355328 then some v1 else none
theorem agA(N:Nat)(v1 r:akb aU)(hF:Mw N v1=some r):aG Tryz.prog 55 [(.d (.sl (bZ v1)))] (·=(.d (.sl (bZ r)))):=by
 obtain⟨hb,rfl⟩:=dq hF;have hc:=o0 hb (by decide);exact abv xn (by rw[dd];exact hc.1) (by rw[dd];exact hc.2)
def wO(N:Nat)(v1:aF):akd (aF×Int):=
 Option.bind (Mw N v1.xL) fun v2=>
 some ((⟨v1.xK,v2⟩:aF),(0:Int))
theorem Ka(N:Nat)(v1:aF)(r:aF×Int)(hF:wO N v1=some r):aG Tryz.prog 54 [(b9 v1)] (·=(.bk [(b9 r.1),(aw r.2)])):=by
 rw[wO]at hF;refine aP Tryz.func54 ?_;obtain⟨v2,h1,hF⟩:=ao hF;cases hF;exact wr af [[],[(13,cL (agA N v1.xL v2 h1))]]
def Oq(N:Nat)(v1:akb aI):akd (akb aI):=bif Nat.ble (v1.length*72) 140737488355328 then some v1 else none
theorem X0(N:Nat)(v1 r:akb aI)(hF:Oq N v1=some r):bO Tryz.prog 101 [(.d (.sl (cl v1)))] [] fun r1 h1=>r1=(.vec 0 0 r.length r.length 4)∧h1=[.vec 60 4 (bo (r.map eO))]:=by
 obtain⟨hb,rfl⟩:=dq hF;have hc:=o0 hb (by decide);have h1:=aiZ (xs:=cl v1) QO (by rw[dP];exact hc.1) (by rw[dP];exact hc.2);have h2:bo (v1.map eO)=bo (cl v1):=by rw[qD]
 have h3:=dP (l:=v1);rw[h3]at h1;rw[h2];exact h1
def Oz(N:Nat)(v1:akb aF):akd (akb aF):=bif Nat.ble (v1.length*32) 140737488355328 then some v1 else none
theorem afV(N:Nat)(v1 r:akb aF)(hF:Oz N v1=some r):bO Tryz.prog 102 [(.d (.sl (du v1)))] [] fun r1 h1=>r1=(.vec 0 0 r.length r.length 2)∧h1=[.vec 28 2 (bo (r.map jc))]:=by
 obtain⟨hb,rfl⟩:=dq hF;have hc:=o0 hb (by decide);have h1:=ag7 (xs:=du v1) VZ (by rw[eG];exact hc.1) (by rw[eG];exact hc.2);have h2:bo (v1.map jc)=bo (du v1):=by rw[qo]
 have h3:=eG (l:=v1);rw[h3]at h1;rw[h2];exact h1
def Ot(N:Nat)(v1:akb an):akd (akb an):=bif Nat.ble (v1.length*160) 140737488355328 then some v1 else none
theorem Yu(N:Nat)(v1 r:akb an)(hF:Ot N v1=some r):bO Tryz.prog 103 [(.d (.sl (cq v1)))] [] fun r1 h1=>r1=(.vec 0 0 r.length r.length 13)∧h1=[.vec 32 13 (bo (r.map cF))]:=by
 obtain⟨hb,rfl⟩:=dq hF;have hc:=o0 hb (by decide);have h1:=YP (xs:=cq v1) Hd (by rw[dD];exact hc.1) (by rw[dD];exact hc.2);have h2:bo (v1.map cF)=bo (cq v1):=by rw[eR]
 have h3:=dD (l:=v1);rw[h3]at h1;rw[h2];exact h1
def sI(N:Nat)(v8:akb aI)(v3:akb aI)(v9:akb an)(v1:an)(v2:aF×Int)(CD:an→akd (an×Int)):akb an→Nat→(akb an)→akd (an×Int)
 |[],_,bu=>
  bif (Nat.beq v8.length v3.length)then
  bif (Nat.beq bu.length v9.length)then
  some ((⟨v1.ar,v1.aV,v1.ba,v1.aC,v2.1,v8,bu⟩:an),(0:Int))
  else none
  else none
 |v12::aZ,v10,bu=>
  Option.bind (CD v12) fun bQ=>
  bif (Nat.beq bu.length v9.length)then
  bif (decide ((v10:Int)<(v9.length:Int)))then
  Option.bind (bu[v10]?) fun de=>
  bif (bQ.2 !=(0:Int))then
   some (ef,bQ.2)
  else
   (fun pW=>sI N v8 v3 v9 v1 v2 CD aZ (v10+1) pW) (bu.set v10 bQ.1)
  else none
  else none
def sQ(N:Nat)(cA:akb aF)(ma:(akb aI)→akd (an×Int))(v8:akb aI)(v4:Nat)(bW:aF×Int)(bx:aI):akb aF→Nat→(akb aF)→akd (an×Int)
 |[],_,v24=>
  bif (Nat.beq v24.length cA.length)then
  ma ((v8.set v4 (⟨bW.1,bx.bU,bx.bC⟩:aI)).set v4 (⟨(⟨bW.1,bx.bU,bx.bC⟩:aI).aK,(⟨bW.1,bx.bU,bx.bC⟩:aI).bU,v24⟩:aI))
  else none
 |eX::dt,v20,v24=>
  Option.bind (wO N eX) fun nM=>
  bif (Nat.beq v24.length cA.length)then
  bif (decide ((v20:Int)<(cA.length:Int)))then
  Option.bind (v24[v20]?) fun QQ=>
  bif (nM.2 !=(0:Int))then
   some (ef,nM.2)
  else
   (fun CJ=>sQ N cA ma v8 v4 bW bx dt (v20+1) CJ) (v24.set v20 nM.1)
  else none
  else none
def rz(N:Nat)(v1:an)(v3:akb aI)(v2:aF×Int)(CD:an→akd (an×Int)):akb aI→Nat→(akb aI)→akd (an×Int)
 |[],_,v8=>
  Option.bind (Ot N v1.ax) fun v9=>
  sI N v8 v3 v9 v1 v2 CD v1.ax 0 v9
 |v6::v7,v4,v8=>
  Option.bind (wO N v6.aK) fun bW=>
  bif (Nat.beq v8.length v3.length)then
  bif (decide ((v4:Int)<(v3.length:Int)))then
  Option.bind (v8[v4]?) fun bx=>
  bif (bW.2 !=(0:Int))then
   some (ef,bW.2)
  else
   Option.bind (Oz N v6.bC) fun cA=>
   bif (Nat.beq (v8.set v4 (⟨bW.1,bx.bU,bx.bC⟩:aI)).length v3.length)then
   sQ N cA (fun cX=>rz N v1 v3 v2 CD v7 (v4+1) cX) v8 v4 bW bx v6.bC 0 cA
   else none
  else none
  else none
def n7(N:Nat):Nat→an→akd (an×Int)
 |0,_=>none
 |d+1,v1=>
  Option.bind (wO N v1.aK) fun v2=>
  bif (v2.2 !=(0:Int))then
   some (ef,v2.2)
  else
   Option.bind (Oq N v1.xIdx) fun v3=>
   rz N v1 v3 v2 (n7 N d) v1.xIdx 0 v3
def KL(N:Nat)(v1:an):akd (an×Int):=n7 N N v1
def Mb(v1:an)(l:akb aq):akb aq:= .cells (aA v1).cells:: .cells ep::l
def Hi(v1:an)(v2:aF×Int)(v3:akb aI)(l:akb aq):akb aq:=Mb v1 (.cells (KO v1 [(aH v2.1.xK),(.d (.sl (bZ v2.1.xL))),(.vec 3 0 v3.length v3.length 4),(.d (.sl (cq v1.ax)))])::l)
def Rk(v1:an)(v2:aF×Int)(v3:akb aI)(v9:akb an)(v8:akb aI)(bu:akb an)(l:akb aq):akb aq:=Mb v1 (.cells (KO v1 [(aH v2.1.xK),(.d (.sl (bZ v2.1.xL))),(.vec 3 0 v3.length v3.length 4),(.vec 4 0 v9.length v9.length 13)]):: .vec 60 4 (bo (v8.map eO)):: .vec 32 13 (bo (bu.map cF))::l)
theorem af2(N:Nat):∀d:Nat,(∀(v1:an)(r:an×Int),n7 N d v1=some r→bO Tryz.prog 53 [(aA v1),(.fn 54 [])] [] fun r1 h1=>r1=(.bk [(aA r.1),(aw r.2)])∧h1=[]):=by
 intro d
 induction d with
 |zero=>intro v1 r hF;rw[n7]at hF;cases hF
 |succ d ih=>
  have ahW:=ih;intro v1 r hF;rw[n7]at hF;refine eB 0 Tryz.func53 ?_;obtain⟨v2,h1,hF⟩:=ao hF;refine au af [[],[],[],[(10,cL (Ka N v1.aK v2 h1))],[]] ?_;refine bc hF (fun h2 hF=> ?_) fun h2 hF=> ?_
  ·cases hF;exact cG af [[(0,bT h2)],[]]
  obtain⟨v3,h3,hF⟩:=ao hF;refine au af [[(0,bF h2)],[(7,oX po (vM (xs:=(v3.map eO)) po) [(.d (.sl (cl v1.xIdx)))] (Mb v1 [.cells (KO v1 [(aH v2.1.xK),(.d (.sl (bZ v2.1.xL))),(.d (.sl (cl v1.xIdx))),(.d (.sl (cq v1.ax)))])]) [] (X0 N v1.xIdx v3 h3))],[(7,oL v1.xIdx dP)]] ?_;refine fO ml 32 v1.xIdx fun h5=> ?_;refine rp af 1 [] [1,2,4,6,32,33,34] 4 [] [(1,10),(1,11),(1,12)] (fun((v4,v5,v8):Nat×(akb aI)×(akb aI))=>⟨119,[(1,(.fn 54 [])),(2,(.ptr 0 0)),(4,(.ptr 1 0)),(6,(.ptr 2 0)),(32,(.d (.sl (cl v1.xIdx)))),(33,(aw (v1.xIdx.length:Int))),(34,(aw (v4:Int)))],(Hi v1 v2 v3 [.vec 60 4 (bo (v8.map eO))])⟩) (fun((v4,v5,v8):Nat×(akb aI)×(akb aI))=>v1.xIdx.drop v4=v5∧rz N v1 v3 v2 (n7 N d) v5 v4 v8=some r) (fun((v4,v5,v8):Nat×(akb aI)×(akb aI))=>v5.length) (0,v1.xIdx,v3) ⟨rfl,hF⟩ ?_ (iE:=[.iY (v3.map eO)]);rintro⟨v4,v5,v8⟩ ⟨h6,hF⟩ f1 aO;cases v5 with
  |nil=>
   rw[rz]at hF;obtain⟨v9,h7,hF⟩:=ao hF;refine au af [[],[(0,bF (cJ h6))],[(7,oX po (vM (xs:=(v9.map cF)) po) [(.d (.sl (cq v1.ax)))] (Hi v1 v2 v3 [.vec 60 4 (bo (v8.map eO))]) [] (Yu N v1.ax v9 h7))],[(7,oL v1.ax dD)]] ?_;refine fO kX 96 v1.ax fun h9=> ?_;refine rp af 2 [] [1,4,6,96,97,98] 5 [] [(1,10),(1,11),(1,12)] (fun((v10,v11,bu):Nat×(akb an)×(akb an))=>⟨119,[(1,(.fn 54 [])),(4,(.ptr 1 0)),(6,(.ptr 2 0)),(96,(.d (.sl (cq v1.ax)))),(97,(aw (v1.ax.length:Int))),(98,(aw (v10:Int)))],(Rk v1 v2 v3 v9 v8 bu [])⟩) (fun((v10,v11,bu):Nat×(akb an)×(akb an))=>v1.ax.drop v10=v11∧sI N v8 v3 v9 v1 v2 (n7 N d) v11 v10 bu=some r) (fun((v10,v11,bu):Nat×(akb an)×(akb an))=>v11.length) (0,v1.ax,v9) ⟨rfl,hF⟩ ?_ (iE:=[.iY (v8.map eO), .iY (v9.map cF)]);rintro⟨v10,v11,bu⟩ ⟨az,hF⟩ f2 eD;cases v11 with
   |nil=>
    rw[sI]at hF;obtain⟨aE,hF⟩:=dn hF;obtain⟨aN,hF⟩:=dn hF;refine au af [[],[(0,bF (cJ az))]] ?_;refine A9 [4,6] 3 (cl v8) v3.length 1 60 4 [.iY (v8.map eO), .iY (bu.map cF)] (y9 (ajB aE)) (qD _) (xy (fun _=>rfl) _) ?_;refine A9 [4,6] 4 (cq bu) v9.length 1 32 13 [.iY (bu.map cF)] (y9 (ajB aN)) (eR _) (xy (fun _=>rfl) _) ?_;cases hF;exact cG af [[]]
   |cons v12 aZ=>
    rw[sI]at hF;obtain⟨bQ,aY,hF⟩:=ao hF;obtain⟨aJ,hF⟩:=dn hF;obtain⟨bt,hF⟩:=dn hF;obtain⟨de,aM,hF⟩:=ao hF;refine au af [[],[(0,bT (cD az))],[(4,oE (bq (cd az)))],[(16,oQ [(aA v12),(.fn 54 [])] (Rk v1 v2 v3 v9 v8 bu [.cells (aA v12).cells]) [] (ahW v12 bQ aY)),(28,⟨_,_, .pr (.ix v10) (kZ (gK (f:=cF) (ajB aJ)) (Int.natCast_nonneg _) (of_decide_eq_true bt) (ajO _))⟩),(31,⟨_,_, .pr (.st ((cF de).map AV.d) (bo ((bu.set v10 bQ.1).map cF))) (vV (f:=cF) (j:=0) (y:=bQ.1) (zs:=[(aw bQ.1.ar),(aR bQ.1.aV),(aH bQ.1.ba.xN),(aH bQ.1.ba.xD),(aw bQ.1.aC.a8),(aw bQ.1.aC.bz),(aw bQ.1.aC.bE),(aw bQ.1.aC.bK),(aw bQ.1.aC.bI),(aH bQ.1.aK.xK),(.d (.sl (bZ bQ.1.aK.xL))),(.d (.sl (cl bQ.1.xIdx))),(.d (.sl (cq bQ.1.ax)))]) (ajB aJ) aM rfl)⟩)],[]] ?_;refine bc hF (fun bp hF=> ?_) fun bp hF=> ?_
    ·cases hF;exact cG af [[(0,bT bp)],[]]
    exact ot af eD (v10+1,aZ,(bu.set v10 bQ.1)) [[(0,bF bp)],[(2,oq (dh az rfl h9))]] ⟨ju az,hF⟩ (iE:=[.iY (v8.map eO), .iY ((bu.set v10 bQ.1).map cF)])
  |cons v6 v7=>
   rw[rz]at hF;obtain⟨bW,a7,hF⟩:=ao hF;obtain⟨bR,hF⟩:=dn hF;obtain⟨b5,hF⟩:=dn hF;obtain⟨bx,ck,hF⟩:=ao hF;refine au af [[],[(0,bT (cD h6))],[(4,oE (fz (cd h6)))],[(19,cL (Ka N v6.aK bW a7)),(31,⟨_,_, .pr (.ix v4) (kZ (gK (f:=eO) (ajB bR)) (Int.natCast_nonneg _) (of_decide_eq_true b5) (ajO _))⟩),(34,⟨_,_, .pr .no trivial⟩),(37,⟨_,_, .pr (.st ((eO bx).map AV.d) (bo ((v8.set v4 (⟨bW.1,bx.bU,bx.bC⟩:aI)).map eO))) (vV (f:=eO) (j:=0) (y:=(⟨bW.1,bx.bU,bx.bC⟩:aI)) (zs:=[(aH bW.1.xK),(.d (.sl (bZ bW.1.xL)))]) (ajB bR) ck rfl)⟩)],[]] ?_;refine bc hF (fun bw hF=> ?_) fun bw hF=> ?_
   ·cases hF;exact cG af [[(0,bT bw)],[]]
   obtain⟨cA,cP,hF⟩:=ao hF;obtain⟨cC,hF⟩:=dn hF;refine au af [[(0,bF bw)],[(16,oX po (vM (xs:=(cA.map jc)) po) [(.d (.sl (du v6.bC)))] (Hi v1 v2 v3 [.vec 60 4 (bo ((v8.set v4 (⟨bW.1,bx.bU,bx.bC⟩:aI)).map eO)), .cells (gB v6).cells]) [] (afV N v6.bC cA cP)),(19,⟨_,_, .pr (.ix v4) (kZ (gK (f:=eO) (ajB cC)) (Int.natCast_nonneg _) (of_decide_eq_true b5) (ajO _))⟩),(22,⟨_,_, .pr .no trivial⟩),(25,⟨_,_, .pr (.st ((eO (⟨bW.1,bx.bU,bx.bC⟩:aI)).map AV.d) ((bo ((v8.set v4 (⟨bW.1,bx.bU,bx.bC⟩:aI)).map eO)).set v4 [(aH (⟨bW.1,bx.bU,bx.bC⟩:aI).aK.xK),(.d (.sl (bZ (⟨bW.1,bx.bU,bx.bC⟩:aI).aK.xL))),(aR (⟨bW.1,bx.bU,bx.bC⟩:aI).bU),(.vec 5 0 cA.length cA.length 2)])) (Y4 (f:=eO) (j:=3) (r:=[(aH (⟨bW.1,bx.bU,bx.bC⟩:aI).aK.xK),(.d (.sl (bZ (⟨bW.1,bx.bU,bx.bC⟩:aI).aK.xL))),(aR (⟨bW.1,bx.bU,bx.bC⟩:aI).bU),(.vec 5 0 cA.length cA.length 2)]) (zs:=[(.vec 5 0 cA.length cA.length 2)]) (ajB cC) (P8 ck) rfl)⟩)],[(7,oL v6.bC eG)]] ?_;refine fO Lh 64 v6.bC fun eY=> ?_;refine rp af 3 [] [1,2,4,6,8,32,33,34,64,65,66] 6 [] [(1,10),(1,11),(1,12)] (fun((v20,v21,v24):Nat×(akb aF)×(akb aF))=>⟨119,[(1,(.fn 54 [])),(2,(.ptr 0 0)),(4,(.ptr 1 0)),(6,(.ptr 2 0)),(8,(aw (v4:Int))),(32,(.d (.sl (cl v1.xIdx)))),(33,(aw (v1.xIdx.length:Int))),(34,(aw (v4:Int))),(64,(.d (.sl (du v6.bC)))),(65,(aw (v6.bC.length:Int))),(66,(aw (v20:Int)))],(Hi v1 v2 v3 [.vec 60 4 ((bo ((v8.set v4 (⟨bW.1,bx.bU,bx.bC⟩:aI)).map eO)).set v4 [(aH (⟨bW.1,bx.bU,bx.bC⟩:aI).aK.xK),(.d (.sl (bZ (⟨bW.1,bx.bU,bx.bC⟩:aI).aK.xL))),(aR (⟨bW.1,bx.bU,bx.bC⟩:aI).bU),(.vec 5 0 cA.length cA.length 2)]), .cells (gB v6).cells, .vec 28 2 (bo (v24.map jc))])⟩) (fun((v20,v21,v24):Nat×(akb aF)×(akb aF))=>v6.bC.drop v20=v21∧sQ N cA (fun cX=>rz N v1 v3 v2 (n7 N d) v7 (v4+1) cX) v8 v4 bW bx v21 v20 v24=some r) (fun((v20,v21,v24):Nat×(akb aF)×(akb aF))=>v21.length) (0,v6.bC,cA) ⟨rfl,hF⟩ ?_ (iE:=[.row ((v8.set v4 (⟨bW.1,bx.bU,bx.bC⟩:aI)).map eO) v4 [(aH (⟨bW.1,bx.bU,bx.bC⟩:aI).aK.xK),(.d (.sl (bZ (⟨bW.1,bx.bU,bx.bC⟩:aI).aK.xL))),(aR (⟨bW.1,bx.bU,bx.bC⟩:aI).bU),(.vec 5 0 cA.length cA.length 2)], .iY (cA.map jc)])
   rintro⟨v20,v21,v24⟩ ⟨gd,hF⟩ f3 mh;cases v21 with
   |nil=>
    rw[sQ]at hF;obtain⟨gX,hF⟩:=dn hF;refine au af [[],[(0,bF (cJ gd))]] ?_;refine A9 [1,2,4,6,32,33,34] 5 (du v24) cA.length 0 28 2 [.row eO (v8.set v4 (⟨bW.1,bx.bU,bx.bC⟩:aI)) v4 [(aH (⟨bW.1,bx.bU,bx.bC⟩:aI).aK.xK),(.d (.sl (bZ (⟨bW.1,bx.bU,bx.bC⟩:aI).aK.xL))),(aR (⟨bW.1,bx.bU,bx.bC⟩:aI).bU),(.vec 5 0 cA.length cA.length 2)] (⟨(⟨bW.1,bx.bU,bx.bC⟩:aI).aK,(⟨bW.1,bx.bU,bx.bC⟩:aI).bU,v24⟩:aI) 1, .iY (v24.map jc)] (y9 (ajB gX)) (qo _) (xy (fun _=>rfl) _) ?_;exact ot af aO (v4+1,v7,((v8.set v4 (⟨bW.1,bx.bU,bx.bC⟩:aI)).set v4 (⟨(⟨bW.1,bx.bU,bx.bC⟩:aI).aK,(⟨bW.1,bx.bU,bx.bC⟩:aI).bU,v24⟩:aI))) [[(2,oq (dh h6 rfl h5))]] ⟨ju h6,hF⟩ (iE:=[.iY (((v8.set v4 (⟨bW.1,bx.bU,bx.bC⟩:aI)).set v4 (⟨(⟨bW.1,bx.bU,bx.bC⟩:aI).aK,(⟨bW.1,bx.bU,bx.bC⟩:aI).bU,v24⟩:aI)).map eO)])
   |cons eX dt=>
    rw[sQ]at hF;obtain⟨nM,qT,hF⟩:=ao hF;obtain⟨cK,hF⟩:=dn hF;obtain⟨Cr,hF⟩:=dn hF;obtain⟨QQ,JW,hF⟩:=ao hF;refine au af [[],[(0,bT (cD gd))],[(4,oE (mS (cd gd)))],[(10,⟨_,_, .pr (.ix v4) (kZ (aa6 (i:=v4) (r:=[(aH (⟨bW.1,bx.bU,bx.bC⟩:aI).aK.xK),(.d (.sl (bZ (⟨bW.1,bx.bU,bx.bC⟩:aI).aK.xL))),(aR (⟨bW.1,bx.bU,bx.bC⟩:aI).bU),(.vec 5 0 cA.length cA.length 2)]) (f:=eO) (ajB cC)) (Int.natCast_nonneg _) (of_decide_eq_true b5) (ajO _))⟩),(13,⟨_,_, .pr .no trivial⟩),(16,⟨_,_, .pr (.el [(aH (⟨bW.1,bx.bU,bx.bC⟩:aI).aK.xK),(.d (.sl (bZ (⟨bW.1,bx.bU,bx.bC⟩:aI).aK.xL))),(aR (⟨bW.1,bx.bU,bx.bC⟩:aI).bU),(.vec 5 0 cA.length cA.length 2)]) (aad (f:=eO) [(aH (⟨bW.1,bx.bU,bx.bC⟩:aI).aK.xK),(.d (.sl (bZ (⟨bW.1,bx.bU,bx.bC⟩:aI).aK.xL))),(aR (⟨bW.1,bx.bU,bx.bC⟩:aI).bU),(.vec 5 0 cA.length cA.length 2)] (ajB cC) (P8 ck))⟩),(28,cL (Ka N eX nM qT)),(40,⟨_,_, .pr (.ix v20) (kZ (gK (f:=jc) (ajB cK)) (Int.natCast_nonneg _) (of_decide_eq_true Cr) (ajO _))⟩),(43,⟨_,_, .pr (.st ((jc QQ).map AV.d) (bo ((v24.set v20 nM.1).map jc))) (vV (f:=jc) (j:=0) (y:=nM.1) (zs:=[(aH nM.1.xK),(.d (.sl (bZ nM.1.xL)))]) (ajB cK) JW rfl)⟩)],[]] ?_
    refine bc hF (fun nk hF=> ?_) fun nk hF=> ?_
    ·cases hF;exact cG af [[(0,bT nk)],[]]
    exact ot af mh (v20+1,dt,(v24.set v20 nM.1)) [[(0,bF nk)],[(2,oq (dh gd rfl eY))]] ⟨ju gd,hF⟩ (iE:=[.row ((v8.set v4 (⟨bW.1,bx.bU,bx.bC⟩:aI)).map eO) v4 [(aH (⟨bW.1,bx.bU,bx.bC⟩:aI).aK.xK),(.d (.sl (bZ (⟨bW.1,bx.bU,bx.bC⟩:aI).aK.xL))),(aR (⟨bW.1,bx.bU,bx.bC⟩:aI).bU),(.vec 5 0 cA.length cA.length 2)], .iY ((v24.set v20 nM.1).map jc)])
theorem aiF(N:Nat)(v1:an)(r:an×Int)(hF:KL N v1=some r):bO Tryz.prog 53 [(aA v1),(.fn 54 [])] [] fun r1 h1=>r1=(.bk [(aA r.1),(aw r.2)])∧h1=[]:=(af2 N N) v1 r hF
def tP(N:Nat)(v1:an):akd an:=
 Option.bind (KL N v1) fun v2=>
 some v2.1
theorem Rl(N:Nat)(v1:an)(r:an)(hF:tP N v1=some r):aG Tryz.prog 26 [(aA v1)] (·=(aA r)):=by
 rw[tP]at hF;refine aP Tryz.func26 ?_;obtain⟨v2,h1,hF⟩:=ao hF;cases hF;exact wr af [[],[(4,oQ [(aA v1),(.fn 54 [])] [.cells (aA v1).cells, .cells ep] [] (aiF N v1 v2 h1))],[]]
def tN(N:Nat)(v2:Bool):akd Bool:=
 bif v2 then
  some true
 else
  some false
def Ik(N:Nat)(v1:cy):akd Bool:=
 bif (v1.yE.ar==(4:Int))then
  tN N (v1.yE.ar==(4:Int))
 else
  bif (v1.yE.ar==(5:Int))then
   tN N (v1.yE.ar==(5:Int))
  else
   bif (v1.yE.ar==(6:Int))then
    tN N (v1.yE.ar==(6:Int))
   else
    bif (v1.yE.ar==(7:Int))then
     tN N (v1.yE.ar==(7:Int))
    else
     bif (v1.yE.ar==(9:Int))then
      tN N (v1.yE.ar==(9:Int))
     else
      tN N (v1.yE.ar==(10:Int))
theorem JY(N:Nat)(v1:cy)(r:Bool)(hF:Ik N v1=some r):aG Tryz.prog 178 [(bH v1)] (·=(aB r)):=by
 rw[Ik]at hF;refine aP Tryz.func178 ?_;refine gN af r 1 [[],[],[]] [6] 1 (fun(v2:Bool)=>⟨13,[(6,(aB v2))],[.cells (bH v1).cells]⟩) (tN N) ?_ ?_
 ·intro f1 aO;refine bc hF (fun h2 hF=> ?_) fun h2 hF=> ?_
  ·exact bM af aO (v1.yE.ar==(4:Int)) [[(0,bT h2)]] hF
  refine au af [[(0,bF h2)],[]] ?_;refine bc hF (fun h3 hF=> ?_) fun h3 hF=> ?_
  ·exact bM af aO (v1.yE.ar==(5:Int)) [[(0,bT h3)]] hF
  refine au af [[(0,bF h3)],[]] ?_;refine bc hF (fun h4 hF=> ?_) fun h4 hF=> ?_
  ·exact bM af aO (v1.yE.ar==(6:Int)) [[(0,bT h4)]] hF
  refine au af [[(0,bF h4)],[]] ?_;refine bc hF (fun h5 hF=> ?_) fun h5 hF=> ?_
  ·exact bM af aO (v1.yE.ar==(7:Int)) [[(0,bT h5)]] hF
  refine au af [[(0,bF h5)],[]] ?_;refine bc hF (fun h6 hF=> ?_) fun h6 hF=> ?_
  ·exact bM af aO (v1.yE.ar==(9:Int)) [[(0,bT h6)]] hF
  exact bM af aO (v1.yE.ar==(10:Int)) [[(0,bF h6)],[]] hF
 intro v2 hF;rw[tN]at hF;refine bc hF (fun h1 hF=> ?_) fun h1 hF=> ?_
 ·cases hF;exact wr af [[(0,bT h1)],[]]
 cases hF;exact wr af [[(0,bF h1)],[]]
def w8(N:Nat)(v1:aD):akb ay→Nat→akd Int
 |[],_=>
  some (0:Int)
 |v6::v7,v4=>
  Option.bind (n3 N v1 v6) fun v8=>
  bif v8 then
   (w8 N v1 v7 (v4+1))
  else
   some (1:Int)
def m0(N:Nat)(v1:aD)(v2:akb ay):akd Int:=
 Option.bind (q8 N v1) fun v3=>
 bif (v3 !=(0:Int))then
  some v3
 else
  w8 N v1 v2 0
theorem xH(N:Nat)(v1:aD)(v2:akb ay)(r:Int)(hF:m0 N v1 v2=some r):aG Tryz.prog 309 [(b4 v1),(.d (.sl (pC v2)))] (·=(aw r)):=by
 rw[m0]at hF;refine aP Tryz.func309 ?_;obtain⟨v3,h1,hF⟩:=ao hF;refine au af [[],[(4,cL (uM N v1 v3 h1))],[]] ?_;refine bc hF (fun h2 hF=> ?_) fun h2 hF=> ?_
 ·cases hF;exact wr af [[(0,bT h2)],[]]
 refine au af [[(0,bF h2)],[(4,oL v2 QU)]] ?_;refine fO YC 1 v2 fun h4=> ?_;refine fE af 1 [] [2,13,14,15] 1 v2 (fun v4=>⟨24,[(2,(.ptr 0 0)),(13,(.d (.sl (pC v2)))),(14,(aw (v2.length:Int))),(15,(aw (v4:Int)))],[.cells (b4 v1).cells]⟩) (w8 N v1) hF ?_ ?_
 ·intro v4 h5 hF f1;rw[w8]at hF;cases hF;exact wr af [[],[(0,bF (cJ h5))],[]]
 intro v4 v6 v7 h5 hF f1 aO;rw[w8]at hF;obtain⟨v8,h6,hF⟩:=ao hF;refine au af [[],[(0,bT (cD h5))],[(1,oE (agG (cd h5)))],[(7,cL (LF N v1 v6 v8 h6))]] ?_;refine bc hF (fun h7 hF=> ?_) fun h7 hF=> ?_
 ·exact wb af aO () [[(0,bF (not_t h7))],[(2,oq (dh h5 rfl h4))]] h5 hF
 cases hF;exact wr af [[(0,bT (bS h7))],[]]
def I4(N:Nat)(v1:aD)(v2:Int64)(v3:Int64):akd (Int64×Int):=
 some ((-v2),(0:Int))
theorem afA(N:Nat)(v1:aD)(v2:Int64)(v3:Int64)(r:Int64×Int)(hF:I4 N v1 v2 v3=some r):aG Tryz.prog 315 [(b4 v1),(aH v2),(aH v3)] (·=(.bk [(aH r.1),(aw r.2)])):=by
 rw[I4]at hF;refine aP Tryz.func315 ?_;cases hF;exact wr af [[],[(5,⟨_,_, .eq (jn v2)⟩)]]
def HH(N:Nat)(v1:Int64)(v2:Int)(v3:Int):akd (Int64×Bool):=
 Option.bind (ug N v2) fun v4=>
 Option.bind (bif v4 then(bif (v3 !=(1:Int))then some (v3 !=(2:Int))else some false)else some true) fun v5=>
 bif v5 then
  some ((0:Int64),false)
 else
  Option.bind (zX N v2) fun v6=>
  Option.bind (xm N v2) fun v7=>
  Option.bind (bif (decide (v1.toInt≥v6.toInt))then some (decide (v1.toInt≤v7.toInt))else some false) fun v8=>
  bif v8 then
   some (v1,false)
  else
   Option.bind (bif (v3==(1:Int))then some (decide (v1.toInt<v6.toInt))else some false) fun v9=>
   bif v9 then
    some (v6,true)
   else
    bif (v3==(1:Int))then
     some (v7,true)
    else
     bif (decide ((0:Int)≤(IntKind.u64.wrap (aS ((64:Int)-v2)))))then
     some ((Int64.ofInt (((Int64.ofInt (IntKind.u64.wrap ((IntKind.u64.wrap v1.toInt)*2^(min ((IntKind.u64.wrap (aS ((64:Int)-v2)))).toNat (IntKind.bits .u64))))).toInt).fdiv (2^(min ((IntKind.u64.wrap (aS ((64:Int)-v2)))).toNat (IntKind.bits .i64))))),true)
     else none
theorem acB(N:Nat)(v1:Int64)(v2:Int)(v3:Int)(r:Int64×Bool)(hF:HH N v1 v2 v3=some r):aG Tryz.prog 313 [(aH v1),(aw v2),(aw v3)] (·=(.bk [(aH r.1),(aB r.2)])):=by
 rw[HH]at hF;refine aP Tryz.func313 ?_;refine au af [[]] ?_;obtain⟨v4,h1,hF⟩:=ao hF;obtain⟨v5,h4,hF⟩:=ao hF;refine bf af [(21,(aB v5))] [] ?_ ?_
 ·refine bc h4 (fun h2 h4=> ?_) fun h2 h4=> ?_
  ·refine bc h4 (fun h3 h4=> ?_) fun h3 h4=> ?_
   ·cases h4;exact⟨[(3,bF (not_t h2)),(6,bT h3)],[(4,cL (Dp N v2 v4 h1)),(28,bT h3)],by kernel_rfl⟩
   cases h4;exact⟨[(3,bF (not_t h2)),(6,bF h3)],[(4,cL (Dp N v2 v4 h1)),(28,bF h3)],by kernel_rfl⟩
  cases h4;exact⟨[(3,bT (bS h2)),(6,uN)],[(4,cL (Dp N v2 v4 h1))],by kernel_rfl⟩
 refine bc hF (fun h5 hF=> ?_) fun h5 hF=> ?_
 ·cases hF;exact wr af [[(0,bT h5)],[]]
 obtain⟨v6,h6,hF⟩:=ao hF;obtain⟨v7,h7,hF⟩:=ao hF;refine au af [[(0,bF h5)],[(4,cL (OM N v2 v6 h6)),(10,cL (UG N v2 v7 h7))]] ?_;obtain⟨v8,h9,hF⟩:=ao hF;refine bf af [(26,(aB v8))] [] ?_ ?_
 ·refine bc h9 (fun h8 h9=> ?_) fun h8 h9=> ?_
  ·cases h9;exact⟨[(3,bT h8)],[],by kernel_rfl⟩
  cases h9;exact⟨[(3,bF h8)],[],by kernel_rfl⟩
 refine bc hF (fun az hF=> ?_) fun az hF=> ?_
 ·cases hF;exact wr af [[(0,bT az)],[]]
 refine au af [[(0,bF az)]] ?_;obtain⟨v9,aN,hF⟩:=ao hF;refine bf af [(36,(aB v9))] [] ?_ ?_
 ·refine bc aN (fun aE aN=> ?_) fun aE aN=> ?_
  ·cases aN;exact⟨[(2,bT aE)],[],by kernel_rfl⟩
  cases aN;exact⟨[(2,bF aE)],[],by kernel_rfl⟩
 refine bc hF (fun aY hF=> ?_) fun aY hF=> ?_
 ·cases hF;exact wr af [[(0,bT aY)],[]]
 refine au af [[(0,bF aY)],[]] ?_;refine bc hF (fun aJ hF=> ?_) fun aJ hF=> ?_
 ·cases hF;exact wr af [[(0,bT aJ)],[]]
 obtain⟨bt,hF⟩:=dn hF;cases hF;exact wr af [[(0,bF aJ)],[],[(10,⟨_,_, .nn (b:=(IntKind.u64.wrap (aS ((64:Int)-v2)))) (of_decide_eq_true bt)⟩),(14,⟨_,_, .eq (eK (IntKind.u64.wrap ((IntKind.u64.wrap v1.toInt)*2^(min ((IntKind.u64.wrap (aS ((64:Int)-v2)))).toNat (IntKind.bits .u64)))))⟩),(19,⟨_,_, .nn (b:=(IntKind.u64.wrap (aS ((64:Int)-v2)))) (of_decide_eq_true bt)⟩),(20,⟨_,_, .eq (abM (Int64.ofInt (IntKind.u64.wrap ((IntKind.u64.wrap v1.toInt)*2^(min ((IntKind.u64.wrap (aS ((64:Int)-v2)))).toNat (IntKind.bits .u64))))) (min ((IntKind.u64.wrap (aS ((64:Int)-v2)))).toNat (IntKind.bits .i64)))⟩)]]
def lJ(N:Nat)(v1:aD)(v2:Int64):akd ay:=
 Option.bind (HH N v2 v1.bz v1.bI) fun v3=>
 some (⟨v3.1,(1:Int64)⟩:ay)
theorem zO(N:Nat)(v1:aD)(v2:Int64)(r:ay)(hF:lJ N v1 v2=some r):aG Tryz.prog 269 [(b4 v1),(aH v2)] (·=(bj r)):=by
 rw[lJ]at hF;refine aP Tryz.func269 ?_;obtain⟨v3,h1,hF⟩:=ao hF;cases hF;exact wr af [[],[(16,cL (acB N v2 v1.bz v1.bI v3 h1))],[]]
def Hr(N:Nat)(v1:aD)(v2:ay)(v3:ay):akd (ay×Int):=
 Option.bind (m0 N v1 ([v2,v3])) fun v4=>
 bif (v4 !=(0:Int))then
  some (bg,v4)
 else
  Option.bind (I4 N v1 v2.xN v3.xN) fun v5=>
  bif (v5.2 !=(0:Int))then
   some (bg,v5.2)
  else
   Option.bind (lJ N v1 v5.1) fun v6=>
   some (v6,(0:Int))
theorem ah1(N:Nat)(v1:aD)(v2:ay)(v3:ay)(r:ay×Int)(hF:Hr N v1 v2 v3=some r):bO Tryz.prog 314 [(.agg [(.fn 315 [])]),(b4 v1),(bj v2),(bj v3)] [] fun r1 h1=>r1=(.bk [(bj r.1),(aw r.2)])∧h1=[]:=by
 rw[Hr]at hF;refine eB 0 Tryz.func314 ?_;obtain⟨v4,h1,hF⟩:=ao hF;refine au af [[],[(13,cL (xH N v1 ([v2,v3]) v4 h1))],[]] ?_;refine bc hF (fun h2 hF=> ?_) fun h2 hF=> ?_
 ·cases hF;exact cG af [[(0,bT h2)],[]]
 obtain⟨v5,h3,hF⟩:=ao hF;refine au af [[(0,bF h2)],[(22,cL (afA N v1 v2.xN v3.xN v5 h3))],[]] ?_;refine bc hF (fun h4 hF=> ?_) fun h4 hF=> ?_
 ·cases hF;exact cG af [[(0,bT h4)],[]]
 obtain⟨v6,h5,hF⟩:=ao hF;cases hF;exact cG af [[(0,bF h4)],[(7,cL (zO N v1 v5.1 v6 h5))]]
def ym(N:Nat)(v1:aD)(v2:ay):akd (ay×Int):=
 Option.bind (Hr N v1 v2 v2) fun v3=>
 some (v3.1,v3.2)
theorem ahk(N:Nat)(v1:aD)(v2:ay)(r:ay×Int)(hF:ym N v1 v2=some r):aG Tryz.prog 270 [(b4 v1),(bj v2)] (·=(.bk [(bj r.1),(aw r.2)])):=by
 rw[ym]at hF;refine aP Tryz.func270 ?_;obtain⟨v3,h1,hF⟩:=ao hF;cases hF;exact wr af [[],[(13,oQ [(.agg [(.fn 315 [])]),(b4 v1),(bj v2),(bj v2)] [.cells (b4 v1).cells, .cells (bj v2).cells, .cells fx] [] (ah1 N v1 v2 v2 v3 h1))]]
def B3(N:Nat)(v1:aD)(v2:ay):akd (ay×Int):=
 bif (v1.a8==(2:Int))then
  Option.bind (ym N v1 v2) fun v3=>
  some (v3.1,v3.2)
 else
  some ((⟨(-v2.xN),v2.xD⟩:ay),(0:Int))
theorem XL(N:Nat)(v1:aD)(v2:ay)(r:ay×Int)(hF:B3 N v1 v2=some r):aG Tryz.prog 222 [(b4 v1),(bj v2)] (·=(.bk [(bj r.1),(aw r.2)])):=by
 rw[B3]at hF;refine aP Tryz.func222 ?_;refine au af [[],[]] ?_;refine bc hF (fun h1 hF=> ?_) fun h1 hF=> ?_
 ·obtain⟨v3,h2,hF⟩:=ao hF;cases hF;exact wr af [[(0,bT h1)],[(7,cL (ahk N v1 v2 v3 h2))]]
 cases hF;exact wr af [[(0,bF h1)],[(8,⟨_,_, .eq (jn v2.xN)⟩)]]
def vW(N:Nat)(v1:Int64)(v2:Int64):akd Int:=
 bif (decide (v1.toInt<v2.toInt))then
  some (-1:Int)
 else
  bif (decide (v1.toInt>v2.toInt))then
   some (1:Int)
  else
   some (0:Int)
theorem Od(N:Nat)(v1:Int64)(v2:Int64)(r:Int)(hF:vW N v1 v2=some r):aG Tryz.prog 266 [(aH v1),(aH v2)] (·=(aw r)):=by
 rw[vW]at hF;refine aP Tryz.func266 ?_;refine au af [[],[]] ?_;refine bc hF (fun h1 hF=> ?_) fun h1 hF=> ?_
 ·cases hF;exact wr af [[(0,bT h1)],[]]
 refine au af [[(0,bF h1)],[]] ?_;refine bc hF (fun h2 hF=> ?_) fun h2 hF=> ?_
 ·cases hF;exact wr af [[(0,bT h2)],[]]
 cases hF;exact wr af [[(0,bF h2)],[]]
def Gc(N:Nat)(v1:ay)(v2:ay):akd Int:=
 Option.bind (ie N v1) fun v3=>
 Option.bind (bif v3 then Option.bind (ie N v2) fun v4=>
 some v4 else some false) fun v5=>
 bif v5 then
  Option.bind (vW N (v1.xN*v2.xD) (v2.xN*v1.xD)) fun v6=>
  some v6
 else
  Option.bind (vW N v1.xN v2.xN) fun v7=>
  bif (v7 !=(0:Int))then
   some v7
  else
   Option.bind (vW N v1.xD v2.xD) fun v8=>
   some v8
theorem aaj(N:Nat)(v1:ay)(v2:ay)(r:Int)(hF:Gc N v1 v2=some r):aG Tryz.prog 210 [(bj v1),(bj v2)] (·=(aw r)):=by
 rw[Gc]at hF;refine aP Tryz.func210 ?_;refine au af [[]] ?_;obtain⟨v3,h1,hF⟩:=ao hF;obtain⟨v5,h4,hF⟩:=ao hF;refine bf af [(11,(aB v5))] [.cells (bj v1).cells, .cells (bj v2).cells] ?_ ?_
 ·refine bc h4 (fun h2 h4=> ?_) fun h2 h4=> ?_
  ·obtain⟨v4,h3,h4⟩:=ao h4;obtain rfl:=sj h4;exact⟨[(2,bT h2)],[(4,cL (gG N v1 v3 h1)),(13,cL (gG N v2 v4 h3))],by kernel_rfl⟩
  cases h4;exact⟨[(2,bF h2)],[(4,cL (gG N v1 v3 h1))],by kernel_rfl⟩
 refine bc hF (fun h5 hF=> ?_) fun h5 hF=> ?_
 ·obtain⟨v6,h6,hF⟩:=ao hF;obtain rfl:=sj hF;exact wr af [[(0,bT h5)],[(14,⟨_,_, .eq (dN v1.xN v2.xD)⟩),(29,⟨_,_, .eq (dN v2.xN v1.xD)⟩),(31,cL (Od N (v1.xN*v2.xD) (v2.xN*v1.xD) v6 h6))]]
 obtain⟨v7,h7,hF⟩:=ao hF;refine au af [[(0,bF h5)],[(13,cL (Od N v1.xN v2.xN v7 h7))],[]] ?_;refine bc hF (fun h8 hF=> ?_) fun h8 hF=> ?_
 ·cases hF;exact wr af [[(0,bT h8)],[]]
 obtain⟨v8,h9,hF⟩:=ao hF;obtain rfl:=sj hF;exact wr af [[(0,bF h8)],[(13,cL (Od N v1.xD v2.xD v8 h9))]]
def yV(N:Nat)(v1:aD)(v2:ay)(v3:ay):akd Int:=
 Option.bind (mq N v1 v2) fun v4=>
 Option.bind (bif v4 then Option.bind (mq N v1 v3) fun v5=>
 some (!v5)else some true) fun v6=>
 bif v6 then
  some (0:Int)
 else
  bif (v1.a8==(1:Int))then
   Option.bind (Gc N v2 v3) fun v7=>
   some v7
  else
   bif (decide (v2.xN.toInt<v3.xN.toInt))then
    some (-1:Int)
   else
    bif (decide (v2.xN.toInt>v3.xN.toInt))then
     some (1:Int)
    else
     some (0:Int)
theorem VO(N:Nat)(v1:aD)(v2:ay)(v3:ay)(r:Int)(hF:yV N v1 v2 v3=some r):aG Tryz.prog 140 [(b4 v1),(bj v2),(bj v3)] (·=(aw r)):=by
 rw[yV]at hF;refine aP Tryz.func140 ?_;refine au af [[]] ?_;obtain⟨v4,h1,hF⟩:=ao hF;obtain⟨v6,h4,hF⟩:=ao hF;refine bf af [(7,(aB v6))] [.cells (b4 v1).cells, .cells (bj v2).cells, .cells (bj v3).cells] ?_ ?_
 ·refine bc h4 (fun h2 h4=> ?_) fun h2 h4=> ?_
  ·obtain⟨v5,h3,h4⟩:=ao h4;cases h4;exact⟨[(4,bF (not_t h2))],[(7,cL (qa N v1 v2 v4 h1)),(22,cL (qa N v1 v3 v5 h3))],by kernel_rfl⟩
  cases h4;exact⟨[(4,bT (bS h2))],[(7,cL (qa N v1 v2 v4 h1))],by kernel_rfl⟩
 refine bc hF (fun h5 hF=> ?_) fun h5 hF=> ?_
 ·cases hF;exact wr af [[(0,bT h5)],[]]
 refine au af [[(0,bF h5)],[]] ?_;refine bc hF (fun h6 hF=> ?_) fun h6 hF=> ?_
 ·obtain⟨v7,h7,hF⟩:=ao hF;obtain rfl:=sj hF;exact wr af [[(0,bT h6)],[(7,cL (aaj N v2 v3 v7 h7))]]
 refine au af [[(0,bF h6)],[]] ?_;refine bc hF (fun h8 hF=> ?_) fun h8 hF=> ?_
 ·cases hF;exact wr af [[(0,bT h8)],[]]
 refine au af [[(0,bF h8)],[]] ?_;refine bc hF (fun h9 hF=> ?_) fun h9 hF=> ?_
 ·cases hF;exact wr af [[(0,bT h9)],[]]
 cases hF;exact wr af [[(0,bF h9)],[]]
def yI(N:Nat)(v1:Int)(v2:Int64)(v3:Int64):akd (ay×Int):=
 bif (v1==(4:Int))then
  Option.bind (l8 N (v2+v3)) fun v4=>
  bif v4 then
   some ((⟨(v2+v3),(1:Int64)⟩:ay),(0:Int))
  else
   some (bg,(3:Int))
 else
  bif (v1==(5:Int))then
   Option.bind (l8 N (v2-v3)) fun v5=>
   bif v5 then
    some ((⟨(v2-v3),(1:Int64)⟩:ay),(0:Int))
   else
    some (bg,(3:Int))
  else
   bif (v1==(6:Int))then
    Option.bind (l8 N (v2*v3)) fun v6=>
    bif v6 then
     some ((⟨(v2*v3),(1:Int64)⟩:ay),(0:Int))
    else
     some (bg,(3:Int))
   else
    bif (v3.toInt==(0:Int))then
     some (bg,(4:Int))
    else
     bif (v3.toInt !=(0:Int))then
     Option.bind (bif ((Int64.ofInt ((v2.toInt).tmod v3.toInt)).toInt !=(0:Int))then some (!((decide (v2.toInt<(0:Int)))==(decide (v3.toInt<(0:Int)))))else some false) fun v7=>
     bif v7 then
      Option.bind (l8 N ((Int64.ofInt ((v2.toInt).tdiv v3.toInt))-(1:Int64))) fun v8=>
      bif v8 then
       some ((⟨((Int64.ofInt ((v2.toInt).tdiv v3.toInt))-(1:Int64)),(1:Int64)⟩:ay),(0:Int))
      else
       some (bg,(3:Int))
     else
      Option.bind (l8 N (Int64.ofInt ((v2.toInt).tdiv v3.toInt))) fun v9=>
      bif v9 then
       some ((⟨(Int64.ofInt ((v2.toInt).tdiv v3.toInt)),(1:Int64)⟩:ay),(0:Int))
      else
       some (bg,(3:Int))
     else none
theorem aam(N:Nat)(v1:Int)(v2:Int64)(v3:Int64)(r:ay×Int)(hF:yI N v1 v2 v3=some r):aG Tryz.prog 271 [(aw v1),(aH v2),(aH v3)] (·=(.bk [(bj r.1),(aw r.2)])):=by
 rw[yI]at hF;refine aP Tryz.func271 ?_;refine au af [[],[],[],[]] ?_;refine bc hF (fun h1 hF=> ?_) fun h1 hF=> ?_
 ·obtain⟨v4,h2,hF⟩:=ao hF;refine au af [[(0,bT h1)],[(8,⟨_,_, .eq (lg v2 v3)⟩)],[(4,cL (zK N (v2+v3) v4 h2))]] ?_;refine bc hF (fun h3 hF=> ?_) fun h3 hF=> ?_
  ·cases hF;exact wr af [[(0,bF (not_t h3))],[]]
  cases hF;exact wr af [[(0,bT (bS h3))],[]]
 refine au af [[(0,bF h1)],[]] ?_;refine bc hF (fun h4 hF=> ?_) fun h4 hF=> ?_
 ·obtain⟨v5,h5,hF⟩:=ao hF;refine au af [[(0,bT h4)],[(8,⟨_,_, .eq (ga v2 v3)⟩)],[(4,cL (zK N (v2-v3) v5 h5))]] ?_;refine bc hF (fun h6 hF=> ?_) fun h6 hF=> ?_
  ·cases hF;exact wr af [[(0,bF (not_t h6))],[]]
  cases hF;exact wr af [[(0,bT (bS h6))],[]]
 refine au af [[(0,bF h4)],[]] ?_;refine bc hF (fun h7 hF=> ?_) fun h7 hF=> ?_
 ·obtain⟨v6,h8,hF⟩:=ao hF;refine au af [[(0,bT h7)],[(8,⟨_,_, .eq (dN v2 v3)⟩)],[(4,cL (zK N (v2*v3) v6 h8))]] ?_;refine bc hF (fun h9 hF=> ?_) fun h9 hF=> ?_
  ·cases hF;exact wr af [[(0,bF (not_t h9))],[]]
  cases hF;exact wr af [[(0,bT (bS h9))],[]]
 refine au af [[(0,bF h7)],[]] ?_;refine bc hF (fun az hF=> ?_) fun az hF=> ?_
 ·cases hF;exact wr af [[(0,bT az)],[]]
 obtain⟨aE,hF⟩:=dn hF;refine au af [[(0,bF az)],[(7,⟨_,_, .nz (b:=v3.toInt) (bne_iff_ne.1 aE)⟩),(8,⟨_,_, .eq (eK ((v2.toInt).tdiv v3.toInt))⟩)]] ?_;obtain⟨v7,aY,hF⟩:=ao hF;refine bf af [(26,(aB v7))] [.cells fx] ?_ ?_
 ·refine bc aY (fun aN aY=> ?_) fun aN aY=> ?_
  ·cases aY;exact⟨[(4,bT aN)],[(7,⟨_,_, .nz (b:=v3.toInt) (bne_iff_ne.1 aE)⟩),(8,⟨_,_, .eq (Bh v2 v3.toInt)⟩)],by kernel_rfl⟩
  cases aY;exact⟨[(4,bF aN)],[(7,⟨_,_, .nz (b:=v3.toInt) (bne_iff_ne.1 aE)⟩),(8,⟨_,_, .eq (Bh v2 v3.toInt)⟩)],by kernel_rfl⟩
 refine bc hF (fun aJ hF=> ?_) fun aJ hF=> ?_
 ·obtain⟨v8,bt,hF⟩:=ao hF;refine au af [[(0,bT aJ)],[(5,⟨_,_, .eq (ga (Int64.ofInt ((v2.toInt).tdiv v3.toInt)) (1:Int64))⟩)],[(4,cL (zK N ((Int64.ofInt ((v2.toInt).tdiv v3.toInt))-(1:Int64)) v8 bt))]] ?_;refine bc hF (fun aM hF=> ?_) fun aM hF=> ?_
  ·cases hF;exact wr af [[(0,bF (not_t aM))],[]]
  cases hF;exact wr af [[(0,bT (bS aM))],[]]
 obtain⟨v9,bp,hF⟩:=ao hF;refine au af [[(0,bF aJ)],[(4,cL (zK N (Int64.ofInt ((v2.toInt).tdiv v3.toInt)) v9 bp))]] ?_;refine bc hF (fun a7 hF=> ?_) fun a7 hF=> ?_
 ·cases hF;exact wr af [[(0,bF (not_t a7))],[]]
 cases hF;exact wr af [[(0,bT (bS a7))],[]]
def Gp(N:Nat)(v1:aD)(v2:Int64)(v3:Int64):akd (Int64×Int):=
 some ((v2+v3),(0:Int))
theorem agc(N:Nat)(v1:aD)(v2:Int64)(v3:Int64)(r:Int64×Int)(hF:Gp N v1 v2 v3=some r):aG Tryz.prog 316 [(b4 v1),(aH v2),(aH v3)] (·=(.bk [(aH r.1),(aw r.2)])):=by
 rw[Gp]at hF;refine aP Tryz.func316 ?_;cases hF;exact wr af [[],[(8,⟨_,_, .eq (lg v2 v3)⟩)]]
def It(N:Nat)(v1:aD)(v2:ay)(v3:ay):akd (ay×Int):=
 Option.bind (m0 N v1 ([v2,v3])) fun v4=>
 bif (v4 !=(0:Int))then
  some (bg,v4)
 else
  Option.bind (Gp N v1 v2.xN v3.xN) fun v5=>
  bif (v5.2 !=(0:Int))then
   some (bg,v5.2)
  else
   Option.bind (lJ N v1 v5.1) fun v6=>
   some (v6,(0:Int))
theorem ahK(N:Nat)(v1:aD)(v2:ay)(v3:ay)(r:ay×Int)(hF:It N v1 v2 v3=some r):bO Tryz.prog 314 [(.agg [(.fn 316 [])]),(b4 v1),(bj v2),(bj v3)] [] fun r1 h1=>r1=(.bk [(bj r.1),(aw r.2)])∧h1=[]:=by
 rw[It]at hF;refine eB 0 Tryz.func314 ?_;obtain⟨v4,h1,hF⟩:=ao hF;refine au af [[],[(13,cL (xH N v1 ([v2,v3]) v4 h1))],[]] ?_;refine bc hF (fun h2 hF=> ?_) fun h2 hF=> ?_
 ·cases hF;exact cG af [[(0,bT h2)],[]]
 obtain⟨v5,h3,hF⟩:=ao hF;refine au af [[(0,bF h2)],[(22,cL (agc N v1 v2.xN v3.xN v5 h3))],[]] ?_;refine bc hF (fun h4 hF=> ?_) fun h4 hF=> ?_
 ·cases hF;exact cG af [[(0,bT h4)],[]]
 obtain⟨v6,h5,hF⟩:=ao hF;cases hF;exact cG af [[(0,bF h4)],[(7,cL (zO N v1 v5.1 v6 h5))]]
def zd(N:Nat)(v1:aD)(v2:ay)(v3:ay):akd (ay×Int):=
 Option.bind (It N v1 v2 v3) fun v4=>
 some (v4.1,v4.2)
theorem Yf(N:Nat)(v1:aD)(v2:ay)(v3:ay)(r:ay×Int)(hF:zd N v1 v2 v3=some r):aG Tryz.prog 272 [(b4 v1),(bj v2),(bj v3)] (·=(.bk [(bj r.1),(aw r.2)])):=by
 rw[zd]at hF;refine aP Tryz.func272 ?_;obtain⟨v4,h1,hF⟩:=ao hF;cases hF;exact wr af [[],[(13,oQ [(.agg [(.fn 316 [])]),(b4 v1),(bj v2),(bj v3)] [.cells (b4 v1).cells, .cells (bj v2).cells, .cells (bj v3).cells, .cells fx] [] (ahK N v1 v2 v3 v4 h1))]]
def Ja(N:Nat)(v1:aD)(v2:Int64)(v3:Int64):akd (Int64×Int):=
 some ((v2-v3),(0:Int))
theorem ahG(N:Nat)(v1:aD)(v2:Int64)(v3:Int64)(r:Int64×Int)(hF:Ja N v1 v2 v3=some r):aG Tryz.prog 317 [(b4 v1),(aH v2),(aH v3)] (·=(.bk [(aH r.1),(aw r.2)])):=by
 rw[Ja]at hF;refine aP Tryz.func317 ?_;cases hF;exact wr af [[],[(8,⟨_,_, .eq (ga v2 v3)⟩)]]
def F4(N:Nat)(v1:aD)(v2:ay)(v3:ay):akd (ay×Int):=
 Option.bind (m0 N v1 ([v2,v3])) fun v4=>
 bif (v4 !=(0:Int))then
  some (bg,v4)
 else
  Option.bind (Ja N v1 v2.xN v3.xN) fun v5=>
  bif (v5.2 !=(0:Int))then
   some (bg,v5.2)
  else
   Option.bind (lJ N v1 v5.1) fun v6=>
   some (v6,(0:Int))
theorem XA(N:Nat)(v1:aD)(v2:ay)(v3:ay)(r:ay×Int)(hF:F4 N v1 v2 v3=some r):bO Tryz.prog 314 [(.agg [(.fn 317 [])]),(b4 v1),(bj v2),(bj v3)] [] fun r1 h1=>r1=(.bk [(bj r.1),(aw r.2)])∧h1=[]:=by
 rw[F4]at hF;refine eB 0 Tryz.func314 ?_;obtain⟨v4,h1,hF⟩:=ao hF;refine au af [[],[(13,cL (xH N v1 ([v2,v3]) v4 h1))],[]] ?_;refine bc hF (fun h2 hF=> ?_) fun h2 hF=> ?_
 ·cases hF;exact cG af [[(0,bT h2)],[]]
 obtain⟨v5,h3,hF⟩:=ao hF;refine au af [[(0,bF h2)],[(22,cL (ahG N v1 v2.xN v3.xN v5 h3))],[]] ?_;refine bc hF (fun h4 hF=> ?_) fun h4 hF=> ?_
 ·cases hF;exact cG af [[(0,bT h4)],[]]
 obtain⟨v6,h5,hF⟩:=ao hF;cases hF;exact cG af [[(0,bF h4)],[(7,cL (zO N v1 v5.1 v6 h5))]]
def xQ(N:Nat)(v1:aD)(v2:ay)(v3:ay):akd (ay×Int):=
 Option.bind (F4 N v1 v2 v3) fun v4=>
 some (v4.1,v4.2)
theorem aaX(N:Nat)(v1:aD)(v2:ay)(v3:ay)(r:ay×Int)(hF:xQ N v1 v2 v3=some r):aG Tryz.prog 273 [(b4 v1),(bj v2),(bj v3)] (·=(.bk [(bj r.1),(aw r.2)])):=by
 rw[xQ]at hF;refine aP Tryz.func273 ?_;obtain⟨v4,h1,hF⟩:=ao hF;cases hF;exact wr af [[],[(13,oQ [(.agg [(.fn 317 [])]),(b4 v1),(bj v2),(bj v3)] [.cells (b4 v1).cells, .cells (bj v2).cells, .cells (bj v3).cells, .cells fx] [] (XA N v1 v2 v3 v4 h1))]]
def AR(N:Nat)(v1:Int):akd Bool:=
 Option.bind (bif (decide (v1≥(1:Int)))then some (decide (v1≤(4:Int)))else some false) fun v2=>
 some v2
theorem Pj(N:Nat)(v1:Int)(r:Bool)(hF:AR N v1=some r):aG Tryz.prog 311 [(aw v1)] (·=(aB r)):=by
 rw[AR]at hF;refine aP Tryz.func311 ?_;refine au af [[]] ?_;obtain⟨v2,h2,hF⟩:=ao hF;refine bf af [(2,(aB v2))] [] ?_ ?_
 ·refine bc h2 (fun h1 h2=> ?_) fun h1 h2=> ?_
  ·cases h2;exact⟨[(2,bT h1)],[],by kernel_rfl⟩
  cases h2;exact⟨[(2,bF h1)],[],by kernel_rfl⟩
 cases hF;exact wr af []
def Ag(N:Nat)(v1:Int64):akd Int:=
 bif (decide (v1.toInt<(0:Int)))then
  some (IntKind.u64.wrap (0-(IntKind.u64.wrap v1.toInt)))
 else
  some (IntKind.u64.wrap v1.toInt)
theorem QT(N:Nat)(v1:Int64)(r:Int)(hF:Ag N v1=some r):aG Tryz.prog 336 [(aH v1)] (·=(.d (.v (.int .u64 r)))):=by
 rw[Ag]at hF;refine aP Tryz.func336 ?_;refine au af [[],[]] ?_;refine bc hF (fun h1 hF=> ?_) fun h1 hF=> ?_
 ·cases hF;exact wr af [[(0,bT h1)],[]]
 cases hF;exact wr af [[(0,bF h1)],[]]
def Nb(N:Nat)(v1 v2:Int)(v3:Bool)(v4:Int):akd Int:=bif v2 !=(0:Int)then some (qW v1 v2 v3 v4)else none
theorem Yx(N:Nat)(v1 v2:Int)(v3:Bool)(v4:Int)(r:Int)(hF:Nb N v1 v2 v3 v4=some r):aG Tryz.prog 335 [(.d (.v (.int .u64 v1))),(.d (.v (.int .u64 v2))),(aB v3),(aw v4)] (·=(.d (.v (.int .u64 r)))):=ahw v1 v2 v3 v4 r hF
def vh(N:Nat)(v1:Int64)(v2:Int64)(v3:Int):akd (Int64×Int):=
 Option.bind (AR N v3) fun v4=>
 bif v4 then
  bif (v2.toInt==(0:Int))then
   some ((0:Int64),(4:Int))
  else
   Option.bind (Ag N v1) fun v5=>
   Option.bind (Ag N v2) fun v6=>
   Option.bind (Nb N v5 v6 (!((decide (v1.toInt<(0:Int)))==(decide (v2.toInt<(0:Int))))) v3) fun v7=>
   bif ((decide (v1.toInt<(0:Int)))==(decide (v2.toInt<(0:Int))))then
    bif (decide (v7≥(9223372036854775808:Int)))then
     some ((0:Int64),(3:Int))
    else
     some ((Int64.ofInt v7),(0:Int))
   else
    some ((Int64.ofInt (IntKind.u64.wrap (0-v7))),(0:Int))
 else
  some ((0:Int64),(1:Int))
theorem NF(N:Nat)(v1:Int64)(v2:Int64)(v3:Int)(r:Int64×Int)(hF:vh N v1 v2 v3=some r):aG Tryz.prog 312 [(aH v1),(aH v2),(aw v3)] (·=(.bk [(aH r.1),(aw r.2)])):=by
 rw[vh]at hF;refine aP Tryz.func312 ?_;obtain⟨v4,h1,hF⟩:=ao hF;refine au af [[],[(4,cL (Pj N v3 v4 h1))]] ?_;refine bc hF (fun h2 hF=> ?_) fun h2 hF=> ?_
 ·refine au af [[(0,bF (not_t h2))],[]] ?_;refine bc hF (fun h3 hF=> ?_) fun h3 hF=> ?_
  ·cases hF;exact wr af [[(0,bT h3)],[]]
  obtain⟨v5,h4,hF⟩:=ao hF;obtain⟨v6,h5,hF⟩:=ao hF;obtain⟨v7,h6,hF⟩:=ao hF;refine au af [[(0,bF h3)],[],[(4,cL (QT N v1 v5 h4)),(10,cL (QT N v2 v6 h5)),(19,cL (Yx N v5 v6 (!((decide (v1.toInt<(0:Int)))==(decide (v2.toInt<(0:Int))))) v3 v7 h6))],[]] ?_;refine bc hF (fun h7 hF=> ?_) fun h7 hF=> ?_
  ·refine au af [[(0,bF (not_t h7))],[]] ?_;refine bc hF (fun h8 hF=> ?_) fun h8 hF=> ?_
   ·cases hF;exact wr af [[(0,bT h8)],[]]
   cases hF;exact wr af [[(0,bF h8)],[(5,⟨_,_, .eq (eK v7)⟩)]]
  cases hF;exact wr af [[(0,bT (bS h7))],[(8,⟨_,_, .eq (eK (IntKind.u64.wrap (0-v7)))⟩)]]
 cases hF;exact wr af [[(0,bT (bS h2))],[]]
def GR(N:Nat)(v1:aD)(v2:Int64)(v3:Int64):akd (Int64×Int):=
 bif (decide ((0:Int)≤v1.bE))then
 Option.bind (vh N (v2*v3) (Int64.ofInt ((1:Int)*2^(min (v1.bE).toNat (IntKind.bits .i64)))) v1.bK) fun v4=>
 some (v4.1,v4.2)
 else none
theorem acD(N:Nat)(v1:aD)(v2:Int64)(v3:Int64)(r:Int64×Int)(hF:GR N v1 v2 v3=some r):aG Tryz.prog 318 [(b4 v1),(aH v2),(aH v3)] (·=(.bk [(aH r.1),(aw r.2)])):=by
 rw[GR]at hF;refine aP Tryz.func318 ?_;obtain⟨h1,hF⟩:=dn hF;obtain⟨v4,h2,hF⟩:=ao hF;cases hF;exact wr af [[],[(8,⟨_,_, .eq (dN v2 v3)⟩),(16,⟨_,_, .nn (b:=v1.bE) (of_decide_eq_true h1)⟩),(17,⟨_,_, .eq (eK ((1:Int)*2^(min (v1.bE).toNat (IntKind.bits .i64))))⟩),(25,cL (NF N (v2*v3) (Int64.ofInt ((1:Int)*2^(min (v1.bE).toNat (IntKind.bits .i64)))) v1.bK v4 h2))]]
def GA(N:Nat)(v1:aD)(v2:ay)(v3:ay):akd (ay×Int):=
 Option.bind (m0 N v1 ([v2,v3])) fun v4=>
 bif (v4 !=(0:Int))then
  some (bg,v4)
 else
  Option.bind (GR N v1 v2.xN v3.xN) fun v5=>
  bif (v5.2 !=(0:Int))then
   some (bg,v5.2)
  else
   Option.bind (lJ N v1 v5.1) fun v6=>
   some (v6,(0:Int))
theorem aiD(N:Nat)(v1:aD)(v2:ay)(v3:ay)(r:ay×Int)(hF:GA N v1 v2 v3=some r):bO Tryz.prog 314 [(.agg [(.fn 318 [])]),(b4 v1),(bj v2),(bj v3)] [] fun r1 h1=>r1=(.bk [(bj r.1),(aw r.2)])∧h1=[]:=by
 rw[GA]at hF;refine eB 0 Tryz.func314 ?_;obtain⟨v4,h1,hF⟩:=ao hF;refine au af [[],[(13,cL (xH N v1 ([v2,v3]) v4 h1))],[]] ?_;refine bc hF (fun h2 hF=> ?_) fun h2 hF=> ?_
 ·cases hF;exact cG af [[(0,bT h2)],[]]
 obtain⟨v5,h3,hF⟩:=ao hF;refine au af [[(0,bF h2)],[(22,cL (acD N v1 v2.xN v3.xN v5 h3))],[]] ?_;refine bc hF (fun h4 hF=> ?_) fun h4 hF=> ?_
 ·cases hF;exact cG af [[(0,bT h4)],[]]
 obtain⟨v6,h5,hF⟩:=ao hF;cases hF;exact cG af [[(0,bF h4)],[(7,cL (zO N v1 v5.1 v6 h5))]]
def Ab(N:Nat)(v1:aD)(v2:ay)(v3:ay):akd (ay×Int):=
 Option.bind (GA N v1 v2 v3) fun v4=>
 some (v4.1,v4.2)
theorem ahb(N:Nat)(v1:aD)(v2:ay)(v3:ay)(r:ay×Int)(hF:Ab N v1 v2 v3=some r):aG Tryz.prog 274 [(b4 v1),(bj v2),(bj v3)] (·=(.bk [(bj r.1),(aw r.2)])):=by
 rw[Ab]at hF;refine aP Tryz.func274 ?_;obtain⟨v4,h1,hF⟩:=ao hF;cases hF;exact wr af [[],[(13,oQ [(.agg [(.fn 318 [])]),(b4 v1),(bj v2),(bj v3)] [.cells (b4 v1).cells, .cells (bj v2).cells, .cells (bj v3).cells, .cells fx] [] (aiD N v1 v2 v3 v4 h1))]]
def Gw(N:Nat)(v1:aD)(v2:Int64)(v3:Int64):akd (Int64×Int):=
 bif (decide ((0:Int)≤v1.bE))then
 Option.bind (vh N (Int64.ofInt (v2.toInt*2^(min (v1.bE).toNat (IntKind.bits .i64)))) v3 v1.bK) fun v4=>
 some (v4.1,v4.2)
 else none
theorem adp(N:Nat)(v1:aD)(v2:Int64)(v3:Int64)(r:Int64×Int)(hF:Gw N v1 v2 v3=some r):aG Tryz.prog 319 [(b4 v1),(aH v2),(aH v3)] (·=(.bk [(aH r.1),(aw r.2)])):=by
 rw[Gw]at hF;refine aP Tryz.func319 ?_;obtain⟨h1,hF⟩:=dn hF;obtain⟨v4,h2,hF⟩:=ao hF;cases hF;exact wr af [[],[(10,⟨_,_, .nn (b:=v1.bE) (of_decide_eq_true h1)⟩),(11,⟨_,_, .eq (eK (v2.toInt*2^(min (v1.bE).toNat (IntKind.bits .i64))))⟩),(22,cL (NF N (Int64.ofInt (v2.toInt*2^(min (v1.bE).toNat (IntKind.bits .i64)))) v3 v1.bK v4 h2))]]
def Jb(N:Nat)(v1:aD)(v2:ay)(v3:ay):akd (ay×Int):=
 Option.bind (m0 N v1 ([v2,v3])) fun v4=>
 bif (v4 !=(0:Int))then
  some (bg,v4)
 else
  Option.bind (Gw N v1 v2.xN v3.xN) fun v5=>
  bif (v5.2 !=(0:Int))then
   some (bg,v5.2)
  else
   Option.bind (lJ N v1 v5.1) fun v6=>
   some (v6,(0:Int))
theorem XG(N:Nat)(v1:aD)(v2:ay)(v3:ay)(r:ay×Int)(hF:Jb N v1 v2 v3=some r):bO Tryz.prog 314 [(.agg [(.fn 319 [])]),(b4 v1),(bj v2),(bj v3)] [] fun r1 h1=>r1=(.bk [(bj r.1),(aw r.2)])∧h1=[]:=by
 rw[Jb]at hF;refine eB 0 Tryz.func314 ?_;obtain⟨v4,h1,hF⟩:=ao hF;refine au af [[],[(13,cL (xH N v1 ([v2,v3]) v4 h1))],[]] ?_;refine bc hF (fun h2 hF=> ?_) fun h2 hF=> ?_
 ·cases hF;exact cG af [[(0,bT h2)],[]]
 obtain⟨v5,h3,hF⟩:=ao hF;refine au af [[(0,bF h2)],[(22,cL (adp N v1 v2.xN v3.xN v5 h3))],[]] ?_;refine bc hF (fun h4 hF=> ?_) fun h4 hF=> ?_
 ·cases hF;exact cG af [[(0,bT h4)],[]]
 obtain⟨v6,h5,hF⟩:=ao hF;cases hF;exact cG af [[(0,bF h4)],[(7,cL (zO N v1 v5.1 v6 h5))]]
def xv(N:Nat)(v1:aD)(v2:ay)(v3:ay):akd (ay×Int):=
 Option.bind (Jb N v1 v2 v3) fun v4=>
 some (v4.1,v4.2)
theorem ad7(N:Nat)(v1:aD)(v2:ay)(v3:ay)(r:ay×Int)(hF:xv N v1 v2 v3=some r):aG Tryz.prog 275 [(b4 v1),(bj v2),(bj v3)] (·=(.bk [(bj r.1),(aw r.2)])):=by
 rw[xv]at hF;refine aP Tryz.func275 ?_;obtain⟨v4,h1,hF⟩:=ao hF;cases hF;exact wr af [[],[(13,oQ [(.agg [(.fn 319 [])]),(b4 v1),(bj v2),(bj v3)] [.cells (b4 v1).cells, .cells (bj v2).cells, .cells (bj v3).cells, .cells fx] [] (XG N v1 v2 v3 v4 h1))]]
def pj(N:Nat)(v1:Int64)(v2:Int64):akd (ay×Int):=
 bif (v2.toInt==(0:Int))then
  some (bg,(4:Int))
 else
  Option.bind (uA N v1) fun v3=>
  Option.bind (uA N v2) fun v4=>
  Option.bind (vF N v3 v4) fun v5=>
  bif (v5 !=(0:Int))then
  Option.bind (bif (decide ((IntKind.u64.wrap ((v3).tdiv v5))>(2147483647:Int)))then some true else some (decide ((IntKind.u64.wrap ((v4).tdiv v5))>(2147483647:Int)))) fun v6=>
  bif v6 then
   some (bg,(3:Int))
  else
   bif ((decide (v1.toInt<(0:Int)))==(decide (v2.toInt<(0:Int))))then
    some ((⟨(Int64.ofInt (IntKind.u64.wrap ((v3).tdiv v5))),(Int64.ofInt (IntKind.u64.wrap ((v4).tdiv v5)))⟩:ay),(0:Int))
   else
    some ((⟨(-(Int64.ofInt (IntKind.u64.wrap ((v3).tdiv v5)))),(Int64.ofInt (IntKind.u64.wrap ((v4).tdiv v5)))⟩:ay),(0:Int))
  else none
theorem E9(N:Nat)(v1:Int64)(v2:Int64)(r:ay×Int)(hF:pj N v1 v2=some r):aG Tryz.prog 310 [(aH v1),(aH v2)] (·=(.bk [(bj r.1),(aw r.2)])):=by
 rw[pj]at hF;refine aP Tryz.func310 ?_;refine au af [[],[]] ?_;refine bc hF (fun h1 hF=> ?_) fun h1 hF=> ?_
 ·cases hF;exact wr af [[(0,bT h1)],[]]
 obtain⟨v3,h2,hF⟩:=ao hF;obtain⟨v4,h3,hF⟩:=ao hF;obtain⟨v5,h4,hF⟩:=ao hF;obtain⟨h5,hF⟩:=dn hF;refine au af [[(0,bF h1)],[],[(4,cL (KN N v1 v3 h2)),(10,cL (KN N v2 v4 h3))],[(7,cL (O7 N v3 v4 v5 h4))],[(7,⟨_,_, .nz (b:=v5) (bne_iff_ne.1 h5)⟩),(16,⟨_,_, .nz (b:=v5) (bne_iff_ne.1 h5)⟩)]] ?_;obtain⟨v6,h8,hF⟩:=ao hF;refine bf af [(36,(aB v6))] [.cells fx] ?_ ?_
 ·refine bc h8 (fun h7 h8=> ?_) fun h7 h8=> ?_
  ·cases h8;exact⟨[(2,bT h7)],[],by kernel_rfl⟩
  cases h8;exact⟨[(2,bF h7)],[],by kernel_rfl⟩
 refine bc hF (fun h9 hF=> ?_) fun h9 hF=> ?_
 ·cases hF;exact wr af [[(0,bT h9)],[]]
 refine au af [[(0,bF h9)],[]] ?_;refine bc hF (fun az hF=> ?_) fun az hF=> ?_
 ·cases hF;exact wr af [[(0,bF (not_t az))],[(5,⟨_,_, .eq (eK (IntKind.u64.wrap ((v3).tdiv v5)))⟩),(11,⟨_,_, .eq (eK (IntKind.u64.wrap ((v4).tdiv v5)))⟩)]]
 cases hF;exact wr af [[(0,bT (bS az))],[(5,⟨_,_, .eq (eK (IntKind.u64.wrap ((v3).tdiv v5)))⟩),(8,⟨_,_, .eq (jn (Int64.ofInt (IntKind.u64.wrap ((v3).tdiv v5))))⟩),(14,⟨_,_, .eq (eK (IntKind.u64.wrap ((v4).tdiv v5)))⟩)]]
def zL(N:Nat)(v1:ay)(v2:ay):akd (ay×Int):=
 Option.bind (ie N v1) fun v3=>
 Option.bind (bif v3 then Option.bind (ie N v2) fun v4=>
 some (!v4)else some true) fun v5=>
 bif v5 then
  some (bg,(1:Int))
 else
  Option.bind (pj N ((v1.xN*v2.xD)+(v2.xN*v1.xD)) (v1.xD*v2.xD)) fun v6=>
  some (v6.1,v6.2)
theorem ae7(N:Nat)(v1:ay)(v2:ay)(r:ay×Int)(hF:zL N v1 v2=some r):aG Tryz.prog 276 [(bj v1),(bj v2)] (·=(.bk [(bj r.1),(aw r.2)])):=by
 rw[zL]at hF;refine aP Tryz.func276 ?_;refine au af [[]] ?_;obtain⟨v3,h1,hF⟩:=ao hF;obtain⟨v5,h4,hF⟩:=ao hF;refine bf af [(13,(aB v5))] [.cells (bj v1).cells, .cells (bj v2).cells, .cells fx] ?_ ?_
 ·refine bc h4 (fun h2 h4=> ?_) fun h2 h4=> ?_
  ·obtain⟨v4,h3,h4⟩:=ao h4;cases h4;exact⟨[(3,bF (not_t h2))],[(4,cL (gG N v1 v3 h1)),(16,cL (gG N v2 v4 h3))],by kernel_rfl⟩
  cases h4;exact⟨[(3,bT (bS h2))],[(4,cL (gG N v1 v3 h1))],by kernel_rfl⟩
 refine bc hF (fun h5 hF=> ?_) fun h5 hF=> ?_
 ·cases hF;exact wr af [[(0,bT h5)],[]]
 obtain⟨v6,h6,hF⟩:=ao hF;cases hF;exact wr af [[(0,bF h5)],[(14,⟨_,_, .eq (dN v1.xN v2.xD)⟩),(29,⟨_,_, .eq (dN v2.xN v1.xD)⟩),(32,⟨_,_, .eq (lg (v1.xN*v2.xD) (v2.xN*v1.xD))⟩),(47,⟨_,_, .eq (dN v1.xD v2.xD)⟩),(49,cL (E9 N ((v1.xN*v2.xD)+(v2.xN*v1.xD)) (v1.xD*v2.xD) v6 h6))]]
def yq(N:Nat)(v1:ay)(v2:ay):akd (ay×Int):=
 Option.bind (ie N v1) fun v3=>
 Option.bind (bif v3 then Option.bind (ie N v2) fun v4=>
 some (!v4)else some true) fun v5=>
 bif v5 then
  some (bg,(1:Int))
 else
  Option.bind (pj N ((v1.xN*v2.xD)-(v2.xN*v1.xD)) (v1.xD*v2.xD)) fun v6=>
  some (v6.1,v6.2)
theorem abj(N:Nat)(v1:ay)(v2:ay)(r:ay×Int)(hF:yq N v1 v2=some r):aG Tryz.prog 277 [(bj v1),(bj v2)] (·=(.bk [(bj r.1),(aw r.2)])):=by
 rw[yq]at hF;refine aP Tryz.func277 ?_;refine au af [[]] ?_;obtain⟨v3,h1,hF⟩:=ao hF;obtain⟨v5,h4,hF⟩:=ao hF;refine bf af [(13,(aB v5))] [.cells (bj v1).cells, .cells (bj v2).cells, .cells fx] ?_ ?_
 ·refine bc h4 (fun h2 h4=> ?_) fun h2 h4=> ?_
  ·obtain⟨v4,h3,h4⟩:=ao h4;cases h4;exact⟨[(3,bF (not_t h2))],[(4,cL (gG N v1 v3 h1)),(16,cL (gG N v2 v4 h3))],by kernel_rfl⟩
  cases h4;exact⟨[(3,bT (bS h2))],[(4,cL (gG N v1 v3 h1))],by kernel_rfl⟩
 refine bc hF (fun h5 hF=> ?_) fun h5 hF=> ?_
 ·cases hF;exact wr af [[(0,bT h5)],[]]
 obtain⟨v6,h6,hF⟩:=ao hF;cases hF;exact wr af [[(0,bF h5)],[(14,⟨_,_, .eq (dN v1.xN v2.xD)⟩),(29,⟨_,_, .eq (dN v2.xN v1.xD)⟩),(32,⟨_,_, .eq (ga (v1.xN*v2.xD) (v2.xN*v1.xD))⟩),(47,⟨_,_, .eq (dN v1.xD v2.xD)⟩),(49,cL (E9 N ((v1.xN*v2.xD)-(v2.xN*v1.xD)) (v1.xD*v2.xD) v6 h6))]]
def zF(N:Nat)(v1:ay)(v2:ay):akd (ay×Int):=
 Option.bind (ie N v1) fun v3=>
 Option.bind (bif v3 then Option.bind (ie N v2) fun v4=>
 some (!v4)else some true) fun v5=>
 bif v5 then
  some (bg,(1:Int))
 else
  Option.bind (pj N (v1.xN*v2.xN) (v1.xD*v2.xD)) fun v6=>
  some (v6.1,v6.2)
theorem agN(N:Nat)(v1:ay)(v2:ay)(r:ay×Int)(hF:zF N v1 v2=some r):aG Tryz.prog 278 [(bj v1),(bj v2)] (·=(.bk [(bj r.1),(aw r.2)])):=by
 rw[zF]at hF;refine aP Tryz.func278 ?_;refine au af [[]] ?_;obtain⟨v3,h1,hF⟩:=ao hF;obtain⟨v5,h4,hF⟩:=ao hF;refine bf af [(13,(aB v5))] [.cells (bj v1).cells, .cells (bj v2).cells, .cells fx] ?_ ?_
 ·refine bc h4 (fun h2 h4=> ?_) fun h2 h4=> ?_
  ·obtain⟨v4,h3,h4⟩:=ao h4;cases h4;exact⟨[(3,bF (not_t h2))],[(4,cL (gG N v1 v3 h1)),(16,cL (gG N v2 v4 h3))],by kernel_rfl⟩
  cases h4;exact⟨[(3,bT (bS h2))],[(4,cL (gG N v1 v3 h1))],by kernel_rfl⟩
 refine bc hF (fun h5 hF=> ?_) fun h5 hF=> ?_
 ·cases hF;exact wr af [[(0,bT h5)],[]]
 obtain⟨v6,h6,hF⟩:=ao hF;cases hF;exact wr af [[(0,bF h5)],[(14,⟨_,_, .eq (dN v1.xN v2.xN)⟩),(29,⟨_,_, .eq (dN v1.xD v2.xD)⟩),(31,cL (E9 N (v1.xN*v2.xN) (v1.xD*v2.xD) v6 h6))]]
def yH(N:Nat)(v1:ay)(v2:ay):akd (ay×Int):=
 Option.bind (ie N v1) fun v3=>
 Option.bind (bif v3 then Option.bind (ie N v2) fun v4=>
 some (!v4)else some true) fun v5=>
 bif v5 then
  some (bg,(1:Int))
 else
  Option.bind (pj N (v1.xN*v2.xD) (v1.xD*v2.xN)) fun v6=>
  some (v6.1,v6.2)
theorem Xw(N:Nat)(v1:ay)(v2:ay)(r:ay×Int)(hF:yH N v1 v2=some r):aG Tryz.prog 279 [(bj v1),(bj v2)] (·=(.bk [(bj r.1),(aw r.2)])):=by
 rw[yH]at hF;refine aP Tryz.func279 ?_;refine au af [[]] ?_;obtain⟨v3,h1,hF⟩:=ao hF;obtain⟨v5,h4,hF⟩:=ao hF;refine bf af [(13,(aB v5))] [.cells (bj v1).cells, .cells (bj v2).cells, .cells fx] ?_ ?_
 ·refine bc h4 (fun h2 h4=> ?_) fun h2 h4=> ?_
  ·obtain⟨v4,h3,h4⟩:=ao h4;cases h4;exact⟨[(3,bF (not_t h2))],[(4,cL (gG N v1 v3 h1)),(16,cL (gG N v2 v4 h3))],by kernel_rfl⟩
  cases h4;exact⟨[(3,bT (bS h2))],[(4,cL (gG N v1 v3 h1))],by kernel_rfl⟩
 refine bc hF (fun h5 hF=> ?_) fun h5 hF=> ?_
 ·cases hF;exact wr af [[(0,bT h5)],[]]
 obtain⟨v6,h6,hF⟩:=ao hF;cases hF;exact wr af [[(0,bF h5)],[(14,⟨_,_, .eq (dN v1.xN v2.xD)⟩),(29,⟨_,_, .eq (dN v1.xD v2.xN)⟩),(31,cL (E9 N (v1.xN*v2.xD) (v1.xD*v2.xN) v6 h6))]]
def Cu(N:Nat)(v1:Int)(v2:aD)(v3:ay)(v4:ay):akd (ay×Int):=
 bif (v2.a8==(3:Int))then
  Option.bind (yI N v1 v3.xN v4.xN) fun v5=>
  some (v5.1,v5.2)
 else
  Option.bind (bif (v1==(4:Int))then some (v2.a8==(2:Int))else some false) fun v6=>
  bif v6 then
   Option.bind (zd N v2 v3 v4) fun v7=>
   some (v7.1,v7.2)
  else
   Option.bind (bif (v1==(5:Int))then some (v2.a8==(2:Int))else some false) fun v8=>
   bif v8 then
    Option.bind (xQ N v2 v3 v4) fun v9=>
    some (v9.1,v9.2)
   else
    Option.bind (bif (v1==(6:Int))then some (v2.a8==(2:Int))else some false) fun v10=>
    bif v10 then
     Option.bind (Ab N v2 v3 v4) fun v11=>
     some (v11.1,v11.2)
    else
     bif (v2.a8==(2:Int))then
      Option.bind (xv N v2 v3 v4) fun v12=>
      some (v12.1,v12.2)
     else
      bif (v1==(4:Int))then
       Option.bind (zL N v3 v4) fun aZ=>
       some (aZ.1,aZ.2)
      else
       bif (v1==(5:Int))then
        Option.bind (yq N v3 v4) fun bu=>
        some (bu.1,bu.2)
       else
        bif (v1==(6:Int))then
         Option.bind (zF N v3 v4) fun bQ=>
         some (bQ.1,bQ.2)
        else
         Option.bind (yH N v3 v4) fun de=>
         some (de.1,de.2)
def Ld(v2:aD)(v3:ay)(v4:ay)(l:akb aq):akb aq:= .cells (b4 v2).cells:: .cells (bj v3).cells:: .cells (bj v4).cells:: .cells fx::l
theorem afx(N:Nat)(v1:Int)(v2:aD)(v3:ay)(v4:ay)(r:ay×Int)(hF:Cu N v1 v2 v3 v4=some r):aG Tryz.prog 223 [(aw v1),(b4 v2),(bj v3),(bj v4)] (·=(.bk [(bj r.1),(aw r.2)])):=by
 rw[Cu]at hF;refine aP Tryz.func223 ?_;refine au af [[],[],[]] ?_;refine bc hF (fun h1 hF=> ?_) fun h1 hF=> ?_
 ·obtain⟨v5,h2,hF⟩:=ao hF;cases hF;exact wr af [[(0,bT h1)],[(16,cL (aam N v1 v3.xN v4.xN v5 h2))]]
 refine au af [[(0,bF h1)]] ?_;obtain⟨v6,h4,hF⟩:=ao hF;refine bf af [(26,(aB v6))] (Ld v2 v3 v4 []) ?_ ?_
 ·refine bc h4 (fun h3 h4=> ?_) fun h3 h4=> ?_
  ·cases h4;exact⟨[(2,bT h3)],[],by kernel_rfl⟩
  cases h4;exact⟨[(2,bF h3)],[],by kernel_rfl⟩
 refine bc hF (fun h5 hF=> ?_) fun h5 hF=> ?_
 ·obtain⟨v7,h6,hF⟩:=ao hF;cases hF;exact wr af [[(0,bT h5)],[(10,cL (Yf N v2 v3 v4 v7 h6))]]
 refine au af [[(0,bF h5)]] ?_;obtain⟨v8,h8,hF⟩:=ao hF;refine bf af [(38,(aB v8))] (Ld v2 v3 v4 []) ?_ ?_
 ·refine bc h8 (fun h7 h8=> ?_) fun h7 h8=> ?_
  ·cases h8;exact⟨[(2,bT h7)],[],by kernel_rfl⟩
  cases h8;exact⟨[(2,bF h7)],[],by kernel_rfl⟩
 refine bc hF (fun h9 hF=> ?_) fun h9 hF=> ?_
 ·obtain⟨v9,az,hF⟩:=ao hF;cases hF;exact wr af [[(0,bT h9)],[(10,cL (aaX N v2 v3 v4 v9 az))]]
 refine au af [[(0,bF h9)]] ?_;obtain⟨v10,aN,hF⟩:=ao hF;refine bf af [(50,(aB v10))] (Ld v2 v3 v4 []) ?_ ?_
 ·refine bc aN (fun aE aN=> ?_) fun aE aN=> ?_
  ·cases aN;exact⟨[(2,bT aE)],[],by kernel_rfl⟩
  cases aN;exact⟨[(2,bF aE)],[],by kernel_rfl⟩
 refine bc hF (fun aY hF=> ?_) fun aY hF=> ?_
 ·obtain⟨v11,aJ,hF⟩:=ao hF;cases hF;exact wr af [[(0,bT aY)],[(10,cL (ahb N v2 v3 v4 v11 aJ))]]
 refine au af [[(0,bF aY)],[]] ?_;refine bc hF (fun bt hF=> ?_) fun bt hF=> ?_
 ·obtain⟨v12,aM,hF⟩:=ao hF;cases hF;exact wr af [[(0,bT bt)],[(10,cL (ad7 N v2 v3 v4 v12 aM))]]
 refine au af [[(0,bF bt)],[]] ?_;refine bc hF (fun bp hF=> ?_) fun bp hF=> ?_
 ·obtain⟨aZ,a7,hF⟩:=ao hF;cases hF;exact wr af [[(0,bT bp)],[(7,cL (ae7 N v3 v4 aZ a7))]]
 refine au af [[(0,bF bp)],[]] ?_;refine bc hF (fun bR hF=> ?_) fun bR hF=> ?_
 ·obtain⟨bu,b5,hF⟩:=ao hF;cases hF;exact wr af [[(0,bT bR)],[(7,cL (abj N v3 v4 bu b5))]]
 refine au af [[(0,bF bR)],[]] ?_;refine bc hF (fun ck hF=> ?_) fun ck hF=> ?_
 ·obtain⟨bQ,bw,hF⟩:=ao hF;cases hF;exact wr af [[(0,bT ck)],[(7,cL (agN N v3 v4 bQ bw))]]
 obtain⟨de,cP,hF⟩:=ao hF;cases hF;exact wr af [[(0,bF ck)],[(7,cL (Xw N v3 v4 de cP))]]
def vc(N:Nat)(v2:aD)(v3:ay)(v4:ay)(v1:Int)(v11:Bool):akd (ay×Int):=
 bif v11 then
  Option.bind (yV N v2 v3 v4) fun v12=>
  Option.bind (bif ((decide (v12>(0:Int)))==(v1==(9:Int)))then some (v12 !=(0:Int))else some false) fun aZ=>
  bif aZ then
   some (v4,(0:Int))
  else
   some (v3,(0:Int))
 else
  Option.bind (Cu N v1 v2 v3 v4) fun bu=>
  some (bu.1,bu.2)
def yb(N:Nat)(v1:Int)(v2:aD)(v3:ay)(v4:ay):akd (ay×Int):=
 Option.bind (bif (decide (v1<(4:Int)))then some true else some (decide (v1>(10:Int)))) fun v5=>
 bif v5 then
  some (bg,(1:Int))
 else
  Option.bind (lR N v2) fun v6=>
  bif (v6 !=(0:Int))then
   some (bg,(10:Int))
  else
   Option.bind (mq N v2 v3) fun v7=>
   Option.bind (bif v7 then(bif (v1 !=(8:Int))then Option.bind (mq N v2 v4) fun v8=>
   some (!v8)else some false)else some true) fun v9=>
   bif v9 then
    some (bg,(1:Int))
   else
    bif (v1==(8:Int))then
     Option.bind (B3 N v2 v3) fun v10=>
     some (v10.1,v10.2)
    else
     bif (v1==(9:Int))then
      vc N v2 v3 v4 v1 (v1==(9:Int))
     else
      vc N v2 v3 v4 v1 (v1==(10:Int))
def Jh(v2:aD)(v3:ay)(v4:ay)(l:akb aq):akb aq:= .cells (b4 v2).cells:: .cells (bj v3).cells:: .cells (bj v4).cells:: .cells fx::l
theorem ag9(N:Nat)(v1:Int)(v2:aD)(v3:ay)(v4:ay)(r:ay×Int)(hF:yb N v1 v2 v3 v4=some r):aG Tryz.prog 144 [(aw v1),(b4 v2),(bj v3),(bj v4)] (·=(.bk [(bj r.1),(aw r.2)])):=by
 rw[yb]at hF;refine aP Tryz.func144 ?_;refine au af [[]] ?_;obtain⟨v5,h2,hF⟩:=ao hF;refine bf af [(11,(aB v5))] (Jh v2 v3 v4 []) ?_ ?_
 ·refine bc h2 (fun h1 h2=> ?_) fun h1 h2=> ?_
  ·cases h2;exact⟨[(2,bT h1)],[],by kernel_rfl⟩
  cases h2;exact⟨[(2,bF h1)],[],by kernel_rfl⟩
 refine bc hF (fun h3 hF=> ?_) fun h3 hF=> ?_
 ·cases hF;exact wr af [[(0,bT h3)],[]]
 obtain⟨v6,h4,hF⟩:=ao hF;refine au af [[(0,bF h3)],[(4,cL (m5 N v2 v6 h4))]] ?_;refine bc hF (fun h5 hF=> ?_) fun h5 hF=> ?_
 ·cases hF;exact wr af [[(0,bT h5)],[]]
 refine au af [[(0,bF h5)]] ?_;obtain⟨v7,h6,hF⟩:=ao hF;obtain⟨v9,az,hF⟩:=ao hF;refine bf af [(24,(aB v9))] (Jh v2 v3 v4 []) ?_ ?_
 ·refine bc az (fun h7 az=> ?_) fun h7 az=> ?_
  ·refine bc az (fun h8 az=> ?_) fun h8 az=> ?_
   ·obtain⟨v8,h9,az⟩:=ao az;cases az;exact⟨[(4,bF (not_t h7)),(7,bT h8)],[(7,cL (qa N v2 v3 v7 h6)),(31,cL (qa N v2 v4 v8 h9)),(37,bT h8)],by kernel_rfl⟩
   cases az;exact⟨[(4,bF (not_t h7)),(7,bF h8)],[(7,cL (qa N v2 v3 v7 h6)),(37,bF h8)],by kernel_rfl⟩
  cases az;exact⟨[(4,bT (bS h7)),(7,uN)],[(7,cL (qa N v2 v3 v7 h6))],by kernel_rfl⟩
 refine bc hF (fun aE hF=> ?_) fun aE hF=> ?_
 ·cases hF;exact wr af [[(0,bT aE)],[]]
 refine au af [[(0,bF aE)],[],[]] ?_;refine bc hF (fun aN hF=> ?_) fun aN hF=> ?_
 ·obtain⟨v10,aY,hF⟩:=ao hF;cases hF;exact wr af [[(0,bT aN)],[(7,cL (XL N v2 v3 v10 aY))]]
 refine gN af r 1 [[(0,bF aN)],[]] [0,5,6,7,8,48] 4 (fun(v11:Bool)=>⟨73,[(0,(aw v1)),(5,(.ptr 0 0)),(6,(.ptr 1 0)),(7,(.ptr 2 0)),(8,(.ptr 3 0)),(48,(aB v11))],(Jh v2 v3 v4 [])⟩) (vc N v2 v3 v4 v1) ?_ ?_
 ·intro f1 aO;refine bc hF (fun b5 hF=> ?_) fun b5 hF=> ?_
  ·exact bM af aO (v1==(9:Int)) [[(0,bT b5)]] hF
  exact bM af aO (v1==(10:Int)) [[(0,bF b5)],[]] hF
 intro v11 hF;rw[vc]at hF;refine bc hF (fun aJ hF=> ?_) fun aJ hF=> ?_
 ·obtain⟨v12,bt,hF⟩:=ao hF;refine au af [[(0,bT aJ)],[(10,cL (VO N v2 v3 v4 v12 bt))]] ?_;obtain⟨aZ,bp,hF⟩:=ao hF;refine bf af [(63,(aB aZ))] (Jh v2 v3 v4 []) ?_ ?_
  ·refine bc bp (fun aM bp=> ?_) fun aM bp=> ?_
   ·cases bp;exact⟨[(5,bT aM)],[],by kernel_rfl⟩
   cases bp;exact⟨[(5,bF aM)],[],by kernel_rfl⟩
  refine bc hF (fun a7 hF=> ?_) fun a7 hF=> ?_
  ·cases hF;exact wr af [[(0,bT a7)],[]]
  cases hF;exact wr af [[(0,bF a7)],[]]
 obtain⟨bu,bR,hF⟩:=ao hF;cases hF;exact wr af [[(0,bF aJ)],[(13,cL (afx N v1 v2 v3 v4 bu bR))]]
def oF(N:Nat)(v1:aD)(v2:ay):akd an:=
 some (⟨(1:Int),(bs []),v2,v1,zLin,[],[]⟩:an)
theorem tH(N:Nat)(v1:aD)(v2:ay)(r:an)(hF:oF N v1 v2=some r):aG Tryz.prog 179 [(b4 v1),(bj v2)] (·=(aA r)):=by
 rw[oF]at hF;refine aP Tryz.func179 ?_;cases hF;exact wr af [[],[]]
def xz(N:Nat)(v1:cy):akd (an×Bool):=
 Option.bind (Ik N v1) fun v2=>
 Option.bind (bif v2 then some false else some (v1.yE.ar !=(8:Int))) fun v3=>
 bif v3 then
  some (ef,false)
 else
  Option.bind (v1.yE.ax[0]?) fun v4=>
  bif (decide ((0:Int)≤(aS ((v1.yE.ax.length:Int)-(1:Int)))))then
  Option.bind (v1.yE.ax[((aS ((v1.yE.ax.length:Int)-(1:Int)))).toNat]?) fun v5=>
  Option.bind (bif (v4.ar !=(1:Int))then some true else(bif (v5.ar !=(1:Int))then some true else some (!((v4.aC.a8==v5.aC.a8)&&((v4.aC.bz==v5.aC.bz)&&((v4.aC.bE==v5.aC.bE)&&((v4.aC.bK==v5.aC.bK)&&((v4.aC.bI==v5.aC.bI)&&true)))))))) fun v6=>
  bif v6 then
   some (ef,false)
  else
   Option.bind (yb N v1.yE.ar v4.aC v4.ba v5.ba) fun v7=>
   Option.bind (oF N v4.aC v7.1) fun v8=>
   some (v8,(v7.2==(0:Int)))
  else none
theorem ach(N:Nat)(v1:cy)(r:an×Bool)(hF:xz N v1=some r):aG Tryz.prog 105 [(bH v1)] (·=(.bk [(aA r.1),(aB r.2)])):=by
 rw[xz]at hF;refine aP Tryz.func105 ?_;refine au af [[]] ?_;obtain⟨v2,h1,hF⟩:=ao hF;obtain⟨v3,h3,hF⟩:=ao hF;refine bf af [(16,(aB v3))] [.cells (bH v1).cells, .cells ep] ?_ ?_
 ·refine bc h3 (fun h2 h3=> ?_) fun h2 h3=> ?_
  ·cases h3;exact⟨[(3,bF (not_t h2))],[(4,cL (JY N v1 v2 h1))],by kernel_rfl⟩
  cases h3;exact⟨[(3,bT (bS h2))],[(4,cL (JY N v1 v2 h1))],by kernel_rfl⟩
 refine bc hF (fun h4 hF=> ?_) fun h4 hF=> ?_
 ·cases hF;exact wr af [[(0,bT h4)],[]]
 obtain⟨v4,h5,hF⟩:=ao hF;obtain⟨h7,hF⟩:=dn hF;obtain⟨v5,h6,hF⟩:=ao hF;refine au af [[(0,bF h4)],[(10,oE (k:=0) (bq h5))],[(19,oL v1.yE.ax dD),(25,⟨_,_, .el (xs:=cq v1.yE.ax) (i:=(aS ((v1.yE.ax.length:Int)-(1:Int)))) (of_decide_eq_true h7) (bq h6)⟩)]] ?_;obtain⟨v6,az,hF⟩:=ao hF;refine bf af [(47,(aB v6))] [.cells (bH v1).cells, .cells ep, .cells (aA v4).cells, .cells (aA v5).cells] ?_ ?_
 ·refine bc az (fun h8 az=> ?_) fun h8 az=> ?_
  ·cases az;exact⟨[(3,bT h8),(8,bT rfl)],[],by kernel_rfl⟩
  refine bc az (fun h9 az=> ?_) fun h9 az=> ?_
  ·cases az;exact⟨[(3,bF h8),(8,bT h9)],[],by kernel_rfl⟩
  cases az;exact⟨[(3,bF h8),(8,bF h9)],[],by kernel_rfl⟩
 refine bc hF (fun aE hF=> ?_) fun aE hF=> ?_
 ·cases hF;exact wr af [[(0,bT aE)],[]]
 obtain⟨v7,aN,hF⟩:=ao hF;obtain⟨v8,aY,hF⟩:=ao hF;cases hF;exact wr af [[(0,bF aE)],[(28,cL (ag9 N v1.yE.ar v4.aC v4.ba v5.ba v7 aN))],[(10,cL (tH N v4.aC v7.1 v8 aY))]]
def FJ(N:Nat)(v9:an×Bool)(v10:akc)(v11:Int)(v12:akc)(aZ:Int64)(bu:Int64)(bQ:Int)(de:Int)(bW:Int)(bx:Int)(cA:Int)(v20:Int64)(v21:akb aU)(eX:akb aI)(dt:akb an):akd (Bool×akc×Int×akc×Int64×Int64×Int×Int×Int×Int×Int×Int64×(akb aU)×(akb aI)×(akb an)):=
 some (v9.2,v10,v11,v12,aZ,bu,bQ,de,bW,bx,cA,v20,v21,eX,dt)
def BB(N:Nat)(v1:cy)(v2:akc)(v3:akc)(v4:Int)(v5:akc)(v6:ay)(v7:aD)(v8:Int64):akd (Bool×akc×Int×akc×Int64×Int64×Int×Int×Int×Int×Int×Int64×(akb aU)×(akb aI)×(akb an)):=
 Option.bind (xz N v1) fun v9=>
 bif v9.2 then
  FJ N v9 v2 v9.1.ar v9.1.aV v9.1.ba.xN v9.1.ba.xD v9.1.aC.a8 v9.1.aC.bz v9.1.aC.bE v9.1.aC.bK v9.1.aC.bI v9.1.aK.xK v9.1.aK.xL v9.1.xIdx v9.1.ax
 else
  FJ N v9 v3 v4 v5 v6.xN v6.xD v7.a8 v7.bz v7.bE v7.bK v7.bI v8 [] [] []
theorem mZ(N:Nat)(v1:cy)(v2:akc)(v3:akc)(v4:Int)(v5:akc)(v6:ay)(v7:aD)(v8:Int64)(r:Bool×akc×Int×akc×Int64×Int64×Int×Int×Int×Int×Int×Int64×(akb aU)×(akb aI)×(akb an))(hF:BB N v1 v2 v3 v4 v5 v6 v7 v8=some r):bO Tryz.prog 104 [(bH v1),(.fn 105 []),(aR v2),(.ptr 0 0),(.ptr 1 0)] [.cells [(aR v3)], .cells ((aw v4)::(aR v5)::(aH v6.xN)::(aH v6.xD)::cf1 v7 [(aH v8),(.d (.v (.slice none 0 0))),(.d (.v (.slice none 0 0))),(.d (.v (.slice none 0 0)))])] fun r1 h1=>r1=(aB r.1)∧h1=[.cells [(aR r.2.1)], .cells [(aw r.2.2.1),(aR r.2.2.2.1),(aH r.2.2.2.2.1),(aH r.2.2.2.2.2.1),(aw r.2.2.2.2.2.2.1),(aw r.2.2.2.2.2.2.2.1),(aw r.2.2.2.2.2.2.2.2.1),(aw r.2.2.2.2.2.2.2.2.2.1),(aw r.2.2.2.2.2.2.2.2.2.2.1),(aH r.2.2.2.2.2.2.2.2.2.2.2.1),(.d (.sl (bZ r.2.2.2.2.2.2.2.2.2.2.2.2.1))),(.d (.sl (cl r.2.2.2.2.2.2.2.2.2.2.2.2.2.1))),(.d (.sl (cq r.2.2.2.2.2.2.2.2.2.2.2.2.2.2)))]]:=by
 rw[BB]at hF;refine eB 2 Tryz.func104 ?_;obtain⟨v9,h1,hF⟩:=ao hF;refine JJ af 1 [[],[(7,cL (ach N v1 v9 h1))],[]] [12] 4 (fun((v10,v11,v12,aZ,bu,bQ,de,bW,bx,cA,v20,v21,eX,dt):akc×Int×akc×Int64×Int64×Int×Int×Int×Int×Int×Int64×(akb aU)×(akb aI)×(akb an))=>⟨27,[(12,(aB v9.2))],[.cells [(aR v10)], .cells [(aw v11),(aR v12),(aH aZ),(aH bu),(aw bQ),(aw de),(aw bW),(aw bx),(aw cA),(aH v20),(.d (.sl (bZ v21))),(.d (.sl (cl eX))),(.d (.sl (cq dt)))], .cells (bH v1).cells, .cells (aA v9.1).cells]⟩) (fun((v10,v11,v12,aZ,bu,bQ,de,bW,bx,cA,v20,v21,eX,dt):akc×Int×akc×Int64×Int64×Int×Int×Int×Int×Int×Int64×(akb aU)×(akb aI)×(akb an))=>FJ N v9 v10 v11 v12 aZ bu bQ de bW bx cA v20 v21 eX dt=some r) ?_ ?_
 ·intro f1 aO;refine bc hF (fun h2 hF=> ?_) fun h2 hF=> ?_
  ·exact bM af aO (v2,v9.1.ar,v9.1.aV,v9.1.ba.xN,v9.1.ba.xD,v9.1.aC.a8,v9.1.aC.bz,v9.1.aC.bE,v9.1.aC.bK,v9.1.aC.bI,v9.1.aK.xK,v9.1.aK.xL,v9.1.xIdx,v9.1.ax) [[(0,bT h2)],[]] hF
  exact bM af aO (v3,v4,v5,v6.xN,v6.xD,v7.a8,v7.bz,v7.bE,v7.bK,v7.bI,v8,[],[],[]) [[(0,bF h2)]] hF
 rintro⟨v10,v11,v12,aZ,bu,bQ,de,bW,bx,cA,v20,v21,eX,dt⟩ hF
 try dsimp only at hF
 rw[FJ]at hF;cases hF;exact cG af [[]]
def IZ(N:Nat)(v1:aD)(v2:ay):akd (ay×Int):=
 Option.bind (m0 N v1 [v2]) fun v3=>
 bif (v3 !=(0:Int))then
  some (bg,v3)
 else
  bif (decide ((0:Int)≤v1.bE))then
  Option.bind (pj N v2.xN (Int64.ofInt ((1:Int)*2^(min (v1.bE).toNat (IntKind.bits .i64))))) fun v4=>
  some (v4.1,v4.2)
  else none
theorem W1(N:Nat)(v1:aD)(v2:ay)(r:ay×Int)(hF:IZ N v1 v2=some r):aG Tryz.prog 267 [(b4 v1),(bj v2)] (·=(.bk [(bj r.1),(aw r.2)])):=by
 rw[IZ]at hF;refine aP Tryz.func267 ?_;obtain⟨v3,h1,hF⟩:=ao hF;refine au af [[],[(10,cL (xH N v1 [v2] v3 h1))],[]] ?_;refine bc hF (fun h2 hF=> ?_) fun h2 hF=> ?_
 ·cases hF;exact wr af [[(0,bT h2)],[]]
 obtain⟨h3,hF⟩:=dn hF;obtain⟨v4,h4,hF⟩:=ao hF;cases hF;exact wr af [[(0,bF h2)],[(13,⟨_,_, .nn (b:=v1.bE) (of_decide_eq_true h3)⟩),(14,⟨_,_, .eq (eK ((1:Int)*2^(min (v1.bE).toNat (IntKind.bits .i64))))⟩),(16,cL (E9 N v2.xN (Int64.ofInt ((1:Int)*2^(min (v1.bE).toNat (IntKind.bits .i64)))) v4 h4))]]
def DS(N:Nat)(v1:aD)(v2:ay):akd ay:=
 bif (v1.a8==(2:Int))then
  Option.bind (IZ N v1 v2) fun v3=>
  some v3.1
 else
  some v2
theorem aiv(N:Nat)(v1:aD)(v2:ay)(r:ay)(hF:DS N v1 v2=some r):aG Tryz.prog 219 [(b4 v1),(bj v2)] (·=(bj r)):=by
 rw[DS]at hF;refine aP Tryz.func219 ?_;refine au af [[],[]] ?_;refine bc hF (fun h1 hF=> ?_) fun h1 hF=> ?_
 ·obtain⟨v3,h2,hF⟩:=ao hF;cases hF;exact wr af [[(0,bT h1)],[(7,cL (W1 N v1 v2 v3 h2))],[]]
 cases hF;exact wr af [[(0,bF h1)],[]]
def Ca(N:Nat)(v3:Int64):akd Int64:=
 some v3
def Ap(N:Nat)(v1:ay):akd Int64:=
 Option.bind (ie N v1) fun v2=>
 bif v2 then
  bif (v1.xD.toInt !=(0:Int))then
  bif (decide ((Int64.ofInt ((v1.xN.toInt).tmod v1.xD.toInt)).toInt<(0:Int)))then
   Ca N ((Int64.ofInt ((v1.xN.toInt).tdiv v1.xD.toInt))-(1:Int64))
  else
   Ca N (Int64.ofInt ((v1.xN.toInt).tdiv v1.xD.toInt))
  else none
 else
  some (0:Int64)
theorem ac0(N:Nat)(v1:ay)(r:Int64)(hF:Ap N v1=some r):aG Tryz.prog 220 [(bj v1)] (·=(aH r)):=by
 rw[Ap]at hF;refine aP Tryz.func220 ?_;obtain⟨v2,h1,hF⟩:=ao hF;refine au af [[],[(4,cL (gG N v1 v2 h1))]] ?_;refine bc hF (fun h2 hF=> ?_) fun h2 hF=> ?_
 ·obtain⟨h3,hF⟩:=dn hF;refine gN af r 1 [[(0,bF (not_t h2))],[(13,⟨_,_, .nz (b:=v1.xD.toInt) (bne_iff_ne.1 h3)⟩),(14,⟨_,_, .eq (eK ((v1.xN.toInt).tdiv v1.xD.toInt))⟩)],[(13,⟨_,_, .nz (b:=v1.xD.toInt) (bne_iff_ne.1 h3)⟩),(14,⟨_,_, .eq (Bh v1.xN v1.xD.toInt)⟩)]] [3] 1 (fun(v3:Int64)=>⟨21,[(3,(aH v3))],[.cells (bj v1).cells]⟩) (Ca N) ?_ ?_
  ·intro f1 aO;refine bc hF (fun h4 hF=> ?_) fun h4 hF=> ?_
   ·exact bM af aO ((Int64.ofInt ((v1.xN.toInt).tdiv v1.xD.toInt))-(1:Int64)) [[(0,bT h4)],[(5,⟨_,_, .eq (ga (Int64.ofInt ((v1.xN.toInt).tdiv v1.xD.toInt)) (1:Int64))⟩)]] hF
   exact bM af aO (Int64.ofInt ((v1.xN.toInt).tdiv v1.xD.toInt)) [[(0,bF h4)]] hF
  intro v3 hF;rw[Ca]at hF;cases hF;exact wr af [[]]
 cases hF;exact wr af [[(0,bT (bS h2))],[]]
def FZ(N:Nat)(v1:ay)(v2:Int)(v3:Int):akd (Int64×Int):=
 Option.bind (ie N v1) fun v4=>
 Option.bind (bif v4 then(bif (decide (v2<(0:Int)))then some true else(bif (decide (v2>(30:Int)))then some true else Option.bind (AR N v3) fun v5=>
 some (!v5)))else some true) fun v6=>
 bif v6 then
  some ((0:Int64),(1:Int))
 else
  bif (decide ((0:Int)≤(IntKind.u64.wrap v2)))then
  Option.bind (vh N (Int64.ofInt (v1.xN.toInt*2^(min ((IntKind.u64.wrap v2)).toNat (IntKind.bits .i64)))) v1.xD v3) fun v7=>
  some (v7.1,v7.2)
  else none
theorem adT(N:Nat)(v1:ay)(v2:Int)(v3:Int)(r:Int64×Int)(hF:FZ N v1 v2 v3=some r):aG Tryz.prog 268 [(bj v1),(aw v2),(aw v3)] (·=(.bk [(aH r.1),(aw r.2)])):=by
 rw[FZ]at hF;refine aP Tryz.func268 ?_;refine au af [[]] ?_;obtain⟨v4,h1,hF⟩:=ao hF;obtain⟨v6,h6,hF⟩:=ao hF;refine bf af [(23,(aB v6))] [.cells (bj v1).cells] ?_ ?_
 ·refine bc h6 (fun h2 h6=> ?_) fun h2 h6=> ?_
  ·refine bc h6 (fun h3 h6=> ?_) fun h3 h6=> ?_
   ·cases h6;exact⟨[(3,bF (not_t h2)),(7,bT h3),(11,bT rfl)],[(4,cL (gG N v1 v4 h1))],by kernel_rfl⟩
   refine bc h6 (fun h4 h6=> ?_) fun h4 h6=> ?_
   ·cases h6;exact⟨[(3,bF (not_t h2)),(7,bF h3),(11,bT h4)],[(4,cL (gG N v1 v4 h1))],by kernel_rfl⟩
   obtain⟨v5,h5,h6⟩:=ao h6;cases h6;exact⟨[(3,bF (not_t h2)),(7,bF h3),(11,bF h4)],[(4,cL (gG N v1 v4 h1)),(40,cL (Pj N v3 v5 h5))],by kernel_rfl⟩
  cases h6;exact⟨[(3,bT (bS h2)),(7,bT rfl),(11,bT rfl)],[(4,cL (gG N v1 v4 h1))],by kernel_rfl⟩
 refine bc hF (fun h7 hF=> ?_) fun h7 hF=> ?_
 ·cases hF;exact wr af [[(0,bT h7)],[]]
 obtain⟨h8,hF⟩:=dn hF;obtain⟨v7,h9,hF⟩:=ao hF;cases hF;exact wr af [[(0,bF h7)],[(13,⟨_,_, .nn (b:=(IntKind.u64.wrap v2)) (of_decide_eq_true h8)⟩),(14,⟨_,_, .eq (eK (v1.xN.toInt*2^(min ((IntKind.u64.wrap v2)).toNat (IntKind.bits .i64))))⟩),(25,cL (NF N (Int64.ofInt (v1.xN.toInt*2^(min ((IntKind.u64.wrap v2)).toNat (IntKind.bits .i64)))) v1.xD v3 v7 h9))]]
end Go.Proofs.YtpgmcallngdceaaGreatDoor
