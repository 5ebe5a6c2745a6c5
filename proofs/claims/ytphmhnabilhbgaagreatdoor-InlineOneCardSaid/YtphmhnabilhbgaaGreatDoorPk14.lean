/-
  Part 14 of the proof: PQ6.
-/
import Derived.Test.YtphmhnabilhbgaaGreatDoorPk13
namespace Go.Proofs.YtphmhnabilhbgaaGreatDoor
open Go.RowKit
set_option maxRecDepth 100000
set_option maxHeartbeats 0
set_option linter.unusedVariables false
def wV(N:Nat)(v1:aw):List aF→Nat→Option Bool
 |[],_=>
  some true
 |v4::v5,v2=>
  Option.bind (sx N v4.aq) fun v6=>
  Option.bind (bif v6 then(bif (v4.dq.toInt==(0:Int))then some true else(bif (decide ((v2:Int)>(0:Int)))then bif (decide ((0:Int)≤(a7 ((v2:Int)-(1:Int)))))then
  Option.bind (v1.xL[((a7 ((v2:Int)-(1:Int)))).toNat]?) fun v7=>
  some (!(Op.bytesLess (bL v7.aq) (bL v4.aq)))
  else none else some false))else some true) fun v8=>
  bif v8 then
   some false
  else
   (wV N v1 v5 (v2+1))
def pR(N:Nat)(v1:aw):Option Bool:=
 wV N v1 v1.xL 0
theorem xU(N:Nat)(v1:aw)(r:Bool)(J:pR N v1=some r):bm Tryz.prog 106 [(b9 v1)] (·=(aM r)):=by
 rw[pR]at J;refine bK Tryz.func106 (by kernel_rfl) (by kernel_rfl) ?_;refine au ai [[],[]] ?_;refine eo 0 1 (bP v1.xL) (by kernel_rfl) fun h1=> ?_;have h2:=cr b6 h1;refine cC ai 1 [] [1,3] 1 (fun((v2,v3):Nat×(List aF))=>⟨48,[(1,(.ptr 0 0)),(3,(an (v2:Int)))],[.cells (b9 v1).cells]⟩) (fun((v2,v3):Nat×(List aF))=>v1.xL.drop v2=v3∧wV N v1 v3 v2=some r) (fun((v2,v3):Nat×(List aF))=>v3.length) (0,v1.xL) ⟨rfl,J⟩ ?_;rintro⟨v2,v3⟩ ⟨h3,J⟩ f1 aV;cases v3 with
 |nil=>
  rw[wV]at J;obtain rfl:=sj J;exact wr ai [[(10,oL v1.xL b6)],[(0,bF (bS h3))],[]]
 |cons v4 v5=>
  rw[wV]at J;refine au ai [[(10,oL v1.xL b6)],[(0,bT (bR h3))]] ?_;obtain⟨v6,h4,J⟩:=ar J;obtain⟨v8,az,J⟩:=ar J;refine cN ai [(47,(aM v8))] [.cells (b9 v1).cells] ?_ ?_
  ·refine bc az (fun h5 az=> ?_) fun h5 az=> ?_
   ·refine bc az (fun h6 az=> ?_) fun h6 az=> ?_
    ·obtain rfl:=sj az;exact⟨so (os [10,37] (oE (fu (bj h3))) (os [27,30,33,36,39,42,45,49] (bF (cG h5)) (os [54,57,60,105,109] (bT h6) (os [63,66,69,72,75,78,81,84,87,90,93,96,99,102] uN [(19,cL (u5 N v4.aq v6 h4))])))),by kernel_rfl⟩
    refine bc az (fun h7 az=> ?_) fun h7 az=> ?_
    ·obtain⟨h9,az⟩:=c8 az;obtain⟨v7,h8,az⟩:=ar az;obtain rfl:=sj az;exact⟨so (os [10,37,94] (oE (fu (bj h3))) (os [27,30,33,36,39,42,45,49] (bF (cG h5)) (os [54,57,60,105,109] (bF h6) (os [63,66,69,72,75,78,81,84,87,90,93,96,99,102,106] (bT h7) [(19,cL (u5 N v4.aq v6 h4)),(76,⟨_,_, .el (xs:=bP v1.xL) (i:=(a7 ((v2:Int)-(1:Int)))) (of_decide_eq_true h9) (fu h8)⟩)])))),by kernel_rfl⟩
    obtain rfl:=sj az;exact⟨so (os [10,37] (oE (fu (bj h3))) (os [27,30,33,36,39,42,45,49] (bF (cG h5)) (os [54,57,60,105,109] (bF h6) (os [63,66,69,72,75,78,81,84,87,90,93,96,99,102,106] (bF h7) [(19,cL (u5 N v4.aq v6 h4))])))),by kernel_rfl⟩
   obtain rfl:=sj az;exact⟨so (os [27,30,33,36,39,42,45,49] (bT (cT h5)) (os [54,57,60,105,109] (bT rfl) (os [63,66,69,72,75,78,81,84,87,90,93,96,99,102] uN [(10,oE (fu (bj h3))),(19,cL (u5 N v4.aq v6 h4))]))),by kernel_rfl⟩
  refine bc J (fun aZ J=> ?_) fun aZ J=> ?_
  ·obtain rfl:=sj J;exact wr ai [[(0,bT aZ)],[]]
  exact cx ai aV (v2+1,v5) [[(0,bF aZ)],[(5,oq (b8 h3 rfl h2))]] ⟨b7 h3,J⟩
def uz(N:Nat)(v2:List ByteArray)(v3:List ByteArray):List aF→Nat→Option Bool
 |[],_=>
  some true
 |v6::v7,v4=>
  Option.bind (oQ N v2 v6.aq) fun v8=>
  Option.bind (bif v8 then some false else Option.bind (oQ N v3 v6.aq) fun v9=>
  some (!v9)) fun v10=>
  bif v10 then
   some false
  else
   (uz N v2 v3 v7 (v4+1))
def y8(N:Nat)(v1:aw)(v2:List ByteArray)(v3:List ByteArray):Option Bool:=
 uz N v2 v3 v1.xL 0
theorem JY(N:Nat)(v1:aw)(v2:List ByteArray)(v3:List ByteArray)(r:Bool)(J:y8 N v1 v2 v3=some r):bm Tryz.prog 107 [(b9 v1),(.d (.sl (ax v2))),(.d (.sl (ax v3)))] (·=(aM r)):=by
 rw[y8]at J;refine bK Tryz.func107 (by kernel_rfl) (by kernel_rfl) ?_;refine au ai [[],[]] ?_;refine eo 0 1 (bP v1.xL) (by kernel_rfl) fun h1=> ?_;have h2:=cr b6 h1;refine cC ai 1 [] [1,2,3,7] 1 (fun((v4,v5):Nat×(List aF))=>⟨35,[(1,(.d (.sl (ax v2)))),(2,(.d (.sl (ax v3)))),(3,(.ptr 0 0)),(7,(an (v4:Int)))],[.cells (b9 v1).cells]⟩) (fun((v4,v5):Nat×(List aF))=>v1.xL.drop v4=v5∧uz N v2 v3 v5 v4=some r) (fun((v4,v5):Nat×(List aF))=>v5.length) (0,v1.xL) ⟨rfl,J⟩ ?_;rintro⟨v4,v5⟩ ⟨h3,J⟩ f1 aV;cases v5 with
 |nil=>
  rw[uz]at J;obtain rfl:=sj J;exact wr ai [[(10,oL v1.xL b6)],[(0,bF (bS h3))],[]]
 |cons v6 v7=>
  rw[uz]at J;refine au ai [[(10,oL v1.xL b6)],[(0,bT (bR h3))]] ?_;obtain⟨v8,h4,J⟩:=ar J;obtain⟨v10,h7,J⟩:=ar J;refine cN ai [(34,(aM v10))] [.cells (b9 v1).cells] ?_ ?_
  ·refine bc h7 (fun h5 h7=> ?_) fun h5 h7=> ?_
   ·obtain rfl:=sj h7;exact⟨so (os [30,33,36,39,42,45,48,51,54,58] (bF (cG h5)) [(13,oE (fu (bj h3))),(22,cL (xq N v2 v6.aq v8 h4))]),by kernel_rfl⟩
   obtain⟨v9,h6,h7⟩:=ar h7;obtain rfl:=sj h7;exact⟨so (os [13,43] (oE (fu (bj h3))) (os [30,33,36,39,42,45,48,51,54,58] (bT (cT h5)) [(22,cL (xq N v2 v6.aq v8 h4)),(52,cL (xq N v3 v6.aq v9 h6))])),by kernel_rfl⟩
  refine bc J (fun h8 J=> ?_) fun h8 J=> ?_
  ·obtain rfl:=sj J;exact wr ai [[(0,bT h8)],[]]
  exact cx ai aV (v4+1,v7) [[(0,bF h8)],[(5,oq (b8 h3 rfl h2))]] ⟨b7 h3,J⟩
def wZ(N:Nat)(v1:aw)(v2:List ByteArray):Option Int:=
 Option.bind (pR N v1) fun v3=>
 bif v3 then
  Option.bind (y8 N v1 [] v2) fun v4=>
  bif v4 then
   some (0:Int)
  else
   some (9:Int)
 else
  some (1:Int)
theorem JL(N:Nat)(v1:aw)(v2:List ByteArray)(r:Int)(J:wZ N v1 v2=some r):bm Tryz.prog 66 [(b9 v1),(.d (.sl (ax v2)))] (·=(an r)):=by
 rw[wZ]at J;refine bK Tryz.func66 (by kernel_rfl) (by kernel_rfl) ?_;obtain⟨v3,h1,J⟩:=ar J;refine au ai [[],[(4,cL (xU N v1 v3 h1))]] ?_;refine bc J (fun h2 J=> ?_) fun h2 J=> ?_
 ·obtain⟨v4,h3,J⟩:=ar J;refine au ai [[(0,bF (cG h2))],[(7,cL (JY N v1 [] v2 v4 h3))]] ?_;refine bc J (fun h4 J=> ?_) fun h4 J=> ?_
  ·obtain rfl:=sj J;exact wr ai [[(0,bF (cG h4))],[]]
  obtain rfl:=sj J;exact wr ai [[(0,bT (cT h4))],[]]
 obtain rfl:=sj J;exact wr ai [[(0,bT (cT h2))],[]]
def sW(N:Nat)(v1:bB):Option Bool:=
 Option.bind (bif (v1.cA==(1:Int))then some true else some (v1.cA==(3:Int))) fun v2=>
 bif v2 then
  Option.bind (bif (v1.cD==(0:Int))then(bif (v1.dg==(0:Int))then(bif (v1.de==(0:Int))then some (v1.dc==(0:Int))else some false)else some false)else some false) fun v3=>
  some v3
 else
  Option.bind (bif (v1.cA==(2:Int))then(bif (decide (v1.cD≥(2:Int)))then(bif (decide (v1.cD≤(31:Int)))then(bif (decide (v1.dg≥(0:Int)))then(bif (decide (v1.dg≤(30:Int)))then(bif (decide (v1.de≥(1:Int)))then(bif (decide (v1.de≤(4:Int)))then(bif (v1.dc==(1:Int))then some true else some (v1.dc==(2:Int)))else some false)else some false)else some false)else some false)else some false)else some false)else some false) fun v4=>
  some v4
theorem GX(N:Nat)(v1:bB)(r:Bool)(J:sW N v1=some r):bm Tryz.prog 108 [(e9 v1)] (·=(aM r)):=by
 rw[sW]at J;refine bK Tryz.func108 (by kernel_rfl) (by kernel_rfl) ?_;refine au ai [[]] ?_;obtain⟨v2,h2,J⟩:=ar J;refine cN ai [(10,(aM v2))] [.cells (e9 v1).cells] ?_ ?_
 ·refine bc h2 (fun h1 h2=> ?_) fun h1 h2=> ?_
  ·obtain rfl:=sj h2;exact⟨so (os [12,15,18,22] (bT h1) []),by kernel_rfl⟩
  obtain rfl:=sj h2;exact⟨so (os [12,15,18,22] (bF h1) []),by kernel_rfl⟩
 refine bc J (fun h3 J=> ?_) fun h3 J=> ?_
 ·refine au ai [[(0,bT h3)]] ?_;obtain⟨v3,h7,J⟩:=ar J;refine cN ai [(2,(aM v3))] [.cells (e9 v1).cells] ?_ ?_
  ·refine bc h7 (fun h4 h7=> ?_) fun h4 h7=> ?_
   ·refine bc h7 (fun h5 h7=> ?_) fun h5 h7=> ?_
    ·refine bc h7 (fun h6 h7=> ?_) fun h6 h7=> ?_
     ·obtain rfl:=sj h7;exact⟨so (os [12,15,18,22] (bT h4) (os [27,30,33,37] (bT h5) (os [42,45,48,52] (bT h6) []))),by kernel_rfl⟩
     obtain rfl:=sj h7;exact⟨so (os [12,15,18,22] (bT h4) (os [27,30,33,37] (bT h5) (os [42,45,48,52] (bF h6) []))),by kernel_rfl⟩
    obtain rfl:=sj h7;exact⟨so (os [12,15,18,22] (bT h4) (os [27,30,33,37] (bF h5) (os [42,45,48,52] (bF rfl) []))),by kernel_rfl⟩
   obtain rfl:=sj h7;exact⟨so (os [12,15,18,22] (bF h4) (os [27,30,33,37,42,45,48,52] (bF rfl) [])),by kernel_rfl⟩
  obtain rfl:=sj J;exact wr ai []
 refine au ai [[(0,bF h3)]] ?_;obtain⟨v4,a9,J⟩:=ar J;refine cN ai [(2,(aM v4))] [.cells (e9 v1).cells] ?_ ?_
 ·refine bc a9 (fun h8 a9=> ?_) fun h8 a9=> ?_
  ·refine bc a9 (fun h9 a9=> ?_) fun h9 a9=> ?_
   ·refine bc a9 (fun az a9=> ?_) fun az a9=> ?_
    ·refine bc a9 (fun aZ a9=> ?_) fun aZ a9=> ?_
     ·refine bc a9 (fun bf a9=> ?_) fun bf a9=> ?_
      ·refine bc a9 (fun b5 a9=> ?_) fun b5 a9=> ?_
       ·refine bc a9 (fun a8 a9=> ?_) fun a8 a9=> ?_
        ·refine bc a9 (fun bA a9=> ?_) fun bA a9=> ?_
         ·obtain rfl:=sj a9;exact⟨so (os [12,15,18,22] (bT h8) (os [27,30,33,37] (bT h9) (os [42,45,48,52] (bT az) (os [57,60,63,67] (bT aZ) (os [72,75,78,82] (bT bf) (os [87,90,93,97] (bT b5) (os [102,105,108,111,123,127] (bT a8) (os [114,117,120,124] (bT bA) [])))))))),by kernel_rfl⟩
         obtain rfl:=sj a9;exact⟨so (os [12,15,18,22] (bT h8) (os [27,30,33,37] (bT h9) (os [42,45,48,52] (bT az) (os [57,60,63,67] (bT aZ) (os [72,75,78,82] (bT bf) (os [87,90,93,97] (bT b5) (os [102,105,108,111,123,127] (bT a8) (os [114,117,120,124] (bF bA) [])))))))),by kernel_rfl⟩
        obtain rfl:=sj a9;exact⟨so (os [12,15,18,22] (bT h8) (os [27,30,33,37] (bT h9) (os [42,45,48,52] (bT az) (os [57,60,63,67] (bT aZ) (os [72,75,78,82] (bT bf) (os [87,90,93,97] (bT b5) (os [102,105,108,111,123,127] (bF a8) (os [114,117,120] uN [])))))))),by kernel_rfl⟩
       obtain rfl:=sj a9;exact⟨so (os [12,15,18,22] (bT h8) (os [27,30,33,37] (bT h9) (os [42,45,48,52] (bT az) (os [57,60,63,67] (bT aZ) (os [72,75,78,82] (bT bf) (os [87,90,93,97] (bF b5) (os [102,105,108,111,123,127] (bF rfl) (os [114,117,120] uN [])))))))),by kernel_rfl⟩
      obtain rfl:=sj a9;exact⟨so (os [12,15,18,22] (bT h8) (os [27,30,33,37] (bT h9) (os [42,45,48,52] (bT az) (os [57,60,63,67] (bT aZ) (os [72,75,78,82] (bF bf) (os [87,90,93,97,102,105,108,111,123,127] (bF rfl) (os [114,117,120] uN []))))))),by kernel_rfl⟩
     obtain rfl:=sj a9;exact⟨so (os [12,15,18,22] (bT h8) (os [27,30,33,37] (bT h9) (os [42,45,48,52] (bT az) (os [57,60,63,67] (bF aZ) (os [72,75,78,82,87,90,93,97,102,105,108,111,123,127] (bF rfl) (os [114,117,120] uN [])))))),by kernel_rfl⟩
    obtain rfl:=sj a9;exact⟨so (os [12,15,18,22] (bT h8) (os [27,30,33,37] (bT h9) (os [42,45,48,52] (bF az) (os [57,60,63,67,72,75,78,82,87,90,93,97,102,105,108,111,123,127] (bF rfl) (os [114,117,120] uN []))))),by kernel_rfl⟩
   obtain rfl:=sj a9;exact⟨so (os [12,15,18,22] (bT h8) (os [27,30,33,37] (bF h9) (os [42,45,48,52,57,60,63,67,72,75,78,82,87,90,93,97,102,105,108,111,123,127] (bF rfl) (os [114,117,120] uN [])))),by kernel_rfl⟩
  obtain rfl:=sj a9;exact⟨so (os [12,15,18,22] (bF h8) (os [27,30,33,37,42,45,48,52,57,60,63,67,72,75,78,82,87,90,93,97,102,105,108,111,123,127] (bF rfl) (os [114,117,120] uN []))),by kernel_rfl⟩
 obtain rfl:=sj J;exact wr ai []
def wN(N:Nat)(v2:List ByteArray):List aw→Nat→Option Int
 |[],_=>
  some (0:Int)
 |v8::v9,v6=>
  Option.bind (wZ N v8 v2) fun v10=>
  bif (v10 !=(0:Int))then
   some v10
  else
   (wN N v2 v9 (v6+1))
def B6(N:Nat)(v1:cq)(v2:List ByteArray)(v3:List ByteArray):Option Int:=
 Option.bind (rI N v1.aq v3) fun v4=>
 bif (v4 !=(0:Int))then
  some v4
 else
  Option.bind (sW N v1.aB) fun v5=>
  bif v5 then
   bif (decide ((v1.aJ.length:Int)>(6:Int)))then
    some (11:Int)
   else
    wN N v2 v1.aJ 0
  else
   some (10:Int)
theorem acA(N:Nat)(v1:cq)(v2:List ByteArray)(v3:List ByteArray)(r:Int)(J:B6 N v1 v2 v3=some r):bm Tryz.prog 67 [(qO v1),(.d (.sl (ax v2))),(.d (.sl (ax v3)))] (·=(an r)):=by
 rw[B6]at J;refine bK Tryz.func67 (by kernel_rfl) (by kernel_rfl) ?_;obtain⟨v4,h1,J⟩:=ar J;refine au ai [[],[(10,cL (Ib N v1.aq v3 v4 h1))],[]] ?_;refine bc J (fun h2 J=> ?_) fun h2 J=> ?_
 ·obtain rfl:=sj J;exact wr ai [[(0,bT h2)],[]]
 obtain⟨v5,h3,J⟩:=ar J;refine au ai [[(0,bF h2)],[(7,cL (GX N v1.aB v5 h3))]] ?_;refine bc J (fun h4 J=> ?_) fun h4 J=> ?_
 ·refine au ai [[(0,bF (cG h4))],[(7,oL v1.aJ bO)]] ?_;refine bc J (fun h5 J=> ?_) fun h5 J=> ?_
  ·obtain rfl:=sj J;exact wr ai [[(0,bT h5)],[]]
  refine au ai [[(0,bF h5)],[]] ?_;refine eo 0 6 (cS v1.aJ) (by kernel_rfl) fun h6=> ?_;have h7:=cr bO h6;refine cC ai 1 [] [1,3,8] 1 (fun((v6,v7):Nat×(List aw))=>⟨42,[(1,(.d (.sl (ax v2)))),(3,(.ptr 0 0)),(8,(an (v6:Int)))],[.cells (qO v1).cells]⟩) (fun((v6,v7):Nat×(List aw))=>v1.aJ.drop v6=v7∧wN N v2 v7 v6=some r) (fun((v6,v7):Nat×(List aw))=>v7.length) (0,v1.aJ) ⟨rfl,J⟩ ?_;rintro⟨v6,v7⟩ ⟨h8,J⟩ f1 aV;cases v7 with
  |nil=>
   rw[wN]at J;obtain rfl:=sj J;exact wr ai [[(10,oL v1.aJ bO)],[(0,bF (bS h8))],[]]
  |cons v8 v9=>
   rw[wN]at J;obtain⟨v10,h9,J⟩:=ar J;refine au ai [[(10,oL v1.aJ bO)],[(0,bT (bR h8))],[(10,oE (jv (bj h8))),(19,cL (JL N v8 v2 v10 h9))],[]] ?_;refine bc J (fun az J=> ?_) fun az J=> ?_
   ·obtain rfl:=sj J;exact wr ai [[(0,bT az)],[]]
   exact cx ai aV (v6+1,v9) [[(0,bF az)],[(5,oq (b8 h8 rfl h7))]] ⟨b7 h8,J⟩
 obtain rfl:=sj J;exact wr ai [[(0,bT (cT h4))],[]]
def uH(N:Nat)(v2:List ByteArray):List bk→Nat→(List ByteArray)→Option Int
 |[],_,_=>
  some (0:Int)
 |v5::v6,v3,v7=>
  Option.bind (rI N v5.aq v7) fun v8=>
  bif (v8 !=(0:Int))then
   some v8
  else
   Option.bind (wZ N v5.dS v2) fun v9=>
   bif (v9 !=(0:Int))then
    some v9
   else
    bif (Nat.ble ((v7.length+1)*16) 140737488355328)then
    (fun ck=>uH N v2 v6 (v3+1) ck) (v7++[v5.aq])
    else none
def Cg(N:Nat)(v1:List bk)(v2:List ByteArray):Option Int:=
 bif (Nat.ble ((0+v2.length)*16) 140737488355328)then
 uH N v2 v1 0 v2
 else none
theorem Xe(N:Nat)(v1:List bk)(v2:List ByteArray)(r:Int)(J:Cg N v1 v2=some r):bm Tryz.prog 109 [(.d (.sl (cy v1))),(.d (.sl (ax v2)))] (·=(an r)):=by
 rw[Cg]at J;refine bK Tryz.func109 (by kernel_rfl) (by kernel_rfl) ?_;obtain⟨h1,J⟩:=c8 J;refine au ai [[],[(7,⟨_,_, .app (xs:=[]) (ys:=ax v2) (zs:=ax v2) (n:=v2.length) rfl (fun _ hc=>absurd hc ag9) jz (by rw[(show([]:List (List D)).length=0 from rfl),(bD (l:=v2))];exact(cY h1 (by decide)).1) (by rw[(show([]:List (List D)).length=0 from rfl),(bD (l:=v2))];exact(cY h1 (by decide)).2) rfl (by first|(rw[(show([]:List (List D)).length=0 from rfl),(bD (l:=v2))];done)|(rw[(show([]:List (List D)).length=0 from rfl),(bD (l:=v2))];rfl)|(rw[(show([]:List (List D)).length=0 from rfl),(bD (l:=v2)),agu];done)|(rw[(show([]:List (List D)).length=0 from rfl),(bD (l:=v2)),agu];rfl)|(rw[(show([]:List (List D)).length=0 from rfl),(bD (l:=v2)),agN]))⟩)],[]] ?_;refine dP 0 (cy v1) (by kernel_rfl) fun h2=> ?_;have h3:=cr bV h2;refine cC ai 1 [] [0,1,5,6] 1 (fun((v3,v4,v7):Nat×(List bk)×(List ByteArray))=>⟨46,[(0,(.d (.sl (cy v1)))),(1,(.d (.sl (ax v2)))),(5,(.own 0 (ax v7))),(6,(an (v3:Int)))],[.front 9 1 v7.length]⟩) (fun((v3,v4,v7):Nat×(List bk)×(List ByteArray))=>v1.drop v3=v4∧uH N v2 v4 v3 v7=some r) (fun((v3,v4,v7):Nat×(List bk)×(List ByteArray))=>v4.length) (0,v1,v2) ⟨rfl,J⟩ ?_
 rintro⟨v3,v4,v7⟩ ⟨h4,J⟩ f1 aV;cases v4 with
 |nil=>
  rw[uH]at J;obtain rfl:=sj J;exact wr ai [[(7,oL v1 bV)],[(0,bF (bS h4))],[]]
 |cons v5 v6=>
  rw[uH]at J;obtain⟨v8,h5,J⟩:=ar J;refine au ai [[(7,oL v1 bV)],[(0,bT (bR h4))],[(7,oE (kg (bj h4))),(19,cL (Ib N v5.aq v7 v8 h5))],[]] ?_;refine bc J (fun h6 J=> ?_) fun h6 J=> ?_
  ·obtain rfl:=sj J;exact wr ai [[(0,bT h6)],[]]
  obtain⟨v9,h7,J⟩:=ar J;refine au ai [[(0,bF h6)],[(7,oE (kg (bj h4))),(19,cL (JL N v5.dS v2 v9 h7))],[]] ?_;refine bc J (fun h8 J=> ?_) fun h8 J=> ?_
  ·obtain rfl:=sj J;exact wr ai [[(0,bT h8)],[]]
  obtain⟨h9,J⟩:=c8 J;exact cx ai aV (v3+1,v6,(v7++[v5.aq])) [[(0,bF h8)],[(10,oE (kg (bj h4))),(22,⟨_,_, .app (xs:=ax v7) (ys:=ax [v5.aq]) (zs:=ax (v7++[v5.aq])) (n:=(v7++[v5.aq]).length) bD.symm jz jz (by rw[(bD (l:=v7)),(bD (l:=[v5.aq]))];exact(cY h9 (by decide)).1) (by rw[(bD (l:=v7)),(bD (l:=[v5.aq]))];exact(cY h9 (by decide)).2) zD (by first|(rw[(bD (l:=v7)),(bD (l:=[v5.aq]))];done)|(rw[(bD (l:=v7)),(bD (l:=[v5.aq]))];rfl)|(rw[(bD (l:=v7)),(bD (l:=[v5.aq])),agu];done)|(rw[(bD (l:=v7)),(bD (l:=[v5.aq])),agu];rfl)|(rw[(bD (l:=v7)),(bD (l:=[v5.aq])),agN]))⟩)],[(5,oq (b8 h4 rfl h3))]] ⟨b7 h4,J⟩
def DB(N:Nat)(v1:aL):Option Int:=
 Option.bind (bif (decide (v1.cP<(0:Int)))then some true else some (decide (v1.cP>(5:Int)))) fun v2=>
 bif v2 then
  some (1:Int)
 else
  Option.bind (bif (v1.cP==(0:Int))then some true else some (v1.cP==(5:Int))) fun v3=>
  Option.bind (bif (v3==((v1.bG.length:Int)==(0:Int)))then(bif (v1.cP==(5:Int))then some ((v1.aJ.length:Int)==(0:Int))else some false)else some true) fun v4=>
  bif v4 then
   some (11:Int)
  else
   some (0:Int)
theorem afJ(N:Nat)(v1:aL)(r:Int)(J:DB N v1=some r):bm Tryz.prog 110 [(cE v1)] (·=(an r)):=by
 rw[DB]at J;refine bK Tryz.func110 (by kernel_rfl) (by kernel_rfl) ?_;refine au ai [[]] ?_;obtain⟨v2,h2,J⟩:=ar J;refine cN ai [(11,(aM v2))] [.cells (cE v1).cells] ?_ ?_
 ·refine bc h2 (fun h1 h2=> ?_) fun h1 h2=> ?_
  ·obtain rfl:=sj h2;exact⟨so (os [12,15,18,22] (bT h1) []),by kernel_rfl⟩
  obtain rfl:=sj h2;exact⟨so (os [12,15,18,22] (bF h1) []),by kernel_rfl⟩
 refine bc J (fun h3 J=> ?_) fun h3 J=> ?_
 ·obtain rfl:=sj J;exact wr ai [[(0,bT h3)],[]]
 refine au ai [[(0,bF h3)]] ?_;obtain⟨v3,h5,J⟩:=ar J;refine cN ai [(3,(aM v3))] [.cells (cE v1).cells] ?_ ?_
 ·refine bc h5 (fun h4 h5=> ?_) fun h4 h5=> ?_
  ·obtain rfl:=sj h5;exact⟨so (os [12,15,18,22] (bT h4) []),by kernel_rfl⟩
  obtain rfl:=sj h5;exact⟨so (os [12,15,18,22] (bF h4) []),by kernel_rfl⟩
 obtain⟨v4,h8,J⟩:=ar J;refine cN ai [(36,(aM v4))] [.cells (cE v1).cells] ?_ ?_
 ·refine bc h8 (fun h6 h8=> ?_) fun h6 h8=> ?_
  ·refine bc h8 (fun h7 h8=> ?_) fun h7 h8=> ?_
   ·obtain rfl:=sj h8;exact⟨so (os [21,24,27,30,45,49] (bF (cG h6)) (os [33,36,39,42,46] (bT h7) [(10,oL v1.bG bV),(40,oL v1.aJ bV)])),by kernel_rfl⟩
   obtain rfl:=sj h8;exact⟨so (os [21,24,27,30,45,49] (bF (cG h6)) (os [33,36,39,42,46] (bF h7) [(10,oL v1.bG bV)])),by kernel_rfl⟩
  obtain rfl:=sj h8;exact⟨so (os [21,24,27,30,45,49] (bT (cT h6)) (os [33,36,39,42] uN [(10,oL v1.bG bV)])),by kernel_rfl⟩
 refine bc J (fun h9 J=> ?_) fun h9 J=> ?_
 ·obtain rfl:=sj J;exact wr ai [[(0,bT h9)],[]]
 obtain rfl:=sj J;exact wr ai [[(0,bF h9)],[]]
def tS(N:Nat):List bk→Nat→(List ByteArray)→Option ((List ByteArray))
 |[],_,v11=>
  some v11
 |v9::v10,v7,v11=>
  bif (Nat.ble ((v11.length+1)*16) 140737488355328)then
  (fun fS=>tS N v10 (v7+1) fS) (v11++[v9.aq])
  else none
def sA(N:Nat)(v1:aL):List bk→Nat→(List ByteArray)→Option ((List ByteArray))
 |[],_,v6=>
  tS N v1.bG 0 v6
 |v4::v5,v2,v6=>
  bif (Nat.ble ((v6.length+1)*16) 140737488355328)then
  (fun ck=>sA N v1 v5 (v2+1) ck) (v6++[v4.aq])
  else none
def BC(N:Nat)(v1:aL):Option ((List ByteArray)):=
 sA N v1 v1.aJ 0 []
theorem acH(N:Nat)(v1:aL)(r:(List ByteArray))(J:BC N v1=some r):bm Tryz.prog 112 [(cE v1)] (·=(.d (.sl (ax r)))):=by
 rw[BC]at J;refine bK Tryz.func112 (by kernel_rfl) (by kernel_rfl) ?_;refine au ai [[],[],[]] ?_;refine m8 3 9 1 [] (.inr (by kernel_rfl)) ?_;refine eo 0 6 (cy v1.aJ) (by kernel_rfl) fun h1=> ?_;have h2:=cr bV h1;refine cC ai 1 [] [1,3,4] 2 (fun((v2,v3,v6):Nat×(List bk)×(List ByteArray))=>⟨39,[(1,(.ptr 0 0)),(3,(.own 1 (ax v6))),(4,(an (v2:Int)))],[.cells (cE v1).cells, .front 9 1 v6.length]⟩) (fun((v2,v3,v6):Nat×(List bk)×(List ByteArray))=>v1.aJ.drop v2=v3∧sA N v1 v3 v2 v6=some r) (fun((v2,v3,v6):Nat×(List bk)×(List ByteArray))=>v3.length) (0,v1.aJ,[]) ⟨rfl,J⟩ ?_;rintro⟨v2,v3,v6⟩ ⟨h3,J⟩ f1 aV;cases v3 with
 |nil=>
  rw[sA]at J;refine au ai [[(10,oL v1.aJ bV)],[(0,bF (bS h3))],[]] ?_;refine eo 0 7 (cy v1.bG) (by kernel_rfl) fun h4=> ?_;have h5:=cr bV h4;refine cC ai 2 [] [1,3,5] 2 (fun((v7,v8,v11):Nat×(List bk)×(List ByteArray))=>⟨39,[(1,(.ptr 0 0)),(3,(.own 1 (ax v11))),(5,(an (v7:Int)))],[.cells (cE v1).cells, .front 9 1 v11.length]⟩) (fun((v7,v8,v11):Nat×(List bk)×(List ByteArray))=>v1.bG.drop v7=v8∧tS N v8 v7 v11=some r) (fun((v7,v8,v11):Nat×(List bk)×(List ByteArray))=>v8.length) (0,v1.bG,v6) ⟨rfl,J⟩ ?_;rintro⟨v7,v8,v11⟩ ⟨h6,J⟩ f2 dX;cases v8 with
  |nil=>
   rw[tS]at J;obtain rfl:=sj J;exact wr ai [[(10,oL v1.bG bV)],[(0,bF (bS h6))],[]]
  |cons v9 v10=>
   rw[tS]at J;obtain⟨h7,J⟩:=c8 J;exact cx ai dX (v7+1,v10,(v11++[v9.aq])) [[(10,oL v1.bG bV)],[(0,bT (bR h6))],[(13,oE (kg (bj h6))),(25,⟨_,_, .app (xs:=ax v11) (ys:=ax [v9.aq]) (zs:=ax (v11++[v9.aq])) (n:=(v11++[v9.aq]).length) bD.symm jz jz (by rw[(bD (l:=v11)),(bD (l:=[v9.aq]))];exact(cY h7 (by decide)).1) (by rw[(bD (l:=v11)),(bD (l:=[v9.aq]))];exact(cY h7 (by decide)).2) zD (by first|(rw[(bD (l:=v11)),(bD (l:=[v9.aq]))];done)|(rw[(bD (l:=v11)),(bD (l:=[v9.aq]))];rfl)|(rw[(bD (l:=v11)),(bD (l:=[v9.aq])),agu];done)|(rw[(bD (l:=v11)),(bD (l:=[v9.aq])),agu];rfl)|(rw[(bD (l:=v11)),(bD (l:=[v9.aq])),agN]))⟩)],[(5,oq (b8 h6 rfl h5))]] ⟨b7 h6,J⟩
 |cons v4 v5=>
  rw[sA]at J;obtain⟨h8,J⟩:=c8 J;exact cx ai aV (v2+1,v5,(v6++[v4.aq])) [[(10,oL v1.aJ bV)],[(0,bT (bR h3))],[(13,oE (kg (bj h3))),(25,⟨_,_, .app (xs:=ax v6) (ys:=ax [v4.aq]) (zs:=ax (v6++[v4.aq])) (n:=(v6++[v4.aq]).length) bD.symm jz jz (by rw[(bD (l:=v6)),(bD (l:=[v4.aq]))];exact(cY h8 (by decide)).1) (by rw[(bD (l:=v6)),(bD (l:=[v4.aq]))];exact(cY h8 (by decide)).2) zD (by first|(rw[(bD (l:=v6)),(bD (l:=[v4.aq]))];done)|(rw[(bD (l:=v6)),(bD (l:=[v4.aq]))];rfl)|(rw[(bD (l:=v6)),(bD (l:=[v4.aq])),agu];done)|(rw[(bD (l:=v6)),(bD (l:=[v4.aq])),agu];rfl)|(rw[(bD (l:=v6)),(bD (l:=[v4.aq])),agN]))⟩)],[(5,oq (b8 h3 rfl h2))]] ⟨b7 h3,J⟩
def pQ(N:Nat)(v2:Int)(RI:ao→Int→Option Int):List ao→Nat→Int→Option Int
 |[],_,v7=>
  some v7
 |v5::v6,v3,v7=>
  bif (decide (v2>(1:Int)))then
   Option.bind (RI v5 (a7 (v2-(1:Int)))) fun v8=>
   (fun ck=>pQ N v2 RI v6 (v3+1) ck) (if(a7 ((1:Int)+v8))>v7 then(a7 ((1:Int)+v8))else v7)
  else
   some v7
def ng(N:Nat):Nat→ao→Int→Option Int
 |0,_,_=>none
 |d+1,v1,v2=>
  pQ N v2 (ng N d) v1.aT 0 (1:Int)
def I3(N:Nat)(v1:ao)(v2:Int):Option Int:=ng N N v1 v2
theorem Y0(N:Nat):∀d:Nat,(∀(v1:ao)(v2:Int)(r:Int),ng N d v1 v2=some r→bm Tryz.prog 209 [(aE v1),(an v2)] (·=(an r))):=by
 intro d
 induction d with
 |zero=>intro v1 v2 r J;rw[ng]at J;cases J
 |succ d ih=>
  have ZM:=ih;intro v1 v2 r J;rw[ng]at J;refine bK Tryz.func209 (by kernel_rfl) (by kernel_rfl) ?_;refine au ai [[],[],[]] ?_;refine eo 0 12 (cW v1.aT) (by kernel_rfl) fun h1=> ?_;have h2:=cr ca h1;refine cC ai 1 [] [1,2,5,6] 1 (fun((v3,v4,v7):Nat×(List ao)×Int)=>⟨30,[(1,(an v2)),(2,(.ptr 0 0)),(5,(an v7)),(6,(an (v3:Int)))],[.cells (aE v1).cells]⟩) (fun((v3,v4,v7):Nat×(List ao)×Int)=>v1.aT.drop v3=v4∧pQ N v2 (ng N d) v4 v3 v7=some r) (fun((v3,v4,v7):Nat×(List ao)×Int)=>v4.length) (0,v1.aT,(1:Int)) ⟨rfl,J⟩ ?_;rintro⟨v3,v4,v7⟩ ⟨h3,J⟩ f1 aV;cases v4 with
  |nil=>
   rw[pQ]at J;obtain rfl:=sj J;exact wr ai [[(10,oL v1.aT ca),(18,bF (bS h3)),(21,bF (bS h3)),(25,bF (bS h3))],[(0,bF rfl)],[]]
  |cons v5 v6=>
   rw[pQ]at J;refine au ai [[(10,oL v1.aT ca),(18,bT (bR h3)),(21,bT (bR h3)),(25,bT (bR h3))]] ?_;refine bc J (fun h4 J=> ?_) fun h4 J=> ?_
   ·obtain⟨v8,h5,J⟩:=ar J;exact cx ai aV (v3+1,v6,(if(a7 ((1:Int)+v8))>v7 then(a7 ((1:Int)+v8))else v7)) [[(0,bT h4)],[(13,oE (jn (bj h3))),(25,cL (ZM v5 (a7 (v2-(1:Int))) v8 h5))],[(5,oq (b8 h3 rfl h2))]] ⟨b7 h3,J⟩
   obtain rfl:=sj J;exact wr ai [[(0,bF h4)],[]]
theorem YG(N:Nat)(v1:ao)(v2:Int)(r:Int)(J:I3 N v1 v2=some r):bm Tryz.prog 209 [(aE v1),(an v2)] (·=(an r)):=(Y0 N N) v1 v2 r J
def EC(N:Nat)(v1:ao):Option Int:=
 Option.bind (I3 N v1 (41:Int)) fun v2=>
 some v2
theorem ZH(N:Nat)(v1:ao)(r:Int)(J:EC N v1=some r):bm Tryz.prog 178 [(aE v1)] (·=(an r)):=by
 rw[EC]at J;refine bK Tryz.func178 (by kernel_rfl) (by kernel_rfl) ?_;obtain⟨v2,h1,J⟩:=ar J;obtain rfl:=sj J;exact wr ai [[],[(4,cL (YG N v1 (41:Int) v2 h1))]]
def sG(N:Nat)(v2:Int)(UW:ao→Int→Option Int):List ao→Nat→Int→Option Int
 |[],_,v7=>
  some v7
 |v5::v6,v3,v7=>
  bif (decide (v7≤v2))then
   Option.bind (UW v5 (a7 (v2-v7))) fun v8=>
   (fun ck=>sG N v2 UW v6 (v3+1) ck) (a7 (v7+v8))
  else
   some v7
def pf(N:Nat):Nat→ao→Int→Option Int
 |0,_,_=>none
 |d+1,v1,v2=>
  sG N v2 (pf N d) v1.aT 0 (1:Int)
def JD(N:Nat)(v1:ao)(v2:Int):Option Int:=pf N N v1 v2
theorem Zp(N:Nat):∀d:Nat,(∀(v1:ao)(v2:Int)(r:Int),pf N d v1 v2=some r→bm Tryz.prog 210 [(aE v1),(an v2)] (·=(an r))):=by
 intro d
 induction d with
 |zero=>intro v1 v2 r J;rw[pf]at J;cases J
 |succ d ih=>
  have Ze:=ih;intro v1 v2 r J;rw[pf]at J;refine bK Tryz.func210 (by kernel_rfl) (by kernel_rfl) ?_;refine au ai [[],[],[]] ?_;refine eo 0 12 (cW v1.aT) (by kernel_rfl) fun h1=> ?_;have h2:=cr ca h1;refine cC ai 1 [] [1,2,5,6] 1 (fun((v3,v4,v7):Nat×(List ao)×Int)=>⟨31,[(1,(an v2)),(2,(.ptr 0 0)),(5,(an v7)),(6,(an (v3:Int)))],[.cells (aE v1).cells]⟩) (fun((v3,v4,v7):Nat×(List ao)×Int)=>v1.aT.drop v3=v4∧sG N v2 (pf N d) v4 v3 v7=some r) (fun((v3,v4,v7):Nat×(List ao)×Int)=>v4.length) (0,v1.aT,(1:Int)) ⟨rfl,J⟩ ?_;rintro⟨v3,v4,v7⟩ ⟨h3,J⟩ f1 aV;cases v4 with
  |nil=>
   rw[sG]at J;obtain rfl:=sj J;exact wr ai [[(10,oL v1.aT ca),(18,bF (bS h3)),(21,bF (bS h3)),(24,bF (bS h3)),(28,bF (bS h3))],[(0,bF rfl)],[]]
  |cons v5 v6=>
   rw[sG]at J;refine au ai [[(10,oL v1.aT ca),(18,bT (bR h3)),(21,bT (bR h3)),(24,bT (bR h3)),(28,bT (bR h3))]] ?_;refine bc J (fun h4 J=> ?_) fun h4 J=> ?_
   ·obtain⟨v8,h5,J⟩:=ar J;exact cx ai aV (v3+1,v6,(a7 (v7+v8))) [[(0,bT h4)],[(13,oE (jn (bj h3))),(28,cL (Ze v5 (a7 (v2-v7)) v8 h5))],[(5,oq (b8 h3 rfl h2))]] ⟨b7 h3,J⟩
   obtain rfl:=sj J;exact wr ai [[(0,bF h4)],[]]
theorem acU(N:Nat)(v1:ao)(v2:Int)(r:Int)(J:JD N v1 v2=some r):bm Tryz.prog 210 [(aE v1),(an v2)] (·=(an r)):=(Zp N N) v1 v2 r J
def FI(N:Nat)(v1:ao):Option Int:=
 Option.bind (JD N v1 (2000:Int)) fun v2=>
 some (if(2001:Int)<v2 then(2001:Int)else v2)
theorem Xq(N:Nat)(v1:ao)(r:Int)(J:FI N v1=some r):bm Tryz.prog 179 [(aE v1)] (·=(an r)):=by
 rw[FI]at J;refine bK Tryz.func179 (by kernel_rfl) (by kernel_rfl) ?_;obtain⟨v2,h1,J⟩:=ar J;obtain rfl:=sj J;exact wr ai [[],[(4,cL (acU N v1 (2000:Int) v2 h1))]]
def wy(N:Nat):List ay→Nat→Option Bool
 |[],_=>
  some true
 |v7::v8,v5=>
  Option.bind (bif (bL v7.bp==bL (bs []))then(bif (decide ((v7.bw.length:Int)>(0:Int)))then some true else some false)else(bif (v7.aQ.xK.toInt !=(0:Int))then some true else some (decide ((v7.aQ.xL.length:Int)>(0:Int))))) fun v9=>
  bif v9 then
   some false
  else
   (wy N v8 (v5+1))
def C7(N:Nat)(v1:ao):Option Bool:=
 Option.bind (bif (decide (v1.bg<(1:Int)))then some true else some (decide (v1.bg>(18:Int)))) fun v2=>
 bif v2 then
  some false
 else
  Option.bind (bif (v1.bg !=(1:Int))then(bif ((v1.dK.xN.toInt==(0:Int64).toInt)&&((v1.dK.xD.toInt==(0:Int64).toInt)&&true))then(bif (v1.bg !=(12:Int))then some (!((v1.aB.cA==(0:Int))&&((v1.aB.cD==(0:Int))&&((v1.aB.dg==(0:Int))&&((v1.aB.de==(0:Int))&&((v1.aB.dc==(0:Int))&&true))))))else some false)else some true)else some false) fun v3=>
  bif v3 then
   some false
  else
   Option.bind (bif (v1.bg !=(2:Int))then(bif (v1.aQ.xK.toInt !=(0:Int))then some true else(bif (decide ((v1.aQ.xL.length:Int)>(0:Int)))then some true else(bif (v1.bg !=(3:Int))then(bif (bL v1.aq==bL (bs []))then some (decide ((v1.xIdx.length:Int)>(0:Int)))else some true)else some false)))else(bif (v1.bg !=(3:Int))then(bif (bL v1.aq==bL (bs []))then some (decide ((v1.xIdx.length:Int)>(0:Int)))else some true)else some false)) fun v4=>
   bif v4 then
    some false
   else
    wy N v1.xIdx 0
theorem aes(N:Nat)(v1:ao)(r:Bool)(J:C7 N v1=some r):bm Tryz.prog 211 [(aE v1)] (·=(aM r)):=by
 rw[C7]at J;refine bK Tryz.func211 (by kernel_rfl) (by kernel_rfl) ?_;refine au ai [[]] ?_;obtain⟨v2,h2,J⟩:=ar J;refine cN ai [(12,(aM v2))] [.cells (aE v1).cells] ?_ ?_
 ·refine bc h2 (fun h1 h2=> ?_) fun h1 h2=> ?_
  ·obtain rfl:=sj h2;exact⟨so (os [12,15,18,22] (bT h1) []),by kernel_rfl⟩
  obtain rfl:=sj h2;exact⟨so (os [12,15,18,22] (bF h1) []),by kernel_rfl⟩
 refine bc J (fun h3 J=> ?_) fun h3 J=> ?_
 ·obtain rfl:=sj J;exact wr ai [[(0,bT h3)],[]]
 refine au ai [[(0,bF h3)]] ?_;obtain⟨v3,h7,J⟩:=ar J;refine cN ai [(37,(aM v3))] [.cells (aE v1).cells] ?_ ?_
 ·refine bc h7 (fun h4 h7=> ?_) fun h4 h7=> ?_
  ·refine bc h7 (fun h5 h7=> ?_) fun h5 h7=> ?_
   ·refine bc h7 (fun h6 h7=> ?_) fun h6 h7=> ?_
    ·obtain rfl:=sj h7;exact⟨so (os [12,15,18,21,25,42,45,48,52] (bT h4) (os [30,33,36,39,51,54,69,73] (bF (cG h5)) (os [57,60,63,66,70] (bT h6) []))),by kernel_rfl⟩
    obtain rfl:=sj h7;exact⟨so (os [12,15,18,21,25,42,45,48,52] (bT h4) (os [30,33,36,39,51,54,69,73] (bF (cG h5)) (os [57,60,63,66,70] (bF h6) []))),by kernel_rfl⟩
   obtain rfl:=sj h7;exact⟨so (os [12,15,18,21,25] (bT h4) (os [30,33,36,39,51,54,69,73] (bT (cT h5)) (os [42,45,48,57,60,63,66] uN []))),by kernel_rfl⟩
  obtain rfl:=sj h7;exact⟨so (os [12,15,18,21,25,42,45,48,52] (bF h4) (os [30,33,36,39,51,54,57,60,63,66,69,70,73] (bF rfl) [])),by kernel_rfl⟩
 refine bc J (fun h8 J=> ?_) fun h8 J=> ?_
 ·obtain rfl:=sj J;exact wr ai [[(0,bT h8)],[]]
 refine au ai [[(0,bF h8)]] ?_;obtain⟨v4,a9,J⟩:=ar J;refine cN ai [(69,(aM v4))] [.cells (aE v1).cells] ?_ ?_
 ·refine bc a9 (fun h9 a9=> ?_) fun h9 a9=> ?_
  ·refine bc a9 (fun az a9=> ?_) fun az a9=> ?_
   ·obtain rfl:=sj a9;exact⟨so (os [12,15,18,21,24,42,46] (bT h9) (os [27,30,33,36,39,43] (bT az) (os [51,54,57,60,90,94] (bT rfl) (os [63,66,69,72,75,78,81,84,87] uN [])))),by kernel_rfl⟩
   refine bc a9 (fun aZ a9=> ?_) fun aZ a9=> ?_
   ·obtain rfl:=sj a9;exact⟨so (os [12,15,18,21,24,42,46] (bT h9) (os [27,30,33,36,39,43] (bF az) (os [51,54,57,60,90,94] (bT aZ) (os [63,66,69,72,75,78,81,84,87] uN [(37,oL v1.aQ.xL b6)])))),by kernel_rfl⟩
   refine bc a9 (fun bf a9=> ?_) fun bf a9=> ?_
   ·refine bc a9 (fun b5 a9=> ?_) fun b5 a9=> ?_
    ·obtain rfl:=sj a9;exact⟨so (os [12,15,18,21,24,42,46] (bT h9) (os [27,30,33,36,39,43] (bF az) (os [51,54,57,60,90,94] (bF aZ) (os [63,66,69,72,87,91] (bT bf) (os [75,78,81,84,88] (bF (cG b5)) [(37,oL v1.aQ.xL b6),(82,oL v1.xIdx cn)]))))),by kernel_rfl⟩
    obtain rfl:=sj a9;exact⟨so (os [12,15,18,21,24,42,46] (bT h9) (os [27,30,33,36,39,43] (bF az) (os [51,54,57,60,90,94] (bF aZ) (os [63,66,69,72,87,91] (bT bf) (os [75,78,81,84,88] (bT (cT b5)) [(37,oL v1.aQ.xL b6)]))))),by kernel_rfl⟩
   obtain rfl:=sj a9;exact⟨so (os [12,15,18,21,24,42,46] (bT h9) (os [27,30,33,36,39,43] (bF az) (os [51,54,57,60,90,94] (bF aZ) (os [63,66,69,72,87,91] (bF bf) (os [75,78,81,84] uN [(37,oL v1.aQ.xL b6)]))))),by kernel_rfl⟩
  refine bc a9 (fun a8 a9=> ?_) fun a8 a9=> ?_
  ·refine bc a9 (fun bA a9=> ?_) fun bA a9=> ?_
   ·obtain rfl:=sj a9;exact⟨so (os [12,15,18,21,24,42,46] (bF h9) (os [27,30,33,36,39] uN (os [51,54,57,60,90,94] (bF rfl) (os [63,66,69,72,87,91] (bT a8) (os [75,78,81,84,88] (bF (cG bA)) [(82,oL v1.xIdx cn)]))))),by kernel_rfl⟩
   obtain rfl:=sj a9;exact⟨so (os [12,15,18,21,24,42,46] (bF h9) (os [27,30,33,36,39] uN (os [51,54,57,60,90,94] (bF rfl) (os [63,66,69,72,87,91] (bT a8) (os [75,78,81,84,88] (bT (cT bA)) []))))),by kernel_rfl⟩
  obtain rfl:=sj a9;exact⟨so (os [12,15,18,21,24,42,46] (bF h9) (os [27,30,33,36,39,75,78,81,84] uN (os [51,54,57,60,90,94] (bF rfl) (os [63,66,69,72,87,91] (bF a8) [])))),by kernel_rfl⟩
 refine bc J (fun cv J=> ?_) fun cv J=> ?_
 ·obtain rfl:=sj J;exact wr ai [[(0,bT cv)],[]]
 refine au ai [[(0,bF cv)],[]] ?_;refine eo 0 11 (bM v1.xIdx) (by kernel_rfl) fun bQ=> ?_;have dk:=cr cn bQ;refine cC ai 1 [] [1,3] 1 (fun((v5,v6):Nat×(List ay))=>⟨109,[(1,(.ptr 0 0)),(3,(an (v5:Int)))],[.cells (aE v1).cells]⟩) (fun((v5,v6):Nat×(List ay))=>v1.xIdx.drop v5=v6∧wy N v6 v5=some r) (fun((v5,v6):Nat×(List ay))=>v6.length) (0,v1.xIdx) ⟨rfl,J⟩ ?_;rintro⟨v5,v6⟩ ⟨dJ,J⟩ f1 aV;cases v6 with
 |nil=>
  rw[wy]at J;obtain rfl:=sj J;exact wr ai [[(10,oL v1.xIdx cn)],[(0,bF (bS dJ))],[]]
 |cons v7 v8=>
  rw[wy]at J;refine au ai [[(10,oL v1.xIdx cn)],[(0,bT (bR dJ))],[(10,oE (eM (bj dJ)))]] ?_;obtain⟨v9,eN,J⟩:=ar J;refine cN ai [(108,(aM v9))] [.cells (aE v1).cells, .cells (fX v7).cells] ?_ ?_
  ·refine bc eN (fun eG eN=> ?_) fun eG eN=> ?_
   ·refine bc eN (fun fe eN=> ?_) fun fe eN=> ?_
    ·obtain rfl:=sj eN;exact⟨so (os [12,15,18,21,25] (bT eG) (os [30,33,36,39,75,79] (bT fe) (os [42,45,48,51,54,57,60,63,66,69,72] uN [(19,oL v7.bw bO)]))),by kernel_rfl⟩
    obtain rfl:=sj eN;exact⟨so (os [12,15,18,21,25] (bT eG) (os [30,33,36,39,75,79] (bF fe) (os [42,45,48,51,54,72,76] (bF (cG eG)) (os [57,60,63,66,69] uN [(19,oL v7.bw bO)])))),by kernel_rfl⟩
   refine bc eN (fun fb eN=> ?_) fun fb eN=> ?_
   ·obtain rfl:=sj eN;exact⟨so (os [12,15,18,21,25] (bF eG) (os [30,33,36,39,75,79] (bF rfl) (os [42,45,48,51,54,72,76] (bT (cT eG)) (os [57,60,63,66,69,73] (bT fb) [])))),by kernel_rfl⟩
   obtain rfl:=sj eN;exact⟨so (os [12,15,18,21,25] (bF eG) (os [30,33,36,39,75,79] (bF rfl) (os [42,45,48,51,54,72,76] (bT (cT eG)) (os [57,60,63,66,69,73] (bF fb) [(67,oL v7.aQ.xL b6)])))),by kernel_rfl⟩
  refine bc J (fun fp J=> ?_) fun fp J=> ?_
  ·obtain rfl:=sj J;exact wr ai [[(0,bT fp)],[]]
  exact cx ai aV (v5+1,v8) [[(0,bF fp)],[(5,oq (b8 dJ rfl dk))]] ⟨b7 dJ,J⟩
def uT(N:Nat):List ay→Nat→Option Bool
 |[],_=>
  some true
 |v6::v7,v4=>
  Option.bind (bif (bL v6.bp==bL (bs []))then some false else Option.bind (sx N v6.bp) fun v8=>
  some (!v8)) fun v9=>
  bif v9 then
   some false
  else
   (uT N v7 (v4+1))
def BI(N:Nat)(v1:ao):Option Bool:=
 Option.bind (bif (v1.bg==(3:Int))then Option.bind (sx N v1.aq) fun v2=>
 some (!v2)else some false) fun v3=>
 bif v3 then
  some false
 else
  uT N v1.xIdx 0
theorem aao(N:Nat)(v1:ao)(r:Bool)(J:BI N v1=some r):bm Tryz.prog 212 [(aE v1)] (·=(aM r)):=by
 rw[BI]at J;refine bK Tryz.func212 (by kernel_rfl) (by kernel_rfl) ?_;refine au ai [[]] ?_;obtain⟨v3,h3,J⟩:=ar J;refine cN ai [(12,(aM v3))] [.cells (aE v1).cells] ?_ ?_
 ·refine bc h3 (fun h1 h3=> ?_) fun h1 h3=> ?_
  ·obtain⟨v2,h2,h3⟩:=ar h3;obtain rfl:=sj h3;exact⟨so (os [12,15,18,21,25] (bT h1) [(19,cL (u5 N v1.aq v2 h2))]),by kernel_rfl⟩
  obtain rfl:=sj h3;exact⟨so (os [12,15,18,21,25] (bF h1) []),by kernel_rfl⟩
 refine bc J (fun h4 J=> ?_) fun h4 J=> ?_
 ·obtain rfl:=sj J;exact wr ai [[(0,bT h4)],[]]
 refine au ai [[(0,bF h4)],[]] ?_;refine eo 0 11 (bM v1.xIdx) (by kernel_rfl) fun h5=> ?_;have h6:=cr cn h5;refine cC ai 1 [] [1,3] 1 (fun((v4,v5):Nat×(List ay))=>⟨37,[(1,(.ptr 0 0)),(3,(an (v4:Int)))],[.cells (aE v1).cells]⟩) (fun((v4,v5):Nat×(List ay))=>v1.xIdx.drop v4=v5∧uT N v5 v4=some r) (fun((v4,v5):Nat×(List ay))=>v5.length) (0,v1.xIdx) ⟨rfl,J⟩ ?_;rintro⟨v4,v5⟩ ⟨h7,J⟩ f1 aV;cases v5 with
 |nil=>
  rw[uT]at J;obtain rfl:=sj J;exact wr ai [[(10,oL v1.xIdx cn)],[(0,bF (bS h7))],[]]
 |cons v6 v7=>
  rw[uT]at J;refine au ai [[(10,oL v1.xIdx cn)],[(0,bT (bR h7))]] ?_;obtain⟨v9,az,J⟩:=ar J;refine cN ai [(36,(aM v9))] [.cells (aE v1).cells] ?_ ?_
  ·refine bc az (fun h8 az=> ?_) fun h8 az=> ?_
   ·obtain rfl:=sj az;exact⟨so (os [24,27,30,33,36,39,42,45,49] (bF (cG h8)) [(10,oE (eM (bj h7)))]),by kernel_rfl⟩
   obtain⟨v8,h9,az⟩:=ar az;obtain rfl:=sj az;exact⟨so (os [10,34] (oE (eM (bj h7))) (os [24,27,30,33,36,39,42,45,49] (bT (cT h8)) [(43,cL (u5 N v6.bp v8 h9))])),by kernel_rfl⟩
  refine bc J (fun aZ J=> ?_) fun aZ J=> ?_
  ·obtain rfl:=sj J;exact wr ai [[(0,bT aZ)],[]]
  exact cx ai aV (v4+1,v7) [[(0,bF aZ)],[(5,oq (b8 h7 rfl h6))]] ⟨b7 h7,J⟩
def yF(N:Nat)(v1:Int)(v3:Bool):Option Int:=
 bif v3 then
  some (1:Int)
 else
  bif (v1==(11:Int))then
   some (3:Int)
  else
   some (2:Int)
def ya(N:Nat)(v1:Int)(v2:Bool):Option Int:=
 bif v2 then
  some (0:Int)
 else
  bif (v1==(8:Int))then
   yF N v1 (v1==(8:Int))
  else
   bif (v1==(12:Int))then
    yF N v1 (v1==(12:Int))
   else
    yF N v1 (v1==(18:Int))
def DH(N:Nat)(v1:Int):Option Int:=
 bif (v1==(1:Int))then
  ya N v1 (v1==(1:Int))
 else
  bif (v1==(2:Int))then
   ya N v1 (v1==(2:Int))
  else
   ya N v1 (v1==(3:Int))
theorem T0(N:Nat)(v1:Int)(r:Int)(J:DH N v1=some r):bm Tryz.prog 239 [(an v1)] (·=(an r)):=by
 rw[DH]at J;refine bK Tryz.func239 (by kernel_rfl) (by kernel_rfl) ?_;refine ma ai 1 [[],[],[]] [3,4] 0 (fun(v2:Bool)=>⟨14,[(3,(an v1)),(4,(aM v2))],[]⟩) (fun(v2:Bool)=>ya N v1 v2=some r) ?_ ?_
 ·intro f1 aV;refine bc J (fun h6 J=> ?_) fun h6 J=> ?_
  ·exact dT ai aV (v1==(1:Int)) [[(0,bT h6)]] J
  refine au ai [[(0,bF h6)],[]] ?_;refine bc J (fun h7 J=> ?_) fun h7 J=> ?_
  ·exact dT ai aV (v1==(2:Int)) [[(0,bT h7)]] J
  exact dT ai aV (v1==(3:Int)) [[(0,bF h7)],[]] J
 rintro v2 J
 try dsimp only at J
 rw[ya]at J;refine bc J (fun h1 J=> ?_) fun h1 J=> ?_
 ·obtain rfl:=sj J;exact wr ai [[(0,bT h1)],[]]
 refine ma ai 2 [[(0,bF h1)],[]] [3,8] 0 (fun(v3:Bool)=>⟨14,[(3,(an v1)),(8,(aM v3))],[]⟩) (fun(v3:Bool)=>yF N v1 v3=some r) ?_ ?_
 ·intro f2 dX;refine bc J (fun h4 J=> ?_) fun h4 J=> ?_
  ·exact dT ai dX (v1==(8:Int)) [[(0,bT h4)]] J
  refine au ai [[(0,bF h4)],[]] ?_;refine bc J (fun h5 J=> ?_) fun h5 J=> ?_
  ·exact dT ai dX (v1==(12:Int)) [[(0,bT h5)]] J
  exact dT ai dX (v1==(18:Int)) [[(0,bF h5)],[]] J
 rintro v3 J
 try dsimp only at J
 rw[yF]at J;refine bc J (fun h2 J=> ?_) fun h2 J=> ?_
 ·obtain rfl:=sj J;exact wr ai [[(0,bT h2)],[]]
 refine au ai [[(0,bF h2)],[]] ?_;refine bc J (fun h3 J=> ?_) fun h3 J=> ?_
 ·obtain rfl:=sj J;exact wr ai [[(0,bT h3)],[]]
 obtain rfl:=sj J;exact wr ai [[(0,bF h3)],[]]
def ui(N:Nat):List ay→Nat→Option Bool
 |[],_=>
  some true
 |v6::v7,v4=>
  bif (decide ((v6.bw.length:Int)>(6:Int)))then
   some false
  else
   (ui N v7 (v4+1))
def CN(N:Nat)(v1:ao):Option Bool:=
 Option.bind (DH N v1.bg) fun v2=>
 Option.bind (bif ((v1.aT.length:Int) !=v2)then some true else some (decide ((v1.xIdx.length:Int)>(6:Int)))) fun v3=>
 bif v3 then
  some false
 else
  ui N v1.xIdx 0
theorem Zo(N:Nat)(v1:ao)(r:Bool)(J:CN N v1=some r):bm Tryz.prog 213 [(aE v1)] (·=(aM r)):=by
 rw[CN]at J;refine bK Tryz.func213 (by kernel_rfl) (by kernel_rfl) ?_;refine au ai [[]] ?_;obtain⟨v2,h1,J⟩:=ar J;obtain⟨v3,h3,J⟩:=ar J;refine cN ai [(16,(aM v3))] [.cells (aE v1).cells] ?_ ?_
 ·refine bc h3 (fun h2 h3=> ?_) fun h2 h3=> ?_
  ·obtain rfl:=sj h3;exact⟨so (os [24,27,30,33,37] (bT h2) [(7,oL v1.aT ca),(16,cL (T0 N v1.bg v2 h1))]),by kernel_rfl⟩
  obtain rfl:=sj h3;exact⟨so (os [24,27,30,33,37] (bF h2) [(7,oL v1.aT ca),(16,cL (T0 N v1.bg v2 h1)),(31,oL v1.xIdx cn)]),by kernel_rfl⟩
 refine bc J (fun h4 J=> ?_) fun h4 J=> ?_
 ·obtain rfl:=sj J;exact wr ai [[(0,bT h4)],[]]
 refine au ai [[(0,bF h4)],[]] ?_;refine eo 0 11 (bM v1.xIdx) (by kernel_rfl) fun h5=> ?_;have h6:=cr cn h5;refine cC ai 1 [] [1,3] 1 (fun((v4,v5):Nat×(List ay))=>⟨32,[(1,(.ptr 0 0)),(3,(an (v4:Int)))],[.cells (aE v1).cells]⟩) (fun((v4,v5):Nat×(List ay))=>v1.xIdx.drop v4=v5∧ui N v5 v4=some r) (fun((v4,v5):Nat×(List ay))=>v5.length) (0,v1.xIdx) ⟨rfl,J⟩ ?_;rintro⟨v4,v5⟩ ⟨h7,J⟩ f1 aV;cases v5 with
 |nil=>
  rw[ui]at J;obtain rfl:=sj J;exact wr ai [[(10,oL v1.xIdx cn)],[(0,bF (bS h7))],[]]
 |cons v6 v7=>
  rw[ui]at J;refine au ai [[(10,oL v1.xIdx cn)],[(0,bT (bR h7))],[(10,oE (eM (bj h7))),(19,oL v6.bw bO)]] ?_;refine bc J (fun h8 J=> ?_) fun h8 J=> ?_
  ·obtain rfl:=sj J;exact wr ai [[(0,bT h8)],[]]
  exact cx ai aV (v4+1,v7) [[(0,bF h8)],[(5,oq (b8 h7 rfl h6))]] ⟨b7 h7,J⟩
def Ak(N:Nat)(v1:ao):Option Bool:=
 Option.bind (bif (decide (v1.bg≥(13:Int)))then some (decide (v1.bg≤(18:Int)))else some false) fun v2=>
 some v2
theorem Tn(N:Nat)(v1:ao)(r:Bool)(J:Ak N v1=some r):bm Tryz.prog 143 [(aE v1)] (·=(aM r)):=by
 rw[Ak]at J;refine bK Tryz.func143 (by kernel_rfl) (by kernel_rfl) ?_;refine au ai [[]] ?_;obtain⟨v2,h2,J⟩:=ar J;refine cN ai [(2,(aM v2))] [.cells (aE v1).cells] ?_ ?_
 ·refine bc h2 (fun h1 h2=> ?_) fun h1 h2=> ?_
  ·obtain rfl:=sj h2;exact⟨so (os [12,15,18,22] (bT h1) []),by kernel_rfl⟩
  obtain rfl:=sj h2;exact⟨so (os [12,15,18,22] (bF h1) []),by kernel_rfl⟩
 obtain rfl:=sj J;exact wr ai []
def AP(N:Nat)(v1:Int)(v2:Int):Option Bool:=
 Option.bind (bif (v1==(11:Int))then(bif (v2==(0:Int))then some true else(bif (v1==(16:Int))then some true else(bif (v1==(17:Int))then some true else some (v1==(18:Int)))))else(bif (v1==(16:Int))then some true else(bif (v1==(17:Int))then some true else some (v1==(18:Int))))) fun v3=>
 some v3
theorem Yr(N:Nat)(v1:Int)(v2:Int)(r:Bool)(J:AP N v1 v2=some r):bm Tryz.prog 240 [(an v1),(an v2)] (·=(aM r)):=by
 rw[AP]at J;refine bK Tryz.func240 (by kernel_rfl) (by kernel_rfl) ?_;refine au ai [[]] ?_;obtain⟨v3,h7,J⟩:=ar J;refine cN ai [(4,(aM v3))] [] ?_ ?_
 ·refine bc h7 (fun h1 h7=> ?_) fun h1 h7=> ?_
  ·refine bc h7 (fun h2 h7=> ?_) fun h2 h7=> ?_
   ·obtain rfl:=sj h7;exact⟨so (os [9,12,16] (bT h1) (os [21,24,28] (bT h2) (os [33,36,40,45,48,52] (bT rfl) []))),by kernel_rfl⟩
   refine bc h7 (fun h3 h7=> ?_) fun h3 h7=> ?_
   ·obtain rfl:=sj h7;exact⟨so (os [9,12,16] (bT h1) (os [21,24,28] (bF h2) (os [33,36,40] (bT h3) (os [45,48,52] (bT rfl) [])))),by kernel_rfl⟩
   refine bc h7 (fun h4 h7=> ?_) fun h4 h7=> ?_
   ·obtain rfl:=sj h7;exact⟨so (os [9,12,16] (bT h1) (os [21,24,28] (bF h2) (os [33,36,40] (bF h3) (os [45,48,52] (bT h4) [])))),by kernel_rfl⟩
   obtain rfl:=sj h7;exact⟨so (os [9,12,16] (bT h1) (os [21,24,28] (bF h2) (os [33,36,40] (bF h3) (os [45,48,52] (bF h4) [])))),by kernel_rfl⟩
  refine bc h7 (fun h5 h7=> ?_) fun h5 h7=> ?_
  ·obtain rfl:=sj h7;exact⟨so (os [9,12,16] (bF h1) (os [21,24,28] (bF rfl) (os [33,36,40] (bT h5) (os [45,48,52] (bT rfl) [])))),by kernel_rfl⟩
  refine bc h7 (fun h6 h7=> ?_) fun h6 h7=> ?_
  ·obtain rfl:=sj h7;exact⟨so (os [9,12,16] (bF h1) (os [21,24,28] (bF rfl) (os [33,36,40] (bF h5) (os [45,48,52] (bT h6) [])))),by kernel_rfl⟩
  obtain rfl:=sj h7;exact⟨so (os [9,12,16] (bF h1) (os [21,24,28] (bF rfl) (os [33,36,40] (bF h5) (os [45,48,52] (bF h6) [])))),by kernel_rfl⟩
 obtain rfl:=sj J;exact wr ai []
def vp(N:Nat)(v1:ao):List ao→Nat→Option Bool
 |[],_=>
  some true
 |v7::v8,v5=>
  Option.bind (Ak N v7) fun v9=>
  Option.bind (AP N v1.bg (v5:Int)) fun v10=>
  bif (v9==v10)then
   (vp N v1 v8 (v5+1))
  else
   some false
def Dm(N:Nat)(v1:ao):Option Bool:=
 Option.bind (bif (v1.bg==(1:Int))then Option.bind (sW N v1.aB) fun v2=>
 some (!v2)else(bif (v1.bg==(12:Int))then Option.bind (sW N v1.aB) fun v3=>
 some (!v3)else some false)) fun v4=>
 bif v4 then
  some false
 else
  vp N v1 v1.aT 0
theorem afQ(N:Nat)(v1:ao)(r:Bool)(J:Dm N v1=some r):bm Tryz.prog 214 [(aE v1)] (·=(aM r)):=by
 rw[Dm]at J;refine bK Tryz.func214 (by kernel_rfl) (by kernel_rfl) ?_;refine au ai [[]] ?_;obtain⟨v4,h5,J⟩:=ar J;refine cN ai [(17,(aM v4))] [.cells (aE v1).cells] ?_ ?_
 ·refine bc h5 (fun h1 h5=> ?_) fun h1 h5=> ?_
  ·obtain⟨v2,h2,h5⟩:=ar h5;obtain rfl:=sj h5;exact⟨so (os [12,15,18,22] (bT h1) (os [27,30,33,36,40] (bT rfl) [(34,cL (GX N v1.aB v2 h2))])),by kernel_rfl⟩
  refine bc h5 (fun h3 h5=> ?_) fun h3 h5=> ?_
  ·obtain⟨v3,h4,h5⟩:=ar h5;obtain rfl:=sj h5;exact⟨so (os [12,15,18,22] (bF h1) (os [27,30,33,36,40] (bT h3) [(34,cL (GX N v1.aB v3 h4))])),by kernel_rfl⟩
  obtain rfl:=sj h5;exact⟨so (os [12,15,18,22] (bF h1) (os [27,30,33,36,40] (bF h3) [])),by kernel_rfl⟩
 refine bc J (fun h6 J=> ?_) fun h6 J=> ?_
 ·obtain rfl:=sj J;exact wr ai [[(0,bT h6)],[]]
 refine au ai [[(0,bF h6)],[]] ?_;refine eo 0 12 (cW v1.aT) (by kernel_rfl) fun h7=> ?_;have h8:=cr ca h7;refine cC ai 1 [] [1,3] 1 (fun((v5,v6):Nat×(List ao))=>⟨36,[(1,(.ptr 0 0)),(3,(an (v5:Int)))],[.cells (aE v1).cells]⟩) (fun((v5,v6):Nat×(List ao))=>v1.aT.drop v5=v6∧vp N v1 v6 v5=some r) (fun((v5,v6):Nat×(List ao))=>v6.length) (0,v1.aT) ⟨rfl,J⟩ ?_;rintro⟨v5,v6⟩ ⟨h9,J⟩ f1 aV;cases v6 with
 |nil=>
  rw[vp]at J;obtain rfl:=sj J;exact wr ai [[(10,oL v1.aT ca)],[(0,bF (bS h9))],[]]
 |cons v7 v8=>
  rw[vp]at J;obtain⟨v9,az,J⟩:=ar J;obtain⟨v10,aZ,J⟩:=ar J;refine au ai [[(10,oL v1.aT ca)],[(0,bT (bR h9))],[(10,oE (jn (bj h9))),(16,cL (Tn N v7 v9 az)),(28,cL (Yr N v1.bg (v5:Int) v10 aZ))]] ?_;refine bc J (fun bf J=> ?_) fun bf J=> ?_
  ·exact cx ai aV (v5+1,v8) [[(0,bF (cG bf))],[(5,oq (b8 h9 rfl h8))]] ⟨b7 h9,J⟩
  obtain rfl:=sj J;exact wr ai [[(0,bT (cT bf))],[]]
def wv(N:Nat):Nat→Int64→Int64→Option Int64
 |0,_,_=>none
 |v3+1,v4,v5=>
  bif (v5.toInt !=(0:Int))then
   (fun ck eQ=>wv N v3 ck eQ) v5 (Int64.ofInt ((v4.toInt).tmod v5.toInt))
  else
   some v4
def FH(N:Nat)(v1:Int64)(v2:Int64):Option Int64:=
 wv N N v1 v2
theorem aeA(N:Nat)(v1:Int64)(v2:Int64)(r:Int64)(J:FH N v1 v2=some r):bm Tryz.prog 250 [(bt v1),(bt v2)] (·=(bt r)):=by
 rw[FH]at J;refine bK Tryz.func250 (by kernel_rfl) (by kernel_rfl) ?_;refine cC ai 1 [[]] [0,1] 0 (fun((v3,v4,v5):Nat×Int64×Int64)=>⟨12,[(0,(bt v4)),(1,(bt v5))],[]⟩) (fun((v3,v4,v5):Nat×Int64×Int64)=>wv N v3 v4 v5=some r) (fun((v3,v4,v5):Nat×Int64×Int64)=>v3) (N,v1,v2) J ?_;rintro⟨v3,v4,v5⟩ J f1 aV
 try dsimp only at J
 cases v3 with
 |zero=>
  rw[wv]at J;cases J
 |succ v3=>
  rw[wv]at J;refine au ai [[]] ?_;refine bc J (fun h1 J=> ?_) fun h1 J=> ?_
  ·exact cx ai aV (v3,v5,(Int64.ofInt ((v4.toInt).tmod v5.toInt))) [[(0,bT h1)],[(10,⟨_,_, .nz (b:=v5.toInt) (bne_iff_ne.1 h1)⟩),(11,⟨_,_, .eq (aev v4 v5.toInt)⟩)]] J
  obtain rfl:=sj J;exact wr ai [[(0,bF h1)],[]]
def Eu(N:Nat)(v1:bB)(v2:gj):Option Bool:=
 bif (v1.cA==(2:Int))then
  bif (decide ((0:Int)≤(a7 (v1.cD-(1:Int)))))then
  Option.bind (bif (v2.xD.toInt==(1:Int))then(bif (decide (v2.xN.toInt≥(-(Int64.ofInt ((1:Int)*2^(min ((a7 (v1.cD-(1:Int)))).toNat (IntKind.bits .i64))))).toInt))then some (decide (v2.xN.toInt<(Int64.ofInt ((1:Int)*2^(min ((a7 (v1.cD-(1:Int)))).toNat (IntKind.bits .i64)))).toInt))else some false)else some false) fun v3=>
  some v3
  else none
 else
  Option.bind (bif (decide (v2.xN.toInt>(2147483647:Int)))then some true else(bif (decide (v2.xN.toInt<(-2147483647:Int)))then some true else(bif (decide (v2.xD.toInt<(1:Int)))then some true else some (decide (v2.xD.toInt>(2147483647:Int)))))) fun v4=>
  bif v4 then
   some false
  else
   bif (v1.cA==(3:Int))then
    some (v2.xD.toInt==(1:Int))
   else
    Option.bind (FH N (w7 v2.xN (-v2.xN)) v2.xD) fun v5=>
    some (v5.toInt==(1:Int))
theorem U9(N:Nat)(v1:bB)(v2:gj)(r:Bool)(J:Eu N v1 v2=some r):bm Tryz.prog 241 [(e9 v1),(qE v2)] (·=(aM r)):=by
 rw[Eu]at J;refine bK Tryz.func241 (by kernel_rfl) (by kernel_rfl) ?_;refine au ai [[],[]] ?_;refine bc J (fun h1 J=> ?_) fun h1 J=> ?_
 ·obtain⟨h2,J⟩:=c8 J;refine au ai [[(0,bT h1)],[(10,⟨_,_, .nn (b:=(a7 (v1.cD-(1:Int)))) (of_decide_eq_true h2)⟩),(11,⟨_,_, .eq (nw ((1:Int)*2^(min ((a7 (v1.cD-(1:Int)))).toNat (IntKind.bits .i64))))⟩)]] ?_;obtain⟨v3,h5,J⟩:=ar J;refine cN ai [(4,(aM v3))] [.cells (e9 v1).cells, .cells (qE v2).cells] ?_ ?_
  ·refine bc h5 (fun h3 h5=> ?_) fun h3 h5=> ?_
   ·refine bc h5 (fun h4 h5=> ?_) fun h4 h5=> ?_
    ·obtain rfl:=sj h5;exact⟨so (os [12,15,18,21,24,28] (bT h3) (os [33,36,39,42,46] (bT h4) [(23,⟨_,_, .eq (FF (Int64.ofInt ((1:Int)*2^(min ((a7 (v1.cD-(1:Int)))).toNat (IntKind.bits .i64)))))⟩)])),by kernel_rfl⟩
    obtain rfl:=sj h5;exact⟨so (os [12,15,18,21,24,28] (bT h3) (os [33,36,39,42,46] (bF h4) [(23,⟨_,_, .eq (FF (Int64.ofInt ((1:Int)*2^(min ((a7 (v1.cD-(1:Int)))).toNat (IntKind.bits .i64)))))⟩)])),by kernel_rfl⟩
   obtain rfl:=sj h5;exact⟨so (os [12,15,18,21,24,28] (bF h3) (os [33,36,39,42,46] (bF rfl) [])),by kernel_rfl⟩
  obtain rfl:=sj J;exact wr ai []
 refine au ai [[(0,bF h1)]] ?_;obtain⟨v4,h9,J⟩:=ar J;refine cN ai [(46,(aM v4))] [.cells (e9 v1).cells, .cells (qE v2).cells] ?_ ?_
 ·refine bc h9 (fun h6 h9=> ?_) fun h6 h9=> ?_
  ·obtain rfl:=sj h9;exact⟨so (os [12,15,18,22] (bT h6) (os [27,30,33,37,42,45,48,52] (bT rfl) [])),by kernel_rfl⟩
  refine bc h9 (fun h7 h9=> ?_) fun h7 h9=> ?_
  ·obtain rfl:=sj h9;exact⟨so (os [12,15,18,22] (bF h6) (os [27,30,33,37] (bT h7) (os [42,45,48,52] (bT rfl) []))),by kernel_rfl⟩
  refine bc h9 (fun h8 h9=> ?_) fun h8 h9=> ?_
  ·obtain rfl:=sj h9;exact⟨so (os [12,15,18,22] (bF h6) (os [27,30,33,37] (bF h7) (os [42,45,48,52] (bT h8) []))),by kernel_rfl⟩
  obtain rfl:=sj h9;exact⟨so (os [12,15,18,22] (bF h6) (os [27,30,33,37] (bF h7) (os [42,45,48,52] (bF h8) []))),by kernel_rfl⟩
 refine bc J (fun az J=> ?_) fun az J=> ?_
 ·obtain rfl:=sj J;exact wr ai [[(0,bT az)],[]]
 refine au ai [[(0,bF az)],[]] ?_;refine bc J (fun aZ J=> ?_) fun aZ J=> ?_
 ·obtain rfl:=sj J;exact wr ai [[(0,bT aZ)],[]]
 obtain⟨v5,bf,J⟩:=ar J;obtain rfl:=sj J;exact wr ai [[(0,bF aZ)],[(14,⟨_,_, .eq (FF v2.xN)⟩),(17,⟨_,_, .eq (aa3 v2.xN (-v2.xN))⟩),(25,cL (aeA N (w7 v2.xN (-v2.xN)) v2.xD v5 bf))]]
def vz(N:Nat)(gB:Option Bool):List aw→Nat→Option Bool
 |[],_=>
  gB
 |aI::aD,v11=>
  Option.bind (pR N aI) fun aP=>
  bif aP then
   (vz N gB aD (v11+1))
  else
   some false
def rZ(N:Nat):List ay→Nat→Option Bool
 |[],_=>
  some true
 |v8::v9,v6=>
  Option.bind (pR N v8.aQ) fun v10=>
  bif v10 then
   vz N (rZ N v9 (v6+1)) v8.bw 0
  else
   some false
def A9(N:Nat)(v1:ao):Option Bool:=
 Option.bind (bif (v1.bg==(1:Int))then Option.bind (Eu N v1.aB v1.dK) fun v2=>
 (bif v2 then Option.bind (pR N v1.aQ) fun v3=>
 some (!v3)else some true)else Option.bind (pR N v1.aQ) fun v4=>
 some (!v4)) fun v5=>
 bif v5 then
  some false
 else
  rZ N v1.xIdx 0
theorem adq(N:Nat)(v1:ao)(r:Bool)(J:A9 N v1=some r):bm Tryz.prog 215 [(aE v1)] (·=(aM r)):=by
 rw[A9]at J;refine bK Tryz.func215 (by kernel_rfl) (by kernel_rfl) ?_;refine au ai [[]] ?_;obtain⟨v5,h6,J⟩:=ar J;refine cN ai [(21,(aM v5))] [.cells (aE v1).cells] ?_ ?_
 ·refine bc h6 (fun h1 h6=> ?_) fun h1 h6=> ?_
  ·obtain⟨v2,h2,h6⟩:=ar h6;refine bc h6 (fun h3 h6=> ?_) fun h3 h6=> ?_
   ·obtain⟨v3,h4,h6⟩:=ar h6;obtain rfl:=sj h6;exact⟨so (os [12,15,18,21,24,27,31] (bT h1) (os [36,39,42,45,49] (bF (cG h3)) [(25,cL (U9 N v1.aB v1.dK v2 h2)),(43,cL (xU N v1.aQ v3 h4))])),by kernel_rfl⟩
   obtain rfl:=sj h6;exact⟨so (os [12,15,18,21,24,27,31] (bT h1) (os [36,39,42,45,49] (bT (cT h3)) [(25,cL (U9 N v1.aB v1.dK v2 h2))])),by kernel_rfl⟩
  obtain⟨v4,h5,h6⟩:=ar h6;obtain rfl:=sj h6;exact⟨so (os [12,15,18,21,24,27,31] (bF h1) (os [36,39,42,45,49] (bF rfl) [(43,cL (xU N v1.aQ v4 h5))])),by kernel_rfl⟩
 refine bc J (fun h7 J=> ?_) fun h7 J=> ?_
 ·obtain rfl:=sj J;exact wr ai [[(0,bT h7)],[]]
 refine au ai [[(0,bF h7)],[]] ?_;refine eo 0 11 (bM v1.xIdx) (by kernel_rfl) fun h8=> ?_;have h9:=cr cn h8;refine cC ai 1 [] [1,3] 1 (fun((v6,v7):Nat×(List ay))=>⟨59,[(1,(.ptr 0 0)),(3,(an (v6:Int)))],[.cells (aE v1).cells]⟩) (fun((v6,v7):Nat×(List ay))=>v1.xIdx.drop v6=v7∧rZ N v7 v6=some r) (fun((v6,v7):Nat×(List ay))=>v7.length) (0,v1.xIdx) ⟨rfl,J⟩ ?_;rintro⟨v6,v7⟩ ⟨az,J⟩ f1 aV;cases v7 with
 |nil=>
  rw[rZ]at J;obtain rfl:=sj J;exact wr ai [[(10,oL v1.xIdx cn)],[(0,bF (bS az))],[]]
 |cons v8 v9=>
  rw[rZ]at J;obtain⟨v10,aZ,J⟩:=ar J;refine au ai [[(10,oL v1.xIdx cn)],[(0,bT (bR az))],[(10,oE (eM (bj az))),(19,cL (xU N v8.aQ v10 aZ))]] ?_;refine bc J (fun bf J=> ?_) fun bf J=> ?_
  ·refine au ai [[(0,bF (cG bf))],[]] ?_;refine eo 0 11 (bM v1.xIdx) (by kernel_rfl) fun b5=> ?_;have a8:v8.bw.length≤maxLen:=by rw[←bO];exact rb (A2 (j:=3) (d:= .sl (cS v8.bw)) b5 (eM (bj az)) rfl)
   refine cC ai 2 [] [1,3,4] 1 (fun((v11,aC):Nat×(List aw))=>⟨59,[(1,(.ptr 0 0)),(3,(an (v6:Int))),(4,(an (v11:Int)))],[.cells (aE v1).cells]⟩) (fun((v11,aC):Nat×(List aw))=>v8.bw.drop v11=aC∧vz N (rZ N v9 (v6+1)) aC v11=some r) (fun((v11,aC):Nat×(List aw))=>aC.length) (0,v8.bw) ⟨rfl,J⟩ ?_;rintro⟨v11,aC⟩ ⟨bA,J⟩ f2 dX;cases aC with
   |nil=>
    rw[vz]at J;exact cx ai aV (v6+1,v9) [[(13,oE (eM (bj az))),(22,oL v8.bw bO)],[(0,bF (bS bA))],[(5,oq (b8 az rfl h9))]] ⟨b7 az,J⟩
   |cons aI aD=>
    rw[vz]at J;obtain⟨aP,a9,J⟩:=ar J;refine au ai [[(13,oE (eM (bj az))),(22,oL v8.bw bO)],[(0,bT (bR bA))],[(10,oE (eM (bj az))),(22,oE (jv (bj bA))),(28,cL (xU N aI aP a9))]] ?_;refine bc J (fun cv J=> ?_) fun cv J=> ?_
    ·exact cx ai dX (v11+1,aD) [[(0,bF (cG cv))],[(5,oq (b8 bA rfl a8))]] ⟨b7 bA,J⟩
    obtain rfl:=sj J;exact wr ai [[(0,bT (cT cv))],[]]
  obtain rfl:=sj J;exact wr ai [[(0,bT (cT bf))],[]]
def vN(N:Nat)(PU:ao→Option Int):List ao→Nat→Option Int
 |[],_=>
  some (0:Int)
 |v9::v10,v7=>
  Option.bind (PU v9) fun v11=>
  bif (v11 !=(0:Int))then
   some v11
  else
   (vN N PU v10 (v7+1))
def qt(N:Nat):Nat→ao→Option Int
 |0,_=>none
 |d+1,v1=>
  Option.bind (C7 N v1) fun v2=>
  bif v2 then
   Option.bind (BI N v1) fun v3=>
   bif v3 then
    Option.bind (CN N v1) fun v4=>
    bif v4 then
     Option.bind (Dm N v1) fun v5=>
     bif v5 then
      Option.bind (A9 N v1) fun v6=>
      bif v6 then
       vN N (qt N d) v1.aT 0
      else
       some (1:Int)
     else
      some (10:Int)
    else
     some (11:Int)
   else
    some (7:Int)
  else
   some (5:Int)
def Kb(N:Nat)(v1:ao):Option Int:=qt N N v1
theorem Xy(N:Nat):∀d:Nat,(∀(v1:ao)(r:Int),qt N d v1=some r→bm Tryz.prog 180 [(aE v1)] (·=(an r))):=by
 intro d
 induction d with
 |zero=>intro v1 r J;rw[qt]at J;cases J
 |succ d ih=>
  have YM:=ih;intro v1 r J;rw[qt]at J;refine bK Tryz.func180 (by kernel_rfl) (by kernel_rfl) ?_;obtain⟨v2,h1,J⟩:=ar J;refine au ai [[],[(4,cL (aes N v1 v2 h1))]] ?_;refine bc J (fun h2 J=> ?_) fun h2 J=> ?_
  ·obtain⟨v3,h3,J⟩:=ar J;refine au ai [[(0,bF (cG h2))],[(4,cL (aao N v1 v3 h3))]] ?_;refine bc J (fun h4 J=> ?_) fun h4 J=> ?_
   ·obtain⟨v4,h5,J⟩:=ar J;refine au ai [[(0,bF (cG h4))],[(4,cL (Zo N v1 v4 h5))]] ?_;refine bc J (fun h6 J=> ?_) fun h6 J=> ?_
    ·obtain⟨v5,h7,J⟩:=ar J;refine au ai [[(0,bF (cG h6))],[(4,cL (afQ N v1 v5 h7))]] ?_;refine bc J (fun h8 J=> ?_) fun h8 J=> ?_
     ·obtain⟨v6,h9,J⟩:=ar J;refine au ai [[(0,bF (cG h8))],[(4,cL (adq N v1 v6 h9))]] ?_;refine bc J (fun az J=> ?_) fun az J=> ?_
      ·refine au ai [[(0,bF (cG az))],[]] ?_;refine eo 0 12 (cW v1.aT) (by kernel_rfl) fun aZ=> ?_;have bf:=cr ca aZ;refine cC ai 1 [] [1,3] 1 (fun((v7,v8):Nat×(List ao))=>⟨41,[(1,(.ptr 0 0)),(3,(an (v7:Int)))],[.cells (aE v1).cells]⟩) (fun((v7,v8):Nat×(List ao))=>v1.aT.drop v7=v8∧vN N (qt N d) v8 v7=some r) (fun((v7,v8):Nat×(List ao))=>v8.length) (0,v1.aT) ⟨rfl,J⟩ ?_;rintro⟨v7,v8⟩ ⟨b5,J⟩ f1 aV;cases v8 with
       |nil=>
        rw[vN]at J;obtain rfl:=sj J;exact wr ai [[(10,oL v1.aT ca)],[(0,bF (bS b5))],[]]
       |cons v9 v10=>
        rw[vN]at J;obtain⟨v11,a8,J⟩:=ar J;refine au ai [[(10,oL v1.aT ca)],[(0,bT (bR b5))],[(10,oE (jn (bj b5))),(16,cL (YM v9 v11 a8))],[]] ?_;refine bc J (fun bA J=> ?_) fun bA J=> ?_
        ·obtain rfl:=sj J;exact wr ai [[(0,bT bA)],[]]
        exact cx ai aV (v7+1,v10) [[(0,bF bA)],[(5,oq (b8 b5 rfl bf))]] ⟨b7 b5,J⟩
      obtain rfl:=sj J;exact wr ai [[(0,bT (cT az))],[]]
     obtain rfl:=sj J;exact wr ai [[(0,bT (cT h8))],[]]
    obtain rfl:=sj J;exact wr ai [[(0,bT (cT h6))],[]]
   obtain rfl:=sj J;exact wr ai [[(0,bT (cT h4))],[]]
  obtain rfl:=sj J;exact wr ai [[(0,bT (cT h2))],[]]
theorem adP(N:Nat)(v1:ao)(r:Int)(J:Kb N v1=some r):bm Tryz.prog 180 [(aE v1)] (·=(an r)):=(Xy N N) v1 r J
def ye(N:Nat)(v1:ao):Option Int:=
 Option.bind (EC N v1) fun v2=>
 bif (decide (v2>(40:Int)))then
  some (13:Int)
 else
  Option.bind (FI N v1) fun v3=>
  bif (decide (v3>(2000:Int)))then
   some (2:Int)
  else
   Option.bind (Kb N v1) fun v4=>
   some v4
theorem aaD(N:Nat)(v1:ao)(r:Int)(J:ye N v1=some r):bm Tryz.prog 142 [(aE v1)] (·=(an r)):=by
 rw[ye]at J;refine bK Tryz.func142 (by kernel_rfl) (by kernel_rfl) ?_;obtain⟨v2,h1,J⟩:=ar J;refine au ai [[],[(4,cL (ZH N v1 v2 h1))]] ?_;refine bc J (fun h2 J=> ?_) fun h2 J=> ?_
 ·obtain rfl:=sj J;exact wr ai [[(0,bT h2)],[]]
 obtain⟨v3,h3,J⟩:=ar J;refine au ai [[(0,bF h2)],[(4,cL (Xq N v1 v3 h3))]] ?_;refine bc J (fun h4 J=> ?_) fun h4 J=> ?_
 ·obtain rfl:=sj J;exact wr ai [[(0,bT h4)],[]]
 obtain⟨v4,h5,J⟩:=ar J;obtain rfl:=sj J;exact wr ai [[(0,bF h4)],[(4,cL (adP N v1 v4 h5))]]
def vc(N:Nat)(v2:List ByteArray)(v1:aY):List aw→Nat→Option Int
 |[],_=>
  some (0:Int)
 |v6::v7,v4=>
  Option.bind (y8 N v6 v2 v1.bx) fun v8=>
  bif v8 then
   (vc N v2 v1 v7 (v4+1))
  else
   some (9:Int)
def BT(N:Nat)(v1:aY)(v2:List ByteArray)(v3:List aw):Option Int:=
 vc N v2 v1 v3 0
theorem Na(N:Nat)(v1:aY)(v2:List ByteArray)(v3:List aw)(r:Int)(J:BT N v1 v2 v3=some r):bm Tryz.prog 181 [(aX v1),(.d (.sl (ax v2))),(.d (.sl (cS v3)))] (·=(an r)):=by
 rw[BT]at J;refine bK Tryz.func181 (by kernel_rfl) (by kernel_rfl) ?_;refine au ai [[],[]] ?_;refine dP 2 (cS v3) (by kernel_rfl) fun h1=> ?_;have h2:=cr bO h1;refine cC ai 1 [] [1,2,3,7] 1 (fun((v4,v5):Nat×(List aw))=>⟨23,[(1,(.d (.sl (ax v2)))),(2,(.d (.sl (cS v3)))),(3,(.ptr 0 0)),(7,(an (v4:Int)))],[.cells (aX v1).cells]⟩) (fun((v4,v5):Nat×(List aw))=>v3.drop v4=v5∧vc N v2 v1 v5 v4=some r) (fun((v4,v5):Nat×(List aw))=>v5.length) (0,v3) ⟨rfl,J⟩ ?_;rintro⟨v4,v5⟩ ⟨h3,J⟩ f1 aV;cases v5 with
 |nil=>
  rw[vc]at J;obtain rfl:=sj J;exact wr ai [[(7,oL v3 bO)],[(0,bF (bS h3))],[]]
 |cons v6 v7=>
  rw[vc]at J;obtain⟨v8,h4,J⟩:=ar J;refine au ai [[(7,oL v3 bO)],[(0,bT (bR h3))],[(7,oE (jv (bj h3))),(22,cL (JY N v6 v2 v1.bx v8 h4))]] ?_;refine bc J (fun h5 J=> ?_) fun h5 J=> ?_
  ·exact cx ai aV (v4+1,v7) [[(0,bF (cG h5))],[(5,oq (b8 h3 rfl h2))]] ⟨b7 h3,J⟩
  obtain rfl:=sj J;exact wr ai [[(0,bT (cT h5))],[]]
def rL(N:Nat)(v9:aL):List bk→Nat→(List aw)→Option (bB×(List aw)×Bool)
 |[],_,aP=>
  some (v9.aB,aP,true)
 |aI::aD,v11,aP=>
  bif (Nat.ble ((aP.length+1)*32) 140737488355328)then
  (fun lD=>rL N v9 aD (v11+1) lD) (aP++[aI.dS])
  else none
def g_brocaderef17_Find_L2(N:Nat)(v2:ByteArray):List aL→Nat→Option (bB×(List aw)×Bool)
 |[],_=>
  some (fD,[],false)
 |v9::v10,v7=>
  bif (bL v9.aq==bL v2)then
   rL N v9 v9.aJ 0 []
  else
   (g_brocaderef17_Find_L2 N v2 v10 (v7+1))
def tc(N:Nat)(v2:ByteArray)(v1:aY):List cq→Nat→Option (bB×(List aw)×Bool)
 |[],_=>
  g_brocaderef17_Find_L2 N v2 v1.aA 0
 |v5::v6,v3=>
  bif (bL v5.aq==bL v2)then
   some (v5.aB,v5.aJ,true)
  else
   (tc N v2 v1 v6 (v3+1))
def Al(N:Nat)(v1:aY)(v2:ByteArray):Option (bB×(List aw)×Bool):=
 tc N v2 v1 v1.bu 0
theorem Lc(N:Nat)(v1:aY)(v2:ByteArray)(r:bB×(List aw)×Bool)(J:Al N v1 v2=some r):bm Tryz.prog 69 [(aX v1),(bq v2)] (·=(.bX [(e9 r.1),(.d (.sl (cS r.2.1))),(aM r.2.2)])):=by
 rw[Al]at J;refine bK Tryz.func69 (by kernel_rfl) (by kernel_rfl) ?_;refine au ai [[],[]] ?_;refine eo 0 2 (bN v1.bu) (by kernel_rfl) fun h1=> ?_;have h2:=cr er h1;refine cC ai 1 [] [1,2,4,7] 2 (fun((v3,v4):Nat×(List cq))=>⟨85,[(1,(bq v2)),(2,(.ptr 0 0)),(4,(.ptr 1 0)),(7,(an (v3:Int)))],[.cells (aX v1).cells, .cells ji]⟩) (fun((v3,v4):Nat×(List cq))=>v1.bu.drop v3=v4∧tc N v2 v1 v4 v3=some r) (fun((v3,v4):Nat×(List cq))=>v4.length) (0,v1.bu) ⟨rfl,J⟩ ?_;rintro⟨v3,v4⟩ ⟨h3,J⟩ f1 aV;cases v4 with
 |nil=>
  rw[tc]at J;refine au ai [[(10,oL v1.bu er)],[(0,bF (bS h3))],[]] ?_;refine eo 0 3 (cg v1.aA) (by kernel_rfl) fun h4=> ?_;have h5:=cr dB h4;refine cC ai 2 [] [1,2,4,8] 2 (fun((v7,v8):Nat×(List aL))=>⟨85,[(1,(bq v2)),(2,(.ptr 0 0)),(4,(.ptr 1 0)),(8,(an (v7:Int)))],[.cells (aX v1).cells, .cells ji]⟩) (fun((v7,v8):Nat×(List aL))=>v1.aA.drop v7=v8∧g_brocaderef17_Find_L2 N v2 v8 v7=some r) (fun((v7,v8):Nat×(List aL))=>v8.length) (0,v1.aA) ⟨rfl,J⟩ ?_;rintro⟨v7,v8⟩ ⟨h6,J⟩ f2 dX;cases v8 with
  |nil=>
   rw[g_brocaderef17_Find_L2]at J;obtain rfl:=sj J;exact wr ai [[(10,oL v1.aA dB)],[(0,bF (bS h6))],[]]
  |cons v9 v10=>
   rw[g_brocaderef17_Find_L2]at J;refine au ai [[(10,oL v1.aA dB)],[(0,bT (bR h6))],[(10,oE (gA (bj h6)))]] ?_;refine bc J (fun h7 J=> ?_) fun h7 J=> ?_
   ·refine au ai [[(0,bT h7)],[],[]] ?_;refine m8 9 48 2 [] (.inr (by kernel_rfl)) ?_;refine eo 0 3 (cg v1.aA) (by kernel_rfl) fun h8=> ?_;have h9:v9.aJ.length≤maxLen:=by rw[←bV];exact rb (A2 (j:=6) (d:= .sl (cy v9.aJ)) h8 (gA (bj h6)) rfl)
    refine cC ai 3 [] [2,4,8,9,10] 3 (fun((v11,aC,aP):Nat×(List bk)×(List aw))=>⟨85,[(2,(.ptr 0 0)),(4,(.ptr 1 0)),(8,(an (v7:Int))),(9,(.own 2 (cS aP))),(10,(an (v11:Int)))],[.cells (aX v1).cells, .cells ji, .front 48 2 aP.length]⟩) (fun((v11,aC,aP):Nat×(List bk)×(List aw))=>v9.aJ.drop v11=aC∧rL N v9 aC v11 aP=some r) (fun((v11,aC,aP):Nat×(List bk)×(List aw))=>aC.length) (0,v9.aJ,[]) ⟨rfl,J⟩ ?_;rintro⟨v11,aC,aP⟩ ⟨az,J⟩ f3 jA;cases aC with
    |nil=>
     rw[rL]at J;obtain rfl:=sj J;exact wr ai [[(13,oE (gA (bj h6))),(22,oL v9.aJ bV)],[(0,bF (bS az))],[(10,oE (gA (bj h6)))]]
    |cons aI aD=>
     rw[rL]at J;obtain⟨aZ,J⟩:=c8 J;exact cx ai jA (v11+1,aD,(aP++[aI.dS])) [[(13,oE (gA (bj h6))),(22,oL v9.aJ bV)],[(0,bT (bR az))],[(13,oE (gA (bj h6))),(25,oE (kg (bj az))),(37,⟨_,_, .app (xs:=cS aP) (ys:=cS [aI.dS]) (zs:=cS (aP++[aI.dS])) (n:=(aP++[aI.dS]).length) bO.symm nC nC (by rw[(bO (l:=aP)),(bO (l:=[aI.dS]))];exact(cY aZ (by decide)).1) (by rw[(bO (l:=aP)),(bO (l:=[aI.dS]))];exact(cY aZ (by decide)).2) Eo (by first|(rw[(bO (l:=aP)),(bO (l:=[aI.dS]))];done)|(rw[(bO (l:=aP)),(bO (l:=[aI.dS]))];rfl)|(rw[(bO (l:=aP)),(bO (l:=[aI.dS])),agu];done)|(rw[(bO (l:=aP)),(bO (l:=[aI.dS])),agu];rfl)|(rw[(bO (l:=aP)),(bO (l:=[aI.dS])),agN]))⟩)],[(5,oq (b8 az rfl h9))]] ⟨b7 az,J⟩
   exact cx ai dX (v7+1,v10) [[(0,bF h7)],[(5,oq (b8 h6 rfl h5))]] ⟨b7 h6,J⟩
 |cons v5 v6=>
  rw[tc]at J;refine au ai [[(10,oL v1.bu er)],[(0,bT (bR h3))],[(10,oE (kJ (bj h3)))]] ?_;refine bc J (fun bf J=> ?_) fun bf J=> ?_
  ·refine au ai [[(0,bT bf)]] ?_;refine S1 3 ai [(5,(.d (.sl (cS v5.aJ)))),(6,(aM true))] [.cells (aX v1).cells, .cells (e9 v5.aB).cells] ⟨[(10,oE (kJ (bj h3))),(28,oE (kJ (bj h3)))],by kernel_rfl⟩ ?_;obtain rfl:=sj J;exact wr ai []
  exact cx ai aV (v3+1,v6) [[(0,bF bf)],[(5,oq (b8 h3 rfl h2))]] ⟨b7 h3,J⟩
end Go.Proofs.YtphmhnabilhbgaaGreatDoor
