/-
  Part 16 of the proof: PQ8.
-/
import Derived.Test.YtphmhnabilhbgaaGreatDoorPk15
namespace Go.Proofs.YtphmhnabilhbgaaGreatDoor
open Go.RowKit
set_option maxRecDepth 100000
set_option maxHeartbeats 0
set_option linter.unusedVariables false
def Zl(v:ao)(r:List AV):List AV:=(an v.bg)::(bq v.aq)::(bt v.dK.xN)::(bt v.dK.xD)::(an v.aB.cA)::(an v.aB.cD)::(an v.aB.dg)::(an v.aB.de)::(an v.aB.dc)::(bt v.aQ.xK)::(.d (.sl (bP v.aQ.xL)))::(.d (.sl (bM v.xIdx)))::r
def O6(v:aY)(r:List AV):List AV:=(.d (.sl (ax v.bx)))::(.d (.sl (bJ v.cX)))::(.d (.sl (bN v.bu)))::r
def ZE(v:aL)(r:List AV):List AV:=(bq v.aq)::(an v.aB.cA)::(an v.aB.cD)::(an v.aB.dg)::(an v.aB.de)::(an v.aB.dc)::(.d (.sl (cy v.aJ)))::(.d (.sl (cy v.bG)))::(an v.cP)::r
def qA(N:Nat)(v2:ao)(v3:aw×Int)(v8:List ay)(A8:iA→ao→Option (ao×Int))(v1:iA):List ao→Nat→(List ao)→Option (ao×Int)
 |[],_,aP=>
  some ((⟨v2.bg,v2.aq,v2.dK,v2.aB,v3.1,v8,aP⟩:ao),(0:Int))
 |aI::aD,v11,aP=>
  Option.bind (A8 v1 aI) fun aW=>
  bif (aW.2 !=(0:Int))then
   some (fQ,aW.2)
  else
   bif (Nat.ble ((aP.length+1)*160) 140737488355328)then
   (fun fS=>qA N v2 v3 v8 A8 v1 aD (v11+1) fS) (aP++[aW.1])
   else none
def tZ(N:Nat)(v8:List ay)(gB:(List ay)→Int64→(List aF)→Option (ao×Int))(aH:aw×Int)(v6:ay)(v1:iA):List aw→Nat→Int64→(List aF)→(List aw)→Option (ao×Int)
 |[],_,dh,cz,cb=>
  bif (Nat.ble ((v8.length+1)*72) 140737488355328)then
  gB (v8++[(⟨aH.1,v6.bp,cb⟩:ay)]) dh cz
  else none
 |v20::dF,aU,_,_,cb=>
  Option.bind (x7 N v1 v20) fun eC=>
  bif (eC.2 !=(0:Int))then
   some (fQ,eC.2)
  else
   bif (Nat.ble ((cb.length+1)*32) 140737488355328)then
   (fun lD xC acK=>tZ N v8 gB aH v6 v1 dF (aU+1) lD xC acK) eC.1.xK eC.1.xL (cb++[eC.1])
   else none
def o8(N:Nat)(v2:ao)(v3:aw×Int)(A8:iA→ao→Option (ao×Int))(v1:iA):List ay→Nat→(List ay)→Int64→(List aF)→Option (ao×Int)
 |[],_,v8,_,_=>
  qA N v2 v3 v8 A8 v1 v2.aT 0 []
 |v6::v7,v4,v8,_,_=>
  Option.bind (x7 N v1 v6.aQ) fun aH=>
  bif (aH.2 !=(0:Int))then
   some (fQ,aH.2)
  else
   tZ N v8 (fun ck eQ np=>o8 N v2 v3 A8 v1 v7 (v4+1) ck eQ np) aH v6 v1 v6.bw 0 aH.1.xK aH.1.xL []
def oA(N:Nat):Nat→iA→ao→Option (ao×Int)
 |0,_,_=>none
 |d+1,v1,v2=>
  Option.bind (x7 N v1 v2.aQ) fun v3=>
  bif (v3.2 !=(0:Int))then
   some (fQ,v3.2)
  else
   o8 N v2 v3 (oA N d) v1 v2.xIdx 0 [] v3.1.xK v3.1.xL
def Fz(N:Nat)(v1:iA)(v2:ao):Option (ao×Int):=oA N N v1 v2
theorem aei(N:Nat):∀d:Nat,(∀(v1:iA)(v2:ao)(r:ao×Int),oA N d v1 v2=some r→bm Tryz.prog 64 [(tt v1),(aE v2)] (·=(.bX [(aE r.1),(an r.2)]))):=by
 intro d
 induction d with
 |zero=>intro v1 v2 r J;rw[oA]at J;cases J
 |succ d ih=>
  have acC:=ih;intro v1 v2 r J;rw[oA]at J;refine bK Tryz.func64 (by kernel_rfl) (by kernel_rfl) ?_;obtain⟨v3,h1,J⟩:=ar J;refine au ai [[],[],[(10,cL (Iy N v1 v2.aQ v3 h1))],[]] ?_;refine bc J (fun h2 J=> ?_) fun h2 J=> ?_
  ·obtain rfl:=sj J;exact wr ai [[(0,bT h2)],[]]
  refine au ai [[(0,bF h2)],[],[],[],[]] ?_;refine nO 3 11 80 4 [] (.inr (by kernel_rfl)) ?_;refine eo 1 11 (bM v2.xIdx) (by kernel_rfl) fun h3=> ?_;have h4:=cr cn h3;refine jQ ai 1 [] [2,3,4,6,7,9] 6 [] [(2,10),(2,11),(2,12),(3,12)] (fun((v4,v5,v8,v9,v10):Nat×(List ay)×(List ay)×Int64×(List aF))=>⟨131,[(2,(.ptr 0 0)),(3,(.ptr 1 0)),(4,(.ptr 2 0)),(6,(.ptr 3 0)),(7,(.ptr 4 0)),(9,(an (v4:Int)))],[.cells (tt v1).cells, .cells (aE v2).cells, .cells iz, .cells (mn v2 [(bt v3.1.xK),(.d (.sl (bP v3.1.xL))),(.own 5 (bM v8)),(.d (.v (.slice none 0 0)))]), .cells [(bt v9),(.d (.sl (bP v10)))], .front 80 4 v8.length]⟩) (fun((v4,v5,v8,v9,v10):Nat×(List ay)×(List ay)×Int64×(List aF))=>v2.xIdx.drop v4=v5∧o8 N v2 v3 (oA N d) v1 v5 v4 v8 v9 v10=some r) (fun((v4,v5,v8,v9,v10):Nat×(List ay)×(List ay)×Int64×(List aF))=>v5.length) (0,v2.xIdx,[],v3.1.xK,v3.1.xL) ⟨rfl,J⟩ ?_;rintro⟨v4,v5,v8,v9,v10⟩ ⟨h5,J⟩ f1 aV;cases v5 with
  |nil=>
   rw[o8]at J;refine au ai [[(10,oL v2.xIdx cn)],[(0,bF (bS h5))],[]] ?_;refine nO 3 12 52 13 [] (.inr (by kernel_rfl)) ?_;refine eo 1 12 (cW v2.aT) (by kernel_rfl) fun h6=> ?_;have h7:=cr ca h6;refine jQ ai 2 [] [2,3,4,6,12] 7 [] [(2,10),(2,11),(2,12)] (fun((v11,aC,aP):Nat×(List ao)×(List ao))=>⟨131,[(2,(.ptr 0 0)),(3,(.ptr 1 0)),(4,(.ptr 2 0)),(6,(.ptr 3 0)),(12,(an (v11:Int)))],[.cells (tt v1).cells, .cells (aE v2).cells, .cells iz, .cells (mn v2 [(bt v3.1.xK),(.d (.sl (bP v3.1.xL))),(.own 5 (bM v8)),(.own 6 (cW aP))]), .cells [(bt v9),(.d (.sl (bP v10)))], .front 80 4 v8.length, .front 52 13 aP.length]⟩) (fun((v11,aC,aP):Nat×(List ao)×(List ao))=>v2.aT.drop v11=aC∧qA N v2 v3 v8 (oA N d) v1 aC v11 aP=some r) (fun((v11,aC,aP):Nat×(List ao)×(List ao))=>aC.length) (0,v2.aT,[]) ⟨rfl,J⟩ ?_;rintro⟨v11,aC,aP⟩ ⟨h8,J⟩ f2 dX;cases aC with
   |nil=>
    rw[qA]at J;obtain rfl:=sj J;exact wr ai [[(10,oL v2.aT ca)],[(0,bF (bS h8))],[]]
   |cons aI aD=>
    rw[qA]at J;obtain⟨aW,h9,J⟩:=ar J;refine au ai [[(10,oL v2.aT ca)],[(0,bT (bR h8))],[(13,oE (jn (bj h8))),(19,cL (acC v1 aI aW h9))],[]] ?_;refine bc J (fun az J=> ?_) fun az J=> ?_
    ·obtain rfl:=sj J;exact wr ai [[(0,bT az)],[]]
    obtain⟨aZ,J⟩:=c8 J;exact iQ ai dX (v11+1,aD,(aP++[aW.1])) [[(0,bF az)],[(11,⟨_,_, .eq (congrArg AV.full (kV [aW.1]).symm)⟩),(13,⟨_,_, .app (xs:=cW aP) (ys:=cW [aW.1]) (zs:=cW (aP++[aW.1])) (n:=(aP++[aW.1]).length) ca.symm pV pV (by rw[(ca (l:=aP)),(ca (l:=[aW.1]))];exact(cY aZ (by decide)).1) (by rw[(ca (l:=aP)),(ca (l:=[aW.1]))];exact(cY aZ (by decide)).2) GZ (by first|(rw[(ca (l:=aP)),(ca (l:=[aW.1]))];done)|(rw[(ca (l:=aP)),(ca (l:=[aW.1]))];rfl)|(rw[(ca (l:=aP)),(ca (l:=[aW.1])),agu];done)|(rw[(ca (l:=aP)),(ca (l:=[aW.1])),agu];rfl)|(rw[(ca (l:=aP)),(ca (l:=[aW.1])),agN]))⟩)],[(5,oq (b8 h8 rfl h7))]] ⟨b7 h8,J⟩
  |cons v6 v7=>
   rw[o8]at J;obtain⟨aH,bf,J⟩:=ar J;refine au ai [[(10,oL v2.xIdx cn)],[(0,bT (bR h5))],[(10,oE (eM (bj h5)))],[(13,oE (eM (bj h5))),(22,cL (Iy N v1 v6.aQ aH bf))],[]] ?_;refine bc J (fun b5 J=> ?_) fun b5 J=> ?_
   ·obtain rfl:=sj J;exact wr ai [[(0,bT b5)],[]]
   refine au ai [[(0,bF b5)],[],[]] ?_;refine nO 6 3 48 2 [] (.inr (by kernel_rfl)) ?_;refine eo 1 11 (bM v2.xIdx) (by kernel_rfl) fun a8=> ?_;have bA:v6.bw.length≤maxLen:=by rw[←bO];exact rb (A2 (j:=3) (d:= .sl (cS v6.bw)) a8 (eM (bj h5)) rfl)
   refine jQ ai 3 [] [2,3,4,6,7,9,10,11] 8 [] [(2,10),(2,11),(2,12),(3,12)] (fun((aU,bU,dh,cz,cb):Nat×(List aw)×Int64×(List aF)×(List aw))=>⟨131,[(2,(.ptr 0 0)),(3,(.ptr 1 0)),(4,(.ptr 2 0)),(6,(.ptr 3 0)),(7,(.ptr 4 0)),(9,(an (v4:Int))),(10,(.ptr 6 0)),(11,(an (aU:Int)))],[.cells (tt v1).cells, .cells (aE v2).cells, .cells iz, .cells (mn v2 [(bt v3.1.xK),(.d (.sl (bP v3.1.xL))),(.own 5 (bM v8)),(.d (.v (.slice none 0 0)))]), .cells [(bt dh),(.d (.sl (bP cz)))], .front 80 4 v8.length, .cells [(bt aH.1.xK),(.d (.sl (bP aH.1.xL))),(bq v6.bp),(.own 7 (cS cb))], .front 48 2 cb.length]⟩) (fun((aU,bU,dh,cz,cb):Nat×(List aw)×Int64×(List aF)×(List aw))=>v6.bw.drop aU=bU∧tZ N v8 (fun ck eQ np=>o8 N v2 v3 (oA N d) v1 v7 (v4+1) ck eQ np) aH v6 v1 bU aU dh cz cb=some r) (fun((aU,bU,dh,cz,cb):Nat×(List aw)×Int64×(List aF)×(List aw))=>bU.length) (0,v6.bw,aH.1.xK,aH.1.xL,[]) ⟨rfl,J⟩ ?_;rintro⟨aU,bU,dh,cz,cb⟩ ⟨a9,J⟩ f3 jA;cases bU with
   |nil=>
    rw[tZ]at J;obtain⟨cv,J⟩:=c8 J;exact iQ ai aV (v4+1,v7,(v8++[(⟨aH.1,v6.bp,cb⟩:ay)]),dh,cz) [[(13,oE (eM (bj h5))),(22,oL v6.bw bO)],[(0,bF (bS a9))],[(13,⟨_,_, .app (xs:=bM v8) (ys:=bM [(⟨aH.1,v6.bp,cb⟩:ay)]) (zs:=bM (v8++[(⟨aH.1,v6.bp,cb⟩:ay)])) (n:=(v8++[(⟨aH.1,v6.bp,cb⟩:ay)]).length) cn.symm wP wP (by rw[(cn (l:=v8)),(cn (l:=[(⟨aH.1,v6.bp,cb⟩:ay)]))];exact(cY cv (by decide)).1) (by rw[(cn (l:=v8)),(cn (l:=[(⟨aH.1,v6.bp,cb⟩:ay)]))];exact(cY cv (by decide)).2) Ln (by first|(rw[(cn (l:=v8)),(cn (l:=[(⟨aH.1,v6.bp,cb⟩:ay)]))];done)|(rw[(cn (l:=v8)),(cn (l:=[(⟨aH.1,v6.bp,cb⟩:ay)]))];rfl)|(rw[(cn (l:=v8)),(cn (l:=[(⟨aH.1,v6.bp,cb⟩:ay)])),agu];done)|(rw[(cn (l:=v8)),(cn (l:=[(⟨aH.1,v6.bp,cb⟩:ay)])),agu];rfl)|(rw[(cn (l:=v8)),(cn (l:=[(⟨aH.1,v6.bp,cb⟩:ay)])),agN]))⟩)],[(5,oq (b8 h5 rfl h4))]] ⟨b7 h5,J⟩
   |cons v20 dF=>
    rw[tZ]at J;obtain⟨eC,bQ,J⟩:=ar J;refine au ai [[(13,oE (eM (bj h5))),(22,oL v6.bw bO)],[(0,bT (bR a9))],[(13,oE (eM (bj h5))),(25,oE (jv (bj a9))),(31,cL (Iy N v1 v20 eC bQ))],[]] ?_;refine bc J (fun dk J=> ?_) fun dk J=> ?_
    ·obtain rfl:=sj J;exact wr ai [[(0,bT dk)],[]]
    obtain⟨dJ,J⟩:=c8 J;exact iQ ai jA (aU+1,dF,eC.1.xK,eC.1.xL,(cb++[eC.1])) [[(0,bF dk)],[(13,⟨_,_, .app (xs:=cS cb) (ys:=cS [eC.1]) (zs:=cS (cb++[eC.1])) (n:=(cb++[eC.1]).length) bO.symm nC nC (by rw[(bO (l:=cb)),(bO (l:=[eC.1]))];exact(cY dJ (by decide)).1) (by rw[(bO (l:=cb)),(bO (l:=[eC.1]))];exact(cY dJ (by decide)).2) Eo (by first|(rw[(bO (l:=cb)),(bO (l:=[eC.1]))];done)|(rw[(bO (l:=cb)),(bO (l:=[eC.1]))];rfl)|(rw[(bO (l:=cb)),(bO (l:=[eC.1])),agu];done)|(rw[(bO (l:=cb)),(bO (l:=[eC.1])),agu];rfl)|(rw[(bO (l:=cb)),(bO (l:=[eC.1])),agN]))⟩)],[(5,oq (b8 a9 rfl bA))]] ⟨b7 a9,J⟩
theorem aef(N:Nat)(v1:iA)(v2:ao)(r:ao×Int)(J:Fz N v1 v2=some r):bm Tryz.prog 64 [(tt v1),(aE v2)] (·=(.bX [(aE r.1),(an r.2)])):=(aei N N) v1 v2 r J
def pL(N:Nat)(v1:ao)(U2:ao→aL→Option (ao×Int))(v2:aL):List ao→Nat→(List ao)→Option (ao×Int)
 |[],_,v9=>
  some ((⟨v1.bg,v1.aq,v1.dK,v1.aB,v1.aQ,v1.xIdx,v9⟩:ao),(0:Int))
 |v7::v8,v5,v9=>
  Option.bind (U2 v7 v2) fun v10=>
  bif (v10.2 !=(0:Int))then
   some (fQ,v10.2)
  else
   bif (Nat.ble ((v9.length+1)*160) 140737488355328)then
   (fun ck=>pL N v1 U2 v2 v8 (v5+1) ck) (v9++[v10.1])
   else none
def pz(N:Nat):Nat→ao→aL→Option (ao×Int)
 |0,_,_=>none
 |d+1,v1,v2=>
  Option.bind (bif (v1.bg==(3:Int))then some (bL v1.aq==bL v2.aq)else some false) fun v3=>
  bif v3 then
   Option.bind (Fz N (⟨v2.aJ,v1.xIdx⟩:iA) v2.bE) fun v4=>
   some (v4.1,v4.2)
  else
   pL N v1 (pz N d) v2 v1.aT 0 []
def Hk(N:Nat)(v1:ao)(v2:aL):Option (ao×Int):=pz N N v1 v2
theorem aeY(N:Nat):∀d:Nat,(∀(v1:ao)(v2:aL)(r:ao×Int),pz N d v1 v2=some r→bm Tryz.prog 32 [(aE v1),(cE v2)] (·=(.bX [(aE r.1),(an r.2)]))):=by
 intro d
 induction d with
 |zero=>intro v1 v2 r J;rw[pz]at J;cases J
 |succ d ih=>
  have Vy:=ih;intro v1 v2 r J;rw[pz]at J;refine bK Tryz.func32 (by kernel_rfl) (by kernel_rfl) ?_;refine au ai [[]] ?_;obtain⟨v3,h2,J⟩:=ar J;refine cN ai [(19,(aM v3))] [.cells (aE v1).cells, .cells (cE v2).cells, .cells iz] ?_ ?_
  ·refine bc h2 (fun h1 h2=> ?_) fun h1 h2=> ?_
   ·obtain rfl:=sj h2;exact⟨so (os [12,15,18,21,24,28] (bT h1) []),by kernel_rfl⟩
   obtain rfl:=sj h2;exact⟨so (os [12,15,18,21,24,28] (bF h1) []),by kernel_rfl⟩
  refine bc J (fun h3 J=> ?_) fun h3 J=> ?_
  ·obtain⟨v4,h4,J⟩:=ar J;obtain rfl:=sj J;exact wr ai [[(0,bT h3)],[(22,cL (aef N (⟨v2.aJ,v1.xIdx⟩:iA) v2.bE v4 h4))]]
  refine au ai [[(0,bF h3)],[],[],[]] ?_;refine nO 3 12 52 13 [] (.inr (by kernel_rfl)) ?_;refine eo 0 12 (cW v1.aT) (by kernel_rfl) fun h5=> ?_;have h6:=cr ca h5;refine jQ ai 1 [] [2,3,4,6,7] 5 [] [(2,10),(2,11),(2,12)] (fun((v5,v6,v9):Nat×(List ao)×(List ao))=>⟨60,[(2,(.ptr 0 0)),(3,(.ptr 1 0)),(4,(.ptr 2 0)),(6,(.ptr 3 0)),(7,(an (v5:Int)))],[.cells (aE v1).cells, .cells (cE v2).cells, .cells iz, .cells (Zl v1 [(.own 4 (cW v9))]), .front 52 13 v9.length]⟩) (fun((v5,v6,v9):Nat×(List ao)×(List ao))=>v1.aT.drop v5=v6∧pL N v1 (pz N d) v2 v6 v5 v9=some r) (fun((v5,v6,v9):Nat×(List ao)×(List ao))=>v6.length) (0,v1.aT,[]) ⟨rfl,J⟩ ?_;rintro⟨v5,v6,v9⟩ ⟨h7,J⟩ f1 aV;cases v6 with
  |nil=>
   rw[pL]at J;obtain rfl:=sj J;exact wr ai [[(10,oL v1.aT ca)],[(0,bF (bS h7))],[]]
  |cons v7 v8=>
   rw[pL]at J;obtain⟨v10,h8,J⟩:=ar J;refine au ai [[(10,oL v1.aT ca)],[(0,bT (bR h7))],[(10,oE (jn (bj h7))),(19,cL (Vy v7 v2 v10 h8))],[]] ?_;refine bc J (fun h9 J=> ?_) fun h9 J=> ?_
   ·obtain rfl:=sj J;exact wr ai [[(0,bT h9)],[]]
   obtain⟨az,J⟩:=c8 J;exact iQ ai aV (v5+1,v8,(v9++[v10.1])) [[(0,bF h9)],[(11,⟨_,_, .eq (congrArg AV.full (kV [v10.1]).symm)⟩),(13,⟨_,_, .app (xs:=cW v9) (ys:=cW [v10.1]) (zs:=cW (v9++[v10.1])) (n:=(v9++[v10.1]).length) ca.symm pV pV (by rw[(ca (l:=v9)),(ca (l:=[v10.1]))];exact(cY az (by decide)).1) (by rw[(ca (l:=v9)),(ca (l:=[v10.1]))];exact(cY az (by decide)).2) GZ (by first|(rw[(ca (l:=v9)),(ca (l:=[v10.1]))];done)|(rw[(ca (l:=v9)),(ca (l:=[v10.1]))];rfl)|(rw[(ca (l:=v9)),(ca (l:=[v10.1])),agu];done)|(rw[(ca (l:=v9)),(ca (l:=[v10.1])),agu];rfl)|(rw[(ca (l:=v9)),(ca (l:=[v10.1])),agN]))⟩)],[(5,oq (b8 h7 rfl h6))]] ⟨b7 h7,J⟩
theorem abB(N:Nat)(v1:ao)(v2:aL)(r:ao×Int)(J:Hk N v1 v2=some r):bm Tryz.prog 32 [(aE v1),(cE v2)] (·=(.bX [(aE r.1),(an r.2)])):=(aeY N N) v1 v2 r J
def lT(N:Nat)(v1:aY)(v4:Int)(v2:ByteArray):List aL→Nat→(List aL)→Option (aY×Int)
 |[],_,v9=>
  Option.bind (Az N (⟨v1.bx,v1.cX,v1.bu,v9,v1.cU⟩:aY)) fun v10=>
  bif (v10.2 !=(0:Int))then
   some (qB,v10.2)
  else
   some ((⟨v1.bx,v1.cX,v1.bu,v9,v1.cU⟩:aY),(0:Int))
 |v7::v8,v5,v9=>
  bif (decide ((0:Int)≤v4))then
  Option.bind (v1.aA[(v4).toNat]?) fun v11=>
  Option.bind (Hk N v7.bE v11) fun aC=>
  bif (aC.2 !=(0:Int))then
   some (qB,aC.2)
  else
   Option.bind (bif ((v5:Int) !=v4)then some true else Option.bind (oQ N v1.cU v2) fun aI=>
   some aI) fun aD=>
   bif aD then
    bif (Nat.ble ((v9.length+1)*272) 140737488355328)then
    (fun ck=>lT N v1 v4 v2 v8 (v5+1) ck) (v9++[(⟨v7.aq,v7.aB,v7.aJ,v7.bG,v7.cP,aC.1⟩:aL)])
    else none
   else
    (fun ck=>lT N v1 v4 v2 v8 (v5+1) ck) v9
  else none
def DT(N:Nat)(v1:aY)(v2:ByteArray):Option (aY×Int):=
 Option.bind (xW N v1 v2) fun v3=>
 bif (v3 !=(0:Int))then
  some (qB,v3)
 else
  Option.bind (BN N v1 v2) fun v4=>
  lT N v1 v4 v2 v1.aA 0 []
theorem afO(N:Nat)(v1:aY)(v2:ByteArray)(r:aY×Int)(J:DT N v1 v2=some r):bm Tryz.prog 9 [(aX v1),(bq v2)] (·=(.bX [(aX r.1),(an r.2)])):=by
 rw[DT]at J;refine bK Tryz.func9 (by kernel_rfl) (by kernel_rfl) ?_;obtain⟨v3,h1,J⟩:=ar J;refine au ai [[],[(7,cL (AU N v1 v2 v3 h1))],[]] ?_;refine bc J (fun h2 J=> ?_) fun h2 J=> ?_
 ·obtain rfl:=sj J;exact wr ai [[(0,bT h2)],[]]
 obtain⟨v4,h3,J⟩:=ar J;refine au ai [[(0,bF h2)],[(7,cL (O4 N v1 v2 v4 h3))],[],[],[]] ?_;refine nO 2 3 54 22 [] (.inr (by kernel_rfl)) ?_;refine eo 0 3 (cg v1.aA) (by kernel_rfl) fun h4=> ?_;have h5:=cr dB h4;refine jQ ai 1 [] [1,2,4,7,8,9] 4 [] [(1,0),(1,1),(1,2),(1,3),(1,4)] (fun((v5,v6,v9):Nat×(List aL)×(List aL))=>⟨81,[(1,(bq v2)),(2,(.ptr 0 0)),(4,(.ptr 1 0)),(7,(an v4)),(8,(.ptr 2 0)),(9,(an (v5:Int)))],[.cells (aX v1).cells, .cells dy, .cells (O6 v1 [(.own 3 (cg v9)),(.d (.sl (ax v1.cU)))]), .front 54 22 v9.length]⟩) (fun((v5,v6,v9):Nat×(List aL)×(List aL))=>v1.aA.drop v5=v6∧lT N v1 v4 v2 v6 v5 v9=some r) (fun((v5,v6,v9):Nat×(List aL)×(List aL))=>v6.length) (0,v1.aA,[]) ⟨rfl,J⟩ ?_;rintro⟨v5,v6,v9⟩ ⟨h6,J⟩ f1 aV;cases v6 with
 |nil=>
  rw[lT]at J;obtain⟨v10,h7,J⟩:=ar J;refine au ai [[(10,oL v1.aA dB)],[(0,bF (bS h6))],[(4,cL (TT N (⟨v1.bx,v1.cX,v1.bu,v9,v1.cU⟩:aY) v10 h7))],[]] ?_;refine bc J (fun h8 J=> ?_) fun h8 J=> ?_
  ·obtain rfl:=sj J;exact wr ai [[(0,bT h8)],[]]
  obtain rfl:=sj J;exact wr ai [[(0,bF h8)],[]]
 |cons v7 v8=>
  rw[lT]at J;obtain⟨az,J⟩:=c8 J;obtain⟨v11,h9,J⟩:=ar J;obtain⟨aC,aZ,J⟩:=ar J;refine au ai [[(10,oL v1.aA dB)],[(0,bT (bR h6))],[(10,oE (gA (bj h6)))],[(16,⟨_,_, .el (xs:=cg v1.aA) (i:=v4) (of_decide_eq_true az) (gA h9)⟩),(22,cL (abB N v7.bE v11 aC aZ))],[]] ?_;refine bc J (fun bf J=> ?_) fun bf J=> ?_
  ·obtain rfl:=sj J;exact wr ai [[(0,bT bf)],[]]
  refine au ai [[(0,bF bf)],[]] ?_;obtain⟨aD,bA,J⟩:=ar J;refine cN ai [(64,(aM aD))] [.cells (aX v1).cells, .cells dy, .cells (O6 v1 [(.own 3 (cg v9)),(.d (.sl (ax v1.cU)))]), .front 54 22 v9.length, .cells (ZE v7 (C1 aC.1 [])), .cells (aE aC.1).cells] ?_ ?_
  ·refine bc bA (fun b5 bA=> ?_) fun b5 bA=> ?_
   ·obtain rfl:=sj bA;exact⟨so (os [12,15,18,21,25] (bT b5) []),by kernel_rfl⟩
   obtain⟨aI,a8,bA⟩:=ar bA;obtain rfl:=sj bA;exact⟨so (os [12,15,18,21,25] (bF b5) [(22,cL (xq N v1.cU v2 aI a8))]),by kernel_rfl⟩
  refine bc J (fun a9 J=> ?_) fun a9 J=> ?_
  ·obtain⟨cv,J⟩:=c8 J;exact iQ ai aV (v5+1,v8,(v9++[(⟨v7.aq,v7.aB,v7.aJ,v7.bG,v7.cP,aC.1⟩:aL)])) [[(0,bT a9)],[(13,⟨_,_, .app (xs:=cg v9) (ys:=cg [(⟨v7.aq,v7.aB,v7.aJ,v7.bG,v7.cP,aC.1⟩:aL)]) (zs:=cg (v9++[(⟨v7.aq,v7.aB,v7.aJ,v7.bG,v7.cP,aC.1⟩:aL)])) (n:=(v9++[(⟨v7.aq,v7.aB,v7.aJ,v7.bG,v7.cP,aC.1⟩:aL)]).length) dB.symm Cd Cd (by rw[(dB (l:=v9)),(dB (l:=[(⟨v7.aq,v7.aB,v7.aJ,v7.bG,v7.cP,aC.1⟩:aL)]))];exact(cY cv (by decide)).1) (by rw[(dB (l:=v9)),(dB (l:=[(⟨v7.aq,v7.aB,v7.aJ,v7.bG,v7.cP,aC.1⟩:aL)]))];exact(cY cv (by decide)).2) Yg (by first|(rw[(dB (l:=v9)),(dB (l:=[(⟨v7.aq,v7.aB,v7.aJ,v7.bG,v7.cP,aC.1⟩:aL)]))];done)|(rw[(dB (l:=v9)),(dB (l:=[(⟨v7.aq,v7.aB,v7.aJ,v7.bG,v7.cP,aC.1⟩:aL)]))];rfl)|(rw[(dB (l:=v9)),(dB (l:=[(⟨v7.aq,v7.aB,v7.aJ,v7.bG,v7.cP,aC.1⟩:aL)])),agu];done)|(rw[(dB (l:=v9)),(dB (l:=[(⟨v7.aq,v7.aB,v7.aJ,v7.bG,v7.cP,aC.1⟩:aL)])),agu];rfl)|(rw[(dB (l:=v9)),(dB (l:=[(⟨v7.aq,v7.aB,v7.aJ,v7.bG,v7.cP,aC.1⟩:aL)])),agN]))⟩)],[(5,oq (b8 h6 rfl h5))]] ⟨b7 h6,J⟩
  exact iQ ai aV (v5+1,v8,v9) [[(0,bF a9)],[(5,oq (b8 h6 rfl h5))]] ⟨b7 h6,J⟩
def xl(N:Nat)(v2:List ByteArray):List ByteArray→Nat→Option Bool
 |[],_=>
  some true
 |v5::v6,v3=>
  Option.bind (v2[((v3:Int)).toNat]?) fun v7=>
  bif (bL v5==bL v7)then
   (xl N v2 v6 (v3+1))
  else
   some false
def zV(N:Nat)(v1:List ByteArray)(v2:List ByteArray):Option Bool:=
 bif ((v1.length:Int) !=(v2.length:Int))then
  some false
 else
  xl N v2 v1 0
theorem ss(N:Nat)(v1:List ByteArray)(v2:List ByteArray)(r:Bool)(J:zV N v1 v2=some r):bm Tryz.prog 17 [(.d (.sl (ax v1))),(.d (.sl (ax v2)))] (·=(aM r)):=by
 rw[zV]at J;refine bK Tryz.func17 (by kernel_rfl) (by kernel_rfl) ?_;refine au ai [[],[(4,oL v1 bD),(10,oL v2 bD)]] ?_;refine bc J (fun h1 J=> ?_) fun h1 J=> ?_
 ·obtain rfl:=sj J;exact wr ai [[(0,bT h1)],[]]
 refine au ai [[(0,bF h1)],[]] ?_;refine dP 0 (ax v1) (by kernel_rfl) fun h2=> ?_;have h3:=cr bD h2;refine cC ai 1 [] [0,1,5] 0 (fun((v3,v4):Nat×(List ByteArray))=>⟨26,[(0,(.d (.sl (ax v1)))),(1,(.d (.sl (ax v2)))),(5,(an (v3:Int)))],[]⟩) (fun((v3,v4):Nat×(List ByteArray))=>v1.drop v3=v4∧xl N v2 v4 v3=some r) (fun((v3,v4):Nat×(List ByteArray))=>v4.length) (0,v1) ⟨rfl,J⟩ ?_;rintro⟨v3,v4⟩ ⟨h4,J⟩ f1 aV;cases v4 with
 |nil=>
  rw[xl]at J;obtain rfl:=sj J;exact wr ai [[(7,oL v1 bD)],[(0,bF (bS h4))],[]]
 |cons v5 v6=>
  rw[xl]at J;obtain⟨v7,h5,J⟩:=ar J;refine au ai [[(7,oL v1 bD)],[(0,bT (bR h4))],[(7,oE (lK (bj h4))),(19,oE (lK h5))]] ?_;refine bc J (fun h7 J=> ?_) fun h7 J=> ?_
  ·exact cx ai aV (v3+1,v6) [[(0,bF (cG h7))],[(5,oq (b8 h4 rfl h3))]] ⟨b7 h4,J⟩
  obtain rfl:=sj J;exact wr ai [[(0,bT (cT h7))],[]]
def BB(N:Nat)(v1:cF)(v2:cF):Option Bool:=
 Option.bind (bif (v1.hJ==v2.hJ)then Option.bind (qR N v1.aQ v2.aQ) fun v3=>
 some v3 else some false) fun v4=>
 some v4
theorem ae3(N:Nat)(v1:cF)(v2:cF)(r:Bool)(J:BB N v1 v2=some r):bm Tryz.prog 73 [(mR v1),(mR v2)] (·=(aM r)):=by
 rw[BB]at J;refine bK Tryz.func73 (by kernel_rfl) (by kernel_rfl) ?_;refine au ai [[]] ?_;obtain⟨v4,h3,J⟩:=ar J;refine cN ai [(4,(aM v4))] [.cells (mR v1).cells, .cells (mR v2).cells] ?_ ?_
 ·refine bc h3 (fun h1 h3=> ?_) fun h1 h3=> ?_
  ·obtain⟨v3,h2,h3⟩:=ar h3;obtain rfl:=sj h3;exact⟨so (os [18,21,24,27,30,34] (bT h1) [(31,cL (th N v1.aQ v2.aQ v3 h2))]),by kernel_rfl⟩
  obtain rfl:=sj h3;exact⟨so (os [18,21,24,27,30,34] (bF h1) []),by kernel_rfl⟩
 obtain rfl:=sj J;exact wr ai []
def wG(N:Nat)(v2:List cF):List cF→Nat→Option Bool
 |[],_=>
  some true
 |v5::v6,v3=>
  Option.bind (v2[((v3:Int)).toNat]?) fun v7=>
  Option.bind (BB N v5 v7) fun v8=>
  bif v8 then
   (wG N v2 v6 (v3+1))
  else
   some false
def Bj(N:Nat)(v1:List cF)(v2:List cF):Option Bool:=
 bif ((v1.length:Int) !=(v2.length:Int))then
  some false
 else
  wG N v2 v1 0
theorem EL(N:Nat)(v1:List cF)(v2:List cF)(r:Bool)(J:Bj N v1 v2=some r):bm Tryz.prog 39 [(.d (.sl (bJ v1))),(.d (.sl (bJ v2)))] (·=(aM r)):=by
 rw[Bj]at J;refine bK Tryz.func39 (by kernel_rfl) (by kernel_rfl) ?_;refine au ai [[],[(4,oL v1 fa),(10,oL v2 fa)]] ?_;refine bc J (fun h1 J=> ?_) fun h1 J=> ?_
 ·obtain rfl:=sj J;exact wr ai [[(0,bT h1)],[]]
 refine au ai [[(0,bF h1)],[]] ?_;refine dP 0 (bJ v1) (by kernel_rfl) fun h2=> ?_;have h3:=cr fa h2;refine cC ai 1 [] [0,1,5] 0 (fun((v3,v4):Nat×(List cF))=>⟨27,[(0,(.d (.sl (bJ v1)))),(1,(.d (.sl (bJ v2)))),(5,(an (v3:Int)))],[]⟩) (fun((v3,v4):Nat×(List cF))=>v1.drop v3=v4∧wG N v2 v4 v3=some r) (fun((v3,v4):Nat×(List cF))=>v4.length) (0,v1) ⟨rfl,J⟩ ?_;rintro⟨v3,v4⟩ ⟨h4,J⟩ f1 aV;cases v4 with
 |nil=>
  rw[wG]at J;obtain rfl:=sj J;exact wr ai [[(7,oL v1 fa)],[(0,bF (bS h4))],[]]
 |cons v5 v6=>
  rw[wG]at J;obtain⟨v7,h5,J⟩:=ar J;obtain⟨v8,h7,J⟩:=ar J;refine au ai [[(7,oL v1 fa)],[(0,bT (bR h4))],[(7,oE (zQ (bj h4))),(19,oE (zQ h5)),(25,cL (ae3 N v5 v7 v8 h7))]] ?_;refine bc J (fun h8 J=> ?_) fun h8 J=> ?_
  ·exact cx ai aV (v3+1,v6) [[(0,bF (cG h8))],[(5,oq (b8 h4 rfl h3))]] ⟨b7 h4,J⟩
  obtain rfl:=sj J;exact wr ai [[(0,bT (cT h8))],[]]
def u9(N:Nat)(v2:List bk):List bk→Nat→Option Bool
 |[],_=>
  some true
 |v5::v6,v3=>
  Option.bind (v2[((v3:Int)).toNat]?) fun v7=>
  Option.bind (bif (bL v5.aq==bL v7.aq)then Option.bind (qR N v5.dS v7.dS) fun v8=>
  some (!v8)else some true) fun v9=>
  bif v9 then
   some false
  else
   (u9 N v2 v6 (v3+1))
def yQ(N:Nat)(v1:List bk)(v2:List bk):Option Bool:=
 bif ((v1.length:Int) !=(v2.length:Int))then
  some false
 else
  u9 N v2 v1 0
theorem BY(N:Nat)(v1:List bk)(v2:List bk)(r:Bool)(J:yQ N v1 v2=some r):bm Tryz.prog 74 [(.d (.sl (cy v1))),(.d (.sl (cy v2)))] (·=(aM r)):=by
 rw[yQ]at J;refine bK Tryz.func74 (by kernel_rfl) (by kernel_rfl) ?_;refine au ai [[],[(4,oL v1 bV),(10,oL v2 bV)]] ?_;refine bc J (fun h1 J=> ?_) fun h1 J=> ?_
 ·obtain rfl:=sj J;exact wr ai [[(0,bT h1)],[]]
 refine au ai [[(0,bF h1)],[]] ?_;refine dP 0 (cy v1) (by kernel_rfl) fun h2=> ?_;have h3:=cr bV h2;refine cC ai 1 [] [0,1,5] 0 (fun((v3,v4):Nat×(List bk))=>⟨42,[(0,(.d (.sl (cy v1)))),(1,(.d (.sl (cy v2)))),(5,(an (v3:Int)))],[]⟩) (fun((v3,v4):Nat×(List bk))=>v1.drop v3=v4∧u9 N v2 v4 v3=some r) (fun((v3,v4):Nat×(List bk))=>v4.length) (0,v1) ⟨rfl,J⟩ ?_;rintro⟨v3,v4⟩ ⟨h4,J⟩ f1 aV;cases v4 with
 |nil=>
  rw[u9]at J;obtain rfl:=sj J;exact wr ai [[(7,oL v1 bV)],[(0,bF (bS h4))],[]]
 |cons v5 v6=>
  rw[u9]at J;refine au ai [[(7,oL v1 bV)],[(0,bT (bR h4))]] ?_;obtain⟨v7,h5,J⟩:=ar J;obtain⟨v9,h9,J⟩:=ar J;refine cN ai [(41,(aM v9))] [] ?_ ?_
  ·refine bc h9 (fun h7 h9=> ?_) fun h7 h9=> ?_
   ·obtain⟨v8,h8,h9⟩:=ar h9;obtain rfl:=sj h9;exact⟨so (os [7,43] (oE (kg (bj h4))) (os [22,58] (oE (kg h5)) (os [36,39,42,45,48,51,54,57,60,63,66,69,73] (bF (cG h7)) [(67,cL (th N v5.dS v7.dS v8 h8))]))),by kernel_rfl⟩
   obtain rfl:=sj h9;exact⟨so (os [36,39,42,45,48,51,54,57,60,63,66,69,73] (bT (cT h7)) [(7,oE (kg (bj h4))),(22,oE (kg h5))]),by kernel_rfl⟩
  refine bc J (fun az J=> ?_) fun az J=> ?_
  ·obtain rfl:=sj J;exact wr ai [[(0,bT az)],[]]
  exact cx ai aV (v3+1,v6) [[(0,bF az)],[(5,oq (b8 h4 rfl h3))]] ⟨b7 h4,J⟩
def D6(N:Nat)(v1:aL)(v2:aL):Option Bool:=
 Option.bind (bif (bL v1.aq==bL v2.aq)then(bif ((v1.aB.cA==v2.aB.cA)&&((v1.aB.cD==v2.aB.cD)&&((v1.aB.dg==v2.aB.dg)&&((v1.aB.de==v2.aB.de)&&((v1.aB.dc==v2.aB.dc)&&true)))))then(bif (v1.cP==v2.cP)then Option.bind (yQ N v1.aJ v2.aJ) fun v3=>
 (bif v3 then Option.bind (yQ N v1.bG v2.bG) fun v4=>
 (bif v4 then Option.bind (GI N v1.bE v2.bE) fun v5=>
 some v5 else some false)else some false)else some false)else some false)else some false) fun v6=>
 some v6
theorem Yd(N:Nat)(v1:aL)(v2:aL)(r:Bool)(J:D6 N v1 v2=some r):bm Tryz.prog 41 [(cE v1),(cE v2)] (·=(aM r)):=by
 rw[D6]at J;refine bK Tryz.func41 (by kernel_rfl) (by kernel_rfl) ?_;refine au ai [[]] ?_;obtain⟨v6,h9,J⟩:=ar J;refine cN ai [(4,(aM v6))] [.cells (cE v1).cells, .cells (cE v2).cells] ?_ ?_
 ·refine bc h9 (fun h1 h9=> ?_) fun h1 h9=> ?_
  ·refine bc h9 (fun h2 h9=> ?_) fun h2 h9=> ?_
   ·refine bc h9 (fun h3 h9=> ?_) fun h3 h9=> ?_
    ·obtain⟨v3,h4,h9⟩:=ar h9;refine bc h9 (fun h5 h9=> ?_) fun h5 h9=> ?_
     ·obtain⟨v4,h6,h9⟩:=ar h9;refine bc h9 (fun h7 h9=> ?_) fun h7 h9=> ?_
      ·obtain⟨v5,h8,h9⟩:=ar h9;obtain rfl:=sj h9;exact⟨so (os [18,21,24,27,30,34] (bT h1) (os [39,42,45,48,51,55] (bT h2) (os [60,63,66,69,72,76] (bT h3) (os [81,84,87,90,93,97] (bT h5) (os [102,105,108,111,114,118] (bT h7) [(73,cL (BY N v1.aJ v2.aJ v3 h4)),(94,cL (BY N v1.bG v2.bG v4 h6)),(115,cL (KL N v1.bE v2.bE v5 h8))]))))),by kernel_rfl⟩
      obtain rfl:=sj h9;exact⟨so (os [18,21,24,27,30,34] (bT h1) (os [39,42,45,48,51,55] (bT h2) (os [60,63,66,69,72,76] (bT h3) (os [81,84,87,90,93,97] (bT h5) (os [102,105,108,111,114,118] (bF h7) [(73,cL (BY N v1.aJ v2.aJ v3 h4)),(94,cL (BY N v1.bG v2.bG v4 h6))]))))),by kernel_rfl⟩
     obtain rfl:=sj h9;exact⟨so (os [18,21,24,27,30,34] (bT h1) (os [39,42,45,48,51,55] (bT h2) (os [60,63,66,69,72,76] (bT h3) (os [81,84,87,90,93,97] (bF h5) (os [102,105,108,111,114,118] (bF rfl) [(73,cL (BY N v1.aJ v2.aJ v3 h4))]))))),by kernel_rfl⟩
    obtain rfl:=sj h9;exact⟨so (os [18,21,24,27,30,34] (bT h1) (os [39,42,45,48,51,55] (bT h2) (os [60,63,66,69,72,76] (bF h3) (os [81,84,87,90,93,97,102,105,108,111,114,118] (bF rfl) [])))),by kernel_rfl⟩
   obtain rfl:=sj h9;exact⟨so (os [18,21,24,27,30,34] (bT h1) (os [39,42,45,48,51,55] (bF h2) (os [60,63,66,69,72,76,81,84,87,90,93,97,102,105,108,111,114,118] (bF rfl) []))),by kernel_rfl⟩
  obtain rfl:=sj h9;exact⟨so (os [18,21,24,27,30,34] (bF h1) (os [39,42,45,48,51,55,60,63,66,69,72,76,81,84,87,90,93,97,102,105,108,111,114,118] (bF rfl) [])),by kernel_rfl⟩
 obtain rfl:=sj J;exact wr ai []
def uK(N:Nat)(v2:aY):List aL→Nat→Option Bool
 |[],_=>
  some true
 |aI::aD,v11=>
  Option.bind (v2.aA[((v11:Int)).toNat]?) fun aP=>
  Option.bind (D6 N aI aP) fun aW=>
  bif aW then
   (uK N v2 aD (v11+1))
  else
   some false
def uF(N:Nat)(v2:aY)(v1:aY):List cq→Nat→Option Bool
 |[],_=>
  uK N v2 v1.aA 0
 |v9::v10,v7=>
  Option.bind (v2.bu[((v7:Int)).toNat]?) fun aH=>
  Option.bind (bif (bL v9.aq==bL aH.aq)then(bif ((v9.aB.cA==aH.aB.cA)&&((v9.aB.cD==aH.aB.cD)&&((v9.aB.dg==aH.aB.dg)&&((v9.aB.de==aH.aB.de)&&((v9.aB.dc==aH.aB.dc)&&true)))))then Option.bind (yl N v9.aJ aH.aJ) fun aU=>
  some (!aU)else some true)else some true) fun bU=>
  bif bU then
   some false
  else
   (uF N v2 v1 v10 (v7+1))
def CU(N:Nat)(v1:aY)(v2:aY):Option Bool:=
 Option.bind (zV N v1.bx v2.bx) fun v3=>
 Option.bind (bif v3 then Option.bind (Bj N v1.cX v2.cX) fun v4=>
 (bif v4 then Option.bind (zV N v1.cU v2.cU) fun v5=>
 (bif v5 then(bif ((v1.bu.length:Int) !=(v2.bu.length:Int))then some true else some ((v1.aA.length:Int) !=(v2.aA.length:Int)))else some true)else some true)else some true) fun v6=>
 bif v6 then
  some false
 else
  uF N v2 v1 v1.bu 0
theorem Kg(N:Nat)(v1:aY)(v2:aY)(r:Bool)(J:CU N v1 v2=some r):bm Tryz.prog 12 [(aX v1),(aX v2)] (·=(aM r)):=by
 rw[CU]at J;refine bK Tryz.func12 (by kernel_rfl) (by kernel_rfl) ?_;refine au ai [[]] ?_;obtain⟨v3,h1,J⟩:=ar J;obtain⟨v6,h8,J⟩:=ar J;refine cN ai [(46,(aM v6))] [.cells (aX v1).cells, .cells (aX v2).cells] ?_ ?_
 ·refine bc h8 (fun h2 h8=> ?_) fun h2 h8=> ?_
  ·obtain⟨v4,h3,h8⟩:=ar h8;refine bc h8 (fun h4 h8=> ?_) fun h4 h8=> ?_
   ·obtain⟨v5,h5,h8⟩:=ar h8;refine bc h8 (fun h6 h8=> ?_) fun h6 h8=> ?_
    ·refine bc h8 (fun h7 h8=> ?_) fun h7 h8=> ?_
     ·obtain rfl:=sj h8;exact⟨so (os [21,24,27,30,33,36,40] (bF (cG h2)) (os [45,48,51,54,57,60,64] (bF (cG h4)) (os [69,72,75,78,81,84,87,91] (bF (cG h6)) (os [96,99,102,105,108,111,114,118] (bT h7) [(13,cL (ss N v1.bx v2.bx v3 h1)),(34,cL (EL N v1.cX v2.cX v4 h3)),(58,cL (ss N v1.cU v2.cU v5 h5)),(76,oL v1.bu er),(85,oL v2.bu er)])))),by kernel_rfl⟩
     obtain rfl:=sj h8;exact⟨so (os [21,24,27,30,33,36,40] (bF (cG h2)) (os [45,48,51,54,57,60,64] (bF (cG h4)) (os [69,72,75,78,81,84,87,91] (bF (cG h6)) (os [96,99,102,105,108,111,114,118] (bF h7) [(13,cL (ss N v1.bx v2.bx v3 h1)),(34,cL (EL N v1.cX v2.cX v4 h3)),(58,cL (ss N v1.cU v2.cU v5 h5)),(76,oL v1.bu er),(85,oL v2.bu er),(103,oL v1.aA dB),(112,oL v2.aA dB)])))),by kernel_rfl⟩
    obtain rfl:=sj h8;exact⟨so (os [21,24,27,30,33,36,40] (bF (cG h2)) (os [45,48,51,54,57,60,64] (bF (cG h4)) (os [69,72,75,78,81,84,87,91] (bT (cT h6)) (os [96,99,102,105,108,111,114,118] (bT rfl) [(13,cL (ss N v1.bx v2.bx v3 h1)),(34,cL (EL N v1.cX v2.cX v4 h3)),(58,cL (ss N v1.cU v2.cU v5 h5))])))),by kernel_rfl⟩
   obtain rfl:=sj h8;exact⟨so (os [21,24,27,30,33,36,40] (bF (cG h2)) (os [45,48,51,54,57,60,64] (bT (cT h4)) (os [69,72,75,78,81,84,87,91,96,99,102,105,108,111,114,118] (bT rfl) [(13,cL (ss N v1.bx v2.bx v3 h1)),(34,cL (EL N v1.cX v2.cX v4 h3))]))),by kernel_rfl⟩
  obtain rfl:=sj h8;exact⟨so (os [21,24,27,30,33,36,40] (bT (cT h2)) (os [45,48,51,54,57,60,64,69,72,75,78,81,84,87,91,96,99,102,105,108,111,114,118] (bT rfl) [(13,cL (ss N v1.bx v2.bx v3 h1))])),by kernel_rfl⟩
 refine bc J (fun h9 J=> ?_) fun h9 J=> ?_
 ·obtain rfl:=sj J;exact wr ai [[(0,bT h9)],[]]
 refine au ai [[(0,bF h9)],[]] ?_;refine eo 0 2 (bN v1.bu) (by kernel_rfl) fun az=> ?_;have aZ:=cr er az;refine cC ai 1 [] [2,3,5] 2 (fun((v7,v8):Nat×(List cq))=>⟨117,[(2,(.ptr 0 0)),(3,(.ptr 1 0)),(5,(an (v7:Int)))],[.cells (aX v1).cells, .cells (aX v2).cells]⟩) (fun((v7,v8):Nat×(List cq))=>v1.bu.drop v7=v8∧uF N v2 v1 v8 v7=some r) (fun((v7,v8):Nat×(List cq))=>v8.length) (0,v1.bu) ⟨rfl,J⟩ ?_;rintro⟨v7,v8⟩ ⟨bf,J⟩ f1 aV;cases v8 with
 |nil=>
  rw[uF]at J;refine au ai [[(10,oL v1.bu er)],[(0,bF (bS bf))],[]] ?_;refine eo 0 3 (cg v1.aA) (by kernel_rfl) fun b5=> ?_;have a8:=cr dB b5;refine cC ai 2 [] [2,3,6] 2 (fun((v11,aC):Nat×(List aL))=>⟨117,[(2,(.ptr 0 0)),(3,(.ptr 1 0)),(6,(an (v11:Int)))],[.cells (aX v1).cells, .cells (aX v2).cells]⟩) (fun((v11,aC):Nat×(List aL))=>v1.aA.drop v11=aC∧uK N v2 aC v11=some r) (fun((v11,aC):Nat×(List aL))=>aC.length) (0,v1.aA) ⟨rfl,J⟩ ?_;rintro⟨v11,aC⟩ ⟨bA,J⟩ f2 dX;cases aC with
  |nil=>
   rw[uK]at J;obtain rfl:=sj J;exact wr ai [[(10,oL v1.aA dB)],[(0,bF (bS bA))],[]]
  |cons aI aD=>
   rw[uK]at J;obtain⟨aP,a9,J⟩:=ar J;obtain⟨aW,bQ,J⟩:=ar J;refine au ai [[(10,oL v1.aA dB)],[(0,bT (bR bA))],[(10,oE (gA (bj bA))),(25,oE (gA a9)),(31,cL (Yd N aI aP aW bQ))]] ?_;refine bc J (fun dk J=> ?_) fun dk J=> ?_
   ·exact cx ai dX (v11+1,aD) [[(0,bF (cG dk))],[(5,oq (b8 bA rfl a8))]] ⟨b7 bA,J⟩
   obtain rfl:=sj J;exact wr ai [[(0,bT (cT dk))],[]]
 |cons v9 v10=>
  rw[uF]at J;refine au ai [[(10,oL v1.bu er)],[(0,bT (bR bf))]] ?_;obtain⟨aH,dJ,J⟩:=ar J;obtain⟨bU,fp,J⟩:=ar J;refine cN ai [(97,(aM bU))] [.cells (aX v1).cells, .cells (aX v2).cells] ?_ ?_
  ·refine bc fp (fun fe fp=> ?_) fun fe fp=> ?_
   ·refine bc fp (fun fb fp=> ?_) fun fb fp=> ?_
    ·obtain⟨aU,eN,fp⟩:=ar fp;obtain rfl:=sj fp;exact⟨so (os [10,52,97] (oE (kJ (bj bf))) (os [28,70,115] (oE (kJ dJ)) (os [42,45,48,51,54,57,60,63,66,69,72,75,78,82] (bF (cG fe)) (os [87,90,93,96,99,102,105,108,111,114,117,120,123,126,130] (bF (cG fb)) [(124,cL (OZ N v9.aJ aH.aJ aU eN))])))),by kernel_rfl⟩
    obtain rfl:=sj fp;exact⟨so (os [10,52] (oE (kJ (bj bf))) (os [28,70] (oE (kJ dJ)) (os [42,45,48,51,54,57,60,63,66,69,72,75,78,82] (bF (cG fe)) (os [87,90,93,96,99,102,105,108,111,114,117,120,123,126,130] (bT (cT fb)) [])))),by kernel_rfl⟩
   obtain rfl:=sj fp;exact⟨so (os [42,45,48,51,54,57,60,63,66,69,72,75,78,82] (bT (cT fe)) (os [87,90,93,96,99,102,105,108,111,114,117,120,123,126,130] (bT rfl) [(10,oE (kJ (bj bf))),(28,oE (kJ dJ))])),by kernel_rfl⟩
  refine bc J (fun h26 J=> ?_) fun h26 J=> ?_
  ·obtain rfl:=sj J;exact wr ai [[(0,bT h26)],[]]
  exact cx ai aV (v7+1,v10) [[(0,bF h26)],[(5,oq (b8 bf rfl aZ))]] ⟨b7 bf,J⟩
def Fa(N:Nat)(v1:aY)(v2:ByteArray):Option Bool:=
 Option.bind (Bv N v1 (200:Int)) fun v3=>
 Option.bind (bif v3 then some true else some (decide ((v2.size:Int)>(100:Int)))) fun v4=>
 bif v4 then
  Option.bind (yt N) fun v5=>
  some v5
 else
  Option.bind (wM N v1 v2) fun v6=>
  Option.bind (DT N v1 v2) fun v7=>
  Option.bind (Aw N v1 v2) fun v8=>
  Option.bind (xW N v1 v2) fun v9=>
  Option.bind (bif (v8==v9)then Option.bind (CU N v6.1 v7.1) fun v10=>
  (bif v10 then(bif (v6.2==v7.2)then Option.bind (yt N) fun v11=>
  some v11 else some false)else some false)else some false) fun aC=>
  some aC
theorem VU(N:Nat)(v1:aY)(v2:ByteArray)(r:Bool)(J:Fa N v1 v2=some r):bm Tryz.prog 3 [(aX v1),(bq v2)] (·=(aM r)):=by
 rw[Fa]at J;refine bK Tryz.func3 (by kernel_rfl) (by kernel_rfl) ?_;refine au ai [[]] ?_;obtain⟨v3,h1,J⟩:=ar J;obtain⟨v4,h3,J⟩:=ar J;refine cN ai [(15,(aM v4))] [.cells (aX v1).cells] ?_ ?_
 ·refine bc h3 (fun h2 h3=> ?_) fun h2 h3=> ?_
  ·obtain rfl:=sj h3;exact⟨so (os [9,12,15,19] (bT h2) [(4,cL (TP N v1 (200:Int) v3 h1))]),by kernel_rfl⟩
  obtain rfl:=sj h3;exact⟨so (os [9,12,15,19] (bF h2) [(4,cL (TP N v1 (200:Int) v3 h1))]),by kernel_rfl⟩
 refine bc J (fun h4 J=> ?_) fun h4 J=> ?_
 ·obtain⟨v5,h5,J⟩:=ar J;obtain rfl:=sj J;exact wr ai [[(0,bT h4)],[(1,cL (Nb N v5 h5))]]
 obtain⟨v6,h6,J⟩:=ar J;obtain⟨v7,h7,J⟩:=ar J;refine au ai [[(0,bF h4)],[(7,cL (TU N v1 v2 v6 h6))],[(7,cL (afO N v1 v2 v7 h7))]] ?_;obtain⟨v8,h8,J⟩:=ar J;obtain⟨v9,h9,J⟩:=ar J;obtain⟨aC,bA,J⟩:=ar J;refine cN ai [(4,(aM aC))] [.cells (aX v1).cells, .cells (aX v6.1).cells, .cells (aX v7.1).cells] ?_ ?_
 ·refine bc bA (fun az bA=> ?_) fun az bA=> ?_
  ·obtain⟨v10,aZ,bA⟩:=ar bA;refine bc bA (fun bf bA=> ?_) fun bf bA=> ?_
   ·refine bc bA (fun b5 bA=> ?_) fun b5 bA=> ?_
    ·obtain⟨v11,a8,bA⟩:=ar bA;obtain rfl:=sj bA;exact⟨so (os [24,27,30,34] (bT az) (os [39,42,45,49] (bT bf) (os [54,58] (bT b5) [(7,cL (A3 N v1 v2 v8 h8)),(16,cL (AU N v1 v2 v9 h9)),(31,cL (Kg N v6.1 v7.1 v10 aZ)),(55,cL (Nb N v11 a8))]))),by kernel_rfl⟩
    obtain rfl:=sj bA;exact⟨so (os [24,27,30,34] (bT az) (os [39,42,45,49] (bT bf) (os [54,58] (bF b5) [(7,cL (A3 N v1 v2 v8 h8)),(16,cL (AU N v1 v2 v9 h9)),(31,cL (Kg N v6.1 v7.1 v10 aZ))]))),by kernel_rfl⟩
   obtain rfl:=sj bA;exact⟨so (os [24,27,30,34] (bT az) (os [39,42,45,49] (bF bf) (os [54,58] (bF rfl) [(7,cL (A3 N v1 v2 v8 h8)),(16,cL (AU N v1 v2 v9 h9)),(31,cL (Kg N v6.1 v7.1 v10 aZ))]))),by kernel_rfl⟩
  obtain rfl:=sj bA;exact⟨so (os [24,27,30,34] (bF az) (os [39,42,45,49,54,58] (bF rfl) [(7,cL (A3 N v1 v2 v8 h8)),(16,cL (AU N v1 v2 v9 h9))])),by kernel_rfl⟩
 obtain rfl:=sj J;exact wr ai []
end Go.Proofs.YtphmhnabilhbgaaGreatDoor
