/-
  Part 15 of the proof: PQ6.
-/
import Derived.Test.YtpgmcallngdceaaGreatDoorSe14
namespace Go.Proofs.YtpgmcallngdceaaGreatDoor
open Go.RowKit
set_option maxRecDepth 100000
set_option maxHeartbeats 0
set_option linter.unusedVariables false
def yg(N:Nat):ak5 Bool:=
 Option.bind (BT N (bs [105])) fun v1=>
 Option.bind (AA N (⟨(1:Int),(0:Int),(0:Int),(0:Int),(0:Int)⟩:aC) (1:Int64)) fun v2=>
 Option.bind (Bh N (6:Int) (⟨(3:Int),(bs [97]),bg,ca,bV,[(⟨v1,(bs []),[]⟩:aH)],[]⟩:an) v2) fun v3=>
 Option.bind (AA N (⟨(1:Int),(0:Int),(0:Int),(0:Int),(0:Int)⟩:aC) (0:Int64)) fun v4=>
 Option.bind (Bh N (4:Int) v3 v4) fun v5=>
 Option.bind (rh N (⟨(1:Int),(0:Int),(0:Int),(0:Int),(0:Int)⟩:aC) v5) fun v6=>
 Option.bind (BT N (bs [105])) fun v7=>
 Option.bind (BT N (bs [105])) fun v8=>
 Option.bind (bif v6.2.2 then(bif (bL v6.2.1==bL (bs [122,101,114,111]))then Option.bind (jk N v6.1 v3) fun v9=>
 (bif v9 then Option.bind (AA N (⟨(1:Int),(0:Int),(0:Int),(0:Int),(0:Int)⟩:aC) (0:Int64)) fun v10=>
 Option.bind (Bh N (4:Int) v3 v10) fun v11=>
 Option.bind (uG N (⟨(1:Int),(0:Int),(0:Int),(0:Int),(0:Int)⟩:aC) v11) fun v12=>
 Option.bind (jk N v12 (⟨(3:Int),(bs [97]),bg,ca,bV,[(⟨v1,(bs []),[]⟩:aH)],[]⟩:an)) fun aX=>
 (bif aX then Option.bind (uG N (⟨(2:Int),(8:Int),(4:Int),(4:Int),(1:Int)⟩:aC) (⟨(8:Int),(bs []),bg,ca,bV,[],[(⟨(8:Int),(bs []),bg,ca,bV,[],[(⟨(3:Int),(bs [97]),bg,ca,bV,[(⟨v1,(bs []),[]⟩:aH)],[]⟩:an)]⟩:an)]⟩:an)) fun bu=>
 Option.bind (jk N bu (⟨(8:Int),(bs []),bg,ca,bV,[],[(⟨(8:Int),(bs []),bg,ca,bV,[],[(⟨(3:Int),(bs [97]),bg,ca,bV,[(⟨v1,(bs []),[]⟩:aH)],[]⟩:an)]⟩:an)]⟩:an)) fun bN=>
 (bif bN then Option.bind (uG N (⟨(1:Int),(0:Int),(0:Int),(0:Int),(0:Int)⟩:aC) (⟨(8:Int),(bs []),bg,ca,bV,[],[(⟨(8:Int),(bs []),bg,ca,bV,[],[(⟨(3:Int),(bs [97]),bg,ca,bV,[(⟨v1,(bs []),[]⟩:aH)],[]⟩:an)]⟩:an)]⟩:an)) fun dh=>
 Option.bind (jk N dh (⟨(3:Int),(bs [97]),bg,ca,bV,[(⟨v1,(bs []),[]⟩:aH)],[]⟩:an)) fun bX=>
 (bif bX then Option.bind (AA N (⟨(3:Int),(0:Int),(0:Int),(0:Int),(0:Int)⟩:aC) (2:Int64)) fun bx=>
 Option.bind (Bh N (4:Int) (⟨(2:Int),(bs []),bg,ca,v7,[],[]⟩:an) bx) fun cC=>
 Option.bind (uG N (⟨(3:Int),(0:Int),(0:Int),(0:Int),(0:Int)⟩:aC) cC) fun v20=>
 Option.bind (jk N v20 (⟨(2:Int),(bs []),bg,ca,(⟨(2:Int64),v8.xL⟩:aF),[],[]⟩:an)) fun v21=>
 (bif v21 then Option.bind (zd N v3) fun fe=>
 some (fe==(2:Int))else some false)else some false)else some false)else some false)else some false)else some false)else some false) fun dx=>
 some dx
theorem VO(N:Nat)(r:Bool)(hF:yg N=some r):aG Tryz.prog 8 [] (·=(aB r)):=by
 rw[yg]at hF;refine aR Tryz.func8 ?_;obtain⟨v1,h1,hF⟩:=ao hF;obtain⟨v2,h2,hF⟩:=ao hF;obtain⟨v3,h3,hF⟩:=ao hF;obtain⟨v4,h4,hF⟩:=ao hF;obtain⟨v5,h5,hF⟩:=ao hF;obtain⟨v6,h6,hF⟩:=ao hF;obtain⟨v7,h7,hF⟩:=ao hF;obtain⟨v8,h8,hF⟩:=ao hF;refine au af [[],[],[],[(1,cL (PB N (bs [105]) v1 h1))],[(7,cL (rH N (⟨(1:Int),(0:Int),(0:Int),(0:Int),(0:Int)⟩:aC) (1:Int64) v2 h2)),(10,cL (qT N (6:Int) (⟨(3:Int),(bs [97]),bg,ca,bV,[(⟨v1,(bs []),[]⟩:aH)],[]⟩:an) v2 v3 h3))],[(10,cL (rH N (⟨(1:Int),(0:Int),(0:Int),(0:Int),(0:Int)⟩:aC) (0:Int64) v4 h4)),(13,cL (qT N (4:Int) v3 v4 v5 h5)),(16,cL (MU N (⟨(1:Int),(0:Int),(0:Int),(0:Int),(0:Int)⟩:aC) v5 v6 h6))],[(5,⟨_,_, .eq (congrArg AV.full (fa [(⟨(3:Int),(bs [97]),bg,ca,bV,[(⟨v1,(bs []),[]⟩:aH)],[]⟩:an)]).symm)⟩),(11,⟨_,_, .eq (congrArg AV.full (fa [(⟨(8:Int),(bs []),bg,ca,bV,[],[(⟨(3:Int),(bs [97]),bg,ca,bV,[(⟨v1,(bs []),[]⟩:aH)],[]⟩:an)]⟩:an)]).symm)⟩)],[(1,cL (PB N (bs [105]) v7 h7))],[(1,cL (PB N (bs [105]) v8 h8))],[]] ?_
 obtain⟨dx,cO,hF⟩:=ao hF;refine bf af [(0,(aB dx))] [.cells [(aw (1:Int)),(aw (0:Int)),(aw (0:Int)),(aw (0:Int)),(aw (0:Int))], .cells [(aw (3:Int)),(aw (0:Int)),(aw (0:Int)),(aw (0:Int)),(aw (0:Int))], .cells [(aw (2:Int)),(aw (8:Int)),(aw (4:Int)),(aw (4:Int)),(aw (1:Int))], .cells [(aw (3:Int)),(aS (bs [97])),(aI (0:Int64)),(aI (0:Int64)),(aw (0:Int)),(aw (0:Int)),(aw (0:Int)),(aw (0:Int)),(aw (0:Int)),(aI (0:Int64)),(.d (.v (.slice none 0 0))),(.full (cm [(⟨v1,(bs []),[]⟩:aH)])),(.d (.v (.slice none 0 0)))], .cells (aA v3).cells, .cells (aA v6.1).cells, .cells [(aw (8:Int)),(aS (bs [])),(aI (0:Int64)),(aI (0:Int64)),(aw (0:Int)),(aw (0:Int)),(aw (0:Int)),(aw (0:Int)),(aw (0:Int)),(aI (0:Int64)),(.d (.v (.slice none 0 0))),(.d (.v (.slice none 0 0))),(.full (cq [(⟨(8:Int),(bs []),bg,ca,bV,[],[(⟨(3:Int),(bs [97]),bg,ca,bV,[(⟨v1,(bs []),[]⟩:aH)],[]⟩:an)]⟩:an)]))], .cells [(aw (2:Int)),(aS (bs [])),(aI (0:Int64)),(aI (0:Int64)),(aw (0:Int)),(aw (0:Int)),(aw (0:Int)),(aw (0:Int)),(aw (0:Int)),(aI v7.xK),(.d (.sl (b5 v7.xL))),(.d (.v (.slice none 0 0))),(.d (.v (.slice none 0 0)))], .cells [(aw (2:Int)),(.d (.sl (b5 v8.xL)))]] ?_ ?_
 ·refine bc cO (fun h9 cO=> ?_) fun h9 cO=> ?_
  ·refine bc cO (fun az cO=> ?_) fun az cO=> ?_
   ·obtain⟨v9,aE,cO⟩:=ao cO;refine bc cO (fun aK cO=> ?_) fun aK cO=> ?_
    ·obtain⟨v10,aY,cO⟩:=ao cO;obtain⟨v11,aJ,cO⟩:=ao cO;obtain⟨v12,bp,cO⟩:=ao cO;obtain⟨aX,aL,cO⟩:=ao cO;refine bc cO (fun bn cO=> ?_) fun bn cO=> ?_
     ·obtain⟨bu,aZ,cO⟩:=ao cO;obtain⟨bN,bU,cO⟩:=ao cO;refine bc cO (fun bC cO=> ?_) fun bC cO=> ?_
      ·obtain⟨dh,cl,cO⟩:=ao cO;obtain⟨bX,bw,cO⟩:=ao cO;refine bc cO (fun cT cO=> ?_) fun cT cO=> ?_
       ·obtain⟨bx,cE,cO⟩:=ao cO;obtain⟨cC,eR,cO⟩:=ao cO;obtain⟨v20,fb,cO⟩:=ao cO;obtain⟨v21,gr,cO⟩:=ao cO;refine bc cO (fun h28 cO=> ?_) fun h28 cO=> ?_
        ·obtain⟨fe,rI,cO⟩:=ao cO;cases cO;exact⟨[(1,bT h9),(5,bT az),(10,bT aK),(20,bT bn),(27,bT bC),(34,bT cT),(45,bT h28)],[(25,cL (dN N v6.1 v3 v9 aE)),(43,cL (rH N (⟨(1:Int),(0:Int),(0:Int),(0:Int),(0:Int)⟩:aC) (0:Int64) v10 aY)),(46,cL (qT N (4:Int) v3 v10 v11 aJ)),(49,cL (kY N (⟨(1:Int),(0:Int),(0:Int),(0:Int),(0:Int)⟩:aC) v11 v12 bp)),(55,cL (dN N v12 (⟨(3:Int),(bs [97]),bg,ca,bV,[(⟨v1,(bs []),[]⟩:aH)],[]⟩:an) aX aL)),(70,cL (kY N (⟨(2:Int),(8:Int),(4:Int),(4:Int),(1:Int)⟩:aC) (⟨(8:Int),(bs []),bg,ca,bV,[],[(⟨(8:Int),(bs []),bg,ca,bV,[],[(⟨(3:Int),(bs [97]),bg,ca,bV,[(⟨v1,(bs []),[]⟩:aH)],[]⟩:an)]⟩:an)]⟩:an) bu aZ)),(76,cL (dN N bu (⟨(8:Int),(bs []),bg,ca,bV,[],[(⟨(8:Int),(bs []),bg,ca,bV,[],[(⟨(3:Int),(bs [97]),bg,ca,bV,[(⟨v1,(bs []),[]⟩:aH)],[]⟩:an)]⟩:an)]⟩:an) bN bU)),(91,cL (kY N (⟨(1:Int),(0:Int),(0:Int),(0:Int),(0:Int)⟩:aC) (⟨(8:Int),(bs []),bg,ca,bV,[],[(⟨(8:Int),(bs []),bg,ca,bV,[],[(⟨(3:Int),(bs [97]),bg,ca,bV,[(⟨v1,(bs []),[]⟩:aH)],[]⟩:an)]⟩:an)]⟩:an) dh cl)),(97,cL (dN N dh (⟨(3:Int),(bs [97]),bg,ca,bV,[(⟨v1,(bs []),[]⟩:aH)],[]⟩:an) bX bw)),(115,cL (rH N (⟨(3:Int),(0:Int),(0:Int),(0:Int),(0:Int)⟩:aC) (2:Int64) bx cE)),(118,cL (qT N (4:Int) (⟨(2:Int),(bs []),bg,ca,v7,[],[]⟩:an) bx cC eR)),(121,cL (kY N (⟨(3:Int),(0:Int),(0:Int),(0:Int),(0:Int)⟩:aC) cC v20 fb)),(130,cL (dN N v20 (⟨(2:Int),(bs []),bg,ca,(⟨(2:Int64),v8.xL⟩:aF),[],[]⟩:an) v21 gr)),(142,cL (CM N v3 fe rI))],by kernel_rfl⟩
        cases cO;exact⟨[(1,bT h9),(5,bT az),(10,bT aK),(20,bT bn),(27,bT bC),(34,bT cT),(45,bF h28)],[(25,cL (dN N v6.1 v3 v9 aE)),(43,cL (rH N (⟨(1:Int),(0:Int),(0:Int),(0:Int),(0:Int)⟩:aC) (0:Int64) v10 aY)),(46,cL (qT N (4:Int) v3 v10 v11 aJ)),(49,cL (kY N (⟨(1:Int),(0:Int),(0:Int),(0:Int),(0:Int)⟩:aC) v11 v12 bp)),(55,cL (dN N v12 (⟨(3:Int),(bs [97]),bg,ca,bV,[(⟨v1,(bs []),[]⟩:aH)],[]⟩:an) aX aL)),(70,cL (kY N (⟨(2:Int),(8:Int),(4:Int),(4:Int),(1:Int)⟩:aC) (⟨(8:Int),(bs []),bg,ca,bV,[],[(⟨(8:Int),(bs []),bg,ca,bV,[],[(⟨(3:Int),(bs [97]),bg,ca,bV,[(⟨v1,(bs []),[]⟩:aH)],[]⟩:an)]⟩:an)]⟩:an) bu aZ)),(76,cL (dN N bu (⟨(8:Int),(bs []),bg,ca,bV,[],[(⟨(8:Int),(bs []),bg,ca,bV,[],[(⟨(3:Int),(bs [97]),bg,ca,bV,[(⟨v1,(bs []),[]⟩:aH)],[]⟩:an)]⟩:an)]⟩:an) bN bU)),(91,cL (kY N (⟨(1:Int),(0:Int),(0:Int),(0:Int),(0:Int)⟩:aC) (⟨(8:Int),(bs []),bg,ca,bV,[],[(⟨(8:Int),(bs []),bg,ca,bV,[],[(⟨(3:Int),(bs [97]),bg,ca,bV,[(⟨v1,(bs []),[]⟩:aH)],[]⟩:an)]⟩:an)]⟩:an) dh cl)),(97,cL (dN N dh (⟨(3:Int),(bs [97]),bg,ca,bV,[(⟨v1,(bs []),[]⟩:aH)],[]⟩:an) bX bw)),(115,cL (rH N (⟨(3:Int),(0:Int),(0:Int),(0:Int),(0:Int)⟩:aC) (2:Int64) bx cE)),(118,cL (qT N (4:Int) (⟨(2:Int),(bs []),bg,ca,v7,[],[]⟩:an) bx cC eR)),(121,cL (kY N (⟨(3:Int),(0:Int),(0:Int),(0:Int),(0:Int)⟩:aC) cC v20 fb)),(130,cL (dN N v20 (⟨(2:Int),(bs []),bg,ca,(⟨(2:Int64),v8.xL⟩:aF),[],[]⟩:an) v21 gr))],by kernel_rfl⟩
       cases cO;exact⟨[(1,bT h9),(5,bT az),(10,bT aK),(20,bT bn),(27,bT bC),(34,bF cT),(45,bF rfl)],[(25,cL (dN N v6.1 v3 v9 aE)),(43,cL (rH N (⟨(1:Int),(0:Int),(0:Int),(0:Int),(0:Int)⟩:aC) (0:Int64) v10 aY)),(46,cL (qT N (4:Int) v3 v10 v11 aJ)),(49,cL (kY N (⟨(1:Int),(0:Int),(0:Int),(0:Int),(0:Int)⟩:aC) v11 v12 bp)),(55,cL (dN N v12 (⟨(3:Int),(bs [97]),bg,ca,bV,[(⟨v1,(bs []),[]⟩:aH)],[]⟩:an) aX aL)),(70,cL (kY N (⟨(2:Int),(8:Int),(4:Int),(4:Int),(1:Int)⟩:aC) (⟨(8:Int),(bs []),bg,ca,bV,[],[(⟨(8:Int),(bs []),bg,ca,bV,[],[(⟨(3:Int),(bs [97]),bg,ca,bV,[(⟨v1,(bs []),[]⟩:aH)],[]⟩:an)]⟩:an)]⟩:an) bu aZ)),(76,cL (dN N bu (⟨(8:Int),(bs []),bg,ca,bV,[],[(⟨(8:Int),(bs []),bg,ca,bV,[],[(⟨(3:Int),(bs [97]),bg,ca,bV,[(⟨v1,(bs []),[]⟩:aH)],[]⟩:an)]⟩:an)]⟩:an) bN bU)),(91,cL (kY N (⟨(1:Int),(0:Int),(0:Int),(0:Int),(0:Int)⟩:aC) (⟨(8:Int),(bs []),bg,ca,bV,[],[(⟨(8:Int),(bs []),bg,ca,bV,[],[(⟨(3:Int),(bs [97]),bg,ca,bV,[(⟨v1,(bs []),[]⟩:aH)],[]⟩:an)]⟩:an)]⟩:an) dh cl)),(97,cL (dN N dh (⟨(3:Int),(bs [97]),bg,ca,bV,[(⟨v1,(bs []),[]⟩:aH)],[]⟩:an) bX bw))],by kernel_rfl⟩
      cases cO;exact⟨[(1,bT h9),(5,bT az),(10,bT aK),(20,bT bn),(27,bF bC),(34,bF rfl),(45,bF rfl)],[(25,cL (dN N v6.1 v3 v9 aE)),(43,cL (rH N (⟨(1:Int),(0:Int),(0:Int),(0:Int),(0:Int)⟩:aC) (0:Int64) v10 aY)),(46,cL (qT N (4:Int) v3 v10 v11 aJ)),(49,cL (kY N (⟨(1:Int),(0:Int),(0:Int),(0:Int),(0:Int)⟩:aC) v11 v12 bp)),(55,cL (dN N v12 (⟨(3:Int),(bs [97]),bg,ca,bV,[(⟨v1,(bs []),[]⟩:aH)],[]⟩:an) aX aL)),(70,cL (kY N (⟨(2:Int),(8:Int),(4:Int),(4:Int),(1:Int)⟩:aC) (⟨(8:Int),(bs []),bg,ca,bV,[],[(⟨(8:Int),(bs []),bg,ca,bV,[],[(⟨(3:Int),(bs [97]),bg,ca,bV,[(⟨v1,(bs []),[]⟩:aH)],[]⟩:an)]⟩:an)]⟩:an) bu aZ)),(76,cL (dN N bu (⟨(8:Int),(bs []),bg,ca,bV,[],[(⟨(8:Int),(bs []),bg,ca,bV,[],[(⟨(3:Int),(bs [97]),bg,ca,bV,[(⟨v1,(bs []),[]⟩:aH)],[]⟩:an)]⟩:an)]⟩:an) bN bU))],by kernel_rfl⟩
     cases cO;exact⟨[(1,bT h9),(5,bT az),(10,bT aK),(20,bF bn),(27,bF rfl),(34,bF rfl),(45,bF rfl)],[(25,cL (dN N v6.1 v3 v9 aE)),(43,cL (rH N (⟨(1:Int),(0:Int),(0:Int),(0:Int),(0:Int)⟩:aC) (0:Int64) v10 aY)),(46,cL (qT N (4:Int) v3 v10 v11 aJ)),(49,cL (kY N (⟨(1:Int),(0:Int),(0:Int),(0:Int),(0:Int)⟩:aC) v11 v12 bp)),(55,cL (dN N v12 (⟨(3:Int),(bs [97]),bg,ca,bV,[(⟨v1,(bs []),[]⟩:aH)],[]⟩:an) aX aL))],by kernel_rfl⟩
    cases cO;exact⟨[(1,bT h9),(5,bT az),(10,bF aK),(20,bF rfl),(27,bF rfl),(34,bF rfl),(45,bF rfl)],[(25,cL (dN N v6.1 v3 v9 aE))],by kernel_rfl⟩
   cases cO;exact⟨[(1,bT h9),(5,bF az),(10,bF rfl),(20,bF rfl),(27,bF rfl),(34,bF rfl),(45,bF rfl)],[],by kernel_rfl⟩
  cases cO;exact⟨[(1,bF h9),(5,bF rfl),(10,bF rfl),(20,bF rfl),(27,bF rfl),(34,bF rfl),(45,bF rfl)],[],by kernel_rfl⟩
 cases hF;exact wr af []
def ma(N:Nat)(v1:aC):ak5 Bool:=
 Option.bind (bif (v1.a8==(1:Int))then some true else some (v1.a8==(3:Int))) fun v2=>
 bif v2 then
  Option.bind (bif (v1.bz==(0:Int))then(bif (v1.xFrac==(0:Int))then(bif (v1.bK==(0:Int))then some (v1.bM==(0:Int))else some false)else some false)else some false) fun v3=>
  some v3
 else
  Option.bind (bif (v1.a8==(2:Int))then(bif (decide (v1.bz≥(2:Int)))then(bif (decide (v1.bz≤(31:Int)))then(bif (decide (v1.xFrac≥(0:Int)))then(bif (decide (v1.xFrac≤(30:Int)))then(bif (decide (v1.bK≥(1:Int)))then(bif (decide (v1.bK≤(4:Int)))then(bif (v1.bM==(1:Int))then some true else some (v1.bM==(2:Int)))else some false)else some false)else some false)else some false)else some false)else some false)else some false) fun v4=>
  some v4
theorem mO(N:Nat)(v1:aC)(r:Bool)(hF:ma N v1=some r):aG Tryz.prog 29 [(bY v1)] (·=(aB r)):=by
 rw[ma]at hF;refine aR Tryz.func29 ?_;refine au af [[]] ?_;obtain⟨v2,h2,hF⟩:=ao hF;refine bf af [(10,(aB v2))] [.cells (bY v1).cells] ?_ ?_
 ·refine bc h2 (fun h1 h2=> ?_) fun h1 h2=> ?_
  ·cases h2;exact⟨[(3,bT h1)],[],by kernel_rfl⟩
  cases h2;exact⟨[(3,bF h1)],[],by kernel_rfl⟩
 refine bc hF (fun h3 hF=> ?_) fun h3 hF=> ?_
 ·refine au af [[(0,bT h3)]] ?_;obtain⟨v3,h7,hF⟩:=ao hF;refine bf af [(2,(aB v3))] [.cells (bY v1).cells] ?_ ?_
  ·refine bc h7 (fun h4 h7=> ?_) fun h4 h7=> ?_
   ·refine bc h7 (fun h5 h7=> ?_) fun h5 h7=> ?_
    ·refine bc h7 (fun h6 h7=> ?_) fun h6 h7=> ?_
     ·cases h7;exact⟨[(3,bT h4),(8,bT h5),(13,bT h6)],[],by kernel_rfl⟩
     cases h7;exact⟨[(3,bT h4),(8,bT h5),(13,bF h6)],[],by kernel_rfl⟩
    cases h7;exact⟨[(3,bT h4),(8,bF h5),(13,bF rfl)],[],by kernel_rfl⟩
   cases h7;exact⟨[(3,bF h4),(8,bF rfl),(13,bF rfl)],[],by kernel_rfl⟩
  cases hF;exact wr af []
 refine au af [[(0,bF h3)]] ?_;obtain⟨v4,aL,hF⟩:=ao hF;refine bf af [(2,(aB v4))] [.cells (bY v1).cells] ?_ ?_
 ·refine bc aL (fun h8 aL=> ?_) fun h8 aL=> ?_
  ·refine bc aL (fun h9 aL=> ?_) fun h9 aL=> ?_
   ·refine bc aL (fun az aL=> ?_) fun az aL=> ?_
    ·refine bc aL (fun aE aL=> ?_) fun aE aL=> ?_
     ·refine bc aL (fun aK aL=> ?_) fun aK aL=> ?_
      ·refine bc aL (fun aY aL=> ?_) fun aY aL=> ?_
       ·refine bc aL (fun aJ aL=> ?_) fun aJ aL=> ?_
        ·refine bc aL (fun bp aL=> ?_) fun bp aL=> ?_
         ·cases aL;exact⟨[(3,bT h8),(8,bT h9),(13,bT az),(18,bT aE),(23,bT aK),(28,bT aY),(33,bT aJ),(37,bT bp)],[(124,bT bp)],by kernel_rfl⟩
         cases aL;exact⟨[(3,bT h8),(8,bT h9),(13,bT az),(18,bT aE),(23,bT aK),(28,bT aY),(33,bT aJ),(37,bF bp)],[(124,bF bp)],by kernel_rfl⟩
        cases aL;exact⟨[(3,bT h8),(8,bT h9),(13,bT az),(18,bT aE),(23,bT aK),(28,bT aY),(33,bF aJ),(37,uN)],[],by kernel_rfl⟩
       cases aL;exact⟨[(3,bT h8),(8,bT h9),(13,bT az),(18,bT aE),(23,bT aK),(28,bF aY),(33,bF rfl),(37,uN)],[],by kernel_rfl⟩
      cases aL;exact⟨[(3,bT h8),(8,bT h9),(13,bT az),(18,bT aE),(23,bF aK),(28,bF rfl),(33,bF rfl),(37,uN)],[],by kernel_rfl⟩
     cases aL;exact⟨[(3,bT h8),(8,bT h9),(13,bT az),(18,bF aE),(23,bF rfl),(28,bF rfl),(33,bF rfl),(37,uN)],[],by kernel_rfl⟩
    cases aL;exact⟨[(3,bT h8),(8,bT h9),(13,bF az),(18,bF rfl),(23,bF rfl),(28,bF rfl),(33,bF rfl),(37,uN)],[],by kernel_rfl⟩
   cases aL;exact⟨[(3,bT h8),(8,bF h9),(13,bF rfl),(18,bF rfl),(23,bF rfl),(28,bF rfl),(33,bF rfl),(37,uN)],[],by kernel_rfl⟩
  cases aL;exact⟨[(3,bF h8),(8,bF rfl),(13,bF rfl),(18,bF rfl),(23,bF rfl),(28,bF rfl),(33,bF rfl),(37,uN)],[],by kernel_rfl⟩
 cases hF;exact wr af []
def qf(N:Nat)(v2:Int)(Qv:an→Int→ak5 Int):ak3 an→Nat→Int→ak5 Int
 |[],_,v7=>
  some v7
 |v5::v6,v3,v7=>
  bif (decide (v2>(1:Int)))then
   Option.bind (Qv v5 (aQ (v2-(1:Int)))) fun v8=>
   (fun cX=>qf N v2 Qv v6 (v3+1) cX) (if(aQ ((1:Int)+v8))>v7 then(aQ ((1:Int)+v8))else v7)
  else
   some v7
def nv(N:Nat):Nat→an→Int→ak5 Int
 |0,_,_=>none
 |d+1,v1,v2=>
  qf N v2 (nv N d) v1.ax 0 (1:Int)
def Pz(N:Nat)(v1:an)(v2:Int):ak5 Int:=nv N N v1 v2
theorem agX(N:Nat):∀d:Nat,(∀(v1:an)(v2:Int)(r:Int),nv N d v1 v2=some r→aG Tryz.prog 118 [(aA v1),(aw v2)] (·=(aw r))):=by
 intro d
 induction d with
 |zero=>intro v1 v2 r hF;rw[nv]at hF;cases hF
 |succ d ih=>
  have aaS:=ih;intro v1 v2 r hF;rw[nv]at hF;refine aR Tryz.func118 ?_;refine au af [[],[],[]] ?_;refine kh lf 0 12 v1.ax fun h2=> ?_;refine qX af 1 [] [1,2,5,6] 1 v1.ax (fun v3(v7:Int)=>⟨30,[(1,(aw v2)),(2,(.ptr 0 0)),(5,(aw v7)),(6,(aw (v3:Int)))],[.cells (aA v1).cells]⟩) (qf N v2 (nv N d)) (1:Int) hF ?_ ?_
  ·intro v3 v7 h3 hF f1;rw[qf]at hF;cases hF;exact wr af [[(10,oL v1.ax dC),(18,bF (cM h3)),(21,bF (cM h3)),(25,bF (cM h3))],[(0,bF rfl)],[]]
  intro v3 v5 v6 v7 h3 hF f1 aO;rw[qf]at hF;refine au af [[(10,oL v1.ax dC),(18,bT (cF h3)),(21,bT (cF h3)),(25,bT (cF h3))]] ?_;refine bc hF (fun h4 hF=> ?_) fun h4 hF=> ?_
  ·obtain⟨v8,h5,hF⟩:=ao hF;exact wb af aO (if(aQ ((1:Int)+v8))>v7 then(aQ ((1:Int)+v8))else v7) [[(0,bT h4)],[(13,oE (bt (cd h3))),(25,cL (aaS v5 (aQ (v2-(1:Int))) v8 h5))],[(5,oq (dj h3 rfl h2))]] h3 hF
  cases hF;exact wr af [[(0,bF h4)],[]]
theorem ajB(N:Nat)(v1:an)(v2:Int)(r:Int)(hF:Pz N v1 v2=some r):aG Tryz.prog 118 [(aA v1),(aw v2)] (·=(aw r)):=(agX N N) v1 v2 r hF
def ID(N:Nat)(v1:an):ak5 Int:=
 Option.bind (Pz N v1 (41:Int)) fun v2=>
 some v2
theorem aeT(N:Nat)(v1:an)(r:Int)(hF:ID N v1=some r):aG Tryz.prog 58 [(aA v1)] (·=(aw r)):=by
 rw[ID]at hF;refine aR Tryz.func58 ?_;obtain⟨v2,h1,hF⟩:=ao hF;obtain rfl:=sj hF;exact wr af [[],[(4,cL (ajB N v1 (41:Int) v2 h1))]]
def sM(N:Nat)(v2:Int)(Va:an→Int→ak5 Int):ak3 an→Nat→Int→ak5 Int
 |[],_,v7=>
  some v7
 |v5::v6,v3,v7=>
  bif (decide (v7≤v2))then
   Option.bind (Va v5 (aQ (v2-v7))) fun v8=>
   (fun cX=>sM N v2 Va v6 (v3+1) cX) (aQ (v7+v8))
  else
   some v7
def pk(N:Nat):Nat→an→Int→ak5 Int
 |0,_,_=>none
 |d+1,v1,v2=>
  sM N v2 (pk N d) v1.ax 0 (1:Int)
def NY(N:Nat)(v1:an)(v2:Int):ak5 Int:=pk N N v1 v2
theorem aiP(N:Nat):∀d:Nat,(∀(v1:an)(v2:Int)(r:Int),pk N d v1 v2=some r→aG Tryz.prog 119 [(aA v1),(aw v2)] (·=(aw r))):=by
 intro d
 induction d with
 |zero=>intro v1 v2 r hF;rw[pk]at hF;cases hF
 |succ d ih=>
  have acO:=ih;intro v1 v2 r hF;rw[pk]at hF;refine aR Tryz.func119 ?_;refine au af [[],[],[]] ?_;refine kh lf 0 12 v1.ax fun h2=> ?_;refine qX af 1 [] [1,2,5,6] 1 v1.ax (fun v3(v7:Int)=>⟨31,[(1,(aw v2)),(2,(.ptr 0 0)),(5,(aw v7)),(6,(aw (v3:Int)))],[.cells (aA v1).cells]⟩) (sM N v2 (pk N d)) (1:Int) hF ?_ ?_
  ·intro v3 v7 h3 hF f1;rw[sM]at hF;cases hF;exact wr af [[(10,oL v1.ax dC),(18,bF (cM h3)),(21,bF (cM h3)),(24,bF (cM h3)),(28,bF (cM h3))],[(0,bF rfl)],[]]
  intro v3 v5 v6 v7 h3 hF f1 aO;rw[sM]at hF;refine au af [[(10,oL v1.ax dC),(18,bT (cF h3)),(21,bT (cF h3)),(24,bT (cF h3)),(28,bT (cF h3))]] ?_;refine bc hF (fun h4 hF=> ?_) fun h4 hF=> ?_
  ·obtain⟨v8,h5,hF⟩:=ao hF;exact wb af aO (aQ (v7+v8)) [[(0,bT h4)],[(13,oE (bt (cd h3))),(28,cL (acO v5 (aQ (v2-v7)) v8 h5))],[(5,oq (dj h3 rfl h2))]] h3 hF
  cases hF;exact wr af [[(0,bF h4)],[]]
theorem ZD(N:Nat)(v1:an)(v2:Int)(r:Int)(hF:NY N v1 v2=some r):aG Tryz.prog 119 [(aA v1),(aw v2)] (·=(aw r)):=(aiP N N) v1 v2 r hF
def F7(N:Nat)(v1:an):ak5 Int:=
 Option.bind (NY N v1 (2000:Int)) fun v2=>
 some (if(2001:Int)<v2 then(2001:Int)else v2)
theorem Yn(N:Nat)(v1:an)(r:Int)(hF:F7 N v1=some r):aG Tryz.prog 59 [(aA v1)] (·=(aw r)):=by
 rw[F7]at hF;refine aR Tryz.func59 ?_;obtain⟨v2,h1,hF⟩:=ao hF;cases hF;exact wr af [[],[(4,cL (ZD N v1 (2000:Int) v2 h1))]]
def xQ(N:Nat):ak3 aH→Nat→ak5 Bool
 |[],_=>
  some true
 |v7::v8,v5=>
  Option.bind (bif (bL v7.xFrom==bL (bs []))then(bif (decide ((v7.bD.length:Int)>(0:Int)))then some true else some false)else(bif (v7.aM.xK.toInt !=(0:Int))then some true else some (decide ((v7.aM.xL.length:Int)>(0:Int))))) fun v9=>
  bif v9 then
   some false
  else
   (xQ N v8 (v5+1))
def EM(N:Nat)(v1:an):ak5 Bool:=
 Option.bind (bif (decide (v1.ar<(1:Int)))then some true else some (decide (v1.ar>(18:Int)))) fun v2=>
 bif v2 then
  some false
 else
  Option.bind (bif (v1.ar !=(1:Int))then(bif ((v1.ba.xN.toInt==(0:Int64).toInt)&&((v1.ba.xD.toInt==(0:Int64).toInt)&&true))then(bif (v1.ar !=(12:Int))then some (!((v1.aD.a8==(0:Int))&&((v1.aD.bz==(0:Int))&&((v1.aD.xFrac==(0:Int))&&((v1.aD.bK==(0:Int))&&((v1.aD.bM==(0:Int))&&true))))))else some false)else some true)else some false) fun v3=>
  bif v3 then
   some false
  else
   Option.bind (bif (v1.ar !=(2:Int))then(bif (v1.aM.xK.toInt !=(0:Int))then some true else(bif (decide ((v1.aM.xL.length:Int)>(0:Int)))then some true else(bif (v1.ar !=(3:Int))then(bif (bL v1.aV==bL (bs []))then some (decide ((v1.xIdx.length:Int)>(0:Int)))else some true)else some false)))else(bif (v1.ar !=(3:Int))then(bif (bL v1.aV==bL (bs []))then some (decide ((v1.xIdx.length:Int)>(0:Int)))else some true)else some false)) fun v4=>
   bif v4 then
    some false
   else
    xQ N v1.xIdx 0
def Di(v1:an)(l:ak3 aq):ak3 aq:= .cells (aA v1).cells::l
theorem aa6(N:Nat)(v1:an)(r:Bool)(hF:EM N v1=some r):aG Tryz.prog 120 [(aA v1)] (·=(aB r)):=by
 rw[EM]at hF;refine aR Tryz.func120 ?_;refine au af [[]] ?_;obtain⟨v2,h2,hF⟩:=ao hF;refine bf af [(12,(aB v2))] (Di v1 []) ?_ ?_
 ·refine bc h2 (fun h1 h2=> ?_) fun h1 h2=> ?_
  ·cases h2;exact⟨[(3,bT h1)],[],by kernel_rfl⟩
  cases h2;exact⟨[(3,bF h1)],[],by kernel_rfl⟩
 refine bc hF (fun h3 hF=> ?_) fun h3 hF=> ?_
 ·cases hF;exact wr af [[(0,bT h3)],[]]
 refine au af [[(0,bF h3)]] ?_;obtain⟨v3,h7,hF⟩:=ao hF;refine bf af [(37,(aB v3))] (Di v1 []) ?_ ?_
 ·refine bc h7 (fun h4 h7=> ?_) fun h4 h7=> ?_
  ·refine bc h7 (fun h5 h7=> ?_) fun h5 h7=> ?_
   ·refine bc h7 (fun h6 h7=> ?_) fun h6 h7=> ?_
    ·cases h7;exact⟨[(3,bT h4),(9,bF (bG h5)),(13,bT h4),(18,bT h6)],[(52,bT h4),(70,bT h6)],by kernel_rfl⟩
    cases h7;exact⟨[(3,bT h4),(9,bF (bG h5)),(13,bT h4),(18,bF h6)],[(52,bT h4),(70,bF h6)],by kernel_rfl⟩
   cases h7;exact⟨[(3,bT h4),(9,bT (bS h5)),(13,uN),(18,uN)],[],by kernel_rfl⟩
  cases h7;exact⟨[(3,bF h4),(9,bF rfl),(13,bF h4),(18,bF rfl)],[(52,bF h4),(70,bF rfl)],by kernel_rfl⟩
 refine bc hF (fun h8 hF=> ?_) fun h8 hF=> ?_
 ·cases hF;exact wr af [[(0,bT h8)],[]]
 refine au af [[(0,bF h8)]] ?_;obtain⟨v4,aL,hF⟩:=ao hF;refine bf af [(69,(aB v4))] (Di v1 []) ?_ ?_
 ·refine bc aL (fun h9 aL=> ?_) fun h9 aL=> ?_
  ·refine bc aL (fun az aL=> ?_) fun az aL=> ?_
   ·cases aL;exact⟨[(3,bT h9),(8,bT az),(16,bT rfl),(20,uN),(24,uN)],[(43,bT az)],by kernel_rfl⟩
   refine bc aL (fun aE aL=> ?_) fun aE aL=> ?_
   ·cases aL;exact⟨[(3,bT h9),(8,bF az),(16,bT aE),(20,uN),(24,uN)],[(37,oL v1.aM.xL dg),(43,bF az)],by kernel_rfl⟩
   refine bc aL (fun aK aL=> ?_) fun aK aL=> ?_
   ·refine bc aL (fun aY aL=> ?_) fun aY aL=> ?_
    ·cases aL;exact⟨[(3,bT h9),(8,bF az),(16,bF aE),(20,bT aK),(24,bF (bG aY))],[(37,oL v1.aM.xL dg),(43,bF az),(82,oL v1.xIdx dP),(88,bF (bG aY)),(91,bT aK)],by kernel_rfl⟩
    cases aL;exact⟨[(3,bT h9),(8,bF az),(16,bF aE),(20,bT aK),(24,bT (bS aY))],[(37,oL v1.aM.xL dg),(43,bF az),(88,bT (bS aY)),(91,bT aK)],by kernel_rfl⟩
   cases aL;exact⟨[(3,bT h9),(8,bF az),(16,bF aE),(20,bF aK),(24,uN)],[(37,oL v1.aM.xL dg),(43,bF az),(91,bF aK)],by kernel_rfl⟩
  refine bc aL (fun aJ aL=> ?_) fun aJ aL=> ?_
  ·refine bc aL (fun bp aL=> ?_) fun bp aL=> ?_
   ·cases aL;exact⟨[(3,bF h9),(8,uN),(16,bF rfl),(20,bT aJ),(24,bF (bG bp))],[(82,oL v1.xIdx dP),(88,bF (bG bp)),(91,bT aJ)],by kernel_rfl⟩
   cases aL;exact⟨[(3,bF h9),(8,uN),(16,bF rfl),(20,bT aJ),(24,bT (bS bp))],[(88,bT (bS bp)),(91,bT aJ)],by kernel_rfl⟩
  cases aL;exact⟨[(3,bF h9),(8,uN),(16,bF rfl),(20,bF aJ),(24,uN)],[(91,bF aJ)],by kernel_rfl⟩
 refine bc hF (fun bn hF=> ?_) fun bn hF=> ?_
 ·cases hF;exact wr af [[(0,bT bn)],[]]
 refine au af [[(0,bF bn)],[]] ?_;refine kh mV 0 11 v1.xIdx fun bU=> ?_;refine fJ af 1 [] [1,3] 1 v1.xIdx (fun v5=>⟨109,[(1,(.ptr 0 0)),(3,(aw (v5:Int)))],(Di v1 [])⟩) (xQ N) hF ?_ ?_
 ·intro v5 bC hF f1;rw[xQ]at hF;cases hF;exact wr af [[(10,oL v1.xIdx dP)],[(0,bF (cM bC))],[]]
 intro v5 v7 v8 bC hF f1 aO;rw[xQ]at hF;refine au af [[(10,oL v1.xIdx dP)],[(0,bT (cF bC))],[(10,oE (fI (cd bC)))]] ?_;obtain⟨v9,cE,hF⟩:=ao hF;refine bf af [(108,(aB v9))] (Di v1 [.cells (gA v7).cells]) ?_ ?_
 ·refine bc cE (fun cl cE=> ?_) fun cl cE=> ?_
  ·refine bc cE (fun bw cE=> ?_) fun bw cE=> ?_
   ·cases cE;exact⟨[(3,bT cl),(9,bT bw),(13,uN),(18,uN)],[(19,oL v7.bD eV)],by kernel_rfl⟩
   cases cE;exact⟨[(3,bT cl),(9,bF bw),(13,bF (bG cl)),(18,uN)],[(19,oL v7.bD eV),(76,bF (bG cl))],by kernel_rfl⟩
  refine bc cE (fun cT cE=> ?_) fun cT cE=> ?_
  ·cases cE;exact⟨[(3,bF cl),(9,bF rfl),(13,bT (bS cl)),(18,bT cT)],[(73,bT cT),(76,bT (bS cl))],by kernel_rfl⟩
  cases cE;exact⟨[(3,bF cl),(9,bF rfl),(13,bT (bS cl)),(18,bF cT)],[(67,oL v7.aM.xL dg),(73,bF cT),(76,bT (bS cl))],by kernel_rfl⟩
 refine bc hF (fun eR hF=> ?_) fun eR hF=> ?_
 ·cases hF;exact wr af [[(0,bT eR)],[]]
 exact wb af aO () [[(0,bF eR)],[(5,oq (dj bC rfl bU))]] bC hF
def HO(N:Nat):ak5 ((ak3 ak4)):=
 some [(bs [115,105,122,101]),(bs [119,104,101,114,101]),(bs [105,110]),(bs [100,101,102]),(bs [111,117,116]),(bs [115,117,109]),(bs [112,114,111,100]),(bs [109,105,110]),(bs [109,97,120]),(bs [115,99,97,110]),(bs [111,118,101,114]),(bs [105,102]),(bs [99,97,115,116]),(bs [102,114,97,99]),(bs [105,110,116]),(bs [102,105,120]),(bs [99,101,105,108]),(bs [102,108,111,111,114]),(bs [122,101,114,111]),(bs [101,118,101,110]),(bs [115,97,116]),(bs [119,114,97,112])]
theorem Zh(N:Nat)(r:(ak3 ak4))(hF:HO N=some r):aG Tryz.prog 245 [] (·=(.d (.sl (gx r)))):=by
 rw[HO]at hF;refine aR Tryz.func245 ?_;cases hF;exact wr af [[],[]]
def xy(N:Nat)(v2:ak4):ak3 ak4→Nat→ak5 Bool
 |[],_=>
  some false
 |v5::v6,v3=>
  bif (bL v5==bL v2)then
   some true
  else
   (xy N v2 v6 (v3+1))
def F2(N:Nat)(v1:ak3 ak4)(v2:ak4):ak5 Bool:=
 xy N v2 v1 0
theorem afZ(N:Nat)(v1:ak3 ak4)(v2:ak4)(r:Bool)(hF:F2 N v1 v2=some r):aG Tryz.prog 90 [(.d (.sl (gx v1))),(aS v2)] (·=(aB r)):=by
 rw[F2]at hF;refine aR Tryz.func90 ?_;refine au af [[],[]] ?_;refine fP M8 0 v1 fun h2=> ?_;refine fJ af 1 [] [0,1,5] 0 v1 (fun v3=>⟨18,[(0,(.d (.sl (gx v1)))),(1,(aS v2)),(5,(aw (v3:Int)))],[]⟩) (xy N v2) hF ?_ ?_
 ·intro v3 h3 hF f1;rw[xy]at hF;cases hF;exact wr af [[(7,oL v1 AH)],[(0,bF (cM h3))],[]]
 intro v3 v5 v6 h3 hF f1 aO;rw[xy]at hF;refine au af [[(7,oL v1 AH)],[(0,bT (cF h3))],[(7,oE (EH (cd h3)))]] ?_;refine bc hF (fun h4 hF=> ?_) fun h4 hF=> ?_
 ·cases hF;exact wr af [[(0,bT h4)],[]]
 exact wb af aO () [[(0,bF h4)],[(5,oq (dj h3 rfl h2))]] h3 hF
def wc(N:Nat)(v1:ak4):Nat→Int→ak5 Bool
 |0,_=>none
 |v5+1,v6=>
  bif (decide (v6<(v1.size:Int)))then
   bif (decide ((0:Int)≤v6))then
   Option.bind (v1[(v6).toNat]?) fun v7=>
   Option.bind (bif (decide ((v7.toNat:Int)≥(97:Int)))then(bif (decide ((v7.toNat:Int)≤(122:Int)))then some (!true)else(bif (decide (v6>(0:Int)))then(bif (decide ((v7.toNat:Int)≥(48:Int)))then(bif (decide ((v7.toNat:Int)≤(57:Int)))then some (!true)else some (!((v7.toNat:Int)==(95:Int))))else some (!((v7.toNat:Int)==(95:Int))))else some (!false)))else(bif (decide (v6>(0:Int)))then(bif (decide ((v7.toNat:Int)≥(48:Int)))then(bif (decide ((v7.toNat:Int)≤(57:Int)))then some (!true)else some (!((v7.toNat:Int)==(95:Int))))else some (!((v7.toNat:Int)==(95:Int))))else some (!false))) fun v8=>
   bif v8 then
    some false
   else
    (fun cX=>wc N v1 v5 cX) (aQ (v6+(1:Int)))
   else none
  else
   some true
def xC(N:Nat)(v1:ak4):ak5 Bool:=
 Option.bind (bif (decide ((v1.size:Int)<(1:Int)))then some true else(bif (decide ((v1.size:Int)>(16:Int)))then some true else Option.bind (HO N) fun v2=>
 Option.bind (F2 N v2 v1) fun v3=>
 some v3)) fun v4=>
 bif v4 then
  some false
 else
  wc N v1 N (0:Int)
theorem yi(N:Nat)(v1:ak4)(r:Bool)(hF:xC N v1=some r):aG Tryz.prog 191 [(aS v1)] (·=(aB r)):=by
 rw[xC]at hF;refine aR Tryz.func191 ?_;refine au af [[]] ?_;obtain⟨v4,h5,hF⟩:=ao hF;refine bf af [(17,(aB v4))] [] ?_ ?_
 ·refine bc h5 (fun h1 h5=> ?_) fun h1 h5=> ?_
  ·cases h5;exact⟨[(3,bT h1),(8,bT rfl)],[],by kernel_rfl⟩
  refine bc h5 (fun h2 h5=> ?_) fun h2 h5=> ?_
  ·cases h5;exact⟨[(3,bF h1),(8,bT h2)],[],by kernel_rfl⟩
  obtain⟨v2,h3,h5⟩:=ao h5;obtain⟨v3,h4,h5⟩:=ao h5;obtain rfl:=sj h5;exact⟨[(3,bF h1),(8,bF h2)],[(28,cL (Zh N v2 h3)),(34,cL (afZ N v2 v1 v3 h4))],by kernel_rfl⟩
 refine bc hF (fun h6 hF=> ?_) fun h6 hF=> ?_
 ·cases hF;exact wr af [[(0,bT h6)],[]]
 refine KF af 1 [[(0,bF h6)],[]] [0,3] 0 (fun(v6:Int)=>⟨50,[(0,(aS v1)),(3,(aw v6))],[]⟩) (wc N v1) N (0:Int) hF ?_;intro v5 v6 hF f1 aO;rw[wc]at hF;refine au af [[]] ?_;refine bc hF (fun h7 hF=> ?_) fun h7 hF=> ?_
 ·obtain⟨h9,hF⟩:=dp hF;obtain⟨v7,h8,hF⟩:=ao hF;refine au af [[(0,bT h7)],[(7,⟨_,_, .ch (i:=v6) (of_decide_eq_true h9) h8⟩)]] ?_;obtain⟨v8,aZ,hF⟩:=ao hF;refine bf af [(49,(aB v8))] [] ?_ ?_
  ·refine bc aZ (fun az aZ=> ?_) fun az aZ=> ?_
   ·refine bc aZ (fun aE aZ=> ?_) fun aE aZ=> ?_
    ·cases aZ;exact⟨[(2,bT az),(6,bT aE),(9,uN),(12,uN),(16,uN)],[],by kernel_rfl⟩
    refine bc aZ (fun aK aZ=> ?_) fun aK aZ=> ?_
    ·refine bc aZ (fun aY aZ=> ?_) fun aY aZ=> ?_
     ·refine bc aZ (fun aJ aZ=> ?_) fun aJ aZ=> ?_
      ·cases aZ;exact⟨[(2,bT az),(6,bF aE),(9,bT aK),(12,bT aY),(16,bT aJ)],[(46,bT aY),(58,bT aJ),(61,bT aK)],by kernel_rfl⟩
      cases aZ;exact⟨[(2,bT az),(6,bF aE),(9,bT aK),(12,bT aY),(16,bF aJ)],[(46,bT aY),(58,bF aJ),(61,bT aK)],by kernel_rfl⟩
     cases aZ;exact⟨[(2,bT az),(6,bF aE),(9,bT aK),(12,bF aY),(16,bF rfl)],[(46,bF aY),(58,bF rfl),(61,bT aK)],by kernel_rfl⟩
    cases aZ;exact⟨[(2,bT az),(6,bF aE),(9,bF aK),(12,uN),(16,uN)],[(61,bF aK)],by kernel_rfl⟩
   refine bc aZ (fun bp aZ=> ?_) fun bp aZ=> ?_
   ·refine bc aZ (fun aL aZ=> ?_) fun aL aZ=> ?_
    ·refine bc aZ (fun bn aZ=> ?_) fun bn aZ=> ?_
     ·cases aZ;exact⟨[(2,bF az),(6,bF rfl),(9,bT bp),(12,bT aL),(16,bT bn)],[(46,bT aL),(58,bT bn),(61,bT bp)],by kernel_rfl⟩
     cases aZ;exact⟨[(2,bF az),(6,bF rfl),(9,bT bp),(12,bT aL),(16,bF bn)],[(46,bT aL),(58,bF bn),(61,bT bp)],by kernel_rfl⟩
    cases aZ;exact⟨[(2,bF az),(6,bF rfl),(9,bT bp),(12,bF aL),(16,bF rfl)],[(46,bF aL),(58,bF rfl),(61,bT bp)],by kernel_rfl⟩
   cases aZ;exact⟨[(2,bF az),(6,bF rfl),(9,bF bp),(12,uN),(16,uN)],[(61,bF bp)],by kernel_rfl⟩
  refine bc hF (fun bU hF=> ?_) fun bU hF=> ?_
  ·cases hF;exact wr af [[(0,bT bU)],[]]
  exact AE af aO (aQ (v6+(1:Int))) [[(0,bF bU)],[]] hF
 cases hF;exact wr af [[(0,bF h7)],[]]
def vr(N:Nat):ak3 aH→Nat→ak5 Bool
 |[],_=>
  some true
 |v6::v7,v4=>
  Option.bind (bif (bL v6.xFrom==bL (bs []))then some false else Option.bind (xC N v6.xFrom) fun v8=>
  some (!v8)) fun v9=>
  bif v9 then
   some false
  else
   (vr N v7 (v4+1))
def Ew(N:Nat)(v1:an):ak5 Bool:=
 Option.bind (bif (v1.ar==(3:Int))then Option.bind (xC N v1.aV) fun v2=>
 some (!v2)else some false) fun v3=>
 bif v3 then
  some false
 else
  vr N v1.xIdx 0
theorem aiq(N:Nat)(v1:an)(r:Bool)(hF:Ew N v1=some r):aG Tryz.prog 121 [(aA v1)] (·=(aB r)):=by
 rw[Ew]at hF;refine aR Tryz.func121 ?_;refine au af [[]] ?_;obtain⟨v3,h3,hF⟩:=ao hF;refine bf af [(12,(aB v3))] [.cells (aA v1).cells] ?_ ?_
 ·refine bc h3 (fun h1 h3=> ?_) fun h1 h3=> ?_
  ·obtain⟨v2,h2,h3⟩:=ao h3;cases h3;exact⟨[(3,bT h1)],[(19,cL (yi N v1.aV v2 h2))],by kernel_rfl⟩
  cases h3;exact⟨[(3,bF h1)],[],by kernel_rfl⟩
 refine bc hF (fun h4 hF=> ?_) fun h4 hF=> ?_
 ·cases hF;exact wr af [[(0,bT h4)],[]]
 refine au af [[(0,bF h4)],[]] ?_;refine kh mV 0 11 v1.xIdx fun h6=> ?_;refine fJ af 1 [] [1,3] 1 v1.xIdx (fun v4=>⟨37,[(1,(.ptr 0 0)),(3,(aw (v4:Int)))],[.cells (aA v1).cells]⟩) (vr N) hF ?_ ?_
 ·intro v4 h7 hF f1;rw[vr]at hF;cases hF;exact wr af [[(10,oL v1.xIdx dP)],[(0,bF (cM h7))],[]]
 intro v4 v6 v7 h7 hF f1 aO;rw[vr]at hF;refine au af [[(10,oL v1.xIdx dP)],[(0,bT (cF h7))]] ?_;obtain⟨v9,az,hF⟩:=ao hF;refine bf af [(36,(aB v9))] [.cells (aA v1).cells] ?_ ?_
 ·refine bc az (fun h8 az=> ?_) fun h8 az=> ?_
  ·cases az;exact⟨[(7,bF (bG h8))],[(10,oE (fI (cd h7)))],by kernel_rfl⟩
  obtain⟨v8,h9,az⟩:=ao az;cases az;exact⟨[(7,bT (bS h8))],[(10,oE (fI (cd h7))),(34,oE (fI (cd h7))),(43,cL (yi N v6.xFrom v8 h9))],by kernel_rfl⟩
 refine bc hF (fun aE hF=> ?_) fun aE hF=> ?_
 ·cases hF;exact wr af [[(0,bT aE)],[]]
 exact wb af aO () [[(0,bF aE)],[(5,oq (dj h7 rfl h6))]] h7 hF
def A0(N:Nat)(v1:Int)(v3:Bool):ak5 Int:=
 bif v3 then
  some (1:Int)
 else
  bif (v1==(11:Int))then
   some (3:Int)
  else
   some (2:Int)
def yQ(N:Nat)(v1:Int)(v2:Bool):ak5 Int:=
 bif v2 then
  some (0:Int)
 else
  bif (v1==(8:Int))then
   A0 N v1 (v1==(8:Int))
  else
   bif (v1==(12:Int))then
    A0 N v1 (v1==(12:Int))
   else
    A0 N v1 (v1==(18:Int))
def Eo(N:Nat)(v1:Int):ak5 Int:=
 bif (v1==(1:Int))then
  yQ N v1 (v1==(1:Int))
 else
  bif (v1==(2:Int))then
   yQ N v1 (v1==(2:Int))
  else
   yQ N v1 (v1==(3:Int))
theorem Vo(N:Nat)(v1:Int)(r:Int)(hF:Eo N v1=some r):aG Tryz.prog 192 [(aw v1)] (·=(aw r)):=by
 rw[Eo]at hF;refine aR Tryz.func192 ?_;refine gY af r 1 [[],[],[]] [3,4] 0 (fun(v2:Bool)=>⟨14,[(3,(aw v1)),(4,(aB v2))],[]⟩) (yQ N v1) ?_ ?_
 ·intro f1 aO;refine bc hF (fun h6 hF=> ?_) fun h6 hF=> ?_
  ·exact bP af aO (v1==(1:Int)) [[(0,bT h6)]] hF
  refine au af [[(0,bF h6)],[]] ?_;refine bc hF (fun h7 hF=> ?_) fun h7 hF=> ?_
  ·exact bP af aO (v1==(2:Int)) [[(0,bT h7)]] hF
  exact bP af aO (v1==(3:Int)) [[(0,bF h7)],[]] hF
 intro v2 hF;rw[yQ]at hF;refine bc hF (fun h1 hF=> ?_) fun h1 hF=> ?_
 ·cases hF;exact wr af [[(0,bT h1)],[]]
 refine gY af r 2 [[(0,bF h1)],[]] [3,8] 0 (fun(v3:Bool)=>⟨14,[(3,(aw v1)),(8,(aB v3))],[]⟩) (A0 N v1) ?_ ?_
 ·intro f2 eH;refine bc hF (fun h4 hF=> ?_) fun h4 hF=> ?_
  ·exact bP af eH (v1==(8:Int)) [[(0,bT h4)]] hF
  refine au af [[(0,bF h4)],[]] ?_;refine bc hF (fun h5 hF=> ?_) fun h5 hF=> ?_
  ·exact bP af eH (v1==(12:Int)) [[(0,bT h5)]] hF
  exact bP af eH (v1==(18:Int)) [[(0,bF h5)],[]] hF
 intro v3 hF;rw[A0]at hF;refine bc hF (fun h2 hF=> ?_) fun h2 hF=> ?_
 ·cases hF;exact wr af [[(0,bT h2)],[]]
 refine au af [[(0,bF h2)],[]] ?_;refine bc hF (fun h3 hF=> ?_) fun h3 hF=> ?_
 ·cases hF;exact wr af [[(0,bT h3)],[]]
 cases hF;exact wr af [[(0,bF h3)],[]]
def xM(N:Nat):ak3 aH→Nat→ak5 Bool
 |[],_=>
  some true
 |v6::v7,v4=>
  bif (decide ((v6.bD.length:Int)>(6:Int)))then
   some false
  else
   (xM N v7 (v4+1))
def FL(N:Nat)(v1:an):ak5 Bool:=
 Option.bind (Eo N v1.ar) fun v2=>
 Option.bind (bif ((v1.ax.length:Int) !=v2)then some true else some (decide ((v1.xIdx.length:Int)>(6:Int)))) fun v3=>
 bif v3 then
  some false
 else
  xM N v1.xIdx 0
theorem aju(N:Nat)(v1:an)(r:Bool)(hF:FL N v1=some r):aG Tryz.prog 122 [(aA v1)] (·=(aB r)):=by
 rw[FL]at hF;refine aR Tryz.func122 ?_;refine au af [[]] ?_;obtain⟨v2,h1,hF⟩:=ao hF;obtain⟨v3,h3,hF⟩:=ao hF;refine bf af [(16,(aB v3))] [.cells (aA v1).cells] ?_ ?_
 ·refine bc h3 (fun h2 h3=> ?_) fun h2 h3=> ?_
  ·cases h3;exact⟨[(7,bT h2)],[(7,oL v1.ax dC),(16,cL (Vo N v1.ar v2 h1))],by kernel_rfl⟩
  cases h3;exact⟨[(7,bF h2)],[(7,oL v1.ax dC),(16,cL (Vo N v1.ar v2 h1)),(31,oL v1.xIdx dP)],by kernel_rfl⟩
 refine bc hF (fun h4 hF=> ?_) fun h4 hF=> ?_
 ·cases hF;exact wr af [[(0,bT h4)],[]]
 refine au af [[(0,bF h4)],[]] ?_;refine kh mV 0 11 v1.xIdx fun h6=> ?_;refine fJ af 1 [] [1,3] 1 v1.xIdx (fun v4=>⟨32,[(1,(.ptr 0 0)),(3,(aw (v4:Int)))],[.cells (aA v1).cells]⟩) (xM N) hF ?_ ?_
 ·intro v4 h7 hF f1;rw[xM]at hF;cases hF;exact wr af [[(10,oL v1.xIdx dP)],[(0,bF (cM h7))],[]]
 intro v4 v6 v7 h7 hF f1 aO;rw[xM]at hF;refine au af [[(10,oL v1.xIdx dP)],[(0,bT (cF h7))],[(10,oE (fI (cd h7))),(19,oL v6.bD eV)]] ?_;refine bc hF (fun h8 hF=> ?_) fun h8 hF=> ?_
 ·cases hF;exact wr af [[(0,bT h8)],[]]
 exact wb af aO () [[(0,bF h8)],[(5,oq (dj h7 rfl h6))]] h7 hF
def yR(N:Nat)(v1:an):ak5 Bool:=
 Option.bind (bif (decide (v1.ar≥(13:Int)))then some (decide (v1.ar≤(18:Int)))else some false) fun v2=>
 some v2
theorem Ry(N:Nat)(v1:an)(r:Bool)(hF:yR N v1=some r):aG Tryz.prog 63 [(aA v1)] (·=(aB r)):=by
 rw[yR]at hF;refine aR Tryz.func63 ?_;refine au af [[]] ?_;obtain⟨v2,h2,hF⟩:=ao hF;refine bf af [(2,(aB v2))] [.cells (aA v1).cells] ?_ ?_
 ·refine bc h2 (fun h1 h2=> ?_) fun h1 h2=> ?_
  ·cases h2;exact⟨[(3,bT h1)],[],by kernel_rfl⟩
  cases h2;exact⟨[(3,bF h1)],[],by kernel_rfl⟩
 cases hF;exact wr af []
def Co(N:Nat)(v1:Int)(v2:Int):ak5 Bool:=
 Option.bind (bif (v1==(11:Int))then(bif (v2==(0:Int))then some true else(bif (v1==(16:Int))then some true else(bif (v1==(17:Int))then some true else some (v1==(18:Int)))))else(bif (v1==(16:Int))then some true else(bif (v1==(17:Int))then some true else some (v1==(18:Int))))) fun v3=>
 some v3
theorem aeA(N:Nat)(v1:Int)(v2:Int)(r:Bool)(hF:Co N v1 v2=some r):aG Tryz.prog 193 [(aw v1),(aw v2)] (·=(aB r)):=by
 rw[Co]at hF;refine aR Tryz.func193 ?_;refine au af [[]] ?_;obtain⟨v3,h7,hF⟩:=ao hF;refine bf af [(4,(aB v3))] [] ?_ ?_
 ·refine bc h7 (fun h1 h7=> ?_) fun h1 h7=> ?_
  ·refine bc h7 (fun h2 h7=> ?_) fun h2 h7=> ?_
   ·cases h7;exact⟨[(2,bT h1),(6,bT h2),(10,bT rfl),(14,bT rfl)],[],by kernel_rfl⟩
   refine bc h7 (fun h3 h7=> ?_) fun h3 h7=> ?_
   ·cases h7;exact⟨[(2,bT h1),(6,bF h2),(10,bT h3),(14,bT rfl)],[],by kernel_rfl⟩
   refine bc h7 (fun h4 h7=> ?_) fun h4 h7=> ?_
   ·cases h7;exact⟨[(2,bT h1),(6,bF h2),(10,bF h3),(14,bT h4)],[],by kernel_rfl⟩
   cases h7;exact⟨[(2,bT h1),(6,bF h2),(10,bF h3),(14,bF h4)],[],by kernel_rfl⟩
  refine bc h7 (fun h5 h7=> ?_) fun h5 h7=> ?_
  ·cases h7;exact⟨[(2,bF h1),(6,bF rfl),(10,bT h5),(14,bT rfl)],[],by kernel_rfl⟩
  refine bc h7 (fun h6 h7=> ?_) fun h6 h7=> ?_
  ·cases h7;exact⟨[(2,bF h1),(6,bF rfl),(10,bF h5),(14,bT h6)],[],by kernel_rfl⟩
  cases h7;exact⟨[(2,bF h1),(6,bF rfl),(10,bF h5),(14,bF h6)],[],by kernel_rfl⟩
 cases hF;exact wr af []
def vO(N:Nat)(v1:an):ak3 an→Nat→ak5 Bool
 |[],_=>
  some true
 |v7::v8,v5=>
  Option.bind (yR N v7) fun v9=>
  Option.bind (Co N v1.ar (v5:Int)) fun v10=>
  bif (v9==v10)then
   (vO N v1 v8 (v5+1))
  else
   some false
def CK(N:Nat)(v1:an):ak5 Bool:=
 Option.bind (bif (v1.ar==(1:Int))then Option.bind (ma N v1.aD) fun v2=>
 some (!v2)else(bif (v1.ar==(12:Int))then Option.bind (ma N v1.aD) fun v3=>
 some (!v3)else some false)) fun v4=>
 bif v4 then
  some false
 else
  vO N v1 v1.ax 0
theorem ah4(N:Nat)(v1:an)(r:Bool)(hF:CK N v1=some r):aG Tryz.prog 123 [(aA v1)] (·=(aB r)):=by
 rw[CK]at hF;refine aR Tryz.func123 ?_;refine au af [[]] ?_;obtain⟨v4,h5,hF⟩:=ao hF;refine bf af [(17,(aB v4))] [.cells (aA v1).cells] ?_ ?_
 ·refine bc h5 (fun h1 h5=> ?_) fun h1 h5=> ?_
  ·obtain⟨v2,h2,h5⟩:=ao h5;cases h5;exact⟨[(3,bT h1),(8,bT rfl)],[(34,cL (mO N v1.aD v2 h2))],by kernel_rfl⟩
  refine bc h5 (fun h3 h5=> ?_) fun h3 h5=> ?_
  ·obtain⟨v3,h4,h5⟩:=ao h5;cases h5;exact⟨[(3,bF h1),(8,bT h3)],[(34,cL (mO N v1.aD v3 h4))],by kernel_rfl⟩
  cases h5;exact⟨[(3,bF h1),(8,bF h3)],[],by kernel_rfl⟩
 refine bc hF (fun h6 hF=> ?_) fun h6 hF=> ?_
 ·cases hF;exact wr af [[(0,bT h6)],[]]
 refine au af [[(0,bF h6)],[]] ?_;refine kh lf 0 12 v1.ax fun h8=> ?_;refine fJ af 1 [] [1,3] 1 v1.ax (fun v5=>⟨36,[(1,(.ptr 0 0)),(3,(aw (v5:Int)))],[.cells (aA v1).cells]⟩) (vO N v1) hF ?_ ?_
 ·intro v5 h9 hF f1;rw[vO]at hF;cases hF;exact wr af [[(10,oL v1.ax dC)],[(0,bF (cM h9))],[]]
 intro v5 v7 v8 h9 hF f1 aO;rw[vO]at hF;obtain⟨v9,az,hF⟩:=ao hF;obtain⟨v10,aE,hF⟩:=ao hF;refine au af [[(10,oL v1.ax dC)],[(0,bT (cF h9))],[(10,oE (bt (cd h9))),(16,cL (Ry N v7 v9 az)),(28,cL (aeA N v1.ar (v5:Int) v10 aE))]] ?_;refine bc hF (fun aK hF=> ?_) fun aK hF=> ?_
 ·exact wb af aO () [[(0,bF (bG aK))],[(5,oq (dj h9 rfl h8))]] h9 hF
 cases hF;exact wr af [[(0,bT (bS aK))],[]]
def zg(N:Nat):Nat→Int64→Int64→ak5 Int64
 |0,_,_=>none
 |v3+1,v4,v5=>
  bif (v5.toInt !=(0:Int))then
   (fun cX fX=>zg N v3 cX fX) v5 (Int64.ofInt ((v4.toInt).tmod v5.toInt))
  else
   some v4
def GC(N:Nat)(v1:Int64)(v2:Int64):ak5 Int64:=
 zg N N v1 v2
theorem abX(N:Nat)(v1:Int64)(v2:Int64)(r:Int64)(hF:GC N v1 v2=some r):aG Tryz.prog 246 [(aI v1),(aI v2)] (·=(aI r)):=by
 rw[GC]at hF;refine aR Tryz.func246 ?_;refine OP af 1 [[]] [0,1] 0 (fun(v4:Int64)(v5:Int64)=>⟨12,[(0,(aI v4)),(1,(aI v5))],[]⟩) (zg N) N v1 v2 hF ?_;intro v3 v4 v5 hF f1 aO;rw[zg]at hF;refine au af [[]] ?_;refine bc hF (fun h1 hF=> ?_) fun h1 hF=> ?_
 ·exact AE af aO (v5,(Int64.ofInt ((v4.toInt).tmod v5.toInt))) [[(0,bT h1)],[(10,⟨_,_, .nz (b:=v5.toInt) (bne_iff_ne.1 h1)⟩),(11,⟨_,_, .eq (Ep v4 v5.toInt)⟩)]] hF
 cases hF;exact wr af [[(0,bF h1)],[]]
def mA(N:Nat)(v1:aC)(v2:ay):ak5 Bool:=
 bif (v1.a8==(2:Int))then
  bif (decide ((0:Int)≤(aQ (v1.bz-(1:Int)))))then
  Option.bind (bif (v2.xD.toInt==(1:Int))then(bif (decide (v2.xN.toInt≥(-(Int64.ofInt ((1:Int)*2^(min ((aQ (v1.bz-(1:Int)))).toNat (IntKind.bits .i64))))).toInt))then some (decide (v2.xN.toInt<(Int64.ofInt ((1:Int)*2^(min ((aQ (v1.bz-(1:Int)))).toNat (IntKind.bits .i64)))).toInt))else some false)else some false) fun v3=>
  some v3
  else none
 else
  Option.bind (bif (decide (v2.xN.toInt>(2147483647:Int)))then some true else(bif (decide (v2.xN.toInt<(-2147483647:Int)))then some true else(bif (decide (v2.xD.toInt<(1:Int)))then some true else some (decide (v2.xD.toInt>(2147483647:Int)))))) fun v4=>
  bif v4 then
   some false
  else
   bif (v1.a8==(3:Int))then
    some (v2.xD.toInt==(1:Int))
   else
    Option.bind (GC N (nH v2.xN (-v2.xN)) v2.xD) fun v5=>
    some (v5.toInt==(1:Int))
theorem pe(N:Nat)(v1:aC)(v2:ay)(r:Bool)(hF:mA N v1 v2=some r):aG Tryz.prog 194 [(bY v1),(bj v2)] (·=(aB r)):=by
 rw[mA]at hF;refine aR Tryz.func194 ?_;refine au af [[],[]] ?_;refine bc hF (fun h1 hF=> ?_) fun h1 hF=> ?_
 ·obtain⟨h2,hF⟩:=dp hF;refine au af [[(0,bT h1)],[(10,⟨_,_, .nn (b:=(aQ (v1.bz-(1:Int)))) (of_decide_eq_true h2)⟩),(11,⟨_,_, .eq (eP ((1:Int)*2^(min ((aQ (v1.bz-(1:Int)))).toNat (IntKind.bits .i64))))⟩)]] ?_;obtain⟨v3,h5,hF⟩:=ao hF;refine bf af [(4,(aB v3))] [.cells (bY v1).cells, .cells (bj v2).cells] ?_ ?_
  ·refine bc h5 (fun h3 h5=> ?_) fun h3 h5=> ?_
   ·refine bc h5 (fun h4 h5=> ?_) fun h4 h5=> ?_
    ·cases h5;exact⟨[(3,bT h3),(10,bT h4)],[(23,⟨_,_, .eq (jO (Int64.ofInt ((1:Int)*2^(min ((aQ (v1.bz-(1:Int)))).toNat (IntKind.bits .i64)))))⟩)],by kernel_rfl⟩
    cases h5;exact⟨[(3,bT h3),(10,bF h4)],[(23,⟨_,_, .eq (jO (Int64.ofInt ((1:Int)*2^(min ((aQ (v1.bz-(1:Int)))).toNat (IntKind.bits .i64)))))⟩)],by kernel_rfl⟩
   cases h5;exact⟨[(3,bF h3),(10,bF rfl)],[],by kernel_rfl⟩
  cases hF;exact wr af []
 refine au af [[(0,bF h1)]] ?_;obtain⟨v4,h9,hF⟩:=ao hF;refine bf af [(46,(aB v4))] [.cells (bY v1).cells, .cells (bj v2).cells] ?_ ?_
 ·refine bc h9 (fun h6 h9=> ?_) fun h6 h9=> ?_
  ·cases h9;exact⟨[(3,bT h6),(8,bT rfl),(13,bT rfl)],[],by kernel_rfl⟩
  refine bc h9 (fun h7 h9=> ?_) fun h7 h9=> ?_
  ·cases h9;exact⟨[(3,bF h6),(8,bT h7),(13,bT rfl)],[],by kernel_rfl⟩
  refine bc h9 (fun h8 h9=> ?_) fun h8 h9=> ?_
  ·cases h9;exact⟨[(3,bF h6),(8,bF h7),(13,bT h8)],[],by kernel_rfl⟩
  cases h9;exact⟨[(3,bF h6),(8,bF h7),(13,bF h8)],[],by kernel_rfl⟩
 refine bc hF (fun az hF=> ?_) fun az hF=> ?_
 ·cases hF;exact wr af [[(0,bT az)],[]]
 refine au af [[(0,bF az)],[]] ?_;refine bc hF (fun aE hF=> ?_) fun aE hF=> ?_
 ·cases hF;exact wr af [[(0,bT aE)],[]]
 obtain⟨v5,aK,hF⟩:=ao hF;cases hF;exact wr af [[(0,bF aE)],[(14,⟨_,_, .eq (jO v2.xN)⟩),(17,⟨_,_, .eq (Rq v2.xN (-v2.xN))⟩),(25,cL (abX N (nH v2.xN (-v2.xN)) v2.xD v5 aK))]]
def we(N:Nat)(v1:aF):ak3 aU→Nat→ak5 Bool
 |[],_=>
  some true
 |v4::v5,v2=>
  Option.bind (xC N v4.aV) fun v6=>
  Option.bind (bif v6 then(bif (v4.cN.toInt==(0:Int))then some true else(bif (decide ((v2:Int)>(0:Int)))then bif (decide ((0:Int)≤(aQ ((v2:Int)-(1:Int)))))then
  Option.bind (v1.xL[((aQ ((v2:Int)-(1:Int)))).toNat]?) fun v7=>
  some (!(Op.bytesLess (bL v7.aV) (bL v4.aV)))
  else none else some false))else some true) fun v8=>
  bif v8 then
   some false
  else
   (we N v1 v5 (v2+1))
def uc(N:Nat)(v1:aF):ak5 Bool:=
 we N v1 v1.xL 0
theorem DN(N:Nat)(v1:aF)(r:Bool)(hF:uc N v1=some r):aG Tryz.prog 159 [(b9 v1)] (·=(aB r)):=by
 rw[uc]at hF;refine aR Tryz.func159 ?_;refine au af [[],[]] ?_;refine kh n7 0 1 v1.xL fun h2=> ?_;refine fJ af 1 [] [1,3] 1 v1.xL (fun v2=>⟨48,[(1,(.ptr 0 0)),(3,(aw (v2:Int)))],[.cells (b9 v1).cells]⟩) (we N v1) hF ?_ ?_
 ·intro v2 h3 hF f1;rw[we]at hF;cases hF;exact wr af [[(10,oL v1.xL dg)],[(0,bF (cM h3))],[]]
 intro v2 v4 v5 h3 hF f1 aO;rw[we]at hF;refine au af [[(10,oL v1.xL dg)],[(0,bT (cF h3))]] ?_;obtain⟨v6,h4,hF⟩:=ao hF;obtain⟨v8,az,hF⟩:=ao hF;refine bf af [(47,(aB v8))] [.cells (b9 v1).cells] ?_ ?_
 ·refine bc az (fun h5 az=> ?_) fun h5 az=> ?_
  ·refine bc az (fun h6 az=> ?_) fun h6 az=> ?_
   ·cases az;exact⟨[(8,bF (bG h5)),(17,bT h6),(20,uN)],[(10,oE (eQ (cd h3))),(19,cL (yi N v4.aV v6 h4)),(37,oE (eQ (cd h3)))],by kernel_rfl⟩
   refine bc az (fun h7 az=> ?_) fun h7 az=> ?_
   ·obtain⟨h9,az⟩:=dp az;obtain⟨v7,h8,az⟩:=ao az;cases az;exact⟨[(8,bF (bG h5)),(17,bF h6),(20,bT h7)],[(10,oE (eQ (cd h3))),(19,cL (yi N v4.aV v6 h4)),(37,oE (eQ (cd h3))),(76,⟨_,_, .el (xs:=b5 v1.xL) (i:=(aQ ((v2:Int)-(1:Int)))) (of_decide_eq_true h9) (eQ h8)⟩),(94,oE (eQ (cd h3))),(106,bT h7)],by kernel_rfl⟩
   cases az;exact⟨[(8,bF (bG h5)),(17,bF h6),(20,bF h7)],[(10,oE (eQ (cd h3))),(19,cL (yi N v4.aV v6 h4)),(37,oE (eQ (cd h3))),(106,bF h7)],by kernel_rfl⟩
  cases az;exact⟨[(8,bT (bS h5)),(17,bT rfl),(20,uN)],[(10,oE (eQ (cd h3))),(19,cL (yi N v4.aV v6 h4))],by kernel_rfl⟩
 refine bc hF (fun aE hF=> ?_) fun aE hF=> ?_
 ·cases hF;exact wr af [[(0,bT aE)],[]]
 exact wb af aO () [[(0,bF aE)],[(5,oq (dj h3 rfl h2))]] h3 hF
def wL(N:Nat)(mw:ak5 Bool):ak3 aF→Nat→ak5 Bool
 |[],_=>
  mw
 |aX::bu,v11=>
  Option.bind (uc N aX) fun bN=>
  bif bN then
   (wL N mw bu (v11+1))
  else
   some false
def sG(N:Nat):ak3 aH→Nat→ak5 Bool
 |[],_=>
  some true
 |v8::v9,v6=>
  Option.bind (uc N v8.aM) fun v10=>
  bif v10 then
   wL N (sG N v9 (v6+1)) v8.bD 0
  else
   some false
def D6(N:Nat)(v1:an):ak5 Bool:=
 Option.bind (bif (v1.ar==(1:Int))then Option.bind (mA N v1.aD v1.ba) fun v2=>
 (bif v2 then Option.bind (uc N v1.aM) fun v3=>
 some (!v3)else some true)else Option.bind (uc N v1.aM) fun v4=>
 some (!v4)) fun v5=>
 bif v5 then
  some false
 else
  sG N v1.xIdx 0
theorem ZU(N:Nat)(v1:an)(r:Bool)(hF:D6 N v1=some r):aG Tryz.prog 124 [(aA v1)] (·=(aB r)):=by
 rw[D6]at hF;refine aR Tryz.func124 ?_;refine au af [[]] ?_;obtain⟨v5,h6,hF⟩:=ao hF;refine bf af [(21,(aB v5))] [.cells (aA v1).cells] ?_ ?_
 ·refine bc h6 (fun h1 h6=> ?_) fun h1 h6=> ?_
  ·obtain⟨v2,h2,h6⟩:=ao h6;refine bc h6 (fun h3 h6=> ?_) fun h3 h6=> ?_
   ·obtain⟨v3,h4,h6⟩:=ao h6;cases h6;exact⟨[(3,bT h1),(11,bF (bG h3))],[(25,cL (pe N v1.aD v1.ba v2 h2)),(43,cL (DN N v1.aM v3 h4))],by kernel_rfl⟩
   cases h6;exact⟨[(3,bT h1),(11,bT (bS h3))],[(25,cL (pe N v1.aD v1.ba v2 h2))],by kernel_rfl⟩
  obtain⟨v4,h5,h6⟩:=ao h6;cases h6;exact⟨[(3,bF h1),(11,bF rfl)],[(43,cL (DN N v1.aM v4 h5))],by kernel_rfl⟩
 refine bc hF (fun h7 hF=> ?_) fun h7 hF=> ?_
 ·cases hF;exact wr af [[(0,bT h7)],[]]
 refine au af [[(0,bF h7)],[]] ?_;refine kh mV 0 11 v1.xIdx fun h9=> ?_;refine fJ af 1 [] [1,3] 1 v1.xIdx (fun v6=>⟨59,[(1,(.ptr 0 0)),(3,(aw (v6:Int)))],[.cells (aA v1).cells]⟩) (sG N) hF ?_ ?_
 ·intro v6 az hF f1;rw[sG]at hF;cases hF;exact wr af [[(10,oL v1.xIdx dP)],[(0,bF (cM az))],[]]
 intro v6 v8 v9 az hF f1 aO;rw[sG]at hF;obtain⟨v10,aE,hF⟩:=ao hF;refine au af [[(10,oL v1.xIdx dP)],[(0,bT (cF az))],[(10,oE (fI (cd az))),(19,cL (DN N v8.aM v10 aE))]] ?_;refine bc hF (fun aK hF=> ?_) fun aK hF=> ?_
 ·refine au af [[(0,bF (bG aK))],[]] ?_;refine OJ 0 11 (cm v1.xIdx) (by kernel_rfl) fun aY=> ?_;have aJ:v8.bD.length≤maxLen:=by rw[←eV];exact xq (On (j:=3) (d:= .sl (du v8.bD)) aY (fI (cd az)) rfl)
  refine fJ af 2 [] [1,3,4] 1 v8.bD (fun v11=>⟨59,[(1,(.ptr 0 0)),(3,(aw (v6:Int))),(4,(aw (v11:Int)))],[.cells (aA v1).cells]⟩) (wL N (sG N v9 (v6+1))) hF ?_ ?_
  ·intro v11 bp hF f2;rw[wL]at hF;exact wb af aO () [[(13,oE (fI (cd az))),(22,oL v8.bD eV)],[(0,bF (cM bp))],[(5,oq (dj az rfl h9))]] az hF
  intro v11 aX bu bp hF f2 eH;rw[wL]at hF;obtain⟨bN,aL,hF⟩:=ao hF;refine au af [[(13,oE (fI (cd az))),(22,oL v8.bD eV)],[(0,bT (cF bp))],[(10,oE (fI (cd az))),(22,oE (mR (cd bp))),(28,cL (DN N aX bN aL))]] ?_;refine bc hF (fun bn hF=> ?_) fun bn hF=> ?_
  ·exact wb af eH () [[(0,bF (bG bn))],[(5,oq (dj bp rfl aJ))]] bp hF
  cases hF;exact wr af [[(0,bT (bS bn))],[]]
 cases hF;exact wr af [[(0,bT (bS aK))],[]]
def wP(N:Nat)(Q5:an→ak5 Int):ak3 an→Nat→ak5 Int
 |[],_=>
  some (0:Int)
 |v9::v10,v7=>
  Option.bind (Q5 v9) fun v11=>
  bif (v11 !=(0:Int))then
   some v11
  else
   (wP N Q5 v10 (v7+1))
def qa(N:Nat):Nat→an→ak5 Int
 |0,_=>none
 |d+1,v1=>
  Option.bind (EM N v1) fun v2=>
  bif v2 then
   Option.bind (Ew N v1) fun v3=>
   bif v3 then
    Option.bind (FL N v1) fun v4=>
    bif v4 then
     Option.bind (CK N v1) fun v5=>
     bif v5 then
      Option.bind (D6 N v1) fun v6=>
      bif v6 then
       wP N (qa N d) v1.ax 0
      else
       some (1:Int)
     else
      some (10:Int)
    else
     some (11:Int)
   else
    some (7:Int)
  else
   some (5:Int)
def Mc(N:Nat)(v1:an):ak5 Int:=qa N N v1
theorem aa1(N:Nat):∀d:Nat,(∀(v1:an)(r:Int),qa N d v1=some r→aG Tryz.prog 60 [(aA v1)] (·=(aw r))):=by
 intro d
 induction d with
 |zero=>intro v1 r hF;rw[qa]at hF;cases hF
 |succ d ih=>
  have Ye:=ih;intro v1 r hF;rw[qa]at hF;refine aR Tryz.func60 ?_;obtain⟨v2,h1,hF⟩:=ao hF;refine au af [[],[(4,cL (aa6 N v1 v2 h1))]] ?_;refine bc hF (fun h2 hF=> ?_) fun h2 hF=> ?_
  ·obtain⟨v3,h3,hF⟩:=ao hF;refine au af [[(0,bF (bG h2))],[(4,cL (aiq N v1 v3 h3))]] ?_;refine bc hF (fun h4 hF=> ?_) fun h4 hF=> ?_
   ·obtain⟨v4,h5,hF⟩:=ao hF;refine au af [[(0,bF (bG h4))],[(4,cL (aju N v1 v4 h5))]] ?_;refine bc hF (fun h6 hF=> ?_) fun h6 hF=> ?_
    ·obtain⟨v5,h7,hF⟩:=ao hF;refine au af [[(0,bF (bG h6))],[(4,cL (ah4 N v1 v5 h7))]] ?_;refine bc hF (fun h8 hF=> ?_) fun h8 hF=> ?_
     ·obtain⟨v6,h9,hF⟩:=ao hF;refine au af [[(0,bF (bG h8))],[(4,cL (ZU N v1 v6 h9))]] ?_;refine bc hF (fun az hF=> ?_) fun az hF=> ?_
      ·refine au af [[(0,bF (bG az))],[]] ?_;refine kh lf 0 12 v1.ax fun aK=> ?_;refine fJ af 1 [] [1,3] 1 v1.ax (fun v7=>⟨41,[(1,(.ptr 0 0)),(3,(aw (v7:Int)))],[.cells (aA v1).cells]⟩) (wP N (qa N d)) hF ?_ ?_
       ·intro v7 aY hF f1;rw[wP]at hF;cases hF;exact wr af [[(10,oL v1.ax dC)],[(0,bF (cM aY))],[]]
       intro v7 v9 v10 aY hF f1 aO;rw[wP]at hF;obtain⟨v11,aJ,hF⟩:=ao hF;refine au af [[(10,oL v1.ax dC)],[(0,bT (cF aY))],[(10,oE (bt (cd aY))),(16,cL (Ye v9 v11 aJ))],[]] ?_;refine bc hF (fun bp hF=> ?_) fun bp hF=> ?_
       ·cases hF;exact wr af [[(0,bT bp)],[]]
       exact wb af aO () [[(0,bF bp)],[(5,oq (dj aY rfl aK))]] aY hF
      cases hF;exact wr af [[(0,bT (bS az))],[]]
     cases hF;exact wr af [[(0,bT (bS h8))],[]]
    cases hF;exact wr af [[(0,bT (bS h6))],[]]
   cases hF;exact wr af [[(0,bT (bS h4))],[]]
  cases hF;exact wr af [[(0,bT (bS h2))],[]]
theorem abJ(N:Nat)(v1:an)(r:Int)(hF:Mc N v1=some r):aG Tryz.prog 60 [(aA v1)] (·=(aw r)):=(aa1 N N) v1 r hF
def Ej(N:Nat)(v1:an):ak5 Int:=
 Option.bind (ID N v1) fun v2=>
 bif (decide (v2>(40:Int)))then
  some (13:Int)
 else
  Option.bind (F7 N v1) fun v3=>
  bif (decide (v3>(2000:Int)))then
   some (2:Int)
  else
   Option.bind (Mc N v1) fun v4=>
   some v4
theorem afV(N:Nat)(v1:an)(r:Int)(hF:Ej N v1=some r):aG Tryz.prog 30 [(aA v1)] (·=(aw r)):=by
 rw[Ej]at hF;refine aR Tryz.func30 ?_;obtain⟨v2,h1,hF⟩:=ao hF;refine au af [[],[(4,cL (aeT N v1 v2 h1))]] ?_;refine bc hF (fun h2 hF=> ?_) fun h2 hF=> ?_
 ·cases hF;exact wr af [[(0,bT h2)],[]]
 obtain⟨v3,h3,hF⟩:=ao hF;refine au af [[(0,bF h2)],[(4,cL (Yn N v1 v3 h3))]] ?_;refine bc hF (fun h4 hF=> ?_) fun h4 hF=> ?_
 ·cases hF;exact wr af [[(0,bT h4)],[]]
 obtain⟨v4,h5,hF⟩:=ao hF;obtain rfl:=sj hF;exact wr af [[(0,bF h4)],[(4,cL (abJ N v1 v4 h5))]]
def Jo(N:Nat)(v1:aC)(v2:an):ak5 eC:=
 Option.bind (yR N v2) fun v3=>
 some (⟨v1,(!v3)⟩:eC)
theorem ait(N:Nat)(v1:aC)(v2:an)(r:eC)(hF:Jo N v1 v2=some r):aG Tryz.prog 32 [(bY v1),(aA v2)] (·=(gg r)):=by
 rw[Jo]at hF;refine aR Tryz.func32 ?_;obtain⟨v3,h1,hF⟩:=ao hF;cases hF;exact wr af [[],[(7,cL (Ry N v2 v3 h1))]]
def Ek(N:Nat)(v1:aC)(v2:ay):ak5 Bool:=
 Option.bind (ma N v1) fun v3=>
 Option.bind (bif v3 then Option.bind (mA N v1 v2) fun v4=>
 some v4 else some false) fun v5=>
 some v5
theorem Mx(N:Nat)(v1:aC)(v2:ay)(r:Bool)(hF:Ek N v1 v2=some r):aG Tryz.prog 303 [(bY v1),(bj v2)] (·=(aB r)):=by
 rw[Ek]at hF;refine aR Tryz.func303 ?_;refine au af [[]] ?_;obtain⟨v3,h1,hF⟩:=ao hF;obtain⟨v5,h4,hF⟩:=ao hF;refine bf af [(4,(aB v5))] [.cells (bY v1).cells, .cells (bj v2).cells] ?_ ?_
 ·refine bc h4 (fun h2 h4=> ?_) fun h2 h4=> ?_
  ·obtain⟨v4,h3,h4⟩:=ao h4;obtain rfl:=sj h4;exact⟨[(2,bT h2)],[(4,cL (mO N v1 v3 h1)),(16,cL (pe N v1 v2 v4 h3))],by kernel_rfl⟩
  cases h4;exact⟨[(2,bF h2)],[(4,cL (mO N v1 v3 h1))],by kernel_rfl⟩
 cases hF;exact wr af []
def kH(N:Nat)(v1:ay):ak5 Bool:=
 Option.bind (mA N (⟨(1:Int),(0:Int),(0:Int),(0:Int),(0:Int)⟩:aC) v1) fun v2=>
 some v2
theorem jQ(N:Nat)(v1:ay)(r:Bool)(hF:kH N v1=some r):aG Tryz.prog 305 [(bj v1)] (·=(aB r)):=by
 rw[kH]at hF;refine aR Tryz.func305 ?_;obtain⟨v2,h1,hF⟩:=ao hF;obtain rfl:=sj hF;exact wr af [[],[(7,cL (pe N (⟨(1:Int),(0:Int),(0:Int),(0:Int),(0:Int)⟩:aC) v1 v2 h1))]]
def vW(N:Nat)(v1:Int64)(v2:Int64):ak5 Int:=
 bif (decide (v1.toInt<v2.toInt))then
  some (-1:Int)
 else
  bif (decide (v1.toInt>v2.toInt))then
   some (1:Int)
  else
   some (0:Int)
theorem Lc(N:Nat)(v1:Int64)(v2:Int64)(r:Int)(hF:vW N v1 v2=some r):aG Tryz.prog 332 [(aI v1),(aI v2)] (·=(aw r)):=by
 rw[vW]at hF;refine aR Tryz.func332 ?_;refine au af [[],[]] ?_;refine bc hF (fun h1 hF=> ?_) fun h1 hF=> ?_
 ·cases hF;exact wr af [[(0,bT h1)],[]]
 refine au af [[(0,bF h1)],[]] ?_;refine bc hF (fun h2 hF=> ?_) fun h2 hF=> ?_
 ·cases hF;exact wr af [[(0,bT h2)],[]]
 cases hF;exact wr af [[(0,bF h2)],[]]
def Il(N:Nat)(v1:ay)(v2:ay):ak5 Int:=
 Option.bind (kH N v1) fun v3=>
 Option.bind (bif v3 then Option.bind (kH N v2) fun v4=>
 some v4 else some false) fun v5=>
 bif v5 then
  Option.bind (vW N (v1.xN*v2.xD) (v2.xN*v1.xD)) fun v6=>
  some v6
 else
  bif (v1.xN.toInt !=v2.xN.toInt)then
   Option.bind (vW N v1.xN v2.xN) fun v7=>
   some v7
  else
   Option.bind (vW N v1.xD v2.xD) fun v8=>
   some v8
theorem ack(N:Nat)(v1:ay)(v2:ay)(r:Int)(hF:Il N v1 v2=some r):aG Tryz.prog 304 [(bj v1),(bj v2)] (·=(aw r)):=by
 rw[Il]at hF;refine aR Tryz.func304 ?_;refine au af [[]] ?_;obtain⟨v3,h1,hF⟩:=ao hF;obtain⟨v5,h4,hF⟩:=ao hF;refine bf af [(10,(aB v5))] [.cells (bj v1).cells, .cells (bj v2).cells] ?_ ?_
 ·refine bc h4 (fun h2 h4=> ?_) fun h2 h4=> ?_
  ·obtain⟨v4,h3,h4⟩:=ao h4;obtain rfl:=sj h4;exact⟨[(2,bT h2)],[(4,cL (jQ N v1 v3 h1)),(13,cL (jQ N v2 v4 h3))],by kernel_rfl⟩
  cases h4;exact⟨[(2,bF h2)],[(4,cL (jQ N v1 v3 h1))],by kernel_rfl⟩
 refine bc hF (fun h5 hF=> ?_) fun h5 hF=> ?_
 ·obtain⟨v6,h6,hF⟩:=ao hF;obtain rfl:=sj hF;exact wr af [[(0,bT h5)],[(14,⟨_,_, .eq (dS v1.xN v2.xD)⟩),(29,⟨_,_, .eq (dS v2.xN v1.xD)⟩),(31,cL (Lc N (v1.xN*v2.xD) (v2.xN*v1.xD) v6 h6))]]
 refine au af [[(0,bF h5)],[]] ?_;refine bc hF (fun h7 hF=> ?_) fun h7 hF=> ?_
 ·obtain⟨v7,h8,hF⟩:=ao hF;obtain rfl:=sj hF;exact wr af [[(0,bT h7)],[(13,cL (Lc N v1.xN v2.xN v7 h8))]]
 obtain⟨v8,h9,hF⟩:=ao hF;obtain rfl:=sj hF;exact wr af [[(0,bF h7)],[(13,cL (Lc N v1.xD v2.xD v8 h9))]]
def yV(N:Nat)(v1:aC)(v2:ay)(v3:ay):ak5 Int:=
 Option.bind (Ek N v1 v2) fun v4=>
 Option.bind (bif v4 then Option.bind (Ek N v1 v3) fun v5=>
 some (!v5)else some true) fun v6=>
 bif v6 then
  some (0:Int)
 else
  Option.bind (Il N v2 v3) fun v7=>
  some v7
theorem UC(N:Nat)(v1:aC)(v2:ay)(v3:ay)(r:Int)(hF:yV N v1 v2 v3=some r):aG Tryz.prog 247 [(bY v1),(bj v2),(bj v3)] (·=(aw r)):=by
 rw[yV]at hF;refine aR Tryz.func247 ?_;refine au af [[]] ?_;obtain⟨v4,h1,hF⟩:=ao hF;obtain⟨v6,h4,hF⟩:=ao hF;refine bf af [(16,(aB v6))] [.cells (bY v1).cells, .cells (bj v2).cells, .cells (bj v3).cells] ?_ ?_
 ·refine bc h4 (fun h2 h4=> ?_) fun h2 h4=> ?_
  ·obtain⟨v5,h3,h4⟩:=ao h4;cases h4;exact⟨[(4,bF (bG h2))],[(7,cL (Mx N v1 v2 v4 h1)),(22,cL (Mx N v1 v3 v5 h3))],by kernel_rfl⟩
  cases h4;exact⟨[(4,bT (bS h2))],[(7,cL (Mx N v1 v2 v4 h1))],by kernel_rfl⟩
 refine bc hF (fun h5 hF=> ?_) fun h5 hF=> ?_
 ·cases hF;exact wr af [[(0,bT h5)],[]]
 obtain⟨v7,h6,hF⟩:=ao hF;obtain rfl:=sj hF;exact wr af [[(0,bF h5)],[(7,cL (ack N v2 v3 v7 h6))]]
def tN(N:Nat)(v1:Int64)(v2:Int64):ak5 Int64:=
 bif (v2.toInt !=(0:Int))then
 bif (decide (((Int64.ofInt ((v1.toInt).tdiv v2.toInt))*v2).toInt>v1.toInt))then
  some ((Int64.ofInt ((v1.toInt).tdiv v2.toInt))-(1:Int64))
 else
  some (Int64.ofInt ((v1.toInt).tdiv v2.toInt))
 else none
theorem HG(N:Nat)(v1:Int64)(v2:Int64)(r:Int64)(hF:tN N v1 v2=some r):aG Tryz.prog 256 [(aI v1),(aI v2)] (·=(aI r)):=by
 rw[tN]at hF;refine aR Tryz.func256 ?_;obtain⟨h1,hF⟩:=dp hF;refine au af [[],[(7,⟨_,_, .nz (b:=v2.toInt) (bne_iff_ne.1 h1)⟩),(8,⟨_,_, .eq (eP ((v1.toInt).tdiv v2.toInt))⟩)],[(8,⟨_,_, .eq (dS (Int64.ofInt ((v1.toInt).tdiv v2.toInt)) v2)⟩)]] ?_;refine bc hF (fun h2 hF=> ?_) fun h2 hF=> ?_
 ·cases hF;exact wr af [[(0,bT h2)],[(5,⟨_,_, .eq (gk (Int64.ofInt ((v1.toInt).tdiv v2.toInt)) (1:Int64))⟩)]]
 cases hF;exact wr af [[(0,bF h2)],[]]
def Be(N:Nat)(v1:aC)(v3:Int64):ak5 ay:=
 some (⟨(nH (-(Int64.ofInt ((1:Int)*2^(min ((IntKind.u64.wrap (aQ (v1.bz-(1:Int))))).toNat (IntKind.bits .i64))))) (tb ((Int64.ofInt ((1:Int)*2^(min ((IntKind.u64.wrap (aQ (v1.bz-(1:Int))))).toNat (IntKind.bits .i64))))-(1:Int64)) v3)),(1:Int64)⟩:ay)
def pR(N:Nat)(v1:aC)(v2:Int64):ak5 ay:=
 bif (decide ((0:Int)≤(IntKind.u64.wrap (aQ (v1.bz-(1:Int))))))then
 bif (v1.bM==(2:Int))then
  Option.bind (tN N (v2+(Int64.ofInt ((1:Int)*2^(min ((IntKind.u64.wrap (aQ (v1.bz-(1:Int))))).toNat (IntKind.bits .i64))))) ((2:Int64)*(Int64.ofInt ((1:Int)*2^(min ((IntKind.u64.wrap (aQ (v1.bz-(1:Int))))).toNat (IntKind.bits .i64)))))) fun v4=>
  Be N v1 (v2-((v4*(2:Int64))*(Int64.ofInt ((1:Int)*2^(min ((IntKind.u64.wrap (aQ (v1.bz-(1:Int))))).toNat (IntKind.bits .i64))))))
 else
  Be N v1 v2
 else none
theorem yZ(N:Nat)(v1:aC)(v2:Int64)(r:ay)(hF:pR N v1 v2=some r):aG Tryz.prog 257 [(bY v1),(aI v2)] (·=(bj r)):=by
 rw[pR]at hF;refine aR Tryz.func257 ?_;obtain⟨h1,hF⟩:=dp hF;refine gY af r 1 [[],[(13,⟨_,_, .nn (b:=(IntKind.u64.wrap (aQ (v1.bz-(1:Int))))) (of_decide_eq_true h1)⟩),(14,⟨_,_, .eq (eP ((1:Int)*2^(min ((IntKind.u64.wrap (aQ (v1.bz-(1:Int))))).toNat (IntKind.bits .i64))))⟩)],[]] [1,4,5] 2 (fun(v3:Int64)=>⟨33,[(1,(aI v3)),(4,(.ptr 1 0)),(5,(aI (Int64.ofInt ((1:Int)*2^(min ((IntKind.u64.wrap (aQ (v1.bz-(1:Int))))).toNat (IntKind.bits .i64))))))],[.cells (bY v1).cells, .cells fA]⟩) (Be N v1) ?_ ?_
 ·intro f1 aO;refine bc hF (fun h2 hF=> ?_) fun h2 hF=> ?_
  ·obtain⟨v4,h3,hF⟩:=ao hF;exact bP af aO (v2-((v4*(2:Int64))*(Int64.ofInt ((1:Int)*2^(min ((IntKind.u64.wrap (aQ (v1.bz-(1:Int))))).toNat (IntKind.bits .i64)))))) [[(0,bT h2)],[(11,⟨_,_, .eq (lA v2 (Int64.ofInt ((1:Int)*2^(min ((IntKind.u64.wrap (aQ (v1.bz-(1:Int))))).toNat (IntKind.bits .i64)))))⟩),(17,⟨_,_, .eq (dS (2:Int64) (Int64.ofInt ((1:Int)*2^(min ((IntKind.u64.wrap (aQ (v1.bz-(1:Int))))).toNat (IntKind.bits .i64)))))⟩),(19,cL (HG N (v2+(Int64.ofInt ((1:Int)*2^(min ((IntKind.u64.wrap (aQ (v1.bz-(1:Int))))).toNat (IntKind.bits .i64))))) ((2:Int64)*(Int64.ofInt ((1:Int)*2^(min ((IntKind.u64.wrap (aQ (v1.bz-(1:Int))))).toNat (IntKind.bits .i64))))) v4 h3)),(23,⟨_,_, .eq (dS v4 (2:Int64))⟩),(29,⟨_,_, .eq (dS (v4*(2:Int64)) (Int64.ofInt ((1:Int)*2^(min ((IntKind.u64.wrap (aQ (v1.bz-(1:Int))))).toNat (IntKind.bits .i64)))))⟩),(32,⟨_,_, .eq (gk v2 ((v4*(2:Int64))*(Int64.ofInt ((1:Int)*2^(min ((IntKind.u64.wrap (aQ (v1.bz-(1:Int))))).toNat (IntKind.bits .i64))))))⟩)]] hF
  exact bP af aO v2 [[(0,bF h2)]] hF
 intro v3 hF;rw[Be]at hF;cases hF;exact wr af [[(5,⟨_,_, .eq (jO (Int64.ofInt ((1:Int)*2^(min ((IntKind.u64.wrap (aQ (v1.bz-(1:Int))))).toNat (IntKind.bits .i64)))))⟩),(11,⟨_,_, .eq (gk (Int64.ofInt ((1:Int)*2^(min ((IntKind.u64.wrap (aQ (v1.bz-(1:Int))))).toNat (IntKind.bits .i64)))) (1:Int64))⟩),(17,⟨_,_, .eq (adg ((Int64.ofInt ((1:Int)*2^(min ((IntKind.u64.wrap (aQ (v1.bz-(1:Int))))).toNat (IntKind.bits .i64))))-(1:Int64)) v3)⟩),(20,⟨_,_, .eq (Rq (-(Int64.ofInt ((1:Int)*2^(min ((IntKind.u64.wrap (aQ (v1.bz-(1:Int))))).toNat (IntKind.bits .i64))))) (tb ((Int64.ofInt ((1:Int)*2^(min ((IntKind.u64.wrap (aQ (v1.bz-(1:Int))))).toNat (IntKind.bits .i64))))-(1:Int64)) v3))⟩)]]
def q9(N:Nat)(v1:aC):ak5 Int64:=
 bif (decide ((0:Int)≤(IntKind.u64.wrap v1.xFrac)))then
 some (Int64.ofInt ((1:Int)*2^(min ((IntKind.u64.wrap v1.xFrac)).toNat (IntKind.bits .i64))))
 else none
theorem BR(N:Nat)(v1:aC)(r:Int64)(hF:q9 N v1=some r):aG Tryz.prog 259 [(bY v1)] (·=(aI r)):=by
 rw[q9]at hF;refine aR Tryz.func259 ?_;obtain⟨h1,hF⟩:=dp hF;cases hF;exact wr af [[],[(10,⟨_,_, .nn (b:=(IntKind.u64.wrap v1.xFrac)) (of_decide_eq_true h1)⟩),(11,⟨_,_, .eq (eP ((1:Int)*2^(min ((IntKind.u64.wrap v1.xFrac)).toNat (IntKind.bits .i64))))⟩)]]
def vu(N:Nat)(v1:Int64)(v2:Int64)(v3:Int):ak5 Int64:=
 Option.bind (tN N v1 v2) fun v4=>
 Option.bind (bif ((v1-(v4*v2)).toInt==(0:Int))then some true else some (v3==(1:Int))) fun v5=>
 bif v5 then
  some v4
 else
  bif (v3==(2:Int))then
   some (v4+(1:Int64))
  else
   bif (v3==(3:Int))then
    bif (decide (v1.toInt<(0:Int)))then
     some (v4+(1:Int64))
    else
     some v4
   else
    Option.bind (bif (decide ((v1-(v4*v2)).toInt>(v2-(v1-(v4*v2))).toInt))then some true else(bif ((v1-(v4*v2)).toInt==(v2-(v1-(v4*v2))).toInt)then some ((Int64.ofInt ((v4.toInt).tmod (2:Int))).toInt !=(0:Int))else some false)) fun v6=>
    bif v6 then
     some (v4+(1:Int64))
    else
     some v4
theorem K6(N:Nat)(v1:Int64)(v2:Int64)(v3:Int)(r:Int64)(hF:vu N v1 v2 v3=some r):aG Tryz.prog 258 [(aI v1),(aI v2),(aw v3)] (·=(aI r)):=by
 rw[vu]at hF;refine aR Tryz.func258 ?_;obtain⟨v4,h1,hF⟩:=ao hF;refine au af [[],[(7,cL (HG N v1 v2 v4 h1))],[(11,⟨_,_, .eq (dS v4 v2)⟩),(14,⟨_,_, .eq (gk v1 (v4*v2))⟩)]] ?_;obtain⟨v5,h3,hF⟩:=ao hF;refine bf af [(22,(aB v5))] [] ?_ ?_
 ·refine bc h3 (fun h2 h3=> ?_) fun h2 h3=> ?_
  ·cases h3;exact⟨[(2,bT h2)],[],by kernel_rfl⟩
  cases h3;exact⟨[(2,bF h2)],[],by kernel_rfl⟩
 refine bc hF (fun h4 hF=> ?_) fun h4 hF=> ?_
 ·cases hF;exact wr af [[(0,bT h4)],[]]
 refine au af [[(0,bF h4)],[]] ?_;refine bc hF (fun h5 hF=> ?_) fun h5 hF=> ?_
 ·cases hF;exact wr af [[(0,bT h5)],[(5,⟨_,_, .eq (lA v4 (1:Int64))⟩)]]
 refine au af [[(0,bF h5)],[]] ?_;refine bc hF (fun h6 hF=> ?_) fun h6 hF=> ?_
 ·refine au af [[(0,bT h6)],[]] ?_;refine bc hF (fun h7 hF=> ?_) fun h7 hF=> ?_
  ·cases hF;exact wr af [[(0,bT h7)],[(5,⟨_,_, .eq (lA v4 (1:Int64))⟩)]]
  cases hF;exact wr af [[(0,bF h7)],[]]
 refine au af [[(0,bF h6)]] ?_;obtain⟨v6,az,hF⟩:=ao hF;refine bf af [(51,(aB v6))] [] ?_ ?_
 ·refine bc az (fun h8 az=> ?_) fun h8 az=> ?_
  ·cases az;exact⟨[(5,bT h8),(11,uN)],[(11,⟨_,_, .eq (gk v2 (v1-(v4*v2)))⟩)],by kernel_rfl⟩
  refine bc az (fun h9 az=> ?_) fun h9 az=> ?_
  ·cases az;exact⟨[(5,bF h8),(11,bT h9)],[(11,⟨_,_, .eq (gk v2 (v1-(v4*v2)))⟩),(29,⟨_,_, .eq (gk v2 (v1-(v4*v2)))⟩),(40,⟨_,_, .nz (b:=(2:Int)) (by decide)⟩),(41,⟨_,_, .eq (Ep v4 (2:Int))⟩),(46,bT h9)],by kernel_rfl⟩
  cases az;exact⟨[(5,bF h8),(11,bF h9)],[(11,⟨_,_, .eq (gk v2 (v1-(v4*v2)))⟩),(29,⟨_,_, .eq (gk v2 (v1-(v4*v2)))⟩),(46,bF h9)],by kernel_rfl⟩
 refine bc hF (fun aE hF=> ?_) fun aE hF=> ?_
 ·cases hF;exact wr af [[(0,bT aE)],[(5,⟨_,_, .eq (lA v4 (1:Int64))⟩)]]
 cases hF;exact wr af [[(0,bF aE)],[]]
def yY(N:Nat)(v2:aC)(v11:Int64)(v12:Int64):ak5 (ay×Int):=
 Option.bind (q9 N v2) fun aX=>
 Option.bind (vu N (v11*aX) v12 v2.bK) fun bu=>
 Option.bind (pR N v2 bu) fun bN=>
 some (bN,(0:Int))
def EB(N:Nat)(v1:Int)(v2:aC)(v3:Int64)(v4:Int64):ak5 (ay×Int):=
 bif (v1==(4:Int))then
  Option.bind (pR N v2 (v3+v4)) fun v5=>
  some (v5,(0:Int))
 else
  bif (v1==(5:Int))then
   Option.bind (pR N v2 (v3-v4)) fun v6=>
   some (v6,(0:Int))
  else
   bif (v1==(6:Int))then
    Option.bind (q9 N v2) fun v7=>
    Option.bind (vu N (v3*v4) v7 v2.bK) fun v8=>
    Option.bind (pR N v2 v8) fun v9=>
    some (v9,(0:Int))
   else
    bif (v1==(8:Int))then
     Option.bind (pR N v2 (-v3)) fun v10=>
     some (v10,(0:Int))
    else
     bif (v4.toInt==(0:Int))then
      some (bg,(4:Int))
     else
      bif (decide (v4.toInt<(0:Int)))then
       yY N v2 (-v3) (-v4)
      else
       yY N v2 v3 v4
theorem XW(N:Nat)(v1:Int)(v2:aC)(v3:Int64)(v4:Int64)(r:ay×Int)(hF:EB N v1 v2 v3 v4=some r):aG Tryz.prog 248 [(aw v1),(bY v2),(aI v3),(aI v4)] (·=(.bk [(bj r.1),(aw r.2)])):=by
 rw[EB]at hF;refine aR Tryz.func248 ?_;refine au af [[],[],[]] ?_;refine bc hF (fun h1 hF=> ?_) fun h1 hF=> ?_
 ·obtain⟨v5,h2,hF⟩:=ao hF;cases hF;exact wr af [[(0,bT h1)],[(11,⟨_,_, .eq (lA v3 v4)⟩),(13,cL (yZ N v2 (v3+v4) v5 h2))]]
 refine au af [[(0,bF h1)],[]] ?_;refine bc hF (fun h3 hF=> ?_) fun h3 hF=> ?_
 ·obtain⟨v6,h4,hF⟩:=ao hF;cases hF;exact wr af [[(0,bT h3)],[(11,⟨_,_, .eq (gk v3 v4)⟩),(13,cL (yZ N v2 (v3-v4) v6 h4))]]
 refine au af [[(0,bF h3)],[]] ?_;refine bc hF (fun h5 hF=> ?_) fun h5 hF=> ?_
 ·obtain⟨v7,h6,hF⟩:=ao hF;obtain⟨v8,h7,hF⟩:=ao hF;obtain⟨v9,h8,hF⟩:=ao hF;cases hF;exact wr af [[(0,bT h5)],[(11,⟨_,_, .eq (dS v3 v4)⟩),(16,cL (BR N v2 v7 h6)),(25,cL (K6 N (v3*v4) v7 v2.bK v8 h7)),(28,cL (yZ N v2 v8 v9 h8))]]
 refine au af [[(0,bF h5)],[]] ?_;refine bc hF (fun h9 hF=> ?_) fun h9 hF=> ?_
 ·obtain⟨v10,az,hF⟩:=ao hF;cases hF;exact wr af [[(0,bT h9)],[(8,⟨_,_, .eq (jO v3)⟩),(10,cL (yZ N v2 (-v3) v10 az))]]
 refine au af [[(0,bF h9)],[]] ?_;refine bc hF (fun aE hF=> ?_) fun aE hF=> ?_
 ·cases hF;exact wr af [[(0,bT aE)],[]]
 refine mc af r 1 [[(0,bF aE)],[]] [2,3,5,8] 2 (fun(v11:Int64)(v12:Int64)=>⟨62,[(2,(aI v11)),(3,(aI v12)),(5,(.ptr 0 0)),(8,(.ptr 1 0))],[.cells (bY v2).cells, .cells fA]⟩) (yY N v2) ?_ ?_
 ·intro f1 aO;refine bc hF (fun bp hF=> ?_) fun bp hF=> ?_
  ·exact bP af aO ((-v3),(-v4)) [[(0,bT bp)],[(5,⟨_,_, .eq (jO v3)⟩)],[(5,⟨_,_, .eq (jO v4)⟩)]] hF
  exact bP af aO (v3,v4) [[(0,bF bp)]] hF
 intro v11 v12 hF;rw[yY]at hF;obtain⟨aX,aK,hF⟩:=ao hF;obtain⟨bu,aY,hF⟩:=ao hF;obtain⟨bN,aJ,hF⟩:=ao hF;cases hF;exact wr af [[(10,cL (BR N v2 aX aK)),(14,⟨_,_, .eq (dS v11 aX)⟩),(25,cL (K6 N (v11*aX) v12 v2.bK bu aY)),(28,cL (yZ N v2 bu bN aJ))]]
end Go.Proofs.YtpgmcallngdceaaGreatDoor
