/-
  Part 15 of the proof: PQ6.
-/
import Derived.Test.YtpgmcallngdceaaGreatDoorSp14
namespace Go.Proofs.YtpgmcallngdceaaGreatDoor
open Go.RowKit
set_option maxRecDepth 100000
set_option maxHeartbeats 0
set_option linter.unusedVariables false
def zP(N:Nat):akd Bool:=
 Option.bind (Fg N (bs [105])) fun v1=>
 Option.bind (y7 N (⟨(1:Int),(0:Int),(0:Int),(0:Int),(0:Int)⟩:aD) (1:Int64)) fun v2=>
 Option.bind (Ah N (6:Int) (⟨(3:Int),(bs [97]),bg,b8,zLin,[(⟨v1,(bs []),[]⟩:aI)],[]⟩:an) v2) fun v3=>
 Option.bind (y7 N (⟨(1:Int),(0:Int),(0:Int),(0:Int),(0:Int)⟩:aD) (0:Int64)) fun v4=>
 Option.bind (Ah N (4:Int) v3 v4) fun v5=>
 Option.bind (vZ N (⟨(1:Int),(0:Int),(0:Int),(0:Int),(0:Int)⟩:aD) v5) fun v6=>
 Option.bind (Fg N (bs [105])) fun v7=>
 Option.bind (Fg N (bs [105])) fun v8=>
 Option.bind (bif v6.2.2 then(bif (bL v6.2.1==bL (bs [122,101,114,111]))then Option.bind (jB N v6.1 v3) fun v9=>
 (bif v9 then Option.bind (y7 N (⟨(1:Int),(0:Int),(0:Int),(0:Int),(0:Int)⟩:aD) (0:Int64)) fun v10=>
 Option.bind (Ah N (4:Int) v3 v10) fun v11=>
 Option.bind (Az N (⟨(1:Int),(0:Int),(0:Int),(0:Int),(0:Int)⟩:aD) v11) fun v12=>
 Option.bind (jB N v12 (⟨(3:Int),(bs [97]),bg,b8,zLin,[(⟨v1,(bs []),[]⟩:aI)],[]⟩:an)) fun aZ=>
 (bif aZ then Option.bind (Az N (⟨(2:Int),(8:Int),(4:Int),(4:Int),(1:Int)⟩:aD) (⟨(8:Int),(bs []),bg,b8,zLin,[],[(⟨(8:Int),(bs []),bg,b8,zLin,[],[(⟨(3:Int),(bs [97]),bg,b8,zLin,[(⟨v1,(bs []),[]⟩:aI)],[]⟩:an)]⟩:an)]⟩:an)) fun bu=>
 Option.bind (jB N bu (⟨(8:Int),(bs []),bg,b8,zLin,[],[(⟨(8:Int),(bs []),bg,b8,zLin,[],[(⟨(3:Int),(bs [97]),bg,b8,zLin,[(⟨v1,(bs []),[]⟩:aI)],[]⟩:an)]⟩:an)]⟩:an)) fun bQ=>
 (bif bQ then Option.bind (Az N (⟨(1:Int),(0:Int),(0:Int),(0:Int),(0:Int)⟩:aD) (⟨(8:Int),(bs []),bg,b8,zLin,[],[(⟨(8:Int),(bs []),bg,b8,zLin,[],[(⟨(3:Int),(bs [97]),bg,b8,zLin,[(⟨v1,(bs []),[]⟩:aI)],[]⟩:an)]⟩:an)]⟩:an)) fun de=>
 Option.bind (jB N de (⟨(3:Int),(bs [97]),bg,b8,zLin,[(⟨v1,(bs []),[]⟩:aI)],[]⟩:an)) fun bW=>
 (bif bW then Option.bind (y7 N (⟨(3:Int),(0:Int),(0:Int),(0:Int),(0:Int)⟩:aD) (2:Int64)) fun bx=>
 Option.bind (Ah N (4:Int) (⟨(2:Int),(bs []),bg,b8,v7,[],[]⟩:an) bx) fun cA=>
 Option.bind (Az N (⟨(3:Int),(0:Int),(0:Int),(0:Int),(0:Int)⟩:aD) cA) fun v20=>
 Option.bind (jB N v20 (⟨(2:Int),(bs []),bg,b8,(⟨(2:Int64),v8.xL⟩:aF),[],[]⟩:an)) fun v21=>
 (bif v21 then Option.bind (Wb N v3) fun eX=>
 some (eX==(2:Int))else some false)else some false)else some false)else some false)else some false)else some false)else some false) fun dt=>
 some dt
theorem RL(N:Nat)(r:Bool)(hF:zP N=some r):aG Tryz.prog 8 [] (·=(aB r)):=by
 rw[zP]at hF;refine aP Tryz.func8 ?_;obtain⟨v1,h1,hF⟩:=ao hF;obtain⟨v2,h2,hF⟩:=ao hF;obtain⟨v3,h3,hF⟩:=ao hF;obtain⟨v4,h4,hF⟩:=ao hF;obtain⟨v5,h5,hF⟩:=ao hF;obtain⟨v6,h6,hF⟩:=ao hF;obtain⟨v7,h7,hF⟩:=ao hF;obtain⟨v8,h8,hF⟩:=ao hF;refine au af [[],[],[],[(1,cL (N8 N (bs [105]) v1 h1))],[(7,cL (qY N (⟨(1:Int),(0:Int),(0:Int),(0:Int),(0:Int)⟩:aD) (1:Int64) v2 h2)),(10,cL (pV N (6:Int) (⟨(3:Int),(bs [97]),bg,b8,zLin,[(⟨v1,(bs []),[]⟩:aI)],[]⟩:an) v2 v3 h3))],[(10,cL (qY N (⟨(1:Int),(0:Int),(0:Int),(0:Int),(0:Int)⟩:aD) (0:Int64) v4 h4)),(13,cL (pV N (4:Int) v3 v4 v5 h5)),(16,cL (Lk N (⟨(1:Int),(0:Int),(0:Int),(0:Int),(0:Int)⟩:aD) v5 v6 h6))],[(5,⟨_,_, .eq (congrArg AV.full (eR [(⟨(3:Int),(bs [97]),bg,b8,zLin,[(⟨v1,(bs []),[]⟩:aI)],[]⟩:an)]).symm)⟩),(11,⟨_,_, .eq (congrArg AV.full (eR [(⟨(8:Int),(bs []),bg,b8,zLin,[],[(⟨(3:Int),(bs [97]),bg,b8,zLin,[(⟨v1,(bs []),[]⟩:aI)],[]⟩:an)]⟩:an)]).symm)⟩)],[(1,cL (N8 N (bs [105]) v7 h7))],[(1,cL (N8 N (bs [105]) v8 h8))],[]] ?_
 obtain⟨dt,cK,hF⟩:=ao hF;refine bf af [(0,(aB dt))] [.cells [(aw (1:Int)),(aw (0:Int)),(aw (0:Int)),(aw (0:Int)),(aw (0:Int))], .cells [(aw (3:Int)),(aw (0:Int)),(aw (0:Int)),(aw (0:Int)),(aw (0:Int))], .cells [(aw (2:Int)),(aw (8:Int)),(aw (4:Int)),(aw (4:Int)),(aw (1:Int))], .cells [(aw (3:Int)),(aR (bs [97])),(aH (0:Int64)),(aH (0:Int64)),(aw (0:Int)),(aw (0:Int)),(aw (0:Int)),(aw (0:Int)),(aw (0:Int)),(aH (0:Int64)),(.d (.v (.slice none 0 0))),(.full (cl [(⟨v1,(bs []),[]⟩:aI)])),(.d (.v (.slice none 0 0)))], .cells (aA v3).cells, .cells (aA v6.1).cells, .cells [(aw (8:Int)),(aR (bs [])),(aH (0:Int64)),(aH (0:Int64)),(aw (0:Int)),(aw (0:Int)),(aw (0:Int)),(aw (0:Int)),(aw (0:Int)),(aH (0:Int64)),(.d (.v (.slice none 0 0))),(.d (.v (.slice none 0 0))),(.full (cq [(⟨(8:Int),(bs []),bg,b8,zLin,[],[(⟨(3:Int),(bs [97]),bg,b8,zLin,[(⟨v1,(bs []),[]⟩:aI)],[]⟩:an)]⟩:an)]))], .cells [(aw (2:Int)),(aR (bs [])),(aH (0:Int64)),(aH (0:Int64)),(aw (0:Int)),(aw (0:Int)),(aw (0:Int)),(aw (0:Int)),(aw (0:Int)),(aH v7.xK),(.d (.sl (bZ v7.xL))),(.d (.v (.slice none 0 0))),(.d (.v (.slice none 0 0)))], .cells [(aw (2:Int)),(.d (.sl (bZ v8.xL)))]] ?_ ?_
 ·refine bc cK (fun h9 cK=> ?_) fun h9 cK=> ?_
  ·refine bc cK (fun az cK=> ?_) fun az cK=> ?_
   ·obtain⟨v9,aE,cK⟩:=ao cK;refine bc cK (fun aN cK=> ?_) fun aN cK=> ?_
    ·obtain⟨v10,aY,cK⟩:=ao cK;obtain⟨v11,aJ,cK⟩:=ao cK;obtain⟨v12,bt,cK⟩:=ao cK;obtain⟨aZ,aM,cK⟩:=ao cK;refine bc cK (fun bp cK=> ?_) fun bp cK=> ?_
     ·obtain⟨bu,a7,cK⟩:=ao cK;obtain⟨bQ,bR,cK⟩:=ao cK;refine bc cK (fun b5 cK=> ?_) fun b5 cK=> ?_
      ·obtain⟨de,ck,cK⟩:=ao cK;obtain⟨bW,bw,cK⟩:=ao cK;refine bc cK (fun cP cK=> ?_) fun cP cK=> ?_
       ·obtain⟨bx,cC,cK⟩:=ao cK;obtain⟨cA,eI,cK⟩:=ao cK;obtain⟨v20,eY,cK⟩:=ao cK;obtain⟨v21,gd,cK⟩:=ao cK;refine bc cK (fun gX cK=> ?_) fun gX cK=> ?_
        ·obtain⟨eX,qT,cK⟩:=ao cK;cases cK;exact⟨[(1,bT h9),(5,bT az),(10,bT aN),(20,bT bp),(27,bT b5),(34,bT cP),(45,bT gX)],[(25,cL (fe N v6.1 v3 v9 aE)),(43,cL (qY N (⟨(1:Int),(0:Int),(0:Int),(0:Int),(0:Int)⟩:aD) (0:Int64) v10 aY)),(46,cL (pV N (4:Int) v3 v10 v11 aJ)),(49,cL (k9 N (⟨(1:Int),(0:Int),(0:Int),(0:Int),(0:Int)⟩:aD) v11 v12 bt)),(55,cL (fe N v12 (⟨(3:Int),(bs [97]),bg,b8,zLin,[(⟨v1,(bs []),[]⟩:aI)],[]⟩:an) aZ aM)),(70,cL (k9 N (⟨(2:Int),(8:Int),(4:Int),(4:Int),(1:Int)⟩:aD) (⟨(8:Int),(bs []),bg,b8,zLin,[],[(⟨(8:Int),(bs []),bg,b8,zLin,[],[(⟨(3:Int),(bs [97]),bg,b8,zLin,[(⟨v1,(bs []),[]⟩:aI)],[]⟩:an)]⟩:an)]⟩:an) bu a7)),(76,cL (fe N bu (⟨(8:Int),(bs []),bg,b8,zLin,[],[(⟨(8:Int),(bs []),bg,b8,zLin,[],[(⟨(3:Int),(bs [97]),bg,b8,zLin,[(⟨v1,(bs []),[]⟩:aI)],[]⟩:an)]⟩:an)]⟩:an) bQ bR)),(91,cL (k9 N (⟨(1:Int),(0:Int),(0:Int),(0:Int),(0:Int)⟩:aD) (⟨(8:Int),(bs []),bg,b8,zLin,[],[(⟨(8:Int),(bs []),bg,b8,zLin,[],[(⟨(3:Int),(bs [97]),bg,b8,zLin,[(⟨v1,(bs []),[]⟩:aI)],[]⟩:an)]⟩:an)]⟩:an) de ck)),(97,cL (fe N de (⟨(3:Int),(bs [97]),bg,b8,zLin,[(⟨v1,(bs []),[]⟩:aI)],[]⟩:an) bW bw)),(115,cL (qY N (⟨(3:Int),(0:Int),(0:Int),(0:Int),(0:Int)⟩:aD) (2:Int64) bx cC)),(118,cL (pV N (4:Int) (⟨(2:Int),(bs []),bg,b8,v7,[],[]⟩:an) bx cA eI)),(121,cL (k9 N (⟨(3:Int),(0:Int),(0:Int),(0:Int),(0:Int)⟩:aD) cA v20 eY)),(130,cL (fe N v20 (⟨(2:Int),(bs []),bg,b8,(⟨(2:Int64),v8.xL⟩:aF),[],[]⟩:an) v21 gd)),(142,cL (Xe N v3 eX qT))],by kernel_rfl⟩
        cases cK;exact⟨[(1,bT h9),(5,bT az),(10,bT aN),(20,bT bp),(27,bT b5),(34,bT cP),(45,bF gX)],[(25,cL (fe N v6.1 v3 v9 aE)),(43,cL (qY N (⟨(1:Int),(0:Int),(0:Int),(0:Int),(0:Int)⟩:aD) (0:Int64) v10 aY)),(46,cL (pV N (4:Int) v3 v10 v11 aJ)),(49,cL (k9 N (⟨(1:Int),(0:Int),(0:Int),(0:Int),(0:Int)⟩:aD) v11 v12 bt)),(55,cL (fe N v12 (⟨(3:Int),(bs [97]),bg,b8,zLin,[(⟨v1,(bs []),[]⟩:aI)],[]⟩:an) aZ aM)),(70,cL (k9 N (⟨(2:Int),(8:Int),(4:Int),(4:Int),(1:Int)⟩:aD) (⟨(8:Int),(bs []),bg,b8,zLin,[],[(⟨(8:Int),(bs []),bg,b8,zLin,[],[(⟨(3:Int),(bs [97]),bg,b8,zLin,[(⟨v1,(bs []),[]⟩:aI)],[]⟩:an)]⟩:an)]⟩:an) bu a7)),(76,cL (fe N bu (⟨(8:Int),(bs []),bg,b8,zLin,[],[(⟨(8:Int),(bs []),bg,b8,zLin,[],[(⟨(3:Int),(bs [97]),bg,b8,zLin,[(⟨v1,(bs []),[]⟩:aI)],[]⟩:an)]⟩:an)]⟩:an) bQ bR)),(91,cL (k9 N (⟨(1:Int),(0:Int),(0:Int),(0:Int),(0:Int)⟩:aD) (⟨(8:Int),(bs []),bg,b8,zLin,[],[(⟨(8:Int),(bs []),bg,b8,zLin,[],[(⟨(3:Int),(bs [97]),bg,b8,zLin,[(⟨v1,(bs []),[]⟩:aI)],[]⟩:an)]⟩:an)]⟩:an) de ck)),(97,cL (fe N de (⟨(3:Int),(bs [97]),bg,b8,zLin,[(⟨v1,(bs []),[]⟩:aI)],[]⟩:an) bW bw)),(115,cL (qY N (⟨(3:Int),(0:Int),(0:Int),(0:Int),(0:Int)⟩:aD) (2:Int64) bx cC)),(118,cL (pV N (4:Int) (⟨(2:Int),(bs []),bg,b8,v7,[],[]⟩:an) bx cA eI)),(121,cL (k9 N (⟨(3:Int),(0:Int),(0:Int),(0:Int),(0:Int)⟩:aD) cA v20 eY)),(130,cL (fe N v20 (⟨(2:Int),(bs []),bg,b8,(⟨(2:Int64),v8.xL⟩:aF),[],[]⟩:an) v21 gd))],by kernel_rfl⟩
       cases cK;exact⟨[(1,bT h9),(5,bT az),(10,bT aN),(20,bT bp),(27,bT b5),(34,bF cP),(45,bF rfl)],[(25,cL (fe N v6.1 v3 v9 aE)),(43,cL (qY N (⟨(1:Int),(0:Int),(0:Int),(0:Int),(0:Int)⟩:aD) (0:Int64) v10 aY)),(46,cL (pV N (4:Int) v3 v10 v11 aJ)),(49,cL (k9 N (⟨(1:Int),(0:Int),(0:Int),(0:Int),(0:Int)⟩:aD) v11 v12 bt)),(55,cL (fe N v12 (⟨(3:Int),(bs [97]),bg,b8,zLin,[(⟨v1,(bs []),[]⟩:aI)],[]⟩:an) aZ aM)),(70,cL (k9 N (⟨(2:Int),(8:Int),(4:Int),(4:Int),(1:Int)⟩:aD) (⟨(8:Int),(bs []),bg,b8,zLin,[],[(⟨(8:Int),(bs []),bg,b8,zLin,[],[(⟨(3:Int),(bs [97]),bg,b8,zLin,[(⟨v1,(bs []),[]⟩:aI)],[]⟩:an)]⟩:an)]⟩:an) bu a7)),(76,cL (fe N bu (⟨(8:Int),(bs []),bg,b8,zLin,[],[(⟨(8:Int),(bs []),bg,b8,zLin,[],[(⟨(3:Int),(bs [97]),bg,b8,zLin,[(⟨v1,(bs []),[]⟩:aI)],[]⟩:an)]⟩:an)]⟩:an) bQ bR)),(91,cL (k9 N (⟨(1:Int),(0:Int),(0:Int),(0:Int),(0:Int)⟩:aD) (⟨(8:Int),(bs []),bg,b8,zLin,[],[(⟨(8:Int),(bs []),bg,b8,zLin,[],[(⟨(3:Int),(bs [97]),bg,b8,zLin,[(⟨v1,(bs []),[]⟩:aI)],[]⟩:an)]⟩:an)]⟩:an) de ck)),(97,cL (fe N de (⟨(3:Int),(bs [97]),bg,b8,zLin,[(⟨v1,(bs []),[]⟩:aI)],[]⟩:an) bW bw))],by kernel_rfl⟩
      cases cK;exact⟨[(1,bT h9),(5,bT az),(10,bT aN),(20,bT bp),(27,bF b5),(34,bF rfl),(45,bF rfl)],[(25,cL (fe N v6.1 v3 v9 aE)),(43,cL (qY N (⟨(1:Int),(0:Int),(0:Int),(0:Int),(0:Int)⟩:aD) (0:Int64) v10 aY)),(46,cL (pV N (4:Int) v3 v10 v11 aJ)),(49,cL (k9 N (⟨(1:Int),(0:Int),(0:Int),(0:Int),(0:Int)⟩:aD) v11 v12 bt)),(55,cL (fe N v12 (⟨(3:Int),(bs [97]),bg,b8,zLin,[(⟨v1,(bs []),[]⟩:aI)],[]⟩:an) aZ aM)),(70,cL (k9 N (⟨(2:Int),(8:Int),(4:Int),(4:Int),(1:Int)⟩:aD) (⟨(8:Int),(bs []),bg,b8,zLin,[],[(⟨(8:Int),(bs []),bg,b8,zLin,[],[(⟨(3:Int),(bs [97]),bg,b8,zLin,[(⟨v1,(bs []),[]⟩:aI)],[]⟩:an)]⟩:an)]⟩:an) bu a7)),(76,cL (fe N bu (⟨(8:Int),(bs []),bg,b8,zLin,[],[(⟨(8:Int),(bs []),bg,b8,zLin,[],[(⟨(3:Int),(bs [97]),bg,b8,zLin,[(⟨v1,(bs []),[]⟩:aI)],[]⟩:an)]⟩:an)]⟩:an) bQ bR))],by kernel_rfl⟩
     cases cK;exact⟨[(1,bT h9),(5,bT az),(10,bT aN),(20,bF bp),(27,bF rfl),(34,bF rfl),(45,bF rfl)],[(25,cL (fe N v6.1 v3 v9 aE)),(43,cL (qY N (⟨(1:Int),(0:Int),(0:Int),(0:Int),(0:Int)⟩:aD) (0:Int64) v10 aY)),(46,cL (pV N (4:Int) v3 v10 v11 aJ)),(49,cL (k9 N (⟨(1:Int),(0:Int),(0:Int),(0:Int),(0:Int)⟩:aD) v11 v12 bt)),(55,cL (fe N v12 (⟨(3:Int),(bs [97]),bg,b8,zLin,[(⟨v1,(bs []),[]⟩:aI)],[]⟩:an) aZ aM))],by kernel_rfl⟩
    cases cK;exact⟨[(1,bT h9),(5,bT az),(10,bF aN),(20,bF rfl),(27,bF rfl),(34,bF rfl),(45,bF rfl)],[(25,cL (fe N v6.1 v3 v9 aE))],by kernel_rfl⟩
   cases cK;exact⟨[(1,bT h9),(5,bF az),(10,bF rfl),(20,bF rfl),(27,bF rfl),(34,bF rfl),(45,bF rfl)],[],by kernel_rfl⟩
  cases cK;exact⟨[(1,bF h9),(5,bF rfl),(10,bF rfl),(20,bF rfl),(27,bF rfl),(34,bF rfl),(45,bF rfl)],[],by kernel_rfl⟩
 cases hF;exact wr af []
def lB(N:Nat)(v1:aD):akd Bool:=
 Option.bind (bif (v1.a8==(1:Int))then some true else some (v1.a8==(3:Int))) fun v2=>
 bif v2 then
  Option.bind (bif (v1.bz==(0:Int))then(bif (v1.bE==(0:Int))then(bif (v1.bK==(0:Int))then some (v1.bI==(0:Int))else some false)else some false)else some false) fun v3=>
  some v3
 else
  Option.bind (bif (v1.a8==(2:Int))then(bif (decide (v1.bz≥(2:Int)))then(bif (decide (v1.bz≤(31:Int)))then(bif (decide (v1.bE≥(0:Int)))then(bif (decide (v1.bE≤(30:Int)))then(bif (decide (v1.bK≥(1:Int)))then(bif (decide (v1.bK≤(4:Int)))then(bif (v1.bI==(1:Int))then some true else some (v1.bI==(2:Int)))else some false)else some false)else some false)else some false)else some false)else some false)else some false) fun v4=>
  some v4
theorem mL(N:Nat)(v1:aD)(r:Bool)(hF:lB N v1=some r):aG Tryz.prog 29 [(b4 v1)] (·=(aB r)):=by
 rw[lB]at hF;refine aP Tryz.func29 ?_;refine au af [[]] ?_;obtain⟨v2,h2,hF⟩:=ao hF;refine bf af [(10,(aB v2))] [.cells (b4 v1).cells] ?_ ?_
 ·refine bc h2 (fun h1 h2=> ?_) fun h1 h2=> ?_
  ·cases h2;exact⟨[(3,bT h1)],[],by kernel_rfl⟩
  cases h2;exact⟨[(3,bF h1)],[],by kernel_rfl⟩
 refine bc hF (fun h3 hF=> ?_) fun h3 hF=> ?_
 ·refine au af [[(0,bT h3)]] ?_;obtain⟨v3,h7,hF⟩:=ao hF;refine bf af [(2,(aB v3))] [.cells (b4 v1).cells] ?_ ?_
  ·refine bc h7 (fun h4 h7=> ?_) fun h4 h7=> ?_
   ·refine bc h7 (fun h5 h7=> ?_) fun h5 h7=> ?_
    ·refine bc h7 (fun h6 h7=> ?_) fun h6 h7=> ?_
     ·cases h7;exact⟨[(3,bT h4),(8,bT h5),(13,bT h6)],[],by kernel_rfl⟩
     cases h7;exact⟨[(3,bT h4),(8,bT h5),(13,bF h6)],[],by kernel_rfl⟩
    cases h7;exact⟨[(3,bT h4),(8,bF h5),(13,bF rfl)],[],by kernel_rfl⟩
   cases h7;exact⟨[(3,bF h4),(8,bF rfl),(13,bF rfl)],[],by kernel_rfl⟩
  cases hF;exact wr af []
 refine au af [[(0,bF h3)]] ?_;obtain⟨v4,aM,hF⟩:=ao hF;refine bf af [(2,(aB v4))] [.cells (b4 v1).cells] ?_ ?_
 ·refine bc aM (fun h8 aM=> ?_) fun h8 aM=> ?_
  ·refine bc aM (fun h9 aM=> ?_) fun h9 aM=> ?_
   ·refine bc aM (fun az aM=> ?_) fun az aM=> ?_
    ·refine bc aM (fun aE aM=> ?_) fun aE aM=> ?_
     ·refine bc aM (fun aN aM=> ?_) fun aN aM=> ?_
      ·refine bc aM (fun aY aM=> ?_) fun aY aM=> ?_
       ·refine bc aM (fun aJ aM=> ?_) fun aJ aM=> ?_
        ·refine bc aM (fun bt aM=> ?_) fun bt aM=> ?_
         ·cases aM;exact⟨[(3,bT h8),(8,bT h9),(13,bT az),(18,bT aE),(23,bT aN),(28,bT aY),(33,bT aJ),(37,bT bt)],[(124,bT bt)],by kernel_rfl⟩
         cases aM;exact⟨[(3,bT h8),(8,bT h9),(13,bT az),(18,bT aE),(23,bT aN),(28,bT aY),(33,bT aJ),(37,bF bt)],[(124,bF bt)],by kernel_rfl⟩
        cases aM;exact⟨[(3,bT h8),(8,bT h9),(13,bT az),(18,bT aE),(23,bT aN),(28,bT aY),(33,bF aJ),(37,uN)],[],by kernel_rfl⟩
       cases aM;exact⟨[(3,bT h8),(8,bT h9),(13,bT az),(18,bT aE),(23,bT aN),(28,bF aY),(33,bF rfl),(37,uN)],[],by kernel_rfl⟩
      cases aM;exact⟨[(3,bT h8),(8,bT h9),(13,bT az),(18,bT aE),(23,bF aN),(28,bF rfl),(33,bF rfl),(37,uN)],[],by kernel_rfl⟩
     cases aM;exact⟨[(3,bT h8),(8,bT h9),(13,bT az),(18,bF aE),(23,bF rfl),(28,bF rfl),(33,bF rfl),(37,uN)],[],by kernel_rfl⟩
    cases aM;exact⟨[(3,bT h8),(8,bT h9),(13,bF az),(18,bF rfl),(23,bF rfl),(28,bF rfl),(33,bF rfl),(37,uN)],[],by kernel_rfl⟩
   cases aM;exact⟨[(3,bT h8),(8,bF h9),(13,bF rfl),(18,bF rfl),(23,bF rfl),(28,bF rfl),(33,bF rfl),(37,uN)],[],by kernel_rfl⟩
  cases aM;exact⟨[(3,bF h8),(8,bF rfl),(13,bF rfl),(18,bF rfl),(23,bF rfl),(28,bF rfl),(33,bF rfl),(37,uN)],[],by kernel_rfl⟩
 cases hF;exact wr af []
def ri(N:Nat)(v2:Int)(Qt:an→Int→akd Int):akb an→Nat→Int→akd Int
 |[],_,v7=>
  some v7
 |v5::v6,v3,v7=>
  bif (decide (v2>(1:Int)))then
   Option.bind (Qt v5 (aS (v2-(1:Int)))) fun v8=>
   (fun cX=>ri N v2 Qt v6 (v3+1) cX) (if(aS ((1:Int)+v8))>v7 then(aS ((1:Int)+v8))else v7)
  else
   some v7
def ng(N:Nat):Nat→an→Int→akd Int
 |0,_,_=>none
 |d+1,v1,v2=>
  ri N v2 (ng N d) v1.ax 0 (1:Int)
def Lz(N:Nat)(v1:an)(v2:Int):akd Int:=ng N N v1 v2
theorem afa(N:Nat):∀d:Nat,(∀(v1:an)(v2:Int)(r:Int),ng N d v1 v2=some r→aG Tryz.prog 118 [(aA v1),(aw v2)] (·=(aw r))):=by
 intro d
 induction d with
 |zero=>intro v1 v2 r hF;rw[ng]at hF;cases hF
 |succ d ih=>
  have aaw:=ih;intro v1 v2 r hF;rw[ng]at hF;refine aP Tryz.func118 ?_;refine au af [[],[],[]] ?_;refine jZ kX 0 12 v1.ax fun h2=> ?_;refine qp af 1 [] [1,2,5,6] 1 v1.ax (fun v3(v7:Int)=>⟨30,[(1,(aw v2)),(2,(.ptr 0 0)),(5,(aw v7)),(6,(aw (v3:Int)))],[.cells (aA v1).cells]⟩) (ri N v2 (ng N d)) (1:Int) hF ?_ ?_
  ·intro v3 v7 h3 hF f1;rw[ri]at hF;cases hF;exact wr af [[(10,oL v1.ax dD),(18,bF (cJ h3)),(21,bF (cJ h3)),(25,bF (cJ h3))],[(0,bF rfl)],[]]
  intro v3 v5 v6 v7 h3 hF f1 aO;rw[ri]at hF;refine au af [[(10,oL v1.ax dD),(18,bT (cD h3)),(21,bT (cD h3)),(25,bT (cD h3))]] ?_;refine bc hF (fun h4 hF=> ?_) fun h4 hF=> ?_
  ·obtain⟨v8,h5,hF⟩:=ao hF;exact wb af aO (if(aS ((1:Int)+v8))>v7 then(aS ((1:Int)+v8))else v7) [[(0,bT h4)],[(13,oE (bq (cd h3))),(25,cL (aaw v5 (aS (v2-(1:Int))) v8 h5))],[(5,oq (dh h3 rfl h2))]] h3 hF
  cases hF;exact wr af [[(0,bF h4)],[]]
theorem aiC(N:Nat)(v1:an)(v2:Int)(r:Int)(hF:Lz N v1 v2=some r):aG Tryz.prog 118 [(aA v1),(aw v2)] (·=(aw r)):=(afa N N) v1 v2 r hF
def IP(N:Nat)(v1:an):akd Int:=
 Option.bind (Lz N v1 (41:Int)) fun v2=>
 some v2
theorem Yj(N:Nat)(v1:an)(r:Int)(hF:IP N v1=some r):aG Tryz.prog 58 [(aA v1)] (·=(aw r)):=by
 rw[IP]at hF;refine aP Tryz.func58 ?_;obtain⟨v2,h1,hF⟩:=ao hF;obtain rfl:=sj hF;exact wr af [[],[(4,cL (aiC N v1 (41:Int) v2 h1))]]
def tT(N:Nat)(v2:Int)(R2:an→Int→akd Int):akb an→Nat→Int→akd Int
 |[],_,v7=>
  some v7
 |v5::v6,v3,v7=>
  bif (decide (v7≤v2))then
   Option.bind (R2 v5 (aS (v2-v7))) fun v8=>
   (fun cX=>tT N v2 R2 v6 (v3+1) cX) (aS (v7+v8))
  else
   some v7
def nY(N:Nat):Nat→an→Int→akd Int
 |0,_,_=>none
 |d+1,v1,v2=>
  tT N v2 (nY N d) v1.ax 0 (1:Int)
def KB(N:Nat)(v1:an)(v2:Int):akd Int:=nY N N v1 v2
theorem ag0(N:Nat):∀d:Nat,(∀(v1:an)(v2:Int)(r:Int),nY N d v1 v2=some r→aG Tryz.prog 119 [(aA v1),(aw v2)] (·=(aw r))):=by
 intro d
 induction d with
 |zero=>intro v1 v2 r hF;rw[nY]at hF;cases hF
 |succ d ih=>
  have ac6:=ih;intro v1 v2 r hF;rw[nY]at hF;refine aP Tryz.func119 ?_;refine au af [[],[],[]] ?_;refine jZ kX 0 12 v1.ax fun h2=> ?_;refine qp af 1 [] [1,2,5,6] 1 v1.ax (fun v3(v7:Int)=>⟨31,[(1,(aw v2)),(2,(.ptr 0 0)),(5,(aw v7)),(6,(aw (v3:Int)))],[.cells (aA v1).cells]⟩) (tT N v2 (nY N d)) (1:Int) hF ?_ ?_
  ·intro v3 v7 h3 hF f1;rw[tT]at hF;cases hF;exact wr af [[(10,oL v1.ax dD),(18,bF (cJ h3)),(21,bF (cJ h3)),(24,bF (cJ h3)),(28,bF (cJ h3))],[(0,bF rfl)],[]]
  intro v3 v5 v6 v7 h3 hF f1 aO;rw[tT]at hF;refine au af [[(10,oL v1.ax dD),(18,bT (cD h3)),(21,bT (cD h3)),(24,bT (cD h3)),(28,bT (cD h3))]] ?_;refine bc hF (fun h4 hF=> ?_) fun h4 hF=> ?_
  ·obtain⟨v8,h5,hF⟩:=ao hF;exact wb af aO (aS (v7+v8)) [[(0,bT h4)],[(13,oE (bq (cd h3))),(28,cL (ac6 v5 (aS (v2-v7)) v8 h5))],[(5,oq (dh h3 rfl h2))]] h3 hF
  cases hF;exact wr af [[(0,bF h4)],[]]
theorem aid(N:Nat)(v1:an)(v2:Int)(r:Int)(hF:KB N v1 v2=some r):aG Tryz.prog 119 [(aA v1),(aw v2)] (·=(aw r)):=(ag0 N N) v1 v2 r hF
def HR(N:Nat)(v1:an):akd Int:=
 Option.bind (KB N v1 (2000:Int)) fun v2=>
 some (if(2001:Int)<v2 then(2001:Int)else v2)
theorem agn(N:Nat)(v1:an)(r:Int)(hF:HR N v1=some r):aG Tryz.prog 59 [(aA v1)] (·=(aw r)):=by
 rw[HR]at hF;refine aP Tryz.func59 ?_;obtain⟨v2,h1,hF⟩:=ao hF;cases hF;exact wr af [[],[(4,cL (aid N v1 (2000:Int) v2 h1))]]
def vb(N:Nat):akb aI→Nat→akd Bool
 |[],_=>
  some true
 |v7::v8,v5=>
  Option.bind (bif (bL v7.bU==bL (bs []))then(bif (decide ((v7.bC.length:Int)>(0:Int)))then some true else some false)else(bif (v7.aK.xK.toInt !=(0:Int))then some true else some (decide ((v7.aK.xL.length:Int)>(0:Int))))) fun v9=>
  bif v9 then
   some false
  else
   (vb N v8 (v5+1))
def BQ(N:Nat)(v1:an):akd Bool:=
 Option.bind (bif (decide (v1.ar<(1:Int)))then some true else some (decide (v1.ar>(18:Int)))) fun v2=>
 bif v2 then
  some false
 else
  Option.bind (bif (v1.ar !=(1:Int))then(bif ((v1.ba.xN.toInt==(0:Int64).toInt)&&((v1.ba.xD.toInt==(0:Int64).toInt)&&true))then(bif (v1.ar !=(12:Int))then some (!((v1.aC.a8==(0:Int))&&((v1.aC.bz==(0:Int))&&((v1.aC.bE==(0:Int))&&((v1.aC.bK==(0:Int))&&((v1.aC.bI==(0:Int))&&true))))))else some false)else some true)else some false) fun v3=>
  bif v3 then
   some false
  else
   Option.bind (bif (v1.ar !=(2:Int))then(bif (v1.aK.xK.toInt !=(0:Int))then some true else(bif (decide ((v1.aK.xL.length:Int)>(0:Int)))then some true else(bif (v1.ar !=(3:Int))then(bif (bL v1.aV==bL (bs []))then some (decide ((v1.xIdx.length:Int)>(0:Int)))else some true)else some false)))else(bif (v1.ar !=(3:Int))then(bif (bL v1.aV==bL (bs []))then some (decide ((v1.xIdx.length:Int)>(0:Int)))else some true)else some false)) fun v4=>
   bif v4 then
    some false
   else
    vb N v1.xIdx 0
def CZ(v1:an)(l:akb aq):akb aq:= .cells (aA v1).cells::l
theorem ah6(N:Nat)(v1:an)(r:Bool)(hF:BQ N v1=some r):aG Tryz.prog 120 [(aA v1)] (·=(aB r)):=by
 rw[BQ]at hF;refine aP Tryz.func120 ?_;refine au af [[]] ?_;obtain⟨v2,h2,hF⟩:=ao hF;refine bf af [(12,(aB v2))] (CZ v1 []) ?_ ?_
 ·refine bc h2 (fun h1 h2=> ?_) fun h1 h2=> ?_
  ·cases h2;exact⟨[(3,bT h1)],[],by kernel_rfl⟩
  cases h2;exact⟨[(3,bF h1)],[],by kernel_rfl⟩
 refine bc hF (fun h3 hF=> ?_) fun h3 hF=> ?_
 ·cases hF;exact wr af [[(0,bT h3)],[]]
 refine au af [[(0,bF h3)]] ?_;obtain⟨v3,h7,hF⟩:=ao hF;refine bf af [(37,(aB v3))] (CZ v1 []) ?_ ?_
 ·refine bc h7 (fun h4 h7=> ?_) fun h4 h7=> ?_
  ·refine bc h7 (fun h5 h7=> ?_) fun h5 h7=> ?_
   ·refine bc h7 (fun h6 h7=> ?_) fun h6 h7=> ?_
    ·cases h7;exact⟨[(3,bT h4),(9,bF (not_t h5)),(13,bT h4),(18,bT h6)],[(52,bT h4),(70,bT h6)],by kernel_rfl⟩
    cases h7;exact⟨[(3,bT h4),(9,bF (not_t h5)),(13,bT h4),(18,bF h6)],[(52,bT h4),(70,bF h6)],by kernel_rfl⟩
   cases h7;exact⟨[(3,bT h4),(9,bT (bS h5)),(13,uN),(18,uN)],[],by kernel_rfl⟩
  cases h7;exact⟨[(3,bF h4),(9,bF rfl),(13,bF h4),(18,bF rfl)],[(52,bF h4),(70,bF rfl)],by kernel_rfl⟩
 refine bc hF (fun h8 hF=> ?_) fun h8 hF=> ?_
 ·cases hF;exact wr af [[(0,bT h8)],[]]
 refine au af [[(0,bF h8)]] ?_;obtain⟨v4,aM,hF⟩:=ao hF;refine bf af [(69,(aB v4))] (CZ v1 []) ?_ ?_
 ·refine bc aM (fun h9 aM=> ?_) fun h9 aM=> ?_
  ·refine bc aM (fun az aM=> ?_) fun az aM=> ?_
   ·cases aM;exact⟨[(3,bT h9),(8,bT az),(16,bT rfl),(20,uN),(24,uN)],[(43,bT az)],by kernel_rfl⟩
   refine bc aM (fun aE aM=> ?_) fun aE aM=> ?_
   ·cases aM;exact⟨[(3,bT h9),(8,bF az),(16,bT aE),(20,uN),(24,uN)],[(37,oL v1.aK.xL dd),(43,bF az)],by kernel_rfl⟩
   refine bc aM (fun aN aM=> ?_) fun aN aM=> ?_
   ·refine bc aM (fun aY aM=> ?_) fun aY aM=> ?_
    ·cases aM;exact⟨[(3,bT h9),(8,bF az),(16,bF aE),(20,bT aN),(24,bF (not_t aY))],[(37,oL v1.aK.xL dd),(43,bF az),(82,oL v1.xIdx dP),(88,bF (not_t aY)),(91,bT aN)],by kernel_rfl⟩
    cases aM;exact⟨[(3,bT h9),(8,bF az),(16,bF aE),(20,bT aN),(24,bT (bS aY))],[(37,oL v1.aK.xL dd),(43,bF az),(88,bT (bS aY)),(91,bT aN)],by kernel_rfl⟩
   cases aM;exact⟨[(3,bT h9),(8,bF az),(16,bF aE),(20,bF aN),(24,uN)],[(37,oL v1.aK.xL dd),(43,bF az),(91,bF aN)],by kernel_rfl⟩
  refine bc aM (fun aJ aM=> ?_) fun aJ aM=> ?_
  ·refine bc aM (fun bt aM=> ?_) fun bt aM=> ?_
   ·cases aM;exact⟨[(3,bF h9),(8,uN),(16,bF rfl),(20,bT aJ),(24,bF (not_t bt))],[(82,oL v1.xIdx dP),(88,bF (not_t bt)),(91,bT aJ)],by kernel_rfl⟩
   cases aM;exact⟨[(3,bF h9),(8,uN),(16,bF rfl),(20,bT aJ),(24,bT (bS bt))],[(88,bT (bS bt)),(91,bT aJ)],by kernel_rfl⟩
  cases aM;exact⟨[(3,bF h9),(8,uN),(16,bF rfl),(20,bF aJ),(24,uN)],[(91,bF aJ)],by kernel_rfl⟩
 refine bc hF (fun bp hF=> ?_) fun bp hF=> ?_
 ·cases hF;exact wr af [[(0,bT bp)],[]]
 refine au af [[(0,bF bp)],[]] ?_;refine jZ ml 0 11 v1.xIdx fun bR=> ?_;refine fE af 1 [] [1,3] 1 v1.xIdx (fun v5=>⟨109,[(1,(.ptr 0 0)),(3,(aw (v5:Int)))],(CZ v1 [])⟩) (vb N) hF ?_ ?_
 ·intro v5 b5 hF f1;rw[vb]at hF;cases hF;exact wr af [[(10,oL v1.xIdx dP)],[(0,bF (cJ b5))],[]]
 intro v5 v7 v8 b5 hF f1 aO;rw[vb]at hF;refine au af [[(10,oL v1.xIdx dP)],[(0,bT (cD b5))],[(10,oE (fz (cd b5)))]] ?_;obtain⟨v9,cC,hF⟩:=ao hF;refine bf af [(108,(aB v9))] (CZ v1 [.cells (gB v7).cells]) ?_ ?_
 ·refine bc cC (fun ck cC=> ?_) fun ck cC=> ?_
  ·refine bc cC (fun bw cC=> ?_) fun bw cC=> ?_
   ·cases cC;exact⟨[(3,bT ck),(9,bT bw),(13,uN),(18,uN)],[(19,oL v7.bC eG)],by kernel_rfl⟩
   cases cC;exact⟨[(3,bT ck),(9,bF bw),(13,bF (not_t ck)),(18,uN)],[(19,oL v7.bC eG),(76,bF (not_t ck))],by kernel_rfl⟩
  refine bc cC (fun cP cC=> ?_) fun cP cC=> ?_
  ·cases cC;exact⟨[(3,bF ck),(9,bF rfl),(13,bT (bS ck)),(18,bT cP)],[(73,bT cP),(76,bT (bS ck))],by kernel_rfl⟩
  cases cC;exact⟨[(3,bF ck),(9,bF rfl),(13,bT (bS ck)),(18,bF cP)],[(67,oL v7.aK.xL dd),(73,bF cP),(76,bT (bS ck))],by kernel_rfl⟩
 refine bc hF (fun eI hF=> ?_) fun eI hF=> ?_
 ·cases hF;exact wr af [[(0,bT eI)],[]]
 exact wb af aO () [[(0,bF eI)],[(5,oq (dh b5 rfl bR))]] b5 hF
def Gu(N:Nat):akd ((akb akc)):=
 some [(bs [115,105,122,101]),(bs [119,104,101,114,101]),(bs [105,110]),(bs [100,101,102]),(bs [111,117,116]),(bs [115,117,109]),(bs [112,114,111,100]),(bs [109,105,110]),(bs [109,97,120]),(bs [115,99,97,110]),(bs [111,118,101,114]),(bs [105,102]),(bs [99,97,115,116]),(bs [102,114,97,99]),(bs [105,110,116]),(bs [102,105,120]),(bs [99,101,105,108]),(bs [102,108,111,111,114]),(bs [122,101,114,111]),(bs [101,118,101,110]),(bs [115,97,116]),(bs [119,114,97,112])]
theorem ac8(N:Nat)(r:(akb akc))(hF:Gu N=some r):aG Tryz.prog 245 [] (·=(.d (.sl (gw r)))):=by
 rw[Gu]at hF;refine aP Tryz.func245 ?_;cases hF;exact wr af [[],[]]
def wc(N:Nat)(v2:akc):akb akc→Nat→akd Bool
 |[],_=>
  some false
 |v5::v6,v3=>
  bif (bL v5==bL v2)then
   some true
  else
   (wc N v2 v6 (v3+1))
def Gx(N:Nat)(v1:akb akc)(v2:akc):akd Bool:=
 wc N v2 v1 0
theorem Yr(N:Nat)(v1:akb akc)(v2:akc)(r:Bool)(hF:Gx N v1 v2=some r):aG Tryz.prog 90 [(.d (.sl (gw v1))),(aR v2)] (·=(aB r)):=by
 rw[Gx]at hF;refine aP Tryz.func90 ?_;refine au af [[],[]] ?_;refine fO LU 0 v1 fun h2=> ?_;refine fE af 1 [] [0,1,5] 0 v1 (fun v3=>⟨18,[(0,(.d (.sl (gw v1)))),(1,(aR v2)),(5,(aw (v3:Int)))],[]⟩) (wc N v2) hF ?_ ?_
 ·intro v3 h3 hF f1;rw[wc]at hF;cases hF;exact wr af [[(7,oL v1 zc)],[(0,bF (cJ h3))],[]]
 intro v3 v5 v6 h3 hF f1 aO;rw[wc]at hF;refine au af [[(7,oL v1 zc)],[(0,bT (cD h3))],[(7,oE (DJ (cd h3)))]] ?_;refine bc hF (fun h4 hF=> ?_) fun h4 hF=> ?_
 ·cases hF;exact wr af [[(0,bT h4)],[]]
 exact wb af aO () [[(0,bF h4)],[(5,oq (dh h3 rfl h2))]] h3 hF
def wJ(N:Nat)(v1:akc):Nat→Int→akd Bool
 |0,_=>none
 |v5+1,v6=>
  bif (decide (v6<(v1.size:Int)))then
   bif (decide ((0:Int)≤v6))then
   Option.bind (v1[(v6).toNat]?) fun v7=>
   Option.bind (bif (decide ((v7.toNat:Int)≥(97:Int)))then(bif (decide ((v7.toNat:Int)≤(122:Int)))then some (!true)else(bif (decide (v6>(0:Int)))then(bif (decide ((v7.toNat:Int)≥(48:Int)))then(bif (decide ((v7.toNat:Int)≤(57:Int)))then some (!true)else some (!((v7.toNat:Int)==(95:Int))))else some (!((v7.toNat:Int)==(95:Int))))else some (!false)))else(bif (decide (v6>(0:Int)))then(bif (decide ((v7.toNat:Int)≥(48:Int)))then(bif (decide ((v7.toNat:Int)≤(57:Int)))then some (!true)else some (!((v7.toNat:Int)==(95:Int))))else some (!((v7.toNat:Int)==(95:Int))))else some (!false))) fun v8=>
   bif v8 then
    some false
   else
    (fun cX=>wJ N v1 v5 cX) (aS (v6+(1:Int)))
   else none
  else
   some true
def vU(N:Nat)(v1:akc):akd Bool:=
 Option.bind (bif (decide ((v1.size:Int)<(1:Int)))then some true else(bif (decide ((v1.size:Int)>(16:Int)))then some true else Option.bind (Gu N) fun v2=>
 Option.bind (Gx N v2 v1) fun v3=>
 some v3)) fun v4=>
 bif v4 then
  some false
 else
  wJ N v1 N (0:Int)
theorem yg(N:Nat)(v1:akc)(r:Bool)(hF:vU N v1=some r):aG Tryz.prog 191 [(aR v1)] (·=(aB r)):=by
 rw[vU]at hF;refine aP Tryz.func191 ?_;refine au af [[]] ?_;obtain⟨v4,h5,hF⟩:=ao hF;refine bf af [(17,(aB v4))] [] ?_ ?_
 ·refine bc h5 (fun h1 h5=> ?_) fun h1 h5=> ?_
  ·cases h5;exact⟨[(3,bT h1),(8,bT rfl)],[],by kernel_rfl⟩
  refine bc h5 (fun h2 h5=> ?_) fun h2 h5=> ?_
  ·cases h5;exact⟨[(3,bF h1),(8,bT h2)],[],by kernel_rfl⟩
  obtain⟨v2,h3,h5⟩:=ao h5;obtain⟨v3,h4,h5⟩:=ao h5;obtain rfl:=sj h5;exact⟨[(3,bF h1),(8,bF h2)],[(28,cL (ac8 N v2 h3)),(34,cL (Yr N v2 v1 v3 h4))],by kernel_rfl⟩
 refine bc hF (fun h6 hF=> ?_) fun h6 hF=> ?_
 ·cases hF;exact wr af [[(0,bT h6)],[]]
 refine K5 af 1 [[(0,bF h6)],[]] [0,3] 0 (fun(v6:Int)=>⟨50,[(0,(aR v1)),(3,(aw v6))],[]⟩) (wJ N v1) N (0:Int) hF ?_;intro v5 v6 hF f1 aO;rw[wJ]at hF;refine au af [[]] ?_;refine bc hF (fun h7 hF=> ?_) fun h7 hF=> ?_
 ·obtain⟨h9,hF⟩:=dn hF;obtain⟨v7,h8,hF⟩:=ao hF;refine au af [[(0,bT h7)],[(7,⟨_,_, .ch (i:=v6) (of_decide_eq_true h9) h8⟩)]] ?_;obtain⟨v8,a7,hF⟩:=ao hF;refine bf af [(49,(aB v8))] [] ?_ ?_
  ·refine bc a7 (fun az a7=> ?_) fun az a7=> ?_
   ·refine bc a7 (fun aE a7=> ?_) fun aE a7=> ?_
    ·cases a7;exact⟨[(2,bT az),(6,bT aE),(9,uN),(12,uN),(16,uN)],[],by kernel_rfl⟩
    refine bc a7 (fun aN a7=> ?_) fun aN a7=> ?_
    ·refine bc a7 (fun aY a7=> ?_) fun aY a7=> ?_
     ·refine bc a7 (fun aJ a7=> ?_) fun aJ a7=> ?_
      ·cases a7;exact⟨[(2,bT az),(6,bF aE),(9,bT aN),(12,bT aY),(16,bT aJ)],[(46,bT aY),(58,bT aJ),(61,bT aN)],by kernel_rfl⟩
      cases a7;exact⟨[(2,bT az),(6,bF aE),(9,bT aN),(12,bT aY),(16,bF aJ)],[(46,bT aY),(58,bF aJ),(61,bT aN)],by kernel_rfl⟩
     cases a7;exact⟨[(2,bT az),(6,bF aE),(9,bT aN),(12,bF aY),(16,bF rfl)],[(46,bF aY),(58,bF rfl),(61,bT aN)],by kernel_rfl⟩
    cases a7;exact⟨[(2,bT az),(6,bF aE),(9,bF aN),(12,uN),(16,uN)],[(61,bF aN)],by kernel_rfl⟩
   refine bc a7 (fun bt a7=> ?_) fun bt a7=> ?_
   ·refine bc a7 (fun aM a7=> ?_) fun aM a7=> ?_
    ·refine bc a7 (fun bp a7=> ?_) fun bp a7=> ?_
     ·cases a7;exact⟨[(2,bF az),(6,bF rfl),(9,bT bt),(12,bT aM),(16,bT bp)],[(46,bT aM),(58,bT bp),(61,bT bt)],by kernel_rfl⟩
     cases a7;exact⟨[(2,bF az),(6,bF rfl),(9,bT bt),(12,bT aM),(16,bF bp)],[(46,bT aM),(58,bF bp),(61,bT bt)],by kernel_rfl⟩
    cases a7;exact⟨[(2,bF az),(6,bF rfl),(9,bT bt),(12,bF aM),(16,bF rfl)],[(46,bF aM),(58,bF rfl),(61,bT bt)],by kernel_rfl⟩
   cases a7;exact⟨[(2,bF az),(6,bF rfl),(9,bF bt),(12,uN),(16,uN)],[(61,bF bt)],by kernel_rfl⟩
  refine bc hF (fun bR hF=> ?_) fun bR hF=> ?_
  ·cases hF;exact wr af [[(0,bT bR)],[]]
  exact yw af aO (aS (v6+(1:Int))) [[(0,bF bR)],[]] hF
 cases hF;exact wr af [[(0,bF h7)],[]]
def xc(N:Nat):akb aI→Nat→akd Bool
 |[],_=>
  some true
 |v6::v7,v4=>
  Option.bind (bif (bL v6.bU==bL (bs []))then some false else Option.bind (vU N v6.bU) fun v8=>
  some (!v8)) fun v9=>
  bif v9 then
   some false
  else
   (xc N v7 (v4+1))
def C0(N:Nat)(v1:an):akd Bool:=
 Option.bind (bif (v1.ar==(3:Int))then Option.bind (vU N v1.aV) fun v2=>
 some (!v2)else some false) fun v3=>
 bif v3 then
  some false
 else
  xc N v1.xIdx 0
theorem adv(N:Nat)(v1:an)(r:Bool)(hF:C0 N v1=some r):aG Tryz.prog 121 [(aA v1)] (·=(aB r)):=by
 rw[C0]at hF;refine aP Tryz.func121 ?_;refine au af [[]] ?_;obtain⟨v3,h3,hF⟩:=ao hF;refine bf af [(12,(aB v3))] [.cells (aA v1).cells] ?_ ?_
 ·refine bc h3 (fun h1 h3=> ?_) fun h1 h3=> ?_
  ·obtain⟨v2,h2,h3⟩:=ao h3;cases h3;exact⟨[(3,bT h1)],[(19,cL (yg N v1.aV v2 h2))],by kernel_rfl⟩
  cases h3;exact⟨[(3,bF h1)],[],by kernel_rfl⟩
 refine bc hF (fun h4 hF=> ?_) fun h4 hF=> ?_
 ·cases hF;exact wr af [[(0,bT h4)],[]]
 refine au af [[(0,bF h4)],[]] ?_;refine jZ ml 0 11 v1.xIdx fun h6=> ?_;refine fE af 1 [] [1,3] 1 v1.xIdx (fun v4=>⟨37,[(1,(.ptr 0 0)),(3,(aw (v4:Int)))],[.cells (aA v1).cells]⟩) (xc N) hF ?_ ?_
 ·intro v4 h7 hF f1;rw[xc]at hF;cases hF;exact wr af [[(10,oL v1.xIdx dP)],[(0,bF (cJ h7))],[]]
 intro v4 v6 v7 h7 hF f1 aO;rw[xc]at hF;refine au af [[(10,oL v1.xIdx dP)],[(0,bT (cD h7))]] ?_;obtain⟨v9,az,hF⟩:=ao hF;refine bf af [(36,(aB v9))] [.cells (aA v1).cells] ?_ ?_
 ·refine bc az (fun h8 az=> ?_) fun h8 az=> ?_
  ·cases az;exact⟨[(7,bF (not_t h8))],[(10,oE (fz (cd h7)))],by kernel_rfl⟩
  obtain⟨v8,h9,az⟩:=ao az;cases az;exact⟨[(7,bT (bS h8))],[(10,oE (fz (cd h7))),(34,oE (fz (cd h7))),(43,cL (yg N v6.bU v8 h9))],by kernel_rfl⟩
 refine bc hF (fun aE hF=> ?_) fun aE hF=> ?_
 ·cases hF;exact wr af [[(0,bT aE)],[]]
 exact wb af aO () [[(0,bF aE)],[(5,oq (dh h7 rfl h6))]] h7 hF
def yi(N:Nat)(v1:Int)(v3:Bool):akd Int:=
 bif v3 then
  some (1:Int)
 else
  bif (v1==(11:Int))then
   some (3:Int)
  else
   some (2:Int)
def AN(N:Nat)(v1:Int)(v2:Bool):akd Int:=
 bif v2 then
  some (0:Int)
 else
  bif (v1==(8:Int))then
   yi N v1 (v1==(8:Int))
  else
   bif (v1==(12:Int))then
    yi N v1 (v1==(12:Int))
   else
    yi N v1 (v1==(18:Int))
def DD(N:Nat)(v1:Int):akd Int:=
 bif (v1==(1:Int))then
  AN N v1 (v1==(1:Int))
 else
  bif (v1==(2:Int))then
   AN N v1 (v1==(2:Int))
  else
   AN N v1 (v1==(3:Int))
theorem U9(N:Nat)(v1:Int)(r:Int)(hF:DD N v1=some r):aG Tryz.prog 192 [(aw v1)] (·=(aw r)):=by
 rw[DD]at hF;refine aP Tryz.func192 ?_;refine gN af r 1 [[],[],[]] [3,4] 0 (fun(v2:Bool)=>⟨14,[(3,(aw v1)),(4,(aB v2))],[]⟩) (AN N v1) ?_ ?_
 ·intro f1 aO;refine bc hF (fun h6 hF=> ?_) fun h6 hF=> ?_
  ·exact bM af aO (v1==(1:Int)) [[(0,bT h6)]] hF
  refine au af [[(0,bF h6)],[]] ?_;refine bc hF (fun h7 hF=> ?_) fun h7 hF=> ?_
  ·exact bM af aO (v1==(2:Int)) [[(0,bT h7)]] hF
  exact bM af aO (v1==(3:Int)) [[(0,bF h7)],[]] hF
 intro v2 hF;rw[AN]at hF;refine bc hF (fun h1 hF=> ?_) fun h1 hF=> ?_
 ·cases hF;exact wr af [[(0,bT h1)],[]]
 refine gN af r 2 [[(0,bF h1)],[]] [3,8] 0 (fun(v3:Bool)=>⟨14,[(3,(aw v1)),(8,(aB v3))],[]⟩) (yi N v1) ?_ ?_
 ·intro f2 eD;refine bc hF (fun h4 hF=> ?_) fun h4 hF=> ?_
  ·exact bM af eD (v1==(8:Int)) [[(0,bT h4)]] hF
  refine au af [[(0,bF h4)],[]] ?_;refine bc hF (fun h5 hF=> ?_) fun h5 hF=> ?_
  ·exact bM af eD (v1==(12:Int)) [[(0,bT h5)]] hF
  exact bM af eD (v1==(18:Int)) [[(0,bF h5)],[]] hF
 intro v3 hF;rw[yi]at hF;refine bc hF (fun h2 hF=> ?_) fun h2 hF=> ?_
 ·cases hF;exact wr af [[(0,bT h2)],[]]
 refine au af [[(0,bF h2)],[]] ?_;refine bc hF (fun h3 hF=> ?_) fun h3 hF=> ?_
 ·cases hF;exact wr af [[(0,bT h3)],[]]
 cases hF;exact wr af [[(0,bF h3)],[]]
def w7(N:Nat):akb aI→Nat→akd Bool
 |[],_=>
  some true
 |v6::v7,v4=>
  bif (decide ((v6.bC.length:Int)>(6:Int)))then
   some false
  else
   (w7 N v7 (v4+1))
def A0(N:Nat)(v1:an):akd Bool:=
 Option.bind (DD N v1.ar) fun v2=>
 Option.bind (bif ((v1.ax.length:Int) !=v2)then some true else some (decide ((v1.xIdx.length:Int)>(6:Int)))) fun v3=>
 bif v3 then
  some false
 else
  w7 N v1.xIdx 0
theorem ad0(N:Nat)(v1:an)(r:Bool)(hF:A0 N v1=some r):aG Tryz.prog 122 [(aA v1)] (·=(aB r)):=by
 rw[A0]at hF;refine aP Tryz.func122 ?_;refine au af [[]] ?_;obtain⟨v2,h1,hF⟩:=ao hF;obtain⟨v3,h3,hF⟩:=ao hF;refine bf af [(16,(aB v3))] [.cells (aA v1).cells] ?_ ?_
 ·refine bc h3 (fun h2 h3=> ?_) fun h2 h3=> ?_
  ·cases h3;exact⟨[(7,bT h2)],[(7,oL v1.ax dD),(16,cL (U9 N v1.ar v2 h1))],by kernel_rfl⟩
  cases h3;exact⟨[(7,bF h2)],[(7,oL v1.ax dD),(16,cL (U9 N v1.ar v2 h1)),(31,oL v1.xIdx dP)],by kernel_rfl⟩
 refine bc hF (fun h4 hF=> ?_) fun h4 hF=> ?_
 ·cases hF;exact wr af [[(0,bT h4)],[]]
 refine au af [[(0,bF h4)],[]] ?_;refine jZ ml 0 11 v1.xIdx fun h6=> ?_;refine fE af 1 [] [1,3] 1 v1.xIdx (fun v4=>⟨32,[(1,(.ptr 0 0)),(3,(aw (v4:Int)))],[.cells (aA v1).cells]⟩) (w7 N) hF ?_ ?_
 ·intro v4 h7 hF f1;rw[w7]at hF;cases hF;exact wr af [[(10,oL v1.xIdx dP)],[(0,bF (cJ h7))],[]]
 intro v4 v6 v7 h7 hF f1 aO;rw[w7]at hF;refine au af [[(10,oL v1.xIdx dP)],[(0,bT (cD h7))],[(10,oE (fz (cd h7))),(19,oL v6.bC eG)]] ?_;refine bc hF (fun h8 hF=> ?_) fun h8 hF=> ?_
 ·cases hF;exact wr af [[(0,bT h8)],[]]
 exact wb af aO () [[(0,bF h8)],[(5,oq (dh h7 rfl h6))]] h7 hF
def xB(N:Nat)(v1:an):akd Bool:=
 Option.bind (bif (decide (v1.ar≥(13:Int)))then some (decide (v1.ar≤(18:Int)))else some false) fun v2=>
 some v2
theorem Uw(N:Nat)(v1:an)(r:Bool)(hF:xB N v1=some r):aG Tryz.prog 63 [(aA v1)] (·=(aB r)):=by
 rw[xB]at hF;refine aP Tryz.func63 ?_;refine au af [[]] ?_;obtain⟨v2,h2,hF⟩:=ao hF;refine bf af [(2,(aB v2))] [.cells (aA v1).cells] ?_ ?_
 ·refine bc h2 (fun h1 h2=> ?_) fun h1 h2=> ?_
  ·cases h2;exact⟨[(3,bT h1)],[],by kernel_rfl⟩
  cases h2;exact⟨[(3,bF h1)],[],by kernel_rfl⟩
 cases hF;exact wr af []
def D4(N:Nat)(v1:Int)(v2:Int):akd Bool:=
 Option.bind (bif (v1==(11:Int))then(bif (v2==(0:Int))then some true else(bif (v1==(16:Int))then some true else(bif (v1==(17:Int))then some true else some (v1==(18:Int)))))else(bif (v1==(16:Int))then some true else(bif (v1==(17:Int))then some true else some (v1==(18:Int))))) fun v3=>
 some v3
theorem afJ(N:Nat)(v1:Int)(v2:Int)(r:Bool)(hF:D4 N v1 v2=some r):aG Tryz.prog 193 [(aw v1),(aw v2)] (·=(aB r)):=by
 rw[D4]at hF;refine aP Tryz.func193 ?_;refine au af [[]] ?_;obtain⟨v3,h7,hF⟩:=ao hF;refine bf af [(4,(aB v3))] [] ?_ ?_
 ·refine bc h7 (fun h1 h7=> ?_) fun h1 h7=> ?_
  ·refine bc h7 (fun h2 h7=> ?_) fun h2 h7=> ?_
   ·cases h7;exact⟨[(2,bT h1),(6,bT h2),(10,bT rfl),(14,bT rfl)],[],by kernel_rfl⟩
   refine bc h7 (fun h3 h7=> ?_) fun h3 h7=> ?_
   ·cases h7;exact⟨[(2,bT h1),(6,bF h2),(10,bT h3),(14,bT rfl)],[],by kernel_rfl⟩
   refine bc h7 (fun h4 h7=> ?_) fun h4 h7=> ?_
   ·cases h7;exact⟨[(2,bT h1),(6,bF h2),(10,bF h3),(14,bT h4)],[],by kernel_rfl⟩
   cases h7;exact⟨[(2,bT h1),(6,bF h2),(10,bF h3),(14,bF h4)],[],by kernel_rfl⟩
  refine bc h7 (fun h5 h7=> ?_) fun h5 h7=> ?_
  ·cases h7;exact⟨[(2,bF h1),(6,bF rfl),(10,bT h5),(14,bT rfl)],[],by kernel_rfl⟩
  refine bc h7 (fun h6 h7=> ?_) fun h6 h7=> ?_
  ·cases h7;exact⟨[(2,bF h1),(6,bF rfl),(10,bF h5),(14,bT h6)],[],by kernel_rfl⟩
  cases h7;exact⟨[(2,bF h1),(6,bF rfl),(10,bF h5),(14,bF h6)],[],by kernel_rfl⟩
 cases hF;exact wr af []
def wN(N:Nat)(v1:an):akb an→Nat→akd Bool
 |[],_=>
  some true
 |v7::v8,v5=>
  Option.bind (xB N v7) fun v9=>
  Option.bind (D4 N v1.ar (v5:Int)) fun v10=>
  bif (v9==v10)then
   (wN N v1 v8 (v5+1))
  else
   some false
def EW(N:Nat)(v1:an):akd Bool:=
 Option.bind (bif (v1.ar==(1:Int))then Option.bind (lB N v1.aC) fun v2=>
 some (!v2)else(bif (v1.ar==(12:Int))then Option.bind (lB N v1.aC) fun v3=>
 some (!v3)else some false)) fun v4=>
 bif v4 then
  some false
 else
  wN N v1 v1.ax 0
theorem Zf(N:Nat)(v1:an)(r:Bool)(hF:EW N v1=some r):aG Tryz.prog 123 [(aA v1)] (·=(aB r)):=by
 rw[EW]at hF;refine aP Tryz.func123 ?_;refine au af [[]] ?_;obtain⟨v4,h5,hF⟩:=ao hF;refine bf af [(17,(aB v4))] [.cells (aA v1).cells] ?_ ?_
 ·refine bc h5 (fun h1 h5=> ?_) fun h1 h5=> ?_
  ·obtain⟨v2,h2,h5⟩:=ao h5;cases h5;exact⟨[(3,bT h1),(8,bT rfl)],[(34,cL (mL N v1.aC v2 h2))],by kernel_rfl⟩
  refine bc h5 (fun h3 h5=> ?_) fun h3 h5=> ?_
  ·obtain⟨v3,h4,h5⟩:=ao h5;cases h5;exact⟨[(3,bF h1),(8,bT h3)],[(34,cL (mL N v1.aC v3 h4))],by kernel_rfl⟩
  cases h5;exact⟨[(3,bF h1),(8,bF h3)],[],by kernel_rfl⟩
 refine bc hF (fun h6 hF=> ?_) fun h6 hF=> ?_
 ·cases hF;exact wr af [[(0,bT h6)],[]]
 refine au af [[(0,bF h6)],[]] ?_;refine jZ kX 0 12 v1.ax fun h8=> ?_;refine fE af 1 [] [1,3] 1 v1.ax (fun v5=>⟨36,[(1,(.ptr 0 0)),(3,(aw (v5:Int)))],[.cells (aA v1).cells]⟩) (wN N v1) hF ?_ ?_
 ·intro v5 h9 hF f1;rw[wN]at hF;cases hF;exact wr af [[(10,oL v1.ax dD)],[(0,bF (cJ h9))],[]]
 intro v5 v7 v8 h9 hF f1 aO;rw[wN]at hF;obtain⟨v9,az,hF⟩:=ao hF;obtain⟨v10,aE,hF⟩:=ao hF;refine au af [[(10,oL v1.ax dD)],[(0,bT (cD h9))],[(10,oE (bq (cd h9))),(16,cL (Uw N v7 v9 az)),(28,cL (afJ N v1.ar (v5:Int) v10 aE))]] ?_;refine bc hF (fun aN hF=> ?_) fun aN hF=> ?_
 ·exact wb af aO () [[(0,bF (not_t aN))],[(5,oq (dh h9 rfl h8))]] h9 hF
 cases hF;exact wr af [[(0,bT (bS aN))],[]]
def yK(N:Nat):Nat→Int64→Int64→akd Int64
 |0,_,_=>none
 |v3+1,v4,v5=>
  bif (v5.toInt !=(0:Int))then
   (fun cX gh=>yK N v3 cX gh) v5 (Int64.ofInt ((v4.toInt).tmod v5.toInt))
  else
   some v4
def I6(N:Nat)(v1:Int64)(v2:Int64):akd Int64:=
 yK N N v1 v2
theorem agq(N:Nat)(v1:Int64)(v2:Int64)(r:Int64)(hF:I6 N v1 v2=some r):aG Tryz.prog 246 [(aH v1),(aH v2)] (·=(aH r)):=by
 rw[I6]at hF;refine aP Tryz.func246 ?_;refine NZ af 1 [[]] [0,1] 0 (fun(v4:Int64)(v5:Int64)=>⟨12,[(0,(aH v4)),(1,(aH v5))],[]⟩) (yK N) N v1 v2 hF ?_;intro v3 v4 v5 hF f1 aO;rw[yK]at hF;refine au af [[]] ?_;refine bc hF (fun h1 hF=> ?_) fun h1 hF=> ?_
 ·exact yw af aO (v5,(Int64.ofInt ((v4.toInt).tmod v5.toInt))) [[(0,bT h1)],[(10,⟨_,_, .nz (b:=v5.toInt) (bne_iff_ne.1 h1)⟩),(11,⟨_,_, .eq (Bh v4 v5.toInt)⟩)]] hF
 cases hF;exact wr af [[(0,bF h1)],[]]
def mB(N:Nat)(v1:aD)(v2:ay):akd Bool:=
 bif (v1.a8==(2:Int))then
  bif (decide ((0:Int)≤(aS (v1.bz-(1:Int)))))then
  Option.bind (bif (v2.xD.toInt==(1:Int))then(bif (decide (v2.xN.toInt≥(-(Int64.ofInt ((1:Int)*2^(min ((aS (v1.bz-(1:Int)))).toNat (IntKind.bits .i64))))).toInt))then some (decide (v2.xN.toInt<(Int64.ofInt ((1:Int)*2^(min ((aS (v1.bz-(1:Int)))).toNat (IntKind.bits .i64)))).toInt))else some false)else some false) fun v3=>
  some v3
  else none
 else
  Option.bind (bif (decide (v2.xN.toInt>(2147483647:Int)))then some true else(bif (decide (v2.xN.toInt<(-2147483647:Int)))then some true else(bif (decide (v2.xD.toInt<(1:Int)))then some true else some (decide (v2.xD.toInt>(2147483647:Int)))))) fun v4=>
  bif v4 then
   some false
  else
   bif (v1.a8==(3:Int))then
    some (v2.xD.toInt==(1:Int))
   else
    Option.bind (I6 N (na v2.xN (-v2.xN)) v2.xD) fun v5=>
    some (v5.toInt==(1:Int))
theorem oV(N:Nat)(v1:aD)(v2:ay)(r:Bool)(hF:mB N v1 v2=some r):aG Tryz.prog 194 [(b4 v1),(bj v2)] (·=(aB r)):=by
 rw[mB]at hF;refine aP Tryz.func194 ?_;refine au af [[],[]] ?_;refine bc hF (fun h1 hF=> ?_) fun h1 hF=> ?_
 ·obtain⟨h2,hF⟩:=dn hF;refine au af [[(0,bT h1)],[(10,⟨_,_, .nn (b:=(aS (v1.bz-(1:Int)))) (of_decide_eq_true h2)⟩),(11,⟨_,_, .eq (eK ((1:Int)*2^(min ((aS (v1.bz-(1:Int)))).toNat (IntKind.bits .i64))))⟩)]] ?_;obtain⟨v3,h5,hF⟩:=ao hF;refine bf af [(4,(aB v3))] [.cells (b4 v1).cells, .cells (bj v2).cells] ?_ ?_
  ·refine bc h5 (fun h3 h5=> ?_) fun h3 h5=> ?_
   ·refine bc h5 (fun h4 h5=> ?_) fun h4 h5=> ?_
    ·cases h5;exact⟨[(3,bT h3),(10,bT h4)],[(23,⟨_,_, .eq (jn (Int64.ofInt ((1:Int)*2^(min ((aS (v1.bz-(1:Int)))).toNat (IntKind.bits .i64)))))⟩)],by kernel_rfl⟩
    cases h5;exact⟨[(3,bT h3),(10,bF h4)],[(23,⟨_,_, .eq (jn (Int64.ofInt ((1:Int)*2^(min ((aS (v1.bz-(1:Int)))).toNat (IntKind.bits .i64)))))⟩)],by kernel_rfl⟩
   cases h5;exact⟨[(3,bF h3),(10,bF rfl)],[],by kernel_rfl⟩
  cases hF;exact wr af []
 refine au af [[(0,bF h1)]] ?_;obtain⟨v4,h9,hF⟩:=ao hF;refine bf af [(46,(aB v4))] [.cells (b4 v1).cells, .cells (bj v2).cells] ?_ ?_
 ·refine bc h9 (fun h6 h9=> ?_) fun h6 h9=> ?_
  ·cases h9;exact⟨[(3,bT h6),(8,bT rfl),(13,bT rfl)],[],by kernel_rfl⟩
  refine bc h9 (fun h7 h9=> ?_) fun h7 h9=> ?_
  ·cases h9;exact⟨[(3,bF h6),(8,bT h7),(13,bT rfl)],[],by kernel_rfl⟩
  refine bc h9 (fun h8 h9=> ?_) fun h8 h9=> ?_
  ·cases h9;exact⟨[(3,bF h6),(8,bF h7),(13,bT h8)],[],by kernel_rfl⟩
  cases h9;exact⟨[(3,bF h6),(8,bF h7),(13,bF h8)],[],by kernel_rfl⟩
 refine bc hF (fun az hF=> ?_) fun az hF=> ?_
 ·cases hF;exact wr af [[(0,bT az)],[]]
 refine au af [[(0,bF az)],[]] ?_;refine bc hF (fun aE hF=> ?_) fun aE hF=> ?_
 ·cases hF;exact wr af [[(0,bT aE)],[]]
 obtain⟨v5,aN,hF⟩:=ao hF;cases hF;exact wr af [[(0,bF aE)],[(14,⟨_,_, .eq (jn v2.xN)⟩),(17,⟨_,_, .eq (VU v2.xN (-v2.xN))⟩),(25,cL (agq N (na v2.xN (-v2.xN)) v2.xD v5 aN))]]
def wW(N:Nat)(v1:aF):akb aU→Nat→akd Bool
 |[],_=>
  some true
 |v4::v5,v2=>
  Option.bind (vU N v4.aV) fun v6=>
  Option.bind (bif v6 then(bif (v4.cH.toInt==(0:Int))then some true else(bif (decide ((v2:Int)>(0:Int)))then bif (decide ((0:Int)≤(aS ((v2:Int)-(1:Int)))))then
  Option.bind (v1.xL[((aS ((v2:Int)-(1:Int)))).toNat]?) fun v7=>
  some (!(Op.bytesLess (bL v7.aV) (bL v4.aV)))
  else none else some false))else some true) fun v8=>
  bif v8 then
   some false
  else
   (wW N v1 v5 (v2+1))
def tS(N:Nat)(v1:aF):akd Bool:=
 wW N v1 v1.xL 0
theorem CO(N:Nat)(v1:aF)(r:Bool)(hF:tS N v1=some r):aG Tryz.prog 159 [(b9 v1)] (·=(aB r)):=by
 rw[tS]at hF;refine aP Tryz.func159 ?_;refine au af [[],[]] ?_;refine jZ nG 0 1 v1.xL fun h2=> ?_;refine fE af 1 [] [1,3] 1 v1.xL (fun v2=>⟨48,[(1,(.ptr 0 0)),(3,(aw (v2:Int)))],[.cells (b9 v1).cells]⟩) (wW N v1) hF ?_ ?_
 ·intro v2 h3 hF f1;rw[wW]at hF;cases hF;exact wr af [[(10,oL v1.xL dd)],[(0,bF (cJ h3))],[]]
 intro v2 v4 v5 h3 hF f1 aO;rw[wW]at hF;refine au af [[(10,oL v1.xL dd)],[(0,bT (cD h3))]] ?_;obtain⟨v6,h4,hF⟩:=ao hF;obtain⟨v8,az,hF⟩:=ao hF;refine bf af [(47,(aB v8))] [.cells (b9 v1).cells] ?_ ?_
 ·refine bc az (fun h5 az=> ?_) fun h5 az=> ?_
  ·refine bc az (fun h6 az=> ?_) fun h6 az=> ?_
   ·cases az;exact⟨[(8,bF (not_t h5)),(17,bT h6),(20,uN)],[(10,oE (eN (cd h3))),(19,cL (yg N v4.aV v6 h4)),(37,oE (eN (cd h3)))],by kernel_rfl⟩
   refine bc az (fun h7 az=> ?_) fun h7 az=> ?_
   ·obtain⟨h9,az⟩:=dn az;obtain⟨v7,h8,az⟩:=ao az;cases az;exact⟨[(8,bF (not_t h5)),(17,bF h6),(20,bT h7)],[(10,oE (eN (cd h3))),(19,cL (yg N v4.aV v6 h4)),(37,oE (eN (cd h3))),(76,⟨_,_, .el (xs:=bZ v1.xL) (i:=(aS ((v2:Int)-(1:Int)))) (of_decide_eq_true h9) (eN h8)⟩),(94,oE (eN (cd h3))),(106,bT h7)],by kernel_rfl⟩
   cases az;exact⟨[(8,bF (not_t h5)),(17,bF h6),(20,bF h7)],[(10,oE (eN (cd h3))),(19,cL (yg N v4.aV v6 h4)),(37,oE (eN (cd h3))),(106,bF h7)],by kernel_rfl⟩
  cases az;exact⟨[(8,bT (bS h5)),(17,bT rfl),(20,uN)],[(10,oE (eN (cd h3))),(19,cL (yg N v4.aV v6 h4))],by kernel_rfl⟩
 refine bc hF (fun aE hF=> ?_) fun aE hF=> ?_
 ·cases hF;exact wr af [[(0,bT aE)],[]]
 exact wb af aO () [[(0,bF aE)],[(5,oq (dh h3 rfl h2))]] h3 hF
def u6(N:Nat)(ma:akd Bool):akb aF→Nat→akd Bool
 |[],_=>
  ma
 |aZ::bu,v11=>
  Option.bind (tS N aZ) fun bQ=>
  bif bQ then
   (u6 N ma bu (v11+1))
  else
   some false
def rQ(N:Nat):akb aI→Nat→akd Bool
 |[],_=>
  some true
 |v8::v9,v6=>
  Option.bind (tS N v8.aK) fun v10=>
  bif v10 then
   u6 N (rQ N v9 (v6+1)) v8.bC 0
  else
   some false
def Bu(N:Nat)(v1:an):akd Bool:=
 Option.bind (bif (v1.ar==(1:Int))then Option.bind (mB N v1.aC v1.ba) fun v2=>
 (bif v2 then Option.bind (tS N v1.aK) fun v3=>
 some (!v3)else some true)else Option.bind (tS N v1.aK) fun v4=>
 some (!v4)) fun v5=>
 bif v5 then
  some false
 else
  rQ N v1.xIdx 0
theorem adQ(N:Nat)(v1:an)(r:Bool)(hF:Bu N v1=some r):aG Tryz.prog 124 [(aA v1)] (·=(aB r)):=by
 rw[Bu]at hF;refine aP Tryz.func124 ?_;refine au af [[]] ?_;obtain⟨v5,h6,hF⟩:=ao hF;refine bf af [(21,(aB v5))] [.cells (aA v1).cells] ?_ ?_
 ·refine bc h6 (fun h1 h6=> ?_) fun h1 h6=> ?_
  ·obtain⟨v2,h2,h6⟩:=ao h6;refine bc h6 (fun h3 h6=> ?_) fun h3 h6=> ?_
   ·obtain⟨v3,h4,h6⟩:=ao h6;cases h6;exact⟨[(3,bT h1),(11,bF (not_t h3))],[(25,cL (oV N v1.aC v1.ba v2 h2)),(43,cL (CO N v1.aK v3 h4))],by kernel_rfl⟩
   cases h6;exact⟨[(3,bT h1),(11,bT (bS h3))],[(25,cL (oV N v1.aC v1.ba v2 h2))],by kernel_rfl⟩
  obtain⟨v4,h5,h6⟩:=ao h6;cases h6;exact⟨[(3,bF h1),(11,bF rfl)],[(43,cL (CO N v1.aK v4 h5))],by kernel_rfl⟩
 refine bc hF (fun h7 hF=> ?_) fun h7 hF=> ?_
 ·cases hF;exact wr af [[(0,bT h7)],[]]
 refine au af [[(0,bF h7)],[]] ?_;refine jZ ml 0 11 v1.xIdx fun h9=> ?_;refine fE af 1 [] [1,3] 1 v1.xIdx (fun v6=>⟨59,[(1,(.ptr 0 0)),(3,(aw (v6:Int)))],[.cells (aA v1).cells]⟩) (rQ N) hF ?_ ?_
 ·intro v6 az hF f1;rw[rQ]at hF;cases hF;exact wr af [[(10,oL v1.xIdx dP)],[(0,bF (cJ az))],[]]
 intro v6 v8 v9 az hF f1 aO;rw[rQ]at hF;obtain⟨v10,aE,hF⟩:=ao hF;refine au af [[(10,oL v1.xIdx dP)],[(0,bT (cD az))],[(10,oE (fz (cd az))),(19,cL (CO N v8.aK v10 aE))]] ?_;refine bc hF (fun aN hF=> ?_) fun aN hF=> ?_
 ·refine au af [[(0,bF (not_t aN))],[]] ?_;refine Lo 0 11 (cl v1.xIdx) (by kernel_rfl) fun aY=> ?_;have aJ:v8.bC.length≤maxLen:=by rw[←eG];exact uy (NO (j:=3) (d:= .sl (du v8.bC)) aY (fz (cd az)) rfl)
  refine fE af 2 [] [1,3,4] 1 v8.bC (fun v11=>⟨59,[(1,(.ptr 0 0)),(3,(aw (v6:Int))),(4,(aw (v11:Int)))],[.cells (aA v1).cells]⟩) (u6 N (rQ N v9 (v6+1))) hF ?_ ?_
  ·intro v11 bt hF f2;rw[u6]at hF;exact wb af aO () [[(13,oE (fz (cd az))),(22,oL v8.bC eG)],[(0,bF (cJ bt))],[(5,oq (dh az rfl h9))]] az hF
  intro v11 aZ bu bt hF f2 eD;rw[u6]at hF;obtain⟨bQ,aM,hF⟩:=ao hF;refine au af [[(13,oE (fz (cd az))),(22,oL v8.bC eG)],[(0,bT (cD bt))],[(10,oE (fz (cd az))),(22,oE (mS (cd bt))),(28,cL (CO N aZ bQ aM))]] ?_;refine bc hF (fun bp hF=> ?_) fun bp hF=> ?_
  ·exact wb af eD () [[(0,bF (not_t bp))],[(5,oq (dh bt rfl aJ))]] bt hF
  cases hF;exact wr af [[(0,bT (bS bp))],[]]
 cases hF;exact wr af [[(0,bT (bS aN))],[]]
def wQ(N:Nat)(Vy:an→akd Int):akb an→Nat→akd Int
 |[],_=>
  some (0:Int)
 |v9::v10,v7=>
  Option.bind (Vy v9) fun v11=>
  bif (v11 !=(0:Int))then
   some v11
  else
   (wQ N Vy v10 (v7+1))
def pN(N:Nat):Nat→an→akd Int
 |0,_=>none
 |d+1,v1=>
  Option.bind (BQ N v1) fun v2=>
  bif v2 then
   Option.bind (C0 N v1) fun v3=>
   bif v3 then
    Option.bind (A0 N v1) fun v4=>
    bif v4 then
     Option.bind (EW N v1) fun v5=>
     bif v5 then
      Option.bind (Bu N v1) fun v6=>
      bif v6 then
       wQ N (pN N d) v1.ax 0
      else
       some (1:Int)
     else
      some (10:Int)
    else
     some (11:Int)
   else
    some (7:Int)
  else
   some (5:Int)
def L7(N:Nat)(v1:an):akd Int:=pN N N v1
theorem ag2(N:Nat):∀d:Nat,(∀(v1:an)(r:Int),pN N d v1=some r→aG Tryz.prog 60 [(aA v1)] (·=(aw r))):=by
 intro d
 induction d with
 |zero=>intro v1 r hF;rw[pN]at hF;cases hF
 |succ d ih=>
  have adj:=ih;intro v1 r hF;rw[pN]at hF;refine aP Tryz.func60 ?_;obtain⟨v2,h1,hF⟩:=ao hF;refine au af [[],[(4,cL (ah6 N v1 v2 h1))]] ?_;refine bc hF (fun h2 hF=> ?_) fun h2 hF=> ?_
  ·obtain⟨v3,h3,hF⟩:=ao hF;refine au af [[(0,bF (not_t h2))],[(4,cL (adv N v1 v3 h3))]] ?_;refine bc hF (fun h4 hF=> ?_) fun h4 hF=> ?_
   ·obtain⟨v4,h5,hF⟩:=ao hF;refine au af [[(0,bF (not_t h4))],[(4,cL (ad0 N v1 v4 h5))]] ?_;refine bc hF (fun h6 hF=> ?_) fun h6 hF=> ?_
    ·obtain⟨v5,h7,hF⟩:=ao hF;refine au af [[(0,bF (not_t h6))],[(4,cL (Zf N v1 v5 h7))]] ?_;refine bc hF (fun h8 hF=> ?_) fun h8 hF=> ?_
     ·obtain⟨v6,h9,hF⟩:=ao hF;refine au af [[(0,bF (not_t h8))],[(4,cL (adQ N v1 v6 h9))]] ?_;refine bc hF (fun az hF=> ?_) fun az hF=> ?_
      ·refine au af [[(0,bF (not_t az))],[]] ?_;refine jZ kX 0 12 v1.ax fun aN=> ?_;refine fE af 1 [] [1,3] 1 v1.ax (fun v7=>⟨41,[(1,(.ptr 0 0)),(3,(aw (v7:Int)))],[.cells (aA v1).cells]⟩) (wQ N (pN N d)) hF ?_ ?_
       ·intro v7 aY hF f1;rw[wQ]at hF;cases hF;exact wr af [[(10,oL v1.ax dD)],[(0,bF (cJ aY))],[]]
       intro v7 v9 v10 aY hF f1 aO;rw[wQ]at hF;obtain⟨v11,aJ,hF⟩:=ao hF;refine au af [[(10,oL v1.ax dD)],[(0,bT (cD aY))],[(10,oE (bq (cd aY))),(16,cL (adj v9 v11 aJ))],[]] ?_;refine bc hF (fun bt hF=> ?_) fun bt hF=> ?_
       ·cases hF;exact wr af [[(0,bT bt)],[]]
       exact wb af aO () [[(0,bF bt)],[(5,oq (dh aY rfl aN))]] aY hF
      cases hF;exact wr af [[(0,bT (bS az))],[]]
     cases hF;exact wr af [[(0,bT (bS h8))],[]]
    cases hF;exact wr af [[(0,bT (bS h6))],[]]
   cases hF;exact wr af [[(0,bT (bS h4))],[]]
  cases hF;exact wr af [[(0,bT (bS h2))],[]]
theorem aiP(N:Nat)(v1:an)(r:Int)(hF:L7 N v1=some r):aG Tryz.prog 60 [(aA v1)] (·=(aw r)):=(ag2 N N) v1 r hF
def DP(N:Nat)(v1:an):akd Int:=
 Option.bind (IP N v1) fun v2=>
 bif (decide (v2>(40:Int)))then
  some (13:Int)
 else
  Option.bind (HR N v1) fun v3=>
  bif (decide (v3>(2000:Int)))then
   some (2:Int)
  else
   Option.bind (L7 N v1) fun v4=>
   some v4
theorem aio(N:Nat)(v1:an)(r:Int)(hF:DP N v1=some r):aG Tryz.prog 30 [(aA v1)] (·=(aw r)):=by
 rw[DP]at hF;refine aP Tryz.func30 ?_;obtain⟨v2,h1,hF⟩:=ao hF;refine au af [[],[(4,cL (Yj N v1 v2 h1))]] ?_;refine bc hF (fun h2 hF=> ?_) fun h2 hF=> ?_
 ·cases hF;exact wr af [[(0,bT h2)],[]]
 obtain⟨v3,h3,hF⟩:=ao hF;refine au af [[(0,bF h2)],[(4,cL (agn N v1 v3 h3))]] ?_;refine bc hF (fun h4 hF=> ?_) fun h4 hF=> ?_
 ·cases hF;exact wr af [[(0,bT h4)],[]]
 obtain⟨v4,h5,hF⟩:=ao hF;obtain rfl:=sj hF;exact wr af [[(0,bF h4)],[(4,cL (aiP N v1 v4 h5))]]
def HT(N:Nat)(v1:aD)(v2:an):akd et:=
 Option.bind (xB N v2) fun v3=>
 some (⟨v1,(!v3)⟩:et)
theorem agY(N:Nat)(v1:aD)(v2:an)(r:et)(hF:HT N v1 v2=some r):aG Tryz.prog 32 [(b4 v1),(aA v2)] (·=(fW r)):=by
 rw[HT]at hF;refine aP Tryz.func32 ?_;obtain⟨v3,h1,hF⟩:=ao hF;cases hF;exact wr af [[],[(7,cL (Uw N v2 v3 h1))]]
def Cp(N:Nat)(v1:aD)(v2:ay):akd Bool:=
 Option.bind (lB N v1) fun v3=>
 Option.bind (bif v3 then Option.bind (mB N v1 v2) fun v4=>
 some v4 else some false) fun v5=>
 some v5
theorem Kj(N:Nat)(v1:aD)(v2:ay)(r:Bool)(hF:Cp N v1 v2=some r):aG Tryz.prog 303 [(b4 v1),(bj v2)] (·=(aB r)):=by
 rw[Cp]at hF;refine aP Tryz.func303 ?_;refine au af [[]] ?_;obtain⟨v3,h1,hF⟩:=ao hF;obtain⟨v5,h4,hF⟩:=ao hF;refine bf af [(4,(aB v5))] [.cells (b4 v1).cells, .cells (bj v2).cells] ?_ ?_
 ·refine bc h4 (fun h2 h4=> ?_) fun h2 h4=> ?_
  ·obtain⟨v4,h3,h4⟩:=ao h4;obtain rfl:=sj h4;exact⟨[(2,bT h2)],[(4,cL (mL N v1 v3 h1)),(16,cL (oV N v1 v2 v4 h3))],by kernel_rfl⟩
  cases h4;exact⟨[(2,bF h2)],[(4,cL (mL N v1 v3 h1))],by kernel_rfl⟩
 cases hF;exact wr af []
def kL(N:Nat)(v1:ay):akd Bool:=
 Option.bind (mB N (⟨(1:Int),(0:Int),(0:Int),(0:Int),(0:Int)⟩:aD) v1) fun v2=>
 some v2
theorem jY(N:Nat)(v1:ay)(r:Bool)(hF:kL N v1=some r):aG Tryz.prog 305 [(bj v1)] (·=(aB r)):=by
 rw[kL]at hF;refine aP Tryz.func305 ?_;obtain⟨v2,h1,hF⟩:=ao hF;obtain rfl:=sj hF;exact wr af [[],[(7,cL (oV N (⟨(1:Int),(0:Int),(0:Int),(0:Int),(0:Int)⟩:aD) v1 v2 h1))]]
def vD(N:Nat)(v1:Int64)(v2:Int64):akd Int:=
 bif (decide (v1.toInt<v2.toInt))then
  some (-1:Int)
 else
  bif (decide (v1.toInt>v2.toInt))then
   some (1:Int)
  else
   some (0:Int)
theorem OS(N:Nat)(v1:Int64)(v2:Int64)(r:Int)(hF:vD N v1 v2=some r):aG Tryz.prog 332 [(aH v1),(aH v2)] (·=(aw r)):=by
 rw[vD]at hF;refine aP Tryz.func332 ?_;refine au af [[],[]] ?_;refine bc hF (fun h1 hF=> ?_) fun h1 hF=> ?_
 ·cases hF;exact wr af [[(0,bT h1)],[]]
 refine au af [[(0,bF h1)],[]] ?_;refine bc hF (fun h2 hF=> ?_) fun h2 hF=> ?_
 ·cases hF;exact wr af [[(0,bT h2)],[]]
 cases hF;exact wr af [[(0,bF h2)],[]]
def F2(N:Nat)(v1:ay)(v2:ay):akd Int:=
 Option.bind (kL N v1) fun v3=>
 Option.bind (bif v3 then Option.bind (kL N v2) fun v4=>
 some v4 else some false) fun v5=>
 bif v5 then
  Option.bind (vD N (v1.xN*v2.xD) (v2.xN*v1.xD)) fun v6=>
  some v6
 else
  bif (v1.xN.toInt !=v2.xN.toInt)then
   Option.bind (vD N v1.xN v2.xN) fun v7=>
   some v7
  else
   Option.bind (vD N v1.xD v2.xD) fun v8=>
   some v8
theorem Zb(N:Nat)(v1:ay)(v2:ay)(r:Int)(hF:F2 N v1 v2=some r):aG Tryz.prog 304 [(bj v1),(bj v2)] (·=(aw r)):=by
 rw[F2]at hF;refine aP Tryz.func304 ?_;refine au af [[]] ?_;obtain⟨v3,h1,hF⟩:=ao hF;obtain⟨v5,h4,hF⟩:=ao hF;refine bf af [(10,(aB v5))] [.cells (bj v1).cells, .cells (bj v2).cells] ?_ ?_
 ·refine bc h4 (fun h2 h4=> ?_) fun h2 h4=> ?_
  ·obtain⟨v4,h3,h4⟩:=ao h4;obtain rfl:=sj h4;exact⟨[(2,bT h2)],[(4,cL (jY N v1 v3 h1)),(13,cL (jY N v2 v4 h3))],by kernel_rfl⟩
  cases h4;exact⟨[(2,bF h2)],[(4,cL (jY N v1 v3 h1))],by kernel_rfl⟩
 refine bc hF (fun h5 hF=> ?_) fun h5 hF=> ?_
 ·obtain⟨v6,h6,hF⟩:=ao hF;obtain rfl:=sj hF;exact wr af [[(0,bT h5)],[(14,⟨_,_, .eq (dN v1.xN v2.xD)⟩),(29,⟨_,_, .eq (dN v2.xN v1.xD)⟩),(31,cL (OS N (v1.xN*v2.xD) (v2.xN*v1.xD) v6 h6))]]
 refine au af [[(0,bF h5)],[]] ?_;refine bc hF (fun h7 hF=> ?_) fun h7 hF=> ?_
 ·obtain⟨v7,h8,hF⟩:=ao hF;obtain rfl:=sj hF;exact wr af [[(0,bT h7)],[(13,cL (OS N v1.xN v2.xN v7 h8))]]
 obtain⟨v8,h9,hF⟩:=ao hF;obtain rfl:=sj hF;exact wr af [[(0,bF h7)],[(13,cL (OS N v1.xD v2.xD v8 h9))]]
def y4(N:Nat)(v1:aD)(v2:ay)(v3:ay):akd Int:=
 Option.bind (Cp N v1 v2) fun v4=>
 Option.bind (bif v4 then Option.bind (Cp N v1 v3) fun v5=>
 some (!v5)else some true) fun v6=>
 bif v6 then
  some (0:Int)
 else
  Option.bind (F2 N v2 v3) fun v7=>
  some v7
theorem Pe(N:Nat)(v1:aD)(v2:ay)(v3:ay)(r:Int)(hF:y4 N v1 v2 v3=some r):aG Tryz.prog 247 [(b4 v1),(bj v2),(bj v3)] (·=(aw r)):=by
 rw[y4]at hF;refine aP Tryz.func247 ?_;refine au af [[]] ?_;obtain⟨v4,h1,hF⟩:=ao hF;obtain⟨v6,h4,hF⟩:=ao hF;refine bf af [(16,(aB v6))] [.cells (b4 v1).cells, .cells (bj v2).cells, .cells (bj v3).cells] ?_ ?_
 ·refine bc h4 (fun h2 h4=> ?_) fun h2 h4=> ?_
  ·obtain⟨v5,h3,h4⟩:=ao h4;cases h4;exact⟨[(4,bF (not_t h2))],[(7,cL (Kj N v1 v2 v4 h1)),(22,cL (Kj N v1 v3 v5 h3))],by kernel_rfl⟩
  cases h4;exact⟨[(4,bT (bS h2))],[(7,cL (Kj N v1 v2 v4 h1))],by kernel_rfl⟩
 refine bc hF (fun h5 hF=> ?_) fun h5 hF=> ?_
 ·cases hF;exact wr af [[(0,bT h5)],[]]
 obtain⟨v7,h6,hF⟩:=ao hF;obtain rfl:=sj hF;exact wr af [[(0,bF h5)],[(7,cL (Zb N v2 v3 v7 h6))]]
def sU(N:Nat)(v1:Int64)(v2:Int64):akd Int64:=
 bif (v2.toInt !=(0:Int))then
 bif (decide (((Int64.ofInt ((v1.toInt).tdiv v2.toInt))*v2).toInt>v1.toInt))then
  some ((Int64.ofInt ((v1.toInt).tdiv v2.toInt))-(1:Int64))
 else
  some (Int64.ofInt ((v1.toInt).tdiv v2.toInt))
 else none
theorem Iq(N:Nat)(v1:Int64)(v2:Int64)(r:Int64)(hF:sU N v1 v2=some r):aG Tryz.prog 256 [(aH v1),(aH v2)] (·=(aH r)):=by
 rw[sU]at hF;refine aP Tryz.func256 ?_;obtain⟨h1,hF⟩:=dn hF;refine au af [[],[(7,⟨_,_, .nz (b:=v2.toInt) (bne_iff_ne.1 h1)⟩),(8,⟨_,_, .eq (eK ((v1.toInt).tdiv v2.toInt))⟩)],[(8,⟨_,_, .eq (dN (Int64.ofInt ((v1.toInt).tdiv v2.toInt)) v2)⟩)]] ?_;refine bc hF (fun h2 hF=> ?_) fun h2 hF=> ?_
 ·cases hF;exact wr af [[(0,bT h2)],[(5,⟨_,_, .eq (ga (Int64.ofInt ((v1.toInt).tdiv v2.toInt)) (1:Int64))⟩)]]
 cases hF;exact wr af [[(0,bF h2)],[]]
def yd(N:Nat)(v1:aD)(v3:Int64):akd ay:=
 some (⟨(na (-(Int64.ofInt ((1:Int)*2^(min ((IntKind.u64.wrap (aS (v1.bz-(1:Int))))).toNat (IntKind.bits .i64))))) (rN ((Int64.ofInt ((1:Int)*2^(min ((IntKind.u64.wrap (aS (v1.bz-(1:Int))))).toNat (IntKind.bits .i64))))-(1:Int64)) v3)),(1:Int64)⟩:ay)
def oG(N:Nat)(v1:aD)(v2:Int64):akd ay:=
 bif (decide ((0:Int)≤(IntKind.u64.wrap (aS (v1.bz-(1:Int))))))then
 bif (v1.bI==(2:Int))then
  Option.bind (sU N (v2+(Int64.ofInt ((1:Int)*2^(min ((IntKind.u64.wrap (aS (v1.bz-(1:Int))))).toNat (IntKind.bits .i64))))) ((2:Int64)*(Int64.ofInt ((1:Int)*2^(min ((IntKind.u64.wrap (aS (v1.bz-(1:Int))))).toNat (IntKind.bits .i64)))))) fun v4=>
  yd N v1 (v2-((v4*(2:Int64))*(Int64.ofInt ((1:Int)*2^(min ((IntKind.u64.wrap (aS (v1.bz-(1:Int))))).toNat (IntKind.bits .i64))))))
 else
  yd N v1 v2
 else none
theorem Am(N:Nat)(v1:aD)(v2:Int64)(r:ay)(hF:oG N v1 v2=some r):aG Tryz.prog 257 [(b4 v1),(aH v2)] (·=(bj r)):=by
 rw[oG]at hF;refine aP Tryz.func257 ?_;obtain⟨h1,hF⟩:=dn hF;refine gN af r 1 [[],[(13,⟨_,_, .nn (b:=(IntKind.u64.wrap (aS (v1.bz-(1:Int))))) (of_decide_eq_true h1)⟩),(14,⟨_,_, .eq (eK ((1:Int)*2^(min ((IntKind.u64.wrap (aS (v1.bz-(1:Int))))).toNat (IntKind.bits .i64))))⟩)],[]] [1,4,5] 2 (fun(v3:Int64)=>⟨33,[(1,(aH v3)),(4,(.ptr 1 0)),(5,(aH (Int64.ofInt ((1:Int)*2^(min ((IntKind.u64.wrap (aS (v1.bz-(1:Int))))).toNat (IntKind.bits .i64))))))],[.cells (b4 v1).cells, .cells fx]⟩) (yd N v1) ?_ ?_
 ·intro f1 aO;refine bc hF (fun h2 hF=> ?_) fun h2 hF=> ?_
  ·obtain⟨v4,h3,hF⟩:=ao hF;exact bM af aO (v2-((v4*(2:Int64))*(Int64.ofInt ((1:Int)*2^(min ((IntKind.u64.wrap (aS (v1.bz-(1:Int))))).toNat (IntKind.bits .i64)))))) [[(0,bT h2)],[(11,⟨_,_, .eq (lg v2 (Int64.ofInt ((1:Int)*2^(min ((IntKind.u64.wrap (aS (v1.bz-(1:Int))))).toNat (IntKind.bits .i64)))))⟩),(17,⟨_,_, .eq (dN (2:Int64) (Int64.ofInt ((1:Int)*2^(min ((IntKind.u64.wrap (aS (v1.bz-(1:Int))))).toNat (IntKind.bits .i64)))))⟩),(19,cL (Iq N (v2+(Int64.ofInt ((1:Int)*2^(min ((IntKind.u64.wrap (aS (v1.bz-(1:Int))))).toNat (IntKind.bits .i64))))) ((2:Int64)*(Int64.ofInt ((1:Int)*2^(min ((IntKind.u64.wrap (aS (v1.bz-(1:Int))))).toNat (IntKind.bits .i64))))) v4 h3)),(23,⟨_,_, .eq (dN v4 (2:Int64))⟩),(29,⟨_,_, .eq (dN (v4*(2:Int64)) (Int64.ofInt ((1:Int)*2^(min ((IntKind.u64.wrap (aS (v1.bz-(1:Int))))).toNat (IntKind.bits .i64)))))⟩),(32,⟨_,_, .eq (ga v2 ((v4*(2:Int64))*(Int64.ofInt ((1:Int)*2^(min ((IntKind.u64.wrap (aS (v1.bz-(1:Int))))).toNat (IntKind.bits .i64))))))⟩)]] hF
  exact bM af aO v2 [[(0,bF h2)]] hF
 intro v3 hF;rw[yd]at hF;cases hF;exact wr af [[(5,⟨_,_, .eq (jn (Int64.ofInt ((1:Int)*2^(min ((IntKind.u64.wrap (aS (v1.bz-(1:Int))))).toNat (IntKind.bits .i64)))))⟩),(11,⟨_,_, .eq (ga (Int64.ofInt ((1:Int)*2^(min ((IntKind.u64.wrap (aS (v1.bz-(1:Int))))).toNat (IntKind.bits .i64)))) (1:Int64))⟩),(17,⟨_,_, .eq (aeN ((Int64.ofInt ((1:Int)*2^(min ((IntKind.u64.wrap (aS (v1.bz-(1:Int))))).toNat (IntKind.bits .i64))))-(1:Int64)) v3)⟩),(20,⟨_,_, .eq (VU (-(Int64.ofInt ((1:Int)*2^(min ((IntKind.u64.wrap (aS (v1.bz-(1:Int))))).toNat (IntKind.bits .i64))))) (rN ((Int64.ofInt ((1:Int)*2^(min ((IntKind.u64.wrap (aS (v1.bz-(1:Int))))).toNat (IntKind.bits .i64))))-(1:Int64)) v3))⟩)]]
def pZ(N:Nat)(v1:aD):akd Int64:=
 bif (decide ((0:Int)≤(IntKind.u64.wrap v1.bE)))then
 some (Int64.ofInt ((1:Int)*2^(min ((IntKind.u64.wrap v1.bE)).toNat (IntKind.bits .i64))))
 else none
theorem Cm(N:Nat)(v1:aD)(r:Int64)(hF:pZ N v1=some r):aG Tryz.prog 259 [(b4 v1)] (·=(aH r)):=by
 rw[pZ]at hF;refine aP Tryz.func259 ?_;obtain⟨h1,hF⟩:=dn hF;cases hF;exact wr af [[],[(10,⟨_,_, .nn (b:=(IntKind.u64.wrap v1.bE)) (of_decide_eq_true h1)⟩),(11,⟨_,_, .eq (eK ((1:Int)*2^(min ((IntKind.u64.wrap v1.bE)).toNat (IntKind.bits .i64))))⟩)]]
def ux(N:Nat)(v1:Int64)(v2:Int64)(v3:Int):akd Int64:=
 Option.bind (sU N v1 v2) fun v4=>
 Option.bind (bif ((v1-(v4*v2)).toInt==(0:Int))then some true else some (v3==(1:Int))) fun v5=>
 bif v5 then
  some v4
 else
  bif (v3==(2:Int))then
   some (v4+(1:Int64))
  else
   bif (v3==(3:Int))then
    bif (decide (v1.toInt<(0:Int)))then
     some (v4+(1:Int64))
    else
     some v4
   else
    Option.bind (bif (decide ((v1-(v4*v2)).toInt>(v2-(v1-(v4*v2))).toInt))then some true else(bif ((v1-(v4*v2)).toInt==(v2-(v1-(v4*v2))).toInt)then some ((Int64.ofInt ((v4.toInt).tmod (2:Int))).toInt !=(0:Int))else some false)) fun v6=>
    bif v6 then
     some (v4+(1:Int64))
    else
     some v4
theorem K9(N:Nat)(v1:Int64)(v2:Int64)(v3:Int)(r:Int64)(hF:ux N v1 v2 v3=some r):aG Tryz.prog 258 [(aH v1),(aH v2),(aw v3)] (·=(aH r)):=by
 rw[ux]at hF;refine aP Tryz.func258 ?_;obtain⟨v4,h1,hF⟩:=ao hF;refine au af [[],[(7,cL (Iq N v1 v2 v4 h1))],[(11,⟨_,_, .eq (dN v4 v2)⟩),(14,⟨_,_, .eq (ga v1 (v4*v2))⟩)]] ?_;obtain⟨v5,h3,hF⟩:=ao hF;refine bf af [(22,(aB v5))] [] ?_ ?_
 ·refine bc h3 (fun h2 h3=> ?_) fun h2 h3=> ?_
  ·cases h3;exact⟨[(2,bT h2)],[],by kernel_rfl⟩
  cases h3;exact⟨[(2,bF h2)],[],by kernel_rfl⟩
 refine bc hF (fun h4 hF=> ?_) fun h4 hF=> ?_
 ·cases hF;exact wr af [[(0,bT h4)],[]]
 refine au af [[(0,bF h4)],[]] ?_;refine bc hF (fun h5 hF=> ?_) fun h5 hF=> ?_
 ·cases hF;exact wr af [[(0,bT h5)],[(5,⟨_,_, .eq (lg v4 (1:Int64))⟩)]]
 refine au af [[(0,bF h5)],[]] ?_;refine bc hF (fun h6 hF=> ?_) fun h6 hF=> ?_
 ·refine au af [[(0,bT h6)],[]] ?_;refine bc hF (fun h7 hF=> ?_) fun h7 hF=> ?_
  ·cases hF;exact wr af [[(0,bT h7)],[(5,⟨_,_, .eq (lg v4 (1:Int64))⟩)]]
  cases hF;exact wr af [[(0,bF h7)],[]]
 refine au af [[(0,bF h6)]] ?_;obtain⟨v6,az,hF⟩:=ao hF;refine bf af [(51,(aB v6))] [] ?_ ?_
 ·refine bc az (fun h8 az=> ?_) fun h8 az=> ?_
  ·cases az;exact⟨[(5,bT h8),(11,uN)],[(11,⟨_,_, .eq (ga v2 (v1-(v4*v2)))⟩)],by kernel_rfl⟩
  refine bc az (fun h9 az=> ?_) fun h9 az=> ?_
  ·cases az;exact⟨[(5,bF h8),(11,bT h9)],[(11,⟨_,_, .eq (ga v2 (v1-(v4*v2)))⟩),(29,⟨_,_, .eq (ga v2 (v1-(v4*v2)))⟩),(40,⟨_,_, .nz (b:=(2:Int)) (by decide)⟩),(41,⟨_,_, .eq (Bh v4 (2:Int))⟩),(46,bT h9)],by kernel_rfl⟩
  cases az;exact⟨[(5,bF h8),(11,bF h9)],[(11,⟨_,_, .eq (ga v2 (v1-(v4*v2)))⟩),(29,⟨_,_, .eq (ga v2 (v1-(v4*v2)))⟩),(46,bF h9)],by kernel_rfl⟩
 refine bc hF (fun aE hF=> ?_) fun aE hF=> ?_
 ·cases hF;exact wr af [[(0,bT aE)],[(5,⟨_,_, .eq (lg v4 (1:Int64))⟩)]]
 cases hF;exact wr af [[(0,bF aE)],[]]
def xq(N:Nat)(v2:aD)(v11:Int64)(v12:Int64):akd (ay×Int):=
 Option.bind (pZ N v2) fun aZ=>
 Option.bind (ux N (v11*aZ) v12 v2.bK) fun bu=>
 Option.bind (oG N v2 bu) fun bQ=>
 some (bQ,(0:Int))
def CQ(N:Nat)(v1:Int)(v2:aD)(v3:Int64)(v4:Int64):akd (ay×Int):=
 bif (v1==(4:Int))then
  Option.bind (oG N v2 (v3+v4)) fun v5=>
  some (v5,(0:Int))
 else
  bif (v1==(5:Int))then
   Option.bind (oG N v2 (v3-v4)) fun v6=>
   some (v6,(0:Int))
  else
   bif (v1==(6:Int))then
    Option.bind (pZ N v2) fun v7=>
    Option.bind (ux N (v3*v4) v7 v2.bK) fun v8=>
    Option.bind (oG N v2 v8) fun v9=>
    some (v9,(0:Int))
   else
    bif (v1==(8:Int))then
     Option.bind (oG N v2 (-v3)) fun v10=>
     some (v10,(0:Int))
    else
     bif (v4.toInt==(0:Int))then
      some (bg,(4:Int))
     else
      bif (decide (v4.toInt<(0:Int)))then
       xq N v2 (-v3) (-v4)
      else
       xq N v2 v3 v4
theorem acw(N:Nat)(v1:Int)(v2:aD)(v3:Int64)(v4:Int64)(r:ay×Int)(hF:CQ N v1 v2 v3 v4=some r):aG Tryz.prog 248 [(aw v1),(b4 v2),(aH v3),(aH v4)] (·=(.bk [(bj r.1),(aw r.2)])):=by
 rw[CQ]at hF;refine aP Tryz.func248 ?_;refine au af [[],[],[]] ?_;refine bc hF (fun h1 hF=> ?_) fun h1 hF=> ?_
 ·obtain⟨v5,h2,hF⟩:=ao hF;cases hF;exact wr af [[(0,bT h1)],[(11,⟨_,_, .eq (lg v3 v4)⟩),(13,cL (Am N v2 (v3+v4) v5 h2))]]
 refine au af [[(0,bF h1)],[]] ?_;refine bc hF (fun h3 hF=> ?_) fun h3 hF=> ?_
 ·obtain⟨v6,h4,hF⟩:=ao hF;cases hF;exact wr af [[(0,bT h3)],[(11,⟨_,_, .eq (ga v3 v4)⟩),(13,cL (Am N v2 (v3-v4) v6 h4))]]
 refine au af [[(0,bF h3)],[]] ?_;refine bc hF (fun h5 hF=> ?_) fun h5 hF=> ?_
 ·obtain⟨v7,h6,hF⟩:=ao hF;obtain⟨v8,h7,hF⟩:=ao hF;obtain⟨v9,h8,hF⟩:=ao hF;cases hF;exact wr af [[(0,bT h5)],[(11,⟨_,_, .eq (dN v3 v4)⟩),(16,cL (Cm N v2 v7 h6)),(25,cL (K9 N (v3*v4) v7 v2.bK v8 h7)),(28,cL (Am N v2 v8 v9 h8))]]
 refine au af [[(0,bF h5)],[]] ?_;refine bc hF (fun h9 hF=> ?_) fun h9 hF=> ?_
 ·obtain⟨v10,az,hF⟩:=ao hF;cases hF;exact wr af [[(0,bT h9)],[(8,⟨_,_, .eq (jn v3)⟩),(10,cL (Am N v2 (-v3) v10 az))]]
 refine au af [[(0,bF h9)],[]] ?_;refine bc hF (fun aE hF=> ?_) fun aE hF=> ?_
 ·cases hF;exact wr af [[(0,bT aE)],[]]
 refine lE af r 1 [[(0,bF aE)],[]] [2,3,5,8] 2 (fun(v11:Int64)(v12:Int64)=>⟨62,[(2,(aH v11)),(3,(aH v12)),(5,(.ptr 0 0)),(8,(.ptr 1 0))],[.cells (b4 v2).cells, .cells fx]⟩) (xq N v2) ?_ ?_
 ·intro f1 aO;refine bc hF (fun bt hF=> ?_) fun bt hF=> ?_
  ·exact bM af aO ((-v3),(-v4)) [[(0,bT bt)],[(5,⟨_,_, .eq (jn v3)⟩)],[(5,⟨_,_, .eq (jn v4)⟩)]] hF
  exact bM af aO (v3,v4) [[(0,bF bt)]] hF
 intro v11 v12 hF;rw[xq]at hF;obtain⟨aZ,aN,hF⟩:=ao hF;obtain⟨bu,aY,hF⟩:=ao hF;obtain⟨bQ,aJ,hF⟩:=ao hF;cases hF;exact wr af [[(10,cL (Cm N v2 aZ aN)),(14,⟨_,_, .eq (dN v11 aZ)⟩),(25,cL (K9 N (v11*aZ) v12 v2.bK bu aY)),(28,cL (Am N v2 bu bQ aJ))]]
end Go.Proofs.YtpgmcallngdceaaGreatDoor
