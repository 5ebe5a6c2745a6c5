/-
  Part 15 of the proof: PQ7.
-/
import Derived.Test.YtphmhnabilhbgaaGreatDoorPk14
namespace Go.Proofs.YtphmhnabilhbgaaGreatDoor
open Go.RowKit
set_option maxRecDepth 100000
set_option maxHeartbeats 0
set_option linter.unusedVariables false
def sU(N:Nat)(v4:bB×(List aw)×Bool)(v2:List ByteArray)(v1:aY):List ay→Nat→Option (bB×Int)
 |[],_=>
  some (v4.1,(0:Int))
 |v7::v8,v5=>
  bif (bL v7.bp==bL (bs []))then
   Option.bind (y8 N v7.aQ v2 v1.bx) fun v9=>
   bif v9 then
    (sU N v4 v2 v1 v8 (v5+1))
   else
    some (fD,(9:Int))
  else
   Option.bind (Al N v1 v7.bp) fun v10=>
   bif v10.2.2 then
    bif (v10.1.cA !=(3:Int))then
     some (fD,(10:Int))
    else
     bif ((v10.2.1.length:Int) !=(v7.bw.length:Int))then
      some (fD,(11:Int))
     else
      Option.bind (BT N v1 v2 v7.bw) fun v11=>
      bif (v11 !=(0:Int))then
       some (fD,v11)
      else
       (sU N v4 v2 v1 v8 (v5+1))
   else
    some (fD,(9:Int))
def Bn(N:Nat)(v1:aY)(v2:List ByteArray)(v3:ao):Option (bB×Int):=
 Option.bind (Al N v1 v3.aq) fun v4=>
 bif v4.2.2 then
  bif ((v4.2.1.length:Int) !=(v3.xIdx.length:Int))then
   some (fD,(11:Int))
  else
   sU N v4 v2 v1 v3.xIdx 0
 else
  some (fD,(9:Int))
theorem aba(N:Nat)(v1:aY)(v2:List ByteArray)(v3:ao)(r:bB×Int)(J:Bn N v1 v2 v3=some r):bm Tryz.prog 182 [(aX v1),(.d (.sl (ax v2))),(aE v3)] (·=(.bX [(e9 r.1),(an r.2)])):=by
 rw[Bn]at J;refine bK Tryz.func182 (by kernel_rfl) (by kernel_rfl) ?_;obtain⟨v4,h1,J⟩:=ar J;refine au ai [[],[(10,cL (Lc N v1 v3.aq v4 h1))],[]] ?_;refine bc J (fun h2 J=> ?_) fun h2 J=> ?_
 ·refine au ai [[(0,bF (cG h2))],[(4,oL v4.2.1 bO),(13,oL v3.xIdx cn)]] ?_;refine bc J (fun h3 J=> ?_) fun h3 J=> ?_
  ·obtain rfl:=sj J;exact wr ai [[(0,bT h3)],[]]
  refine au ai [[(0,bF h3)],[]] ?_;refine eo 1 11 (bM v3.xIdx) (by kernel_rfl) fun h4=> ?_;have h5:=cr cn h4;refine cC ai 1 [] [1,3,5,6,8,11] 4 (fun((v5,v6):Nat×(List ay))=>⟨90,[(1,(.d (.sl (ax v2)))),(3,(.ptr 0 0)),(5,(.ptr 1 0)),(6,(.ptr 2 0)),(8,(.ptr 3 0)),(11,(an (v5:Int)))],[.cells (aX v1).cells, .cells (aE v3).cells, .cells ji, .cells (e9 v4.1).cells]⟩) (fun((v5,v6):Nat×(List ay))=>v3.xIdx.drop v5=v6∧sU N v4 v2 v1 v6 v5=some r) (fun((v5,v6):Nat×(List ay))=>v6.length) (0,v3.xIdx) ⟨rfl,J⟩ ?_;rintro⟨v5,v6⟩ ⟨h6,J⟩ f1 aV;cases v6 with
  |nil=>
   rw[sU]at J;obtain rfl:=sj J;exact wr ai [[(10,oL v3.xIdx cn)],[(0,bF (bS h6))],[]]
  |cons v7 v8=>
   rw[sU]at J;refine au ai [[(10,oL v3.xIdx cn)],[(0,bT (bR h6))],[(10,oE (eM (bj h6)))],[]] ?_;refine bc J (fun h7 J=> ?_) fun h7 J=> ?_
   ·obtain⟨v9,h8,J⟩:=ar J;refine au ai [[(0,bT h7)],[(16,cL (JY N v7.aQ v2 v1.bx v9 h8))]] ?_;refine bc J (fun h9 J=> ?_) fun h9 J=> ?_
    ·exact cx ai aV (v5+1,v8) [[(0,bF (cG h9))],[(5,oq (b8 h6 rfl h5))]] ⟨b7 h6,J⟩
    obtain rfl:=sj J;exact wr ai [[(0,bT (cT h9))],[]]
   obtain⟨v10,az,J⟩:=ar J;refine au ai [[(0,bF h7)],[(10,cL (Lc N v1 v7.bp v10 az))],[]] ?_;refine bc J (fun aZ J=> ?_) fun aZ J=> ?_
   ·refine au ai [[(0,bF (cG aZ))],[]] ?_;refine bc J (fun bf J=> ?_) fun bf J=> ?_
    ·obtain rfl:=sj J;exact wr ai [[(0,bT bf)],[]]
    refine au ai [[(0,bF bf)],[(4,oL v10.2.1 bO),(13,oL v7.bw bO)]] ?_;refine bc J (fun b5 J=> ?_) fun b5 J=> ?_
    ·obtain rfl:=sj J;exact wr ai [[(0,bT b5)],[]]
    obtain⟨v11,a8,J⟩:=ar J;refine au ai [[(0,bF b5)],[(13,cL (Na N v1 v2 v7.bw v11 a8))],[]] ?_;refine bc J (fun bA J=> ?_) fun bA J=> ?_
    ·obtain rfl:=sj J;exact wr ai [[(0,bT bA)],[]]
    exact cx ai aV (v5+1,v8) [[(0,bF bA)],[(5,oq (b8 h6 rfl h5))]] ⟨b7 h6,J⟩
   obtain rfl:=sj J;exact wr ai [[(0,bT (cT aZ))],[]]
 obtain rfl:=sj J;exact wr ai [[(0,bT (cT h2))],[]]
def lR(N:Nat)(v3:ao)(v1:aY)(v2:List ByteArray)(QU:aY→(List ByteArray)→ao→Option (bB×Int)):List ao→Nat→(List bB)→Option (bB×Int)
 |[],_,v8=>
  Option.bind (bif (v3.bg==(1:Int))then some true else some (v3.bg==(12:Int))) fun v9=>
  bif v9 then
   some (v3.aB,(0:Int))
  else
   bif (v3.bg==(2:Int))then
    Option.bind (BT N v1 v2 [v3.aQ]) fun v10=>
    some ((⟨(3:Int),(0:Int),(0:Int),(0:Int),(0:Int)⟩:bB),v10)
   else
    bif (v3.bg==(3:Int))then
     Option.bind (Bn N v1 v2 v3) fun v11=>
     some (v11.1,v11.2)
    else
     bif (v3.bg==(11:Int))then
      Option.bind (v8[1]?) fun aC=>
      Option.bind (v8[2]?) fun aI=>
      bif ((aC.cA==aI.cA)&&((aC.cD==aI.cD)&&((aC.dg==aI.dg)&&((aC.de==aI.de)&&((aC.dc==aI.dc)&&true)))))then
       some (aC,(0:Int))
      else
       some (fD,(10:Int))
     else
      bif (v3.bg==(8:Int))then
       Option.bind (v8[0]?) fun aD=>
       some (aD,(0:Int))
      else
       bif (decide (v3.bg≥(16:Int)))then
        some (fD,(0:Int))
       else
        Option.bind (v8[0]?) fun aP=>
        Option.bind (v8[1]?) fun aW=>
        bif ((aP.cA==aW.cA)&&((aP.cD==aW.cD)&&((aP.dg==aW.dg)&&((aP.de==aW.de)&&((aP.dc==aW.dc)&&true)))))then
         bif (decide (v3.bg≥(13:Int)))then
          some (fD,(0:Int))
         else
          some (aP,(0:Int))
        else
         some (fD,(10:Int))
 |v6::v7,v4,v8=>
  Option.bind (QU v1 v2 v6) fun aH=>
  bif (aH.2 !=(0:Int))then
   some (fD,aH.2)
  else
   bif (Nat.ble ((v8.length+1)*40) 140737488355328)then
   (fun ck=>lR N v3 v1 v2 QU v7 (v4+1) ck) (v8++[aH.1])
   else none
def oG(N:Nat):Nat→aY→(List ByteArray)→ao→Option (bB×Int)
 |0,_,_,_=>none
 |d+1,v1,v2,v3=>
  lR N v3 v1 v2 (oG N d) v3.aT 0 []
def CK(N:Nat)(v1:aY)(v2:List ByteArray)(v3:ao):Option (bB×Int):=oG N N v1 v2 v3
theorem adg(N:Nat):∀d:Nat,(∀(v1:aY)(v2:List ByteArray)(v3:ao)(r:bB×Int),oG N d v1 v2 v3=some r→bm Tryz.prog 144 [(aX v1),(.d (.sl (ax v2))),(aE v3)] (·=(.bX [(e9 r.1),(an r.2)]))):=by
 intro d
 induction d with
 |zero=>intro v1 v2 v3 r J;rw[oG]at J;cases J
 |succ d ih=>
  have Yk:=ih;intro v1 v2 v3 r J;rw[oG]at J;refine bK Tryz.func144 (by kernel_rfl) (by kernel_rfl) ?_;refine au ai [[],[],[]] ?_;refine m8 8 42 5 [] (.inr (by kernel_rfl)) ?_;refine eo 1 12 (cW v3.aT) (by kernel_rfl) fun h1=> ?_;have h2:=cr ca h1;refine cC ai 1 [] [1,3,5,6,8,9] 4 (fun((v4,v5,v8):Nat×(List ao)×(List bB))=>⟨112,[(1,(.d (.sl (ax v2)))),(3,(.ptr 0 0)),(5,(.ptr 1 0)),(6,(.ptr 2 0)),(8,(.own 3 (jN v8))),(9,(an (v4:Int)))],[.cells (aX v1).cells, .cells (aE v3).cells, .cells ji, .front 42 5 v8.length]⟩) (fun((v4,v5,v8):Nat×(List ao)×(List bB))=>v3.aT.drop v4=v5∧lR N v3 v1 v2 (oG N d) v5 v4 v8=some r) (fun((v4,v5,v8):Nat×(List ao)×(List bB))=>v5.length) (0,v3.aT,[]) ⟨rfl,J⟩ ?_;rintro⟨v4,v5,v8⟩ ⟨h3,J⟩ f1 aV;cases v5 with
  |nil=>
   rw[lR]at J;refine au ai [[(10,oL v3.aT ca)],[(0,bF (bS h3))]] ?_;obtain⟨v9,h5,J⟩:=ar J;refine cN ai [(38,(aM v9))] [.cells (aX v1).cells, .cells (aE v3).cells, .cells ji, .front 42 5 v8.length] ?_ ?_
   ·refine bc h5 (fun h4 h5=> ?_) fun h4 h5=> ?_
    ·obtain rfl:=sj h5;exact⟨so (os [12,15,18,22] (bT h4) []),by kernel_rfl⟩
    obtain rfl:=sj h5;exact⟨so (os [12,15,18,22] (bF h4) []),by kernel_rfl⟩
   refine bc J (fun h6 J=> ?_) fun h6 J=> ?_
   ·obtain rfl:=sj J;exact wr ai [[(0,bT h6)],[]]
   refine au ai [[(0,bF h6)],[]] ?_;refine bc J (fun h7 J=> ?_) fun h7 J=> ?_
   ·obtain⟨v10,h8,J⟩:=ar J;obtain rfl:=sj J;exact wr ai [[(0,bT h7)],[(19,cL (Na N v1 v2 [v3.aQ] v10 h8))]]
   refine au ai [[(0,bF h7)],[]] ?_;refine bc J (fun h9 J=> ?_) fun h9 J=> ?_
   ·obtain⟨v11,az,J⟩:=ar J;obtain rfl:=sj J;exact wr ai [[(0,bT h9)],[(10,cL (aba N v1 v2 v3 v11 az))]]
   refine au ai [[(0,bF h9)],[]] ?_;refine bc J (fun aZ J=> ?_) fun aZ J=> ?_
   ·obtain⟨aC,bf,J⟩:=ar J;obtain⟨aI,b5,J⟩:=ar J;refine au ai [[(0,bT aZ)],[(4,oE (k:=1) (ky bf)),(13,oE (k:=2) (ky b5))]] ?_;refine bc J (fun a8 J=> ?_) fun a8 J=> ?_
    ·obtain rfl:=sj J;exact wr ai [[(0,bF (cG a8))],[(4,oE (k:=1) (ky bf))]]
    obtain rfl:=sj J;exact wr ai [[(0,bT (cT a8))],[]]
   refine au ai [[(0,bF aZ)],[]] ?_;refine bc J (fun bA J=> ?_) fun bA J=> ?_
   ·obtain⟨aD,a9,J⟩:=ar J;obtain rfl:=sj J;exact wr ai [[(0,bT bA)],[(4,oE (k:=0) (ky a9))]]
   refine au ai [[(0,bF bA)],[]] ?_;refine bc J (fun cv J=> ?_) fun cv J=> ?_
   ·obtain rfl:=sj J;exact wr ai [[(0,bT cv)],[]]
   obtain⟨aP,bQ,J⟩:=ar J;obtain⟨aW,dk,J⟩:=ar J;refine au ai [[(0,bF cv)],[(4,oE (k:=0) (ky bQ)),(13,oE (k:=1) (ky dk))]] ?_;refine bc J (fun dJ J=> ?_) fun dJ J=> ?_
   ·refine au ai [[(0,bF (cG dJ))],[]] ?_;refine bc J (fun eG J=> ?_) fun eG J=> ?_
    ·obtain rfl:=sj J;exact wr ai [[(0,bT eG)],[]]
    obtain rfl:=sj J;exact wr ai [[(0,bF eG)],[(4,oE (k:=0) (ky bQ))]]
   obtain rfl:=sj J;exact wr ai [[(0,bT (cT dJ))],[]]
  |cons v6 v7=>
   rw[lR]at J;obtain⟨aH,fe,J⟩:=ar J;refine au ai [[(10,oL v3.aT ca)],[(0,bT (bR h3))],[(16,oE (jn (bj h3))),(22,cL (Yk v1 v2 v6 aH fe))],[]] ?_;refine bc J (fun fb J=> ?_) fun fb J=> ?_
   ·obtain rfl:=sj J;exact wr ai [[(0,bT fb)],[]]
   obtain⟨eN,J⟩:=c8 J;exact cx ai aV (v4+1,v7,(v8++[aH.1])) [[(0,bF fb)],[(10,⟨_,_, .app (xs:=jN v8) (ys:=jN [aH.1]) (zs:=jN (v8++[aH.1])) (n:=(v8++[aH.1]).length) ga.symm FV FV (by rw[(ga (l:=v8)),(ga (l:=[aH.1]))];exact(cY eN (by decide)).1) (by rw[(ga (l:=v8)),(ga (l:=[aH.1]))];exact(cY eN (by decide)).2) P0 (by first|(rw[(ga (l:=v8)),(ga (l:=[aH.1]))];done)|(rw[(ga (l:=v8)),(ga (l:=[aH.1]))];rfl)|(rw[(ga (l:=v8)),(ga (l:=[aH.1])),agu];done)|(rw[(ga (l:=v8)),(ga (l:=[aH.1])),agu];rfl)|(rw[(ga (l:=v8)),(ga (l:=[aH.1])),agN]))⟩)],[(5,oq (b8 h3 rfl h2))]] ⟨b7 h3,J⟩
theorem aaA(N:Nat)(v1:aY)(v2:List ByteArray)(v3:ao)(r:bB×Int)(J:CK N v1 v2 v3=some r):bm Tryz.prog 144 [(aX v1),(.d (.sl (ax v2))),(aE v3)] (·=(.bX [(e9 r.1),(an r.2)])):=(adg N N) v1 v2 v3 r J
def uw(N:Nat)(v1:aY)(v2:List ByteArray)(v3:ao):Option (bB×Int):=
 Option.bind (ye N v3) fun v4=>
 bif (v4 !=(0:Int))then
  some (fD,v4)
 else
  Option.bind (Ak N v3) fun v5=>
  bif v5 then
   some (fD,(10:Int))
  else
   Option.bind (CK N v1 v2 v3) fun v6=>
   bif (v6.2 !=(0:Int))then
    some (fD,v6.2)
   else
    some (v6.1,(0:Int))
theorem Wy(N:Nat)(v1:aY)(v2:List ByteArray)(v3:ao)(r:bB×Int)(J:uw N v1 v2 v3=some r):bm Tryz.prog 111 [(aX v1),(.d (.sl (ax v2))),(aE v3)] (·=(.bX [(e9 r.1),(an r.2)])):=by
 rw[uw]at J;refine bK Tryz.func111 (by kernel_rfl) (by kernel_rfl) ?_;obtain⟨v4,h1,J⟩:=ar J;refine au ai [[],[(4,cL (aaD N v3 v4 h1))],[]] ?_;refine bc J (fun h2 J=> ?_) fun h2 J=> ?_
 ·obtain rfl:=sj J;exact wr ai [[(0,bT h2)],[]]
 obtain⟨v5,h3,J⟩:=ar J;refine au ai [[(0,bF h2)],[(4,cL (Tn N v3 v5 h3))]] ?_;refine bc J (fun h4 J=> ?_) fun h4 J=> ?_
 ·obtain rfl:=sj J;exact wr ai [[(0,bT h4)],[]]
 obtain⟨v6,h5,J⟩:=ar J;refine au ai [[(0,bF h4)],[(10,cL (aaA N v1 v2 v3 v6 h5))],[]] ?_;refine bc J (fun h6 J=> ?_) fun h6 J=> ?_
 ·obtain rfl:=sj J;exact wr ai [[(0,bT h6)],[]]
 obtain rfl:=sj J;exact wr ai [[(0,bF h6)],[]]
def Bu(N:Nat)(v1:aY)(v2:Int)(v3:List ByteArray):Option Int:=
 bif (decide ((0:Int)≤v2))then
 Option.bind (v1.aA[(v2).toNat]?) fun v4=>
 Option.bind (rI N v4.aq v3) fun v5=>
 bif (v5 !=(0:Int))then
  some v5
 else
  Option.bind (sW N v4.aB) fun v6=>
  bif v6 then
   Option.bind (bif (decide ((v4.aJ.length:Int)>(6:Int)))then some true else some (decide ((v4.bG.length:Int)>(6:Int)))) fun v7=>
   bif v7 then
    some (11:Int)
   else
    bif (Nat.ble ((0+v4.aJ.length)*48) 140737488355328)then
    bif (Nat.ble ((v4.aJ.length+v4.bG.length)*48) 140737488355328)then
    Option.bind (Cg N (v4.aJ++v4.bG) v1.bx) fun v8=>
    bif (v8 !=(0:Int))then
     some v8
    else
     Option.bind (DB N v4) fun v9=>
     bif (v9 !=(0:Int))then
      some v9
     else
      bif (decide ((v2).toNat≤v1.aA.length))then
      Option.bind (BC N v4) fun v10=>
      Option.bind (uw N (⟨v1.bx,[],v1.bu,((v1.aA.take (v2).toNat).drop 0),[]⟩:aY) v10 v4.bE) fun v11=>
      bif (v11.2 !=(0:Int))then
       some v11.2
      else
       bif ((v11.1.cA==v4.aB.cA)&&((v11.1.cD==v4.aB.cD)&&((v11.1.dg==v4.aB.dg)&&((v11.1.de==v4.aB.de)&&((v11.1.dc==v4.aB.dc)&&true)))))then
        some (0:Int)
       else
        some (10:Int)
      else none
    else none
    else none
  else
   some (10:Int)
 else none
theorem afB(N:Nat)(v1:aY)(v2:Int)(v3:List ByteArray)(r:Int)(J:Bu N v1 v2 v3=some r):bm Tryz.prog 68 [(aX v1),(an v2),(.d (.sl (ax v3)))] (·=(an r)):=by
 rw[Bu]at J;refine bK Tryz.func68 (by kernel_rfl) (by kernel_rfl) ?_;obtain⟨h2,J⟩:=c8 J;obtain⟨v4,h1,J⟩:=ar J;obtain⟨v5,h3,J⟩:=ar J;refine au ai [[],[(10,⟨_,_, .el (xs:=cg v1.aA) (i:=v2) (of_decide_eq_true h2) (gA h1)⟩)],[(10,cL (Ib N v4.aq v3 v5 h3))],[]] ?_;refine bc J (fun h4 J=> ?_) fun h4 J=> ?_
 ·obtain rfl:=sj J;exact wr ai [[(0,bT h4)],[]]
 obtain⟨v6,h5,J⟩:=ar J;refine au ai [[(0,bF h4)],[(7,cL (GX N v4.aB v6 h5))]] ?_;refine bc J (fun h6 J=> ?_) fun h6 J=> ?_
 ·refine au ai [[(0,bF (cG h6))]] ?_;obtain⟨v7,h8,J⟩:=ar J;refine cN ai [(38,(aM v7))] [.cells (aX v1).cells, .cells (cE v4).cells] ?_ ?_
  ·refine bc h8 (fun h7 h8=> ?_) fun h7 h8=> ?_
   ·obtain rfl:=sj h8;exact⟨so (os [15,18,21,24,28] (bT h7) [(7,oL v4.aJ bV)]),by kernel_rfl⟩
   obtain rfl:=sj h8;exact⟨so (os [15,18,21,24,28] (bF h7) [(7,oL v4.aJ bV),(22,oL v4.bG bV)]),by kernel_rfl⟩
  refine bc J (fun h9 J=> ?_) fun h9 J=> ?_
  ·obtain rfl:=sj J;exact wr ai [[(0,bT h9)],[]]
  obtain⟨az,J⟩:=c8 J;obtain⟨aZ,J⟩:=c8 J;obtain⟨v8,bf,J⟩:=ar J;refine au ai [[(0,bF h9)],[(10,⟨_,_, .app (xs:=[]) (ys:=cy v4.aJ) (zs:=cy v4.aJ) (n:=v4.aJ.length) rfl (fun _ hc=>absurd hc ag9) oy (by rw[(show([]:List (List D)).length=0 from rfl),(bV (l:=v4.aJ))];exact(cY az (by decide)).1) (by rw[(show([]:List (List D)).length=0 from rfl),(bV (l:=v4.aJ))];exact(cY az (by decide)).2) rfl (by first|(rw[(show([]:List (List D)).length=0 from rfl),(bV (l:=v4.aJ))];done)|(rw[(show([]:List (List D)).length=0 from rfl),(bV (l:=v4.aJ))];rfl)|(rw[(show([]:List (List D)).length=0 from rfl),(bV (l:=v4.aJ)),agu];done)|(rw[(show([]:List (List D)).length=0 from rfl),(bV (l:=v4.aJ)),agu];rfl)|(rw[(show([]:List (List D)).length=0 from rfl),(bV (l:=v4.aJ)),agN]))⟩),(19,⟨_,_, .app (xs:=cy v4.aJ) (ys:=cy v4.bG) (zs:=cy (v4.aJ++v4.bG)) (n:=(v4.aJ++v4.bG).length) bV.symm oy oy (by rw[(bV (l:=v4.aJ)),(bV (l:=v4.bG))];exact(cY aZ (by decide)).1) (by rw[(bV (l:=v4.aJ)),(bV (l:=v4.bG))];exact(cY aZ (by decide)).2) EO (by first|(rw[(bV (l:=v4.aJ)),(bV (l:=v4.bG))];done)|(rw[(bV (l:=v4.aJ)),(bV (l:=v4.bG))];rfl)|(rw[(bV (l:=v4.aJ)),(bV (l:=v4.bG)),agu];done)|(rw[(bV (l:=v4.aJ)),(bV (l:=v4.bG)),agu];rfl)|(rw[(bV (l:=v4.aJ)),(bV (l:=v4.bG)),agN]))⟩),(28,cL (Xe N (v4.aJ++v4.bG) v1.bx v8 bf))],[]] ?_
  refine bc J (fun b5 J=> ?_) fun b5 J=> ?_
  ·obtain rfl:=sj J;exact wr ai [[(0,bT b5)],[]]
  obtain⟨v9,a8,J⟩:=ar J;refine au ai [[(0,bF b5)],[(4,cL (afJ N v4 v9 a8))],[]] ?_;refine bc J (fun bA J=> ?_) fun bA J=> ?_
  ·obtain rfl:=sj J;exact wr ai [[(0,bT bA)],[]]
  obtain⟨a9,J⟩:=c8 J;obtain⟨v10,cv,J⟩:=ar J;obtain⟨v11,bQ,J⟩:=ar J;refine au ai [[(0,bF bA)],[(22,⟨_,_, .sub (xs:=cg v1.aA) (lo:=(0:Int)) (hi:=v2) (by decide) (Nat.zero_le _) (of_decide_eq_true h2) (by rw[dB];exact(of_decide_eq_true a9)) Cd QV⟩),(31,cL (acH N v4 v10 cv)),(40,cL (Wy N (⟨v1.bx,[],v1.bu,((v1.aA.take (v2).toNat).drop 0),[]⟩:aY) v10 v4.bE v11 bQ))],[]] ?_;refine bc J (fun dk J=> ?_) fun dk J=> ?_
  ·obtain rfl:=sj J;exact wr ai [[(0,bT dk)],[]]
  refine au ai [[(0,bF dk)],[]] ?_;refine bc J (fun dJ J=> ?_) fun dJ J=> ?_
  ·obtain rfl:=sj J;exact wr ai [[(0,bF (cG dJ))],[]]
  obtain rfl:=sj J;exact wr ai [[(0,bT (cT dJ))],[]]
 obtain rfl:=sj J;exact wr ai [[(0,bT (cT h6))],[]]
def tV(N:Nat)(v1:aY):List ByteArray→Nat→Int→Option (Int×Int)
 |[],_,_=>
  some ((0:Int),(0:Int))
 |dF::dh,bU,cz=>
  Option.bind (Al N v1 dF) fun cb=>
  bif cb.2.2 then
   bif (decide (((bU:Int)).toNat≤v1.cU.length))then
   Option.bind (oQ N ((v1.cU.take ((bU:Int)).toNat).drop 0) dF) fun eC=>
   bif eC then
    some (cz,(8:Int))
   else
    (fun uM=>tV N v1 dh (bU+1) uM) (a7 (cz+(1:Int)))
   else none
  else
   some (cz,(9:Int))
def q8(N:Nat)(v1:aY):List aL→Nat→(List ByteArray)→Int→Option (Int×Int)
 |[],_,_,aU=>
  tV N v1 v1.cU 0 aU
 |aP::aW,aI,aH,aU=>
  Option.bind (Bu N v1 (aI:Int) aH) fun me=>
  bif (me !=(0:Int))then
   some (aU,me)
  else
   bif (Nat.ble ((aH.length+1)*16) 140737488355328)then
   (fun lD xC=>q8 N v1 aW (aI+1) lD xC) (aH++[aP.aq]) (a7 (aU+(1:Int)))
   else none
def p7(N:Nat)(v1:aY):List cq→Nat→(List ByteArray)→Int→Option (Int×Int)
 |[],_,v11,aC=>
  q8 N v1 v1.aA 0 v11 aC
 |v9::v10,v7,v11,aC=>
  Option.bind (B6 N v9 v1.bx v11) fun tA=>
  bif (tA !=(0:Int))then
   some (aC,tA)
  else
   bif (Nat.ble ((v11.length+1)*16) 140737488355328)then
   (fun fS qe=>p7 N v1 v10 (v7+1) fS qe) (v11++[v9.aq]) (a7 (aC+(1:Int)))
   else none
def tM(N:Nat)(v1:aY):List cF→Nat→Option (Int×Int)
 |[],_=>
  bif (Nat.ble ((0+v1.bx.length)*16) 140737488355328)then
  p7 N v1 v1.bu 0 v1.bx (2:Int)
  else none
 |v5::v6,v3=>
  Option.bind (wZ N v5.aQ v1.bx) fun lu=>
  bif (lu !=(0:Int))then
   some ((1:Int),lu)
  else
   (tM N v1 v6 (v3+1))
def Az(N:Nat)(v1:aY):Option (Int×Int):=
 Option.bind (G6 N v1) fun v2=>
 bif (v2 !=(0:Int))then
  some ((0:Int),v2)
 else
  tM N v1 v1.cX 0
theorem TT(N:Nat)(v1:aY)(r:Int×Int)(J:Az N v1=some r):bm Tryz.prog 33 [(aX v1)] (·=(.bX [(an r.1),(an r.2)])):=by
 rw[Az]at J;refine bK Tryz.func33 (by kernel_rfl) (by kernel_rfl) ?_;obtain⟨v2,h1,J⟩:=ar J;refine au ai [[],[(4,cL (XJ N v1 v2 h1))],[]] ?_;refine bc J (fun h2 J=> ?_) fun h2 J=> ?_
 ·obtain rfl:=sj J;exact wr ai [[(0,bT h2)],[]]
 refine au ai [[(0,bF h2)],[]] ?_;refine eo 0 1 (bJ v1.cX) (by kernel_rfl) fun h3=> ?_;have h4:=cr fa h3;refine cC ai 1 [] [1,5] 1 (fun((v3,v4):Nat×(List cF))=>⟨136,[(1,(.ptr 0 0)),(5,(an (v3:Int)))],[.cells (aX v1).cells]⟩) (fun((v3,v4):Nat×(List cF))=>v1.cX.drop v3=v4∧tM N v1 v4 v3=some r) (fun((v3,v4):Nat×(List cF))=>v4.length) (0,v1.cX) ⟨rfl,J⟩ ?_;rintro⟨v3,v4⟩ ⟨h5,J⟩ f1 aV;cases v4 with
 |nil=>
  rw[tM]at J;obtain⟨h6,J⟩:=c8 J;refine au ai [[(10,oL v1.cX fa)],[(0,bF (bS h5))],[(10,⟨_,_, .app (xs:=[]) (ys:=ax v1.bx) (zs:=ax v1.bx) (n:=v1.bx.length) rfl (fun _ hc=>absurd hc ag9) jz (by rw[(show([]:List (List D)).length=0 from rfl),(bD (l:=v1.bx))];exact(cY h6 (by decide)).1) (by rw[(show([]:List (List D)).length=0 from rfl),(bD (l:=v1.bx))];exact(cY h6 (by decide)).2) rfl (by first|(rw[(show([]:List (List D)).length=0 from rfl),(bD (l:=v1.bx))];done)|(rw[(show([]:List (List D)).length=0 from rfl),(bD (l:=v1.bx))];rfl)|(rw[(show([]:List (List D)).length=0 from rfl),(bD (l:=v1.bx)),agu];done)|(rw[(show([]:List (List D)).length=0 from rfl),(bD (l:=v1.bx)),agu];rfl)|(rw[(show([]:List (List D)).length=0 from rfl),(bD (l:=v1.bx)),agN]))⟩)],[],[]] ?_;refine eo 0 2 (bN v1.bu) (by kernel_rfl) fun h7=> ?_;have h8:=cr er h7;refine cC ai 2 [] [1,7,8,9] 2 (fun((v7,v8,v11,aC):Nat×(List cq)×(List ByteArray)×Int)=>⟨136,[(1,(.ptr 0 0)),(7,(.own 1 (ax v11))),(8,(an aC)),(9,(an (v7:Int)))],[.cells (aX v1).cells, .front 9 1 v11.length]⟩) (fun((v7,v8,v11,aC):Nat×(List cq)×(List ByteArray)×Int)=>v1.bu.drop v7=v8∧p7 N v1 v8 v7 v11 aC=some r) (fun((v7,v8,v11,aC):Nat×(List cq)×(List ByteArray)×Int)=>v8.length) (0,v1.bu,v1.bx,(2:Int)) ⟨rfl,J⟩ ?_
  rintro⟨v7,v8,v11,aC⟩ ⟨h9,J⟩ f2 dX;cases v8 with
  |nil=>
   rw[p7]at J;refine au ai [[(10,oL v1.bu er)],[(0,bF (bS h9))],[]] ?_;refine eo 0 3 (cg v1.aA) (by kernel_rfl) fun az=> ?_;have aZ:=cr dB az;refine cC ai 3 [] [1,7,8,11] 2 (fun((aI,aD,aH,aU):Nat×(List aL)×(List ByteArray)×Int)=>⟨136,[(1,(.ptr 0 0)),(7,(.own 1 (ax aH))),(8,(an aU)),(11,(an (aI:Int)))],[.cells (aX v1).cells, .front 9 1 aH.length]⟩) (fun((aI,aD,aH,aU):Nat×(List aL)×(List ByteArray)×Int)=>v1.aA.drop aI=aD∧q8 N v1 aD aI aH aU=some r) (fun((aI,aD,aH,aU):Nat×(List aL)×(List ByteArray)×Int)=>aD.length) (0,v1.aA,v11,aC) ⟨rfl,J⟩ ?_;rintro⟨aI,aD,aH,aU⟩ ⟨bf,J⟩ f3 jA;cases aD with
   |nil=>
    rw[q8]at J;refine au ai [[(10,oL v1.aA dB)],[(0,bF (bS bf))],[]] ?_;refine eo 0 4 (ax v1.cU) (by kernel_rfl) fun b5=> ?_;have a8:=cr bD b5;refine cC ai 4 [] [1,8,13] 2 (fun((bU,v20,cz):Nat×(List ByteArray)×Int)=>⟨136,[(1,(.ptr 0 0)),(8,(an cz)),(13,(an (bU:Int)))],[.cells (aX v1).cells, .front 9 1 aH.length]⟩) (fun((bU,v20,cz):Nat×(List ByteArray)×Int)=>v1.cU.drop bU=v20∧tV N v1 v20 bU cz=some r) (fun((bU,v20,cz):Nat×(List ByteArray)×Int)=>v20.length) (0,v1.cU,aU) ⟨rfl,J⟩ ?_;rintro⟨bU,v20,cz⟩ ⟨bA,J⟩ f4 nh;cases v20 with
    |nil=>
     rw[tV]at J;obtain rfl:=sj J;exact wr ai [[(10,oL v1.cU bD)],[(0,bF (bS bA))],[]]
    |cons dF dh=>
     rw[tV]at J;obtain⟨cb,a9,J⟩:=ar J;refine au ai [[(10,oL v1.cU bD)],[(0,bT (bR bA))],[(13,oE (lK (bj bA))),(19,cL (Lc N v1 dF cb a9))],[]] ?_;refine bc J (fun cv J=> ?_) fun cv J=> ?_
     ·obtain⟨bQ,J⟩:=c8 J;obtain⟨eC,dk,J⟩:=ar J;refine au ai [[(0,bF (cG cv))],[(10,⟨_,_, .sub (xs:=ax v1.cU) (lo:=(0:Int)) (hi:=(bU:Int)) (by decide) (Nat.zero_le _) (of_decide_eq_true (aha (Int.natCast_nonneg _))) (by rw[bD];exact(of_decide_eq_true bQ)) jz Ml⟩),(22,oE (lK (bj bA))),(28,cL (xq N ((v1.cU.take ((bU:Int)).toNat).drop 0) dF eC dk))]] ?_;refine bc J (fun dJ J=> ?_) fun dJ J=> ?_
      ·obtain rfl:=sj J;exact wr ai [[(0,bT dJ)],[]]
      exact cx ai nh (bU+1,dh,(a7 (cz+(1:Int)))) [[(0,bF dJ)],[],[(5,oq (b8 bA rfl a8))]] ⟨b7 bA,J⟩
     obtain rfl:=sj J;exact wr ai [[(0,bT (cT cv))],[]]
   |cons aP aW=>
    rw[q8]at J;obtain⟨me,eG,J⟩:=ar J;refine au ai [[(10,oL v1.aA dB)],[(0,bT (bR bf))],[(10,cL (afB N v1 (aI:Int) aH me eG))],[]] ?_;refine bc J (fun fe J=> ?_) fun fe J=> ?_
    ·obtain rfl:=sj J;exact wr ai [[(0,bT fe)],[]]
    obtain⟨fb,J⟩:=c8 J;exact cx ai jA (aI+1,aW,(aH++[aP.aq]),(a7 (aU+(1:Int)))) [[(0,bF fe)],[(13,oE (gA (bj bf))),(25,⟨_,_, .app (xs:=ax aH) (ys:=ax [aP.aq]) (zs:=ax (aH++[aP.aq])) (n:=(aH++[aP.aq]).length) bD.symm jz jz (by rw[(bD (l:=aH)),(bD (l:=[aP.aq]))];exact(cY fb (by decide)).1) (by rw[(bD (l:=aH)),(bD (l:=[aP.aq]))];exact(cY fb (by decide)).2) zD (by first|(rw[(bD (l:=aH)),(bD (l:=[aP.aq]))];done)|(rw[(bD (l:=aH)),(bD (l:=[aP.aq]))];rfl)|(rw[(bD (l:=aH)),(bD (l:=[aP.aq])),agu];done)|(rw[(bD (l:=aH)),(bD (l:=[aP.aq])),agu];rfl)|(rw[(bD (l:=aH)),(bD (l:=[aP.aq])),agN]))⟩)],[],[(5,oq (b8 bf rfl aZ))]] ⟨b7 bf,J⟩
  |cons v9 v10=>
   rw[p7]at J;obtain⟨tA,eN,J⟩:=ar J;refine au ai [[(10,oL v1.bu er)],[(0,bT (bR h9))],[(10,oE (kJ (bj h9))),(25,cL (acA N v9 v1.bx v11 tA eN))],[]] ?_;refine bc J (fun fp J=> ?_) fun fp J=> ?_
   ·obtain rfl:=sj J;exact wr ai [[(0,bT fp)],[]]
   obtain⟨h26,J⟩:=c8 J;exact cx ai dX (v7+1,v10,(v11++[v9.aq]),(a7 (aC+(1:Int)))) [[(0,bF fp)],[(13,oE (kJ (bj h9))),(25,⟨_,_, .app (xs:=ax v11) (ys:=ax [v9.aq]) (zs:=ax (v11++[v9.aq])) (n:=(v11++[v9.aq]).length) bD.symm jz jz (by rw[(bD (l:=v11)),(bD (l:=[v9.aq]))];exact(cY h26 (by decide)).1) (by rw[(bD (l:=v11)),(bD (l:=[v9.aq]))];exact(cY h26 (by decide)).2) zD (by first|(rw[(bD (l:=v11)),(bD (l:=[v9.aq]))];done)|(rw[(bD (l:=v11)),(bD (l:=[v9.aq]))];rfl)|(rw[(bD (l:=v11)),(bD (l:=[v9.aq])),agu];done)|(rw[(bD (l:=v11)),(bD (l:=[v9.aq])),agu];rfl)|(rw[(bD (l:=v11)),(bD (l:=[v9.aq])),agN]))⟩)],[],[(5,oq (b8 h9 rfl h8))]] ⟨b7 h9,J⟩
 |cons v5 v6=>
  rw[tM]at J;obtain⟨lu,jg,J⟩:=ar J;refine au ai [[(10,oL v1.cX fa)],[(0,bT (bR h5))],[(10,oE (zQ (bj h5))),(25,cL (JL N v5.aQ v1.bx lu jg))],[]] ?_;refine bc J (fun lL J=> ?_) fun lL J=> ?_
  ·obtain rfl:=sj J;exact wr ai [[(0,bT lL)],[]]
  exact cx ai aV (v3+1,v6) [[(0,bF lL)],[(5,oq (b8 h5 rfl h4))]] ⟨b7 h5,J⟩
def xo(N:Nat)(v2:ByteArray):List aL→Nat→Option Int
 |[],_=>
  some (-1:Int)
 |v5::v6,v3=>
  bif (bL v5.aq==bL v2)then
   some (v3:Int)
  else
   (xo N v2 v6 (v3+1))
def BN(N:Nat)(v1:aY)(v2:ByteArray):Option Int:=
 xo N v2 v1.aA 0
theorem O4(N:Nat)(v1:aY)(v2:ByteArray)(r:Int)(J:BN N v1 v2=some r):bm Tryz.prog 31 [(aX v1),(bq v2)] (·=(an r)):=by
 rw[BN]at J;refine bK Tryz.func31 (by kernel_rfl) (by kernel_rfl) ?_;refine au ai [[],[]] ?_;refine eo 0 3 (cg v1.aA) (by kernel_rfl) fun h1=> ?_;have h2:=cr dB h1;refine cC ai 1 [] [1,2,5] 1 (fun((v3,v4):Nat×(List aL))=>⟨22,[(1,(bq v2)),(2,(.ptr 0 0)),(5,(an (v3:Int)))],[.cells (aX v1).cells]⟩) (fun((v3,v4):Nat×(List aL))=>v1.aA.drop v3=v4∧xo N v2 v4 v3=some r) (fun((v3,v4):Nat×(List aL))=>v4.length) (0,v1.aA) ⟨rfl,J⟩ ?_;rintro⟨v3,v4⟩ ⟨h3,J⟩ f1 aV;cases v4 with
 |nil=>
  rw[xo]at J;obtain rfl:=sj J;exact wr ai [[(10,oL v1.aA dB)],[(0,bF (bS h3))],[]]
 |cons v5 v6=>
  rw[xo]at J;refine au ai [[(10,oL v1.aA dB)],[(0,bT (bR h3))],[(10,oE (gA (bj h3)))]] ?_;refine bc J (fun h4 J=> ?_) fun h4 J=> ?_
  ·obtain rfl:=sj J;exact wr ai [[(0,bT h4)],[]]
  exact cx ai aV (v3+1,v6) [[(0,bF h4)],[(5,oq (b8 h3 rfl h2))]] ⟨b7 h3,J⟩
def wE(N:Nat)(CF:ao→ByteArray→Option Bool)(v2:ByteArray):List ao→Nat→Option Bool
 |[],_=>
  some true
 |v9::v10,v7=>
  Option.bind (CF v9 v2) fun v11=>
  bif v11 then
   (wE N CF v2 v10 (v7+1))
  else
   some false
def s8(N:Nat)(CF:ao→ByteArray→Option Bool)(v2:ByteArray)(v1:ao):List ay→Nat→Option Bool
 |[],_=>
  wE N CF v2 v1.aT 0
 |v5::v6,v3=>
  Option.bind (bif (bL v5.bp==bL v2)then some true else(bif (v1.bg==(3:Int))then(bif (bL v1.aq==bL v2)then some (!(bL v5.bp==bL (bs [])))else some false)else some false)) fun aC=>
  bif aC then
   some false
  else
   (s8 N CF v2 v1 v6 (v3+1))
def qm(N:Nat):Nat→ao→ByteArray→Option Bool
 |0,_,_=>none
 |d+1,v1,v2=>
  s8 N (qm N d) v2 v1 v1.xIdx 0
def Lq(N:Nat)(v1:ao)(v2:ByteArray):Option Bool:=qm N N v1 v2
theorem acV(N:Nat):∀d:Nat,(∀(v1:ao)(v2:ByteArray)(r:Bool),qm N d v1 v2=some r→bm Tryz.prog 38 [(aE v1),(bq v2)] (·=(aM r))):=by
 intro d
 induction d with
 |zero=>intro v1 v2 r J;rw[qm]at J;cases J
 |succ d ih=>
  have abw:=ih;intro v1 v2 r J;rw[qm]at J;refine bK Tryz.func38 (by kernel_rfl) (by kernel_rfl) ?_;refine au ai [[],[]] ?_;refine eo 0 11 (bM v1.xIdx) (by kernel_rfl) fun h1=> ?_;have h2:=cr cn h1;refine cC ai 1 [] [1,2,5] 1 (fun((v3,v4):Nat×(List ay))=>⟨57,[(1,(bq v2)),(2,(.ptr 0 0)),(5,(an (v3:Int)))],[.cells (aE v1).cells]⟩) (fun((v3,v4):Nat×(List ay))=>v1.xIdx.drop v3=v4∧s8 N (qm N d) v2 v1 v4 v3=some r) (fun((v3,v4):Nat×(List ay))=>v4.length) (0,v1.xIdx) ⟨rfl,J⟩ ?_;rintro⟨v3,v4⟩ ⟨h3,J⟩ f1 aV;cases v4 with
  |nil=>
   rw[s8]at J;refine au ai [[(10,oL v1.xIdx cn)],[(0,bF (bS h3))],[]] ?_;refine eo 0 12 (cW v1.aT) (by kernel_rfl) fun h4=> ?_;have h5:=cr ca h4;refine cC ai 2 [] [1,2,6] 1 (fun((v7,v8):Nat×(List ao))=>⟨57,[(1,(bq v2)),(2,(.ptr 0 0)),(6,(an (v7:Int)))],[.cells (aE v1).cells]⟩) (fun((v7,v8):Nat×(List ao))=>v1.aT.drop v7=v8∧wE N (qm N d) v2 v8 v7=some r) (fun((v7,v8):Nat×(List ao))=>v8.length) (0,v1.aT) ⟨rfl,J⟩ ?_;rintro⟨v7,v8⟩ ⟨h6,J⟩ f2 dX;cases v8 with
   |nil=>
    rw[wE]at J;obtain rfl:=sj J;exact wr ai [[(10,oL v1.aT ca)],[(0,bF (bS h6))],[]]
   |cons v9 v10=>
    rw[wE]at J;obtain⟨v11,h7,J⟩:=ar J;refine au ai [[(10,oL v1.aT ca)],[(0,bT (bR h6))],[(10,oE (jn (bj h6))),(19,cL (abw v9 v2 v11 h7))]] ?_;refine bc J (fun h8 J=> ?_) fun h8 J=> ?_
    ·exact cx ai dX (v7+1,v10) [[(0,bF (cG h8))],[(5,oq (b8 h6 rfl h5))]] ⟨b7 h6,J⟩
    obtain rfl:=sj J;exact wr ai [[(0,bT (cT h8))],[]]
  |cons v5 v6=>
   rw[s8]at J;refine au ai [[(10,oL v1.xIdx cn)],[(0,bT (bR h3))]] ?_;obtain⟨aC,bf,J⟩:=ar J;refine cN ai [(41,(aM aC))] [.cells (aE v1).cells] ?_ ?_
   ·refine bc bf (fun h9 bf=> ?_) fun h9 bf=> ?_
    ·obtain rfl:=sj bf;exact⟨so (os [27,30,33,36,51,54,78,82] (bT h9) (os [39,42,45,48,57,60,63,66,69,72,75] uN [(10,oE (eM (bj h3)))])),by kernel_rfl⟩
    refine bc bf (fun az bf=> ?_) fun az bf=> ?_
    ·refine bc bf (fun aZ bf=> ?_) fun aZ bf=> ?_
     ·obtain rfl:=sj bf;exact⟨so (os [10,67] (oE (eM (bj h3))) (os [27,30,33,36,51,54,78,82] (bF h9) (os [39,42,45,48,52] (bT az) (os [57,60,63,66,69,72,75,79] (bT aZ) [])))),by kernel_rfl⟩
     obtain rfl:=sj bf;exact⟨so (os [27,30,33,36,51,54,78,82] (bF h9) (os [39,42,45,48,52] (bT az) (os [57,60,63,66,69,72,75,79] (bF aZ) [(10,oE (eM (bj h3)))]))),by kernel_rfl⟩
    obtain rfl:=sj bf;exact⟨so (os [27,30,33,36,51,54,78,82] (bF h9) (os [39,42,45,48,52] (bF az) (os [57,60,63,66,69,72,75,79] (bF rfl) [(10,oE (eM (bj h3)))]))),by kernel_rfl⟩
   refine bc J (fun b5 J=> ?_) fun b5 J=> ?_
   ·obtain rfl:=sj J;exact wr ai [[(0,bT b5)],[]]
   exact cx ai aV (v3+1,v6) [[(0,bF b5)],[(5,oq (b8 h3 rfl h2))]] ⟨b7 h3,J⟩
theorem acn(N:Nat)(v1:ao)(v2:ByteArray)(r:Bool)(J:Lq N v1 v2=some r):bm Tryz.prog 38 [(aE v1),(bq v2)] (·=(aM r)):=(acV N N) v1 v2 r J
def xA(N:Nat)(v2:ByteArray):List aL→Nat→Option Int
 |[],_=>
  some (0:Int)
 |v8::v9,v6=>
  Option.bind (Lq N v8.bE v2) fun v10=>
  bif v10 then
   (xA N v2 v9 (v6+1))
  else
   some (1:Int)
def xW(N:Nat)(v1:aY)(v2:ByteArray):Option Int:=
 Option.bind (Az N v1) fun v3=>
 bif (v3.2 !=(0:Int))then
  some v3.2
 else
  Option.bind (BN N v1 v2) fun v4=>
  bif (decide (v4<(0:Int)))then
   some (9:Int)
  else
   bif (decide ((0:Int)≤v4))then
   Option.bind (v1.aA[(v4).toNat]?) fun v5=>
   bif (v5.cP !=(0:Int))then
    some (1:Int)
   else
    xA N v2 v1.aA 0
   else none
theorem AU(N:Nat)(v1:aY)(v2:ByteArray)(r:Int)(J:xW N v1 v2=some r):bm Tryz.prog 11 [(aX v1),(bq v2)] (·=(an r)):=by
 rw[xW]at J;refine bK Tryz.func11 (by kernel_rfl) (by kernel_rfl) ?_;obtain⟨v3,h1,J⟩:=ar J;refine au ai [[],[(4,cL (TT N v1 v3 h1))],[]] ?_;refine bc J (fun h2 J=> ?_) fun h2 J=> ?_
 ·obtain rfl:=sj J;exact wr ai [[(0,bT h2)],[]]
 obtain⟨v4,h3,J⟩:=ar J;refine au ai [[(0,bF h2)],[(7,cL (O4 N v1 v2 v4 h3))],[]] ?_;refine bc J (fun h4 J=> ?_) fun h4 J=> ?_
 ·obtain rfl:=sj J;exact wr ai [[(0,bT h4)],[]]
 obtain⟨h6,J⟩:=c8 J;obtain⟨v5,h5,J⟩:=ar J;refine au ai [[(0,bF h4)],[(10,⟨_,_, .el (xs:=cg v1.aA) (i:=v4) (of_decide_eq_true h6) (gA h5)⟩)]] ?_;refine bc J (fun h7 J=> ?_) fun h7 J=> ?_
 ·obtain rfl:=sj J;exact wr ai [[(0,bT h7)],[]]
 refine au ai [[(0,bF h7)],[]] ?_;refine eo 0 3 (cg v1.aA) (by kernel_rfl) fun h8=> ?_;have h9:=cr dB h8;refine cC ai 1 [] [1,2,8] 1 (fun((v6,v7):Nat×(List aL))=>⟨45,[(1,(bq v2)),(2,(.ptr 0 0)),(8,(an (v6:Int)))],[.cells (aX v1).cells]⟩) (fun((v6,v7):Nat×(List aL))=>v1.aA.drop v6=v7∧xA N v2 v7 v6=some r) (fun((v6,v7):Nat×(List aL))=>v7.length) (0,v1.aA) ⟨rfl,J⟩ ?_;rintro⟨v6,v7⟩ ⟨az,J⟩ f1 aV;cases v7 with
 |nil=>
  rw[xA]at J;obtain rfl:=sj J;exact wr ai [[(10,oL v1.aA dB)],[(0,bF (bS az))],[]]
 |cons v8 v9=>
  rw[xA]at J;obtain⟨v10,aZ,J⟩:=ar J;refine au ai [[(10,oL v1.aA dB)],[(0,bT (bR az))],[(10,oE (gA (bj az))),(22,cL (acn N v8.bE v2 v10 aZ))]] ?_;refine bc J (fun bf J=> ?_) fun bf J=> ?_
  ·exact cx ai aV (v6+1,v9) [[(0,bF (cG bf))],[(5,oq (b8 az rfl h9))]] ⟨b7 az,J⟩
  obtain rfl:=sj J;exact wr ai [[(0,bT (cT bf))],[]]
def xb(N:Nat)(v1:aw):Option Int:=
 Option.bind (pR N v1) fun v2=>
 bif v2 then
  some (0:Int)
 else
  some (1:Int)
theorem HI(N:Nat)(v1:aw)(r:Int)(J:xb N v1=some r):bm Tryz.prog 172 [(b9 v1)] (·=(an r)):=by
 rw[xb]at J;refine bK Tryz.func172 (by kernel_rfl) (by kernel_rfl) ?_;obtain⟨v2,h1,J⟩:=ar J;refine au ai [[],[(4,cL (xU N v1 v2 h1))]] ?_;refine bc J (fun h2 J=> ?_) fun h2 J=> ?_
 ·obtain rfl:=sj J;exact wr ai [[(0,bF (cG h2))],[]]
 obtain rfl:=sj J;exact wr ai [[(0,bT (cT h2))],[]]
def Ah(N:Nat)(v1:Int64)(v2:Int64):Option (Int64×Bool):=
 Option.bind (bif (v1.toInt==(0:Int))then some true else some (v2.toInt==(0:Int))) fun v3=>
 bif v3 then
  some ((0:Int64),true)
 else
  Option.bind (bif (v1.toInt==(-1:Int))then(bif (v2.toInt==(-9223372036854775808:Int))then some true else(bif (v2.toInt==(-1:Int))then(bif (v1.toInt==(-9223372036854775808:Int))then some true else bif (v2.toInt !=(0:Int))then
  some ((Int64.ofInt (((v1*v2).toInt).tdiv v2.toInt)).toInt !=v1.toInt)
  else none)else bif (v2.toInt !=(0:Int))then
  some ((Int64.ofInt (((v1*v2).toInt).tdiv v2.toInt)).toInt !=v1.toInt)
  else none))else(bif (v2.toInt==(-1:Int))then(bif (v1.toInt==(-9223372036854775808:Int))then some true else bif (v2.toInt !=(0:Int))then
  some ((Int64.ofInt (((v1*v2).toInt).tdiv v2.toInt)).toInt !=v1.toInt)
  else none)else bif (v2.toInt !=(0:Int))then
  some ((Int64.ofInt (((v1*v2).toInt).tdiv v2.toInt)).toInt !=v1.toInt)
  else none)) fun v4=>
  bif v4 then
   some ((0:Int64),false)
  else
   some ((v1*v2),true)
theorem Q4(N:Nat)(v1:Int64)(v2:Int64)(r:Int64×Bool)(J:Ah N v1 v2=some r):bm Tryz.prog 173 [(bt v1),(bt v2)] (·=(.bX [(bt r.1),(aM r.2)])):=by
 rw[Ah]at J;refine bK Tryz.func173 (by kernel_rfl) (by kernel_rfl) ?_;refine au ai [[]] ?_;obtain⟨v3,h2,J⟩:=ar J;refine cN ai [(12,(aM v3))] [] ?_ ?_
 ·refine bc h2 (fun h1 h2=> ?_) fun h1 h2=> ?_
  ·obtain rfl:=sj h2;exact⟨so (os [9,12,16] (bT h1) []),by kernel_rfl⟩
  obtain rfl:=sj h2;exact⟨so (os [9,12,16] (bF h1) []),by kernel_rfl⟩
 refine bc J (fun h3 J=> ?_) fun h3 J=> ?_
 ·obtain rfl:=sj J;exact wr ai [[(0,bT h3)],[]]
 refine au ai [[(0,bF h3)],[(8,⟨_,_, .eq (Og v1 v2)⟩)]] ?_;obtain⟨v4,a8,J⟩:=ar J;refine cN ai [(36,(aM v4))] [] ?_ ?_
 ·refine bc a8 (fun h4 a8=> ?_) fun h4 a8=> ?_
  ·refine bc a8 (fun h5 a8=> ?_) fun h5 a8=> ?_
   ·obtain rfl:=sj a8;exact⟨so (os [9,12,16] (bT h4) (os [21,24,27,36,40] (bT h5) (os [30,33] uN (os [45,48,51,54,57,61] (bT rfl) [])))),by kernel_rfl⟩
   refine bc a8 (fun h6 a8=> ?_) fun h6 a8=> ?_
   ·refine bc a8 (fun h7 a8=> ?_) fun h7 a8=> ?_
    ·obtain rfl:=sj a8;exact⟨so (os [9,12,16] (bT h4) (os [21,24,27,36,40] (bF h5) (os [30,33,37] (bT h6) (os [45,48,51,54,57,61] (bT h7) [])))),by kernel_rfl⟩
    obtain⟨h8,a8⟩:=c8 a8;obtain rfl:=sj a8;exact⟨so (os [9,12,16] (bT h4) (os [21,24,27,36,40] (bF h5) (os [30,33,37] (bT h6) (os [45,48,51,54,57,61] (bF h7) [(52,⟨_,_, .nz (b:=v2.toInt) (bne_iff_ne.1 h8)⟩),(53,⟨_,_, .eq (nw (((v1*v2).toInt).tdiv v2.toInt))⟩)])))),by kernel_rfl⟩
   obtain⟨h9,a8⟩:=c8 a8;obtain rfl:=sj a8;exact⟨so (os [9,12,16] (bT h4) (os [21,24,27,36,40] (bF h5) (os [30,33,37] (bF h6) (os [45,48,51,54,57,61] (bF rfl) [(52,⟨_,_, .nz (b:=v2.toInt) (bne_iff_ne.1 h9)⟩),(53,⟨_,_, .eq (nw (((v1*v2).toInt).tdiv v2.toInt))⟩)])))),by kernel_rfl⟩
  refine bc a8 (fun az a8=> ?_) fun az a8=> ?_
  ·refine bc a8 (fun aZ a8=> ?_) fun aZ a8=> ?_
   ·obtain rfl:=sj a8;exact⟨so (os [9,12,16] (bF h4) (os [21,24,27,36,40] (bF rfl) (os [30,33,37] (bT az) (os [45,48,51,54,57,61] (bT aZ) [])))),by kernel_rfl⟩
   obtain⟨bf,a8⟩:=c8 a8;obtain rfl:=sj a8;exact⟨so (os [9,12,16] (bF h4) (os [21,24,27,36,40] (bF rfl) (os [30,33,37] (bT az) (os [45,48,51,54,57,61] (bF aZ) [(52,⟨_,_, .nz (b:=v2.toInt) (bne_iff_ne.1 bf)⟩),(53,⟨_,_, .eq (nw (((v1*v2).toInt).tdiv v2.toInt))⟩)])))),by kernel_rfl⟩
  obtain⟨b5,a8⟩:=c8 a8;obtain rfl:=sj a8;exact⟨so (os [9,12,16] (bF h4) (os [21,24,27,36,40,45,48,51,54,57,61] (bF rfl) (os [30,33,37] (bF az) [(52,⟨_,_, .nz (b:=v2.toInt) (bne_iff_ne.1 b5)⟩),(53,⟨_,_, .eq (nw (((v1*v2).toInt).tdiv v2.toInt))⟩)]))),by kernel_rfl⟩
 refine bc J (fun bA J=> ?_) fun bA J=> ?_
 ·obtain rfl:=sj J;exact wr ai [[(0,bT bA)],[]]
 obtain rfl:=sj J;exact wr ai [[(0,bF bA)],[]]
def sB(N:Nat)(v4:Int64×Bool)(v2:Int64):List aF→Nat→(List aF)→Option (aw×Int)
 |[],_,v9=>
  some ((⟨v4.1,v9⟩:aw),(0:Int))
 |v7::v8,v5,v9=>
  Option.bind (Ah N v7.dq v2) fun v10=>
  bif v10.2 then
   bif (Nat.ble ((v9.length+1)*24) 140737488355328)then
   (fun ck=>sB N v4 v2 v8 (v5+1) ck) (v9++[(⟨v7.aq,v10.1⟩:aF)])
   else none
  else
   some (dV,(3:Int))
def DV(N:Nat)(v1:aw)(v2:Int64):Option (aw×Int):=
 Option.bind (xb N v1) fun v3=>
 bif (v3 !=(0:Int))then
  some (dV,(1:Int))
 else
  bif (v2.toInt==(0:Int))then
   some (dV,(0:Int))
  else
   Option.bind (Ah N v1.xK v2) fun v4=>
   bif v4.2 then
    sB N v4 v2 v1.xL 0 []
   else
    some (dV,(3:Int))
theorem ae0(N:Nat)(v1:aw)(v2:Int64)(r:aw×Int)(J:DV N v1 v2=some r):bm Tryz.prog 139 [(b9 v1),(bt v2)] (·=(.bX [(b9 r.1),(an r.2)])):=by
 rw[DV]at J;refine bK Tryz.func139 (by kernel_rfl) (by kernel_rfl) ?_;obtain⟨v3,h1,J⟩:=ar J;refine au ai [[],[(4,cL (HI N v1 v3 h1))]] ?_;refine bc J (fun h2 J=> ?_) fun h2 J=> ?_
 ·obtain rfl:=sj J;exact wr ai [[(0,bT h2)],[]]
 refine au ai [[(0,bF h2)],[]] ?_;refine bc J (fun h3 J=> ?_) fun h3 J=> ?_
 ·obtain rfl:=sj J;exact wr ai [[(0,bT h3)],[]]
 obtain⟨v4,h4,J⟩:=ar J;refine au ai [[(0,bF h3)],[(10,cL (Q4 N v1.xK v2 v4 h4))],[]] ?_;refine bc J (fun h5 J=> ?_) fun h5 J=> ?_
 ·refine au ai [[(0,bF (cG h5))],[],[]] ?_;refine nO 2 1 92 2 [] (.inr (by kernel_rfl)) ?_;refine eo 0 1 (bP v1.xL) (by kernel_rfl) fun h6=> ?_;have h7:=cr b6 h6;refine jQ ai 1 [] [1,2,4,8,9] 4 [] [(1,1)] (fun((v5,v6,v9):Nat×(List aF)×(List aF))=>⟨66,[(1,(bt v2)),(2,(.ptr 0 0)),(4,(.ptr 1 0)),(8,(.ptr 2 0)),(9,(an (v5:Int)))],[.cells (b9 v1).cells, .cells mB, .cells [(bt v4.1),(.own 3 (bP v9))], .front 92 2 v9.length]⟩) (fun((v5,v6,v9):Nat×(List aF)×(List aF))=>v1.xL.drop v5=v6∧sB N v4 v2 v6 v5 v9=some r) (fun((v5,v6,v9):Nat×(List aF)×(List aF))=>v6.length) (0,v1.xL,[]) ⟨rfl,J⟩ ?_;rintro⟨v5,v6,v9⟩ ⟨h8,J⟩ f1 aV;cases v6 with
  |nil=>
   rw[sB]at J;obtain rfl:=sj J;exact wr ai [[(10,oL v1.xL b6)],[(0,bF (bS h8))],[]]
  |cons v7 v8=>
   rw[sB]at J;obtain⟨v10,h9,J⟩:=ar J;refine au ai [[(10,oL v1.xL b6)],[(0,bT (bR h8))],[(10,oE (fu (bj h8))),(22,cL (Q4 N v7.dq v2 v10 h9))],[]] ?_;refine bc J (fun az J=> ?_) fun az J=> ?_
   ·obtain⟨aZ,J⟩:=c8 J;exact iQ ai aV (v5+1,v8,(v9++[(⟨v7.aq,v10.1⟩:aF)])) [[(0,bF (cG az))],[(16,oE (fu (bj h8))),(34,⟨_,_, .app (xs:=bP v9) (ys:=bP [(⟨v7.aq,v10.1⟩:aF)]) (zs:=bP (v9++[(⟨v7.aq,v10.1⟩:aF)])) (n:=(v9++[(⟨v7.aq,v10.1⟩:aF)]).length) b6.symm l9 l9 (by rw[(b6 (l:=v9)),(b6 (l:=[(⟨v7.aq,v10.1⟩:aF)]))];exact(cY aZ (by decide)).1) (by rw[(b6 (l:=v9)),(b6 (l:=[(⟨v7.aq,v10.1⟩:aF)]))];exact(cY aZ (by decide)).2) EV (by first|(rw[(b6 (l:=v9)),(b6 (l:=[(⟨v7.aq,v10.1⟩:aF)]))];done)|(rw[(b6 (l:=v9)),(b6 (l:=[(⟨v7.aq,v10.1⟩:aF)]))];rfl)|(rw[(b6 (l:=v9)),(b6 (l:=[(⟨v7.aq,v10.1⟩:aF)])),agu];done)|(rw[(b6 (l:=v9)),(b6 (l:=[(⟨v7.aq,v10.1⟩:aF)])),agu];rfl)|(rw[(b6 (l:=v9)),(b6 (l:=[(⟨v7.aq,v10.1⟩:aF)])),agN]))⟩)],[(5,oq (b8 h8 rfl h7))]] ⟨b7 h8,J⟩
   obtain rfl:=sj J;exact wr ai [[(0,bT (cT az))],[]]
 obtain rfl:=sj J;exact wr ai [[(0,bT (cT h5))],[]]
def yi(N:Nat)(v1:Int64)(v2:Int64):Option (Int64×Bool):=
 Option.bind (bif (decide (v2.toInt>(0:Int)))then(bif (decide (v1.toInt>((9223372036854775807:Int64)-v2).toInt))then some true else(bif (decide (v2.toInt<(0:Int)))then some (decide (v1.toInt<((-9223372036854775808:Int64)-v2).toInt))else some false))else(bif (decide (v2.toInt<(0:Int)))then some (decide (v1.toInt<((-9223372036854775808:Int64)-v2).toInt))else some false)) fun v3=>
 bif v3 then
  some ((0:Int64),false)
 else
  some ((v1+v2),true)
theorem NT(N:Nat)(v1:Int64)(v2:Int64)(r:Int64×Bool)(J:yi N v1 v2=some r):bm Tryz.prog 174 [(bt v1),(bt v2)] (·=(.bX [(bt r.1),(aM r.2)])):=by
 rw[yi]at J;refine bK Tryz.func174 (by kernel_rfl) (by kernel_rfl) ?_;refine au ai [[]] ?_;obtain⟨v3,h5,J⟩:=ar J;refine cN ai [(23,(aM v3))] [] ?_ ?_
 ·refine bc h5 (fun h1 h5=> ?_) fun h1 h5=> ?_
  ·refine bc h5 (fun h2 h5=> ?_) fun h2 h5=> ?_
   ·obtain rfl:=sj h5;exact⟨so (os [9,12,15,18,22] (bT h1) (os [27,30,33,48,52] (bT h2) (os [36,39,42,45] uN [(17,⟨_,_, .eq (uE (9223372036854775807:Int64) v2)⟩)]))),by kernel_rfl⟩
   refine bc h5 (fun h3 h5=> ?_) fun h3 h5=> ?_
   ·obtain rfl:=sj h5;exact⟨so (os [9,12,15,18,22] (bT h1) (os [27,30,33,48,52] (bF h2) (os [36,39,42,45,49] (bT h3) [(17,⟨_,_, .eq (uE (9223372036854775807:Int64) v2)⟩),(44,⟨_,_, .eq (uE (-9223372036854775808:Int64) v2)⟩)]))),by kernel_rfl⟩
   obtain rfl:=sj h5;exact⟨so (os [9,12,15,18,22] (bT h1) (os [27,30,33,48,52] (bF h2) (os [36,39,42,45,49] (bF h3) [(17,⟨_,_, .eq (uE (9223372036854775807:Int64) v2)⟩)]))),by kernel_rfl⟩
  refine bc h5 (fun h4 h5=> ?_) fun h4 h5=> ?_
  ·obtain rfl:=sj h5;exact⟨so (os [9,12,15,18,22] (bF h1) (os [27,30,33,48,52] (bF rfl) (os [36,39,42,45,49] (bT h4) [(44,⟨_,_, .eq (uE (-9223372036854775808:Int64) v2)⟩)]))),by kernel_rfl⟩
  obtain rfl:=sj h5;exact⟨so (os [9,12,15,18,22] (bF h1) (os [27,30,33,48,52] (bF rfl) (os [36,39,42,45,49] (bF h4) []))),by kernel_rfl⟩
 refine bc J (fun h6 J=> ?_) fun h6 J=> ?_
 ·obtain rfl:=sj J;exact wr ai [[(0,bT h6)],[]]
 obtain rfl:=sj J;exact wr ai [[(0,bF h6)],[(8,⟨_,_, .eq (Jh v1 v2)⟩)]]
def u4(N:Nat)(v3:List ByteArray)(v1:Nat)(v2:ByteArray):Nat→Int→Option Bool
 |0,_=>none
 |v4+1,v5=>
  bif (Nat.beq v3.length v1)then
  bif (decide (v5<(v1:Int)))then
   bif (decide ((0:Int)≤v5))then
   Option.bind (v3[(v5).toNat]?) fun v6=>
   bif (bL v6==bL v2)then
    some true
   else
    (fun ck=>u4 N v3 v1 v2 v4 ck) (a7 (v5+(1:Int)))
   else none
  else
   some false
  else none
def FT(N:Nat)(v1:Nat)(v2:ByteArray)(v3:List ByteArray):Option Bool:=
 u4 N v3 v1 v2 N (0:Int)
theorem Zm(N:Nat)(v1:Nat)(v2:ByteArray)(v3:List ByteArray)(r:Bool)(J:FT N v1 v2 v3=some r):bW Tryz.prog 15 [(.vec 0 0 v1 v1 1),(bq v2)] [.vec 9 1 (aK (v3.map cK))] fun r1 h1=>r1=(aM r)∧h1=[.vec 9 1 (aK (v3.map cK))]:=by
 rw[FT]at J;refine sK 1 Tryz.func15 rfl (by kernel_rfl) (agB rfl) ?_;refine lS (s':=⟨18,[(0,(.vec 0 0 v1 v1 1)),(1,(bq v2))],[.vec 9 1 (aK (v3.map cK))]⟩) (by kernel_rfl) ?_;refine aN ?_;refine rg [] [] [.vec 9 1 (aK (v3.map cK))] (by kernel_rfl) ?_;refine aN ?_;refine aN ?_;refine rg [] [(5,(an (0:Int)))] [.vec 9 1 (aK (v3.map cK))] (by kernel_rfl) ?_;refine e6 ?_;refine pc [0,1,5] 1 [] [] (fun((v4,v5):Nat×Int)=>⟨18,[(0,(.vec 0 0 v1 v1 1)),(1,(bq v2)),(5,(an v5))],[.vec 9 1 (aK (v3.map cK))]⟩) (fun((v4,v5):Nat×Int)=>u4 N v3 v1 v2 v4 v5=some r) (fun((v4,v5):Nat×Int)=>v4) (N,(0:Int)) (agB rfl) ⟨(gb (xs:=(v3.map cK)) fh),by kernel_rfl⟩ J ?_;rintro⟨v4,v5⟩ J
 try dsimp only at J
 cases v4 with
 |zero=>
  rw[u4]at J;cases J
 |succ v4=>
  rw[u4]at J;refine aN ?_;refine aN ?_;have h1:=fv J;replace J:=(dx h1).symm.trans J;refine rg [(7,⟨_,_, .pr .no (gQ (f:=cK) (agH h1))⟩)] [(9,(aM (decide (v5<(v1:Int)))))] [.vec 9 1 (aK (v3.map cK))] (by kernel_rfl) ?_;rcases fP (decide (v5<(v1:Int)))with h2|h2
  ·replace J:=(dx h2).symm.trans J;refine fz (t:=(decide (v5<(v1:Int)))) (by kernel_rfl) h2 ?_;refine et ?_;refine cm ?_;refine aN ?_;refine e6 ?_;refine aN ?_;have h3:=fv J;replace J:=(dx h3).symm.trans J;obtain⟨v6,h4,J⟩:=ar J;refine rg [(7,⟨_,_, .pr (.ix ((v5).toNat)) (kS (gQ (f:=cK) (agH h1)) (of_decide_eq_true h3) (of_decide_eq_true h2) rfl)⟩),(10,⟨_,_, .pr (.el ((cK v6).map AV.d)) (ua (f:=cK) (agH h1) h4)⟩)] [(17,(aM (bL v6==bL v2)))] [.vec 9 1 (aK (v3.map cK))] (by kernel_rfl) ?_;rcases fP (bL v6==bL v2)with h5|h5
   ·replace J:=(dx h5).symm.trans J;refine fz (t:=(bL v6==bL v2)) (by kernel_rfl) h5 ?_;refine aN ?_;refine rg [] [(4,(aM true))] [.vec 9 1 (aK (v3.map cK))] (by kernel_rfl) ?_;refine dM (fg (ej (ej (fg (ej ?_)))));have hr:=agM J;subst hr;exact lX (gb (xs:=(v3.map cK)) fh) (by kernel_rfl)
   replace J:=(fR h5).symm.trans J;refine ft (t:=(bL v6==bL v2)) (by kernel_rfl) h5 ?_;refine et ?_;refine iJ ?_;refine cm ?_;refine re [] [(5,(an (a7 (v5+(1:Int))))),(11,(an (a7 (v5+(1:Int))))),(10,(an v5))] [.vec 9 1 (aK (v3.map cK))] (by kernel_rfl) ?_;refine cm ?_;exact⟨(v4,(a7 (v5+(1:Int)))),⟨(gb (xs:=(v3.map cK)) fh),by kernel_rfl⟩,J,ahf _⟩
  replace J:=(fR h2).symm.trans J;refine ft (t:=(decide (v5<(v1:Int)))) (by kernel_rfl) h2 ?_;refine jZ (gK (gK (kZ rfl ?_)));refine cm ?_;refine aN ?_;refine rg [] [(4,(aM false))] [.vec 9 1 (aK (v3.map cK))] (by kernel_rfl) ?_;refine dM ?_;have hr:=agM J;subst hr;exact lX (gb (xs:=(v3.map cK)) fh) (by kernel_rfl)
def tR(N:Nat)(v1:Nat):Nat→Int→(List ByteArray)→Option (Nat×(List ByteArray))
 |0,_,_=>none
 |v5+1,v6,v7=>
  Option.bind (bif (decide (v6>(0:Int)))then bif (Nat.beq v7.length (v1+1))then
  bif (decide ((0:Int)≤(a7 (v6-(1:Int)))))then
  bif (decide ((a7 (v6-(1:Int)))<((v1+1):Int)))then
  Option.bind (v7[((a7 (v6-(1:Int)))).toNat]?) fun v8=>
  bif (decide ((0:Int)≤v6))then
  bif (decide (v6<((v1+1):Int)))then
  Option.bind (v7[(v6).toNat]?) fun v9=>
  some (!((Op.bytesLess (bL v8) (bL v9))||(bL v8==bL v9)))
  else none
  else none
  else none
  else none
  else none else some false) fun v10=>
  bif v10 then
   bif (Nat.beq v7.length (v1+1))then
   bif (decide ((0:Int)≤v6))then
   bif (decide (v6<((v1+1):Int)))then
   Option.bind (v7[(v6).toNat]?) fun v11=>
   bif (decide ((0:Int)≤(a7 (v6-(1:Int)))))then
   bif (decide ((a7 (v6-(1:Int)))<((v1+1):Int)))then
   Option.bind (v7[((a7 (v6-(1:Int)))).toNat]?) fun aC=>
   bif (Nat.beq (v7.set ((v6).toNat) aC).length (v1+1))then
   Option.bind ((v7.set ((v6).toNat) aC)[((a7 (v6-(1:Int)))).toNat]?) fun aI=>
   (fun ck eQ=>tR N v1 v5 ck eQ) (a7 (v6-(1:Int))) ((v7.set ((v6).toNat) aC).set (((a7 (v6-(1:Int)))).toNat) v11)
   else none
   else none
   else none
   else none
   else none
   else none
  else
   some ((v1+1),v7)
def AM(N:Nat)(v1:Nat)(v2:ByteArray)(v3:List ByteArray):Option (Nat×(List ByteArray)):=
 Option.bind (FT N v1 v2 v3) fun v4=>
 bif v4 then
  some (v1,v3)
 else
  bif (Nat.beq v3.length v1)then
  bif (Nat.ble ((v1+1)*16) 140737488355328)then
  bif (Nat.beq (v3++[v2]).length (v1+1))then
  tR N v1 N (a7 (((v1+1):Int)-(1:Int))) (v3++[v2])
  else none
  else none
  else none
theorem Yp(N:Nat)(v1:Nat)(v2:ByteArray)(v3:List ByteArray)(r:Nat×(List ByteArray))(J:AM N v1 v2 v3=some r):bW Tryz.prog 208 [(.vec 0 0 v1 v1 1),(bq v2)] [.vec 9 1 (aK (v3.map cK))] fun r1 h1=>r1=(.vec 0 0 r.1 r.1 1)∧h1=[.vec 9 1 (aK (r.2.map cK))]:=by
 rw[AM]at J;refine sK 1 Tryz.func208 rfl (by kernel_rfl) (agB rfl) ?_;refine lS (s':=⟨52,[(0,(.vec 0 0 v1 v1 1)),(1,(bq v2))],[.vec 9 1 (aK (v3.map cK))]⟩) (by kernel_rfl) ?_;refine aN ?_;refine rg [] [] [.vec 9 1 (aK (v3.map cK))] (by kernel_rfl) ?_;refine aN ?_;refine aN ?_;obtain⟨v4,h1,J⟩:=ar J;refine rg [(7,⟨_,_, .l7 (kF (xs:=(v3.map cK)) hX) (kF (xs:=(v3.map cK)) hX) (db:=[(.vec 0 0 v1 v1 1),(bq v2)]) (h:=[.vec 9 1 (aK (v3.map cK))]) (l:=[0]) (by kernel_rfl) (by kernel_rfl) (by kernel_rfl) (by kernel_rfl) (Zm N v1 v2 v3 v4 h1)⟩)] [(9,(aM v4))] [.vec 9 1 (aK (v3.map cK))] (by kernel_rfl) ?_;rcases fP v4 with h2|h2
 ·replace J:=(dx h2).symm.trans J;refine fz (t:=v4) (by kernel_rfl) h2 ?_;refine aN ?_;refine rg [] [(4,(.vec 0 0 v1 v1 1))] [.vec 9 1 (aK (v3.map cK))] (by kernel_rfl) ?_;refine dM (ej ?_);have hr:=agM J;subst hr;exact lX (gb (xs:=(v3.map cK)) fh) (by kernel_rfl)
 replace J:=(fR h2).symm.trans J;refine ft (t:=v4) (by kernel_rfl) h2 ?_;refine et ?_;refine cm ?_;refine aN ?_;have h3:=fv J;replace J:=(dx h3).symm.trans J;have h4:=fv J;replace J:=(dx h4).symm.trans J;refine rg [(10,⟨_,_, .pr (.ap (aK ((v3++[v2]).map cK)) (aK (([v2]).map cK)) (v1+1) (v1+1)) (Us (f:=cK) (h:=[.vec 9 1 (aK (v3.map cK))]) (y:=(.full (ax [v2]))) (k:=1) (agH h3) rfl (fun c hc=>jz c (by rw[nF];exact hc)) rfl rfl (cY h4 (by decide)).1 (cY h4 (by decide)).2)⟩)] [(0,(.vec 0 0 (v1+1) (v1+1) 1))] [.vec 9 1 (aK ((v3++[v2]).map cK))] (by kernel_rfl) ?_;refine aN ?_;refine aN ?_;have h5:=fv J;replace J:=(dx h5).symm.trans J;refine rg [(4,⟨_,_, .pr .no (gQ (f:=cK) (agH h5))⟩)] [(5,(an (a7 (((v1+1):Int)-(1:Int)))))] [.vec 9 1 (aK ((v3++[v2]).map cK))] (by kernel_rfl) ?_;refine e6 ?_;refine pc [0,5] 1 [] [] (fun((v5,v6,v7):Nat×Int×(List ByteArray))=>⟨52,[(0,(.vec 0 0 (v1+1) (v1+1) 1)),(5,(an v6))],[.vec 9 1 (aK (v7.map cK))]⟩) (fun((v5,v6,v7):Nat×Int×(List ByteArray))=>tR N v1 v5 v6 v7=some r) (fun((v5,v6,v7):Nat×Int×(List ByteArray))=>v5) (N,(a7 (((v1+1):Int)-(1:Int))),(v3++[v2])) (agB rfl) ⟨(gb (xs:=((v3++[v2]).map cK)) fh),by kernel_rfl⟩ J ?_
 rintro⟨v5,v6,v7⟩ J
 try dsimp only at J
 cases v5 with
 |zero=>
  rw[tR]at J;cases J
 |succ v5=>
  rw[tR]at J;refine aN ?_;refine aN ?_;obtain⟨v10,a8,J⟩:=ar J;refine rdE ai (by kernel_rfl) [(31,(aM v10))] [.vec 9 1 (aK (v7.map cK))] ?_ ?_
  ·rcases fP (decide (v6>(0:Int)))with h6|h6
   ·replace a8:=(dx h6).symm.trans a8;have h7:=fv a8;replace a8:=(dx h7).symm.trans a8;have h8:=fv a8;replace a8:=(dx h8).symm.trans a8;have h9:=fv a8;replace a8:=(dx h9).symm.trans a8;obtain⟨v8,az,a8⟩:=ar a8;have aZ:=fv a8;replace a8:=(dx aZ).symm.trans a8;have bf:=fv a8;replace a8:=(dx bf).symm.trans a8;obtain⟨v9,b5,a8⟩:=ar a8;have he:=agM a8;subst he;exact⟨[(9,bT h6),(12,bT h6),(15,bT h6),(18,bT h6),(19,⟨_,_, .pr (.ix (((a7 (v6-(1:Int)))).toNat)) (kS (gQ (f:=cK) (agH h7)) (of_decide_eq_true h8) (of_decide_eq_true h9) rfl)⟩),(21,bT h6),(22,⟨_,_, .pr (.el ((cK v8).map AV.d)) (ua (f:=cK) (agH h7) az)⟩),(24,bT h6),(27,bT h6),(30,bT h6),(31,⟨_,_, .pr (.ix ((v6).toNat)) (kS (gQ (f:=cK) (agH h7)) (of_decide_eq_true aZ) (of_decide_eq_true bf) rfl)⟩),(33,bT h6),(34,⟨_,_, .pr (.el ((cK v9).map AV.d)) (ua (f:=cK) (agH h7) b5)⟩),(36,bT h6),(40,bT h6)],by kernel_rfl⟩
   replace a8:=(fR h6).symm.trans a8;have he:=agM a8;subst he;exact⟨[(9,bF h6),(12,bF h6),(15,bF h6),(18,bF h6),(21,bF h6),(24,bF h6),(27,bF h6),(30,bF h6),(33,bF h6),(36,bF h6),(40,bF h6)],by kernel_rfl⟩
  rcases fP v10 with bA|bA
  ·replace J:=(dx bA).symm.trans J;refine fz (t:=v10) (by kernel_rfl) bA ?_;refine et ?_;refine cm ?_;refine aN ?_;refine e6 ?_;refine aN ?_;have a9:=fv J;replace J:=(dx a9).symm.trans J;have cv:=fv J;replace J:=(dx cv).symm.trans J;have bQ:=fv J;replace J:=(dx bQ).symm.trans J;obtain⟨v11,dk,J⟩:=ar J;refine rg [(7,⟨_,_, .pr (.ix ((v6).toNat)) (kS (gQ (f:=cK) (agH a9)) (of_decide_eq_true cv) (of_decide_eq_true bQ) rfl)⟩),(10,⟨_,_, .pr (.el ((cK v11).map AV.d)) (ua (f:=cK) (agH a9) dk)⟩)] [(6,(bq v11))] [.vec 9 1 (aK (v7.map cK))] (by kernel_rfl) ?_;refine aN ?_;have dJ:=fv J;replace J:=(dx dJ).symm.trans J;have eG:=fv J;replace J:=(dx eG).symm.trans J;obtain⟨aC,fe,J⟩:=ar J;refine rg [(16,⟨_,_, .pr (.ix (((a7 (v6-(1:Int)))).toNat)) (kS (gQ (f:=cK) (agH a9)) (of_decide_eq_true dJ) (of_decide_eq_true eG) rfl)⟩),(19,⟨_,_, .pr (.el ((cK aC).map AV.d)) (ua (f:=cK) (agH a9) fe)⟩),(22,⟨_,_, .pr (.ix ((v6).toNat)) (kS (gQ (f:=cK) (agH a9)) (of_decide_eq_true cv) (of_decide_eq_true bQ) rfl)⟩),(25,⟨_,_, .pr (.st ((cK v11).map AV.d) (aK ((v7.set ((v6).toNat) aC).map cK))) (At (f:=cK) (j:=0) (y:=aC) (zs:=[(bq aC)]) (agH a9) dk rfl)⟩)] [] [.vec 9 1 (aK ((v7.set ((v6).toNat) aC).map cK))] (by kernel_rfl) ?_
   have fb:=fv J;replace J:=(dx fb).symm.trans J;obtain⟨aI,eN,J⟩:=ar J;refine re [(13,⟨_,_, .pr (.ix (((a7 (v6-(1:Int)))).toNat)) (kS (gQ (f:=cK) (agH fb)) (of_decide_eq_true dJ) (of_decide_eq_true eG) rfl)⟩),(16,⟨_,_, .pr (.st ((cK aI).map AV.d) (aK (((v7.set ((v6).toNat) aC).set (((a7 (v6-(1:Int)))).toNat) v11).map cK))) (At (f:=cK) (j:=0) (y:=v11) (zs:=[(bq v11)]) (agH fb) eN rfl)⟩)] [(50,(.di 0 (((a7 (v6-(1:Int)))).toNat) 0 (v1+1) 1)),(49,(bq v11)),(48,(an (a7 (v6-(1:Int))))),(47,(an v6)),(46,(.vec 0 0 (v1+1) (v1+1) 1))] [.vec 9 1 (aK (((v7.set ((v6).toNat) aC).set (((a7 (v6-(1:Int)))).toNat) v11).map cK))] (by kernel_rfl) ?_;refine iJ ?_;refine cm ?_;refine re [] [(5,(an (a7 (v6-(1:Int))))),(33,(an (a7 (v6-(1:Int))))),(32,(an v6))] [.vec 9 1 (aK (((v7.set ((v6).toNat) aC).set (((a7 (v6-(1:Int)))).toNat) v11).map cK))] (by kernel_rfl) ?_;refine cm ?_;exact⟨(v5,(a7 (v6-(1:Int))),((v7.set ((v6).toNat) aC).set (((a7 (v6-(1:Int)))).toNat) v11)),⟨(gb (xs:=(((v7.set ((v6).toNat) aC).set (((a7 (v6-(1:Int)))).toNat) v11).map cK)) fh),by kernel_rfl⟩,J,ahf _⟩
  replace J:=(fR bA).symm.trans J;refine ft (t:=v10) (by kernel_rfl) bA ?_;refine jZ (gK (gK (kZ rfl ?_)));refine cm ?_;refine aN ?_;refine rg [] [(4,(.vec 0 0 (v1+1) (v1+1) 1))] [.vec 9 1 (aK (v7.map cK))] (by kernel_rfl) ?_;refine dM ?_;have hr:=agM J;subst hr;exact lX (gb (xs:=(v7.map cK)) fh) (by kernel_rfl)
def vH(N:Nat)(gB:Nat→(List ByteArray)→Option ((List ByteArray))):List aF→Nat→Nat→(List ByteArray)→Option ((List ByteArray))
 |[],_,aC,aI=>
  gB aC aI
 |v10::v11,v8,aC,aI=>
  Option.bind (AM N aC v10.aq aI) fun aD=>
  (fun fS qe=>vH N gB v11 (v8+1) fS qe) aD.1 aD.2
def og(N:Nat):List aw→Nat→Nat→(List ByteArray)→Option ((List ByteArray))
 |[],_,v6,v7=>
  bif (Nat.beq v7.length v6)then
  some v7
  else none
 |v4::v5,v2,v6,v7=>
  vH N (fun ck eQ=>og N v5 (v2+1) ck eQ) v4.xL 0 v6 v7
def Bh(N:Nat)(v1:List aw):Option ((List ByteArray)):=
 og N v1 0 0 []
theorem Vn(N:Nat)(v1:List aw)(r:(List ByteArray))(J:Bh N v1=some r):bm Tryz.prog 175 [(.d (.sl (cS v1)))] (·=(.d (.sl (ax r)))):=by
 rw[Bh]at J;refine pY Tryz.func175 rfl (by kernel_rfl) ?_;refine gP [0] 0 (agE _) (s':=⟨34,[(0,(.d (.sl (cS v1))))],[]⟩) (by kernel_rfl) ?_;refine aN ?_;refine rg [] [] [] (by kernel_rfl) ?_;refine aN ?_;refine rg [] [(3,(.d (.v (.slice none 0 0))))] [] (by kernel_rfl) ?_;refine aN ?_;refine aN ?_;refine rg [] [(4,(an (0:Int)))] [] (by kernel_rfl) ?_;refine e6 ?_;refine Fv 3 9 1 (by kernel_rfl) ?_;refine oe 0 (cS v1) (by kernel_rfl) fun h1=> ?_;have h2:=cr bO h1;refine pc [0,3,4] 1 [] [] (fun((v2,v3,v6,v7):Nat×(List aw)×Nat×(List ByteArray))=>⟨34,[(0,(.d (.sl (cS v1)))),(3,(.vec 0 0 v6 v6 1)),(4,(an (v2:Int)))],[.vec 9 1 (aK (v7.map cK))]⟩) (fun((v2,v3,v6,v7):Nat×(List aw)×Nat×(List ByteArray))=>v1.drop v2=v3∧og N v3 v2 v6 v7=some r) (fun((v2,v3,v6,v7):Nat×(List aw)×Nat×(List ByteArray))=>v3.length) (0,v1,0,[]) (agB rfl) ⟨(gb (xs:=(([]:List ByteArray).map cK)) fh),by kernel_rfl⟩ ⟨rfl,J⟩ ?_;rintro⟨v2,v3,v6,v7⟩ ⟨h3,J⟩;cases v3 with
 |nil=>
  rw[og]at J;refine aN ?_;refine aN ?_;refine rg [(7,oL v1 bO)] [(9,(aM (decide ((v2:Int)<(v1.length:Int)))))] [.vec 9 1 (aK (v7.map cK))] (by kernel_rfl) ?_;refine ft (t:=(decide ((v2:Int)<(v1.length:Int)))) (by kernel_rfl) (bS h3) ?_;refine jZ (gK (gK (kZ rfl ?_)));refine cm ?_;refine aN ?_;refine rg [] [(2,(.vec 0 0 v6 v6 1))] [.vec 9 1 (aK (v7.map cK))] (by kernel_rfl) ?_;have h4:=fv J;replace J:=(dx h4).symm.trans J;refine HT [2] 0 (v7.map cK) (ax v7) (L:=v6) [.vec 9 1 (aK (v7.map cK))] 1 rfl (oY (fun _=>rfl) _) (pW (agH h4)) (nF _) (by kernel_rfl) (.iE .nil) ?_;refine lS (s':=⟨34,[(2,(.d (.sl (ax v7))))],[.gone]⟩) (by kernel_rfl) ?_;refine dM ?_;have hr:=agM J;subst hr;exact gi (by kernel_rfl)
 |cons v4 v5=>
  rw[og]at J;refine aN ?_;refine aN ?_;refine rg [(7,oL v1 bO)] [(9,(aM (decide ((v2:Int)<(v1.length:Int)))))] [.vec 9 1 (aK (v7.map cK))] (by kernel_rfl) ?_;refine fz (t:=(decide ((v2:Int)<(v1.length:Int)))) (by kernel_rfl) (bR h3) ?_;refine et ?_;refine cm ?_;refine aN ?_;refine e6 ?_;refine aN ?_;refine rg [] [(5,(an (0:Int)))] [.vec 9 1 (aK (v7.map cK))] (by kernel_rfl) ?_;refine e6 ?_;refine oe 0 (cS v1) (by kernel_rfl) fun h5=> ?_;have h6:v4.xL.length≤maxLen:=by rw[←b6];exact rb (A2 (j:=1) (d:= .sl (bP v4.xL)) h5 (jv (bj h3)) rfl)
  refine pc [0,3,4,5] 1 [] [] (fun((v8,v9,aC,aI):Nat×(List aF)×Nat×(List ByteArray))=>⟨34,[(0,(.d (.sl (cS v1)))),(3,(.vec 0 0 aC aC 1)),(4,(an (v2:Int))),(5,(an (v8:Int)))],[.vec 9 1 (aK (aI.map cK))]⟩) (fun((v8,v9,aC,aI):Nat×(List aF)×Nat×(List ByteArray))=>v4.xL.drop v8=v9∧vH N (fun ck eQ=>og N v5 (v2+1) ck eQ) v9 v8 aC aI=some r) (fun((v8,v9,aC,aI):Nat×(List aF)×Nat×(List ByteArray))=>v9.length) (0,v4.xL,v6,v7) (agB rfl) ⟨(gb (xs:=(v7.map cK)) fh),by kernel_rfl⟩ ⟨rfl,J⟩ ?_;rintro⟨v8,v9,aC,aI⟩ ⟨h7,J⟩;cases v9 with
  |nil=>
   rw[vH]at J;refine aN ?_;refine aN ?_;refine rg [(10,oE (jv (bj h3))),(19,oL v4.xL b6)] [(19,(aM (decide ((v8:Int)<(v4.xL.length:Int)))))] [.vec 9 1 (aK (aI.map cK))] (by kernel_rfl) ?_;refine ft (t:=(decide ((v8:Int)<(v4.xL.length:Int)))) (by kernel_rfl) (bS h7) ?_;refine jZ (gK (gK (kZ rfl ?_)));refine iJ ?_;refine cm ?_;refine re [(5,oq (b8 h3 rfl h2))] [(4,(an ((v2+1:Nat):Int))),(11,(an ((v2+1:Nat):Int))),(10,(an (v2:Int)))] [.vec 9 1 (aK (aI.map cK))] (by kernel_rfl) ?_;refine cm ?_;exact⟨(v2+1,v5,aC,aI),⟨(gb (xs:=(aI.map cK)) fh),by kernel_rfl⟩,⟨b7 h3,J⟩,ahf _⟩
  |cons v10 v11=>
   rw[vH]at J;refine aN ?_;refine aN ?_;refine rg [(10,oE (jv (bj h3))),(19,oL v4.xL b6)] [(19,(aM (decide ((v8:Int)<(v4.xL.length:Int)))))] [.vec 9 1 (aK (aI.map cK))] (by kernel_rfl) ?_;refine fz (t:=(decide ((v8:Int)<(v4.xL.length:Int)))) (by kernel_rfl) (bR h7) ?_;refine et ?_;refine cm ?_;refine aN ?_;refine e6 ?_;obtain⟨aD,h8,J⟩:=ar J;refine re [(10,oE (jv (bj h3))),(22,oE (fu (bj h7))),(31,⟨_,_, .l7 (kF (xs:=(aI.map cK)) hX) (kF (xs:=(aD.2.map cK)) hX) (db:=[(.vec 0 0 aC aC 1),(bq v10.aq)]) (h:=[.vec 9 1 (aK (aI.map cK))]) (l:=[0]) (by kernel_rfl) (by kernel_rfl) (by kernel_rfl) (by kernel_rfl) (Yp N aC v10.aq aI aD h8)⟩)] [(3,(.vec 0 0 aD.1 aD.1 1)),(32,(.vec 0 0 aD.1 aD.1 1)),(31,(bq v10.aq)),(30,(.bn [wY v10] 0 0)),(29,(.bn [wY v10] 0 0)),(28,(an (v8:Int))),(27,(.d (.sl (bP v4.xL)))),(26,(.bn [jY v4] 0 1)),(25,(.bn [jY v4] 0 0)),(24,(an (v2:Int))),(23,(.d (.sl (cS v1)))),(22,(.vec 0 0 aC aC 1))] [.vec 9 1 (aK (aD.2.map cK))] (by kernel_rfl) ?_;refine iJ ?_;refine cm ?_;refine re [(5,oq (b8 h7 rfl h6))] [(5,(an ((v8+1:Nat):Int))),(21,(an ((v8+1:Nat):Int))),(20,(an (v8:Int)))] [.vec 9 1 (aK (aD.2.map cK))] (by kernel_rfl) ?_
   refine cm ?_;exact⟨(v8+1,v11,aD.1,aD.2),⟨(gb (xs:=(aD.2.map cK)) fh),by kernel_rfl⟩,⟨b7 h7,J⟩,ahf _⟩
def vt(N:Nat)(v2:ByteArray):List aF→Nat→Option Int64
 |[],_=>
  some (0:Int64)
 |v5::v6,v3=>
  bif (bL v5.aq==bL v2)then
   some v5.dq
  else
   (vt N v2 v6 (v3+1))
def Dg(N:Nat)(v1:aw)(v2:ByteArray):Option Int64:=
 vt N v2 v1.xL 0
theorem RY(N:Nat)(v1:aw)(v2:ByteArray)(r:Int64)(J:Dg N v1 v2=some r):bm Tryz.prog 176 [(b9 v1),(bq v2)] (·=(bt r)):=by
 rw[Dg]at J;refine bK Tryz.func176 (by kernel_rfl) (by kernel_rfl) ?_;refine au ai [[],[]] ?_;refine eo 0 1 (bP v1.xL) (by kernel_rfl) fun h1=> ?_;have h2:=cr b6 h1;refine cC ai 1 [] [1,2,5] 1 (fun((v3,v4):Nat×(List aF))=>⟨27,[(1,(bq v2)),(2,(.ptr 0 0)),(5,(an (v3:Int)))],[.cells (b9 v1).cells]⟩) (fun((v3,v4):Nat×(List aF))=>v1.xL.drop v3=v4∧vt N v2 v4 v3=some r) (fun((v3,v4):Nat×(List aF))=>v4.length) (0,v1.xL) ⟨rfl,J⟩ ?_;rintro⟨v3,v4⟩ ⟨h3,J⟩ f1 aV;cases v4 with
 |nil=>
  rw[vt]at J;obtain rfl:=sj J;exact wr ai [[(10,oL v1.xL b6)],[(0,bF (bS h3))],[]]
 |cons v5 v6=>
  rw[vt]at J;refine au ai [[(10,oL v1.xL b6)],[(0,bT (bR h3))],[(10,oE (fu (bj h3)))]] ?_;refine bc J (fun h4 J=> ?_) fun h4 J=> ?_
  ·obtain rfl:=sj J;exact wr ai [[(0,bT h4)],[(10,oE (fu (bj h3)))]]
  exact cx ai aV (v3+1,v6) [[(0,bF h4)],[(5,oq (b8 h3 rfl h2))]] ⟨b7 h3,J⟩
def qP(N:Nat)(v6:Int64×Bool)(v1:aw)(v2:aw):List ByteArray→Nat→(List aF)→Option (aw×Int)
 |[],_,aC=>
  some ((⟨v6.1,aC⟩:aw),(0:Int))
 |v10::v11,v8,aC=>
  Option.bind (Dg N v1 v10) fun aI=>
  Option.bind (Dg N v2 v10) fun aD=>
  Option.bind (yi N aI aD) fun aP=>
  bif aP.2 then
   bif (aP.1.toInt !=(0:Int))then
    bif (Nat.ble ((aC.length+1)*24) 140737488355328)then
    (fun ck=>qP N v6 v1 v2 v11 (v8+1) ck) (aC++[(⟨v10,aP.1⟩:aF)])
    else none
   else
    (fun ck=>qP N v6 v1 v2 v11 (v8+1) ck) aC
  else
   some (dV,(3:Int))
def Ar(N:Nat)(v1:aw)(v2:aw):Option (aw×Int):=
 Option.bind (xb N v1) fun v3=>
 Option.bind (bif (v3 !=(0:Int))then some true else Option.bind (xb N v2) fun v4=>
 some (v4 !=(0:Int))) fun v5=>
 bif v5 then
  some (dV,(1:Int))
 else
  Option.bind (yi N v1.xK v2.xK) fun v6=>
  bif v6.2 then
   Option.bind (Bh N ([v1,v2])) fun v7=>
   qP N v6 v1 v2 v7 0 []
  else
   some (dV,(3:Int))
theorem abg(N:Nat)(v1:aw)(v2:aw)(r:aw×Int)(J:Ar N v1 v2=some r):bm Tryz.prog 140 [(b9 v1),(b9 v2)] (·=(.bX [(b9 r.1),(an r.2)])):=by
 rw[Ar]at J;refine bK Tryz.func140 (by kernel_rfl) (by kernel_rfl) ?_;refine au ai [[]] ?_;obtain⟨v3,h1,J⟩:=ar J;obtain⟨v5,h4,J⟩:=ar J;refine cN ai [(20,(aM v5))] [.cells (b9 v1).cells, .cells (b9 v2).cells, .cells mB] ?_ ?_
 ·refine bc h4 (fun h2 h4=> ?_) fun h2 h4=> ?_
  ·obtain rfl:=sj h4;exact⟨so (os [12,15,18,22] (bT h2) [(4,cL (HI N v1 v3 h1))]),by kernel_rfl⟩
  obtain⟨v4,h3,h4⟩:=ar h4;obtain rfl:=sj h4;exact⟨so (os [12,15,18,22] (bF h2) [(4,cL (HI N v1 v3 h1)),(16,cL (HI N v2 v4 h3))]),by kernel_rfl⟩
 refine bc J (fun h5 J=> ?_) fun h5 J=> ?_
 ·obtain rfl:=sj J;exact wr ai [[(0,bT h5)],[]]
 obtain⟨v6,h6,J⟩:=ar J;refine au ai [[(0,bF h5)],[(13,cL (NT N v1.xK v2.xK v6 h6))],[]] ?_;refine bc J (fun h7 J=> ?_) fun h7 J=> ?_
 ·obtain⟨v7,h8,J⟩:=ar J;refine au ai [[(0,bF (cG h7))],[],[(10,cL (Vn N ([v1,v2]) v7 h8))],[]] ?_;refine nO 3 1 92 2 [] (.inr (by kernel_rfl)) ?_;refine dP 9 (ax v7) (by kernel_rfl) fun h9=> ?_;have az:=cr bD h9;refine jQ ai 1 [] [2,3,4,8,9,10] 5 [] [(2,1)] (fun((v8,v9,aC):Nat×(List ByteArray)×(List aF))=>⟨78,[(2,(.ptr 0 0)),(3,(.ptr 1 0)),(4,(.ptr 2 0)),(8,(.ptr 3 0)),(9,(.d (.sl (ax v7)))),(10,(an (v8:Int)))],[.cells (b9 v1).cells, .cells (b9 v2).cells, .cells mB, .cells [(bt v6.1),(.own 4 (bP aC))], .front 92 2 aC.length]⟩) (fun((v8,v9,aC):Nat×(List ByteArray)×(List aF))=>v7.drop v8=v9∧qP N v6 v1 v2 v9 v8 aC=some r) (fun((v8,v9,aC):Nat×(List ByteArray)×(List aF))=>v9.length) (0,v7,[]) ⟨rfl,J⟩ ?_;rintro⟨v8,v9,aC⟩ ⟨aZ,J⟩ f1 aV;cases v9 with
  |nil=>
   rw[qP]at J;obtain rfl:=sj J;exact wr ai [[(7,oL v7 bD)],[(0,bF (bS aZ))],[]]
  |cons v10 v11=>
   rw[qP]at J;obtain⟨aI,bf,J⟩:=ar J;obtain⟨aD,b5,J⟩:=ar J;obtain⟨aP,a8,J⟩:=ar J;refine au ai [[(7,oL v7 bD)],[(0,bT (bR aZ))],[(10,oE (lK (bj aZ))),(16,cL (RY N v1 v10 aI bf)),(28,oE (lK (bj aZ))),(34,cL (RY N v2 v10 aD b5)),(37,cL (NT N aI aD aP a8))],[]] ?_;refine bc J (fun bA J=> ?_) fun bA J=> ?_
   ·refine au ai [[(0,bF (cG bA))],[]] ?_;refine bc J (fun a9 J=> ?_) fun a9 J=> ?_
    ·obtain⟨cv,J⟩:=c8 J;exact iQ ai aV (v8+1,v11,(aC++[(⟨v10,aP.1⟩:aF)])) [[(0,bT a9)],[(13,oE (lK (bj aZ))),(28,⟨_,_, .app (xs:=bP aC) (ys:=bP [(⟨v10,aP.1⟩:aF)]) (zs:=bP (aC++[(⟨v10,aP.1⟩:aF)])) (n:=(aC++[(⟨v10,aP.1⟩:aF)]).length) b6.symm l9 l9 (by rw[(b6 (l:=aC)),(b6 (l:=[(⟨v10,aP.1⟩:aF)]))];exact(cY cv (by decide)).1) (by rw[(b6 (l:=aC)),(b6 (l:=[(⟨v10,aP.1⟩:aF)]))];exact(cY cv (by decide)).2) EV (by first|(rw[(b6 (l:=aC)),(b6 (l:=[(⟨v10,aP.1⟩:aF)]))];done)|(rw[(b6 (l:=aC)),(b6 (l:=[(⟨v10,aP.1⟩:aF)]))];rfl)|(rw[(b6 (l:=aC)),(b6 (l:=[(⟨v10,aP.1⟩:aF)])),agu];done)|(rw[(b6 (l:=aC)),(b6 (l:=[(⟨v10,aP.1⟩:aF)])),agu];rfl)|(rw[(b6 (l:=aC)),(b6 (l:=[(⟨v10,aP.1⟩:aF)])),agN]))⟩)],[(5,oq (b8 aZ rfl az))]] ⟨b7 aZ,J⟩
    exact iQ ai aV (v8+1,v11,aC) [[(0,bF a9)],[(5,oq (b8 aZ rfl az))]] ⟨b7 aZ,J⟩
   obtain rfl:=sj J;exact wr ai [[(0,bT (cT bA))],[]]
 obtain rfl:=sj J;exact wr ai [[(0,bT (cT h7))],[]]
def j0(N:Nat)(v5:aF)(v7:Int64)(v8:List aF)(gB:Int64→(List aF)→Option (aw×Int))(v1:iA):List bk→Nat→Int64→(List aF)→Option (aw×Int)
 |[],_,aI,aD=>
  Option.bind (DV N (⟨aI,aD⟩:aw) v5.dq) fun aP=>
  bif (aP.2 !=(0:Int))then
   some (dV,aP.2)
  else
   Option.bind (Ar N (⟨v7,v8⟩:aw) aP.1) fun aW=>
   bif (aW.2 !=(0:Int))then
    some (dV,aW.2)
   else
    gB aW.1.xK aW.1.xL
 |v11::aC,v9,aI,aD=>
  bif (bL v11.aq==bL v5.aq)then
   Option.bind (v1.Ki[((v9:Int)).toNat]?) fun aH=>
   (fun fS qe=>j0 N v5 v7 v8 gB v1 aC (v9+1) fS qe) aH.aQ.xK aH.aQ.xL
  else
   (fun fS qe=>j0 N v5 v7 v8 gB v1 aC (v9+1) fS qe) aI aD
def sr(N:Nat)(v1:iA):List aF→Nat→Int64→(List aF)→Option (aw×Int)
 |[],_,v7,v8=>
  some ((⟨v7,v8⟩:aw),(0:Int))
 |v5::v6,v3,v7,v8=>
  j0 N v5 v7 v8 (fun ck eQ=>sr N v1 v6 (v3+1) ck eQ) v1 v1.ux 0 (0:Int64) ([(⟨v5.aq,(1:Int64)⟩:aF)])
def x7(N:Nat)(v1:iA)(v2:aw):Option (aw×Int):=
 sr N v1 v2.xL 0 v2.xK []
theorem Iy(N:Nat)(v1:iA)(v2:aw)(r:aw×Int)(J:x7 N v1 v2=some r):bm Tryz.prog 104 [(tt v1),(b9 v2)] (·=(.bX [(b9 r.1),(an r.2)])):=by
 rw[x7]at J;refine bK Tryz.func104 (by kernel_rfl) (by kernel_rfl) ?_;refine au ai [[],[],[]] ?_;refine eo 1 1 (bP v2.xL) (by kernel_rfl) fun h1=> ?_;have h2:=cr b6 h1;refine jQ ai 1 [] [2,3,4,6,7] 4 [] [(2,1)] (fun((v3,v4,v7,v8):Nat×(List aF)×Int64×(List aF))=>⟨86,[(2,(.ptr 0 0)),(3,(.ptr 1 0)),(4,(.ptr 2 0)),(6,(.ptr 3 0)),(7,(an (v3:Int)))],[.cells (tt v1).cells, .cells (b9 v2).cells, .cells mB, .cells [(bt v7),(.d (.sl (bP v8)))]]⟩) (fun((v3,v4,v7,v8):Nat×(List aF)×Int64×(List aF))=>v2.xL.drop v3=v4∧sr N v1 v4 v3 v7 v8=some r) (fun((v3,v4,v7,v8):Nat×(List aF)×Int64×(List aF))=>v4.length) (0,v2.xL,v2.xK,[]) ⟨rfl,J⟩ ?_;rintro⟨v3,v4,v7,v8⟩ ⟨h3,J⟩ f1 aV;cases v4 with
 |nil=>
  rw[sr]at J;obtain rfl:=sj J;exact wr ai [[(10,oL v2.xL b6)],[(0,bF (bS h3))],[]]
 |cons v5 v6=>
  rw[sr]at J;refine au ai [[(10,oL v2.xL b6)],[(0,bT (bR h3))],[(10,oE (fu (bj h3)))],[]] ?_;refine eo 0 0 (cy v1.ux) (by kernel_rfl) fun h4=> ?_;have h5:=cr bV h4;refine jQ ai 2 [] [2,3,4,6,7,8,9] 5 [] [(2,1)] (fun((v9,v10,aI,aD):Nat×(List bk)×Int64×(List aF))=>⟨86,[(2,(.ptr 0 0)),(3,(.ptr 1 0)),(4,(.ptr 2 0)),(6,(.ptr 3 0)),(7,(an (v3:Int))),(8,(.ptr 4 0)),(9,(an (v9:Int)))],[.cells (tt v1).cells, .cells (b9 v2).cells, .cells mB, .cells [(bt v7),(.d (.sl (bP v8)))], .cells [(bt aI),(.d (.sl (bP aD)))]]⟩) (fun((v9,v10,aI,aD):Nat×(List bk)×Int64×(List aF))=>v1.ux.drop v9=v10∧j0 N v5 v7 v8 (fun ck eQ=>sr N v1 v6 (v3+1) ck eQ) v1 v10 v9 aI aD=some r) (fun((v9,v10,aI,aD):Nat×(List bk)×Int64×(List aF))=>v10.length) (0,v1.ux,(0:Int64),[(⟨v5.aq,(1:Int64)⟩:aF)]) ⟨rfl,J⟩ ?_;rintro⟨v9,v10,aI,aD⟩ ⟨h6,J⟩ f2 dX;cases v10 with
  |nil=>
   rw[j0]at J;obtain⟨aP,h7,J⟩:=ar J;refine au ai [[(10,oL v1.ux bV)],[(0,bF (bS h6))],[(13,oE (fu (bj h3))),(22,cL (ae0 N (⟨aI,aD⟩:aw) v5.dq aP h7))],[]] ?_;refine bc J (fun h8 J=> ?_) fun h8 J=> ?_
   ·obtain rfl:=sj J;exact wr ai [[(0,bT h8)],[]]
   obtain⟨aW,h9,J⟩:=ar J;refine au ai [[(0,bF h8)],[(7,cL (abg N (⟨v7,v8⟩:aw) aP.1 aW h9))],[]] ?_;refine bc J (fun az J=> ?_) fun az J=> ?_
   ·obtain rfl:=sj J;exact wr ai [[(0,bT az)],[]]
   exact iQ ai aV (v3+1,v6,aW.1.xK,aW.1.xL) [[(0,bF az)],[],[(5,oq (b8 h3 rfl h2))]] ⟨b7 h3,J⟩
  |cons v11 aC=>
   rw[j0]at J;refine au ai [[(10,oL v1.ux bV)],[(0,bT (bR h6))],[(10,oE (kg (bj h6))),(28,oE (fu (bj h3)))]] ?_;refine bc J (fun aZ J=> ?_) fun aZ J=> ?_
   ·obtain⟨aH,bf,J⟩:=ar J;exact iQ ai dX (v9+1,aC,aH.aQ.xK,aH.aQ.xL) [[(0,bT aZ)],[(10,oE (eM bf))],[(5,oq (b8 h6 rfl h5))]] ⟨b7 h6,J⟩
   exact iQ ai dX (v9+1,aC,aI,aD) [[(0,bF aZ)],[(5,oq (b8 h6 rfl h5))]] ⟨b7 h6,J⟩
end Go.Proofs.YtphmhnabilhbgaaGreatDoor
