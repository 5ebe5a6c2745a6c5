/-
  Part 11 of the proof: PQ3.
-/
import Derived.Test.YtphmhnabilhbgaaGreatDoorPk10
namespace Go.Proofs.YtphmhnabilhbgaaGreatDoor
open Go.RowKit
set_option maxRecDepth 100000
set_option maxHeartbeats 0
set_option linter.unusedVariables false
def fQ:ao:=⟨(0:Int),(bs []),E8,fD,dV,[],[]⟩
def mn(v:ao)(r:List AV):List AV:=(an v.bg)::(bq v.aq)::(bt v.dK.xN)::(bt v.dK.xD)::(an v.aB.cA)::(an v.aB.cD)::(an v.aB.dg)::(an v.aB.de)::(an v.aB.dc)::r
def vx(N:Nat)(v4:bB×(List aw)×Bool)(v2:aY)(v3:List (ByteArray×Int)):List ay→Nat→Option (bB×Int)
 |[],_=>
  some (v4.1,(0:Int))
 |v7::v8,v5=>
  Option.bind (Ef N v7 v2 v3) fun v9=>
  bif (v9 !=(0:Int))then
   some (fD,v9)
  else
   (vx N v4 v2 v3 v8 (v5+1))
def CQ(N:Nat)(v1:ao)(v2:aY)(v3:List (ByteArray×Int)):Option (bB×Int):=
 Option.bind (Bp N v2 v1.aq) fun v4=>
 bif v4.2.2 then
  bif ((v1.xIdx.length:Int) !=(v4.2.1.length:Int))then
   some (fD,(11:Int))
  else
   vx N v4 v2 v3 v1.xIdx 0
 else
  some (fD,(9:Int))
theorem XI(N:Nat)(v1:ao)(v2:aY)(v3:List (ByteArray×Int))(r:bB×Int)(J:CQ N v1 v2 v3=some r):bW Tryz.prog 171 [(.ptr 0 0),(aE v1)] [.cells (dO v2 [(.mp 1)]), .map (dA v3)] fun r1 h1=>r1=(.bX [(e9 r.1),(an r.2)])∧h1=[.cells (dO v2 [(.mp 1)]), .map (dA v3)]:=by
 rw[CQ]at J;refine fy 2 Tryz.func171 (by kernel_rfl) (by kernel_rfl) (agB rfl) ?_;obtain⟨v4,h1,J⟩:=ar J;refine au ai [[],[(19,cL (RV N v2 v1.aq v4 h1))],[]] ?_;refine bc J (fun h2 J=> ?_) fun h2 J=> ?_
 ·refine au ai [[(0,bF (cG h2))],[(7,oL v1.xIdx cn),(13,oL v4.2.1 bO)]] ?_;refine bc J (fun h3 J=> ?_) fun h3 J=> ?_
  ·obtain rfl:=sj J;exact cQ ai [[(0,bT h3)],[]]
  refine au ai [[(0,bF h3)],[(7,oL v1.xIdx cn)]] ?_;refine dP 34 (bM v1.xIdx) (by kernel_rfl) fun h4=> ?_;have h5:=cr cn h4;refine cC ai 1 [] [0,4,6,34,35,36] 5 (fun((v5,v6):Nat×(List ay))=>⟨49,[(0,(.ptr 0 0)),(4,(.ptr 3 0)),(6,(.ptr 4 0)),(34,(.d (.sl (bM v1.xIdx)))),(35,(an (v1.xIdx.length:Int))),(36,(an (v5:Int)))],[.cells (dO v2 [(.mp 1)]), .map (dA v3), .cells (aE v1).cells, .cells ji, .cells (e9 v4.1).cells]⟩) (fun((v5,v6):Nat×(List ay))=>v1.xIdx.drop v5=v6∧vx N v4 v2 v3 v6 v5=some r) (fun((v5,v6):Nat×(List ay))=>v6.length) (0,v1.xIdx) ⟨rfl,J⟩ ?_;rintro⟨v5,v6⟩ ⟨h6,J⟩ f1 aV;cases v6 with
  |nil=>
   rw[vx]at J;obtain rfl:=sj J;exact cQ ai [[],[(0,bF (bS h6))],[]]
  |cons v7 v8=>
   rw[vx]at J;obtain⟨v9,h7,J⟩:=ar J;refine au ai [[],[(0,bT (bR h6))],[(1,oE (eM (bj h6)))],[(7,⟨_,_, .rq (db:=[(.ptr 0 0),(fX v7)]) (h:=[.cells (dO v2 [(.mp 1)]), .map (dA v3), .cells (aE v1).cells, .cells ji, .cells (e9 v4.1).cells, .cells (fX v7).cells]) (l:=[0,1]) (by kernel_rfl) (by kernel_rfl) (by kernel_rfl) (by kernel_rfl) (aam N v7 v2 v3 v9 h7)⟩)],[]] ?_;refine bc J (fun h8 J=> ?_) fun h8 J=> ?_
   ·obtain rfl:=sj J;exact cQ ai [[(0,bT h8)],[]]
   exact cx ai aV (v5+1,v8) [[(0,bF h8)],[(2,oq (b8 h6 rfl h5))]] ⟨b7 h6,J⟩
 obtain rfl:=sj J;exact cQ ai [[(0,bT (cT h2))],[]]
def z8(N:Nat)(v1:bB)(v2:bB):Option Int:=
 bif ((v1.cA==v2.cA)&&((v1.cD==v2.cD)&&((v1.dg==v2.dg)&&((v1.de==v2.de)&&((v1.dc==v2.dc)&&true)))))then
  some (0:Int)
 else
  some (10:Int)
theorem KD(N:Nat)(v1:bB)(v2:bB)(r:Int)(J:z8 N v1 v2=some r):bm Tryz.prog 169 [(e9 v1),(e9 v2)] (·=(an r)):=by
 rw[z8]at J;refine bK Tryz.func169 (by kernel_rfl) (by kernel_rfl) ?_;refine au ai [[],[]] ?_;refine bc J (fun h1 J=> ?_) fun h1 J=> ?_
 ·obtain rfl:=sj J;exact wr ai [[(0,bF (cG h1))],[]]
 obtain rfl:=sj J;exact wr ai [[(0,bT (cT h1))],[]]
def zn(N:Nat)(v8:List bB)(aH:Bool):Option (bB×Int):=
 bif aH then
  Option.bind (v8[0]?) fun aU=>
  Option.bind (v8[1]?) fun bU=>
  Option.bind (z8 N aU bU) fun v20=>
  some (fD,v20)
 else
  Option.bind (v8[0]?) fun dF=>
  Option.bind (v8[1]?) fun dh=>
  Option.bind (z8 N dF dh) fun cz=>
  some (dF,cz)
def yn(N:Nat)(v1:ao)(v8:List bB)(aW:Bool):Option (bB×Int):=
 bif aW then
  some (fD,(0:Int))
 else
  bif (v1.bg==(13:Int))then
   zn N v8 (v1.bg==(13:Int))
  else
   bif (v1.bg==(14:Int))then
    zn N v8 (v1.bg==(14:Int))
   else
    zn N v8 (v1.bg==(15:Int))
def By(N:Nat)(v1:ao)(v2:aY)(v3:List (ByteArray×Int))(v8:List bB)(v9:Bool):Option (bB×Int):=
 bif v9 then
  some (v1.aB,(0:Int))
 else
  bif (v1.bg==(2:Int))then
   Option.bind (za N v1.aQ v2 v3) fun v10=>
   some ((⟨(3:Int),(0:Int),(0:Int),(0:Int),(0:Int)⟩:bB),v10)
  else
   bif (v1.bg==(3:Int))then
    Option.bind (CQ N v1 v2 v3) fun v11=>
    some (v11.1,v11.2)
   else
    bif (v1.bg==(8:Int))then
     Option.bind (v8[0]?) fun aC=>
     some (aC,(0:Int))
    else
     bif (v1.bg==(11:Int))then
      Option.bind (v8[1]?) fun aI=>
      Option.bind (v8[2]?) fun aD=>
      Option.bind (z8 N aI aD) fun aP=>
      some (aI,aP)
     else
      bif (v1.bg==(16:Int))then
       yn N v1 v8 (v1.bg==(16:Int))
      else
       bif (v1.bg==(17:Int))then
        yn N v1 v8 (v1.bg==(17:Int))
       else
        yn N v1 v8 (v1.bg==(18:Int))
def oX(N:Nat)(v1:ao)(v2:aY)(v3:List (ByteArray×Int))(UG:ao→aY→(List (ByteArray×Int))→Option (bB×Int)):List ao→Nat→(List bB)→Option (bB×Int)
 |[],_,v8=>
  bif (v1.bg==(1:Int))then
   By N v1 v2 v3 v8 (v1.bg==(1:Int))
  else
   By N v1 v2 v3 v8 (v1.bg==(12:Int))
 |v6::v7,v4,v8=>
  Option.bind (UG v6 v2 v3) fun cb=>
  bif (cb.2 !=(0:Int))then
   some (fD,cb.2)
  else
   bif (Nat.ble ((v8.length+1)*40) 140737488355328)then
   (fun ck=>oX N v1 v2 v3 UG v7 (v4+1) ck) (v8++[cb.1])
   else none
def tH(N:Nat):Nat→ao→aY→(List (ByteArray×Int))→Option (bB×Int)
 |0,_,_,_=>none
 |d+1,v1,v2,v3=>
  oX N v1 v2 v3 (tH N d) v1.aT 0 []
def Ls(N:Nat)(v1:ao)(v2:aY)(v3:List (ByteArray×Int)):Option (bB×Int):=tH N N v1 v2 v3
theorem aaG(N:Nat):∀d:Nat,(∀(v1:ao)(v2:aY)(v3:List (ByteArray×Int))(r:bB×Int),tH N d v1 v2 v3=some r→bW Tryz.prog 138 [(.ptr 0 0),(aE v1)] [.cells (dO v2 [(.mp 1)]), .map (dA v3)] fun r1 h1=>r1=(.bX [(e9 r.1),(an r.2)])∧h1=[.cells (dO v2 [(.mp 1)]), .map (dA v3)]):=by
 intro d
 induction d with
 |zero=>intro v1 v2 v3 r J;rw[tH]at J;cases J
 |succ d ih=>
  have Wc:=ih;intro v1 v2 v3 r J;rw[tH]at J;refine fy 2 Tryz.func138 (by kernel_rfl) (by kernel_rfl) (agB rfl) ?_;refine au ai [[],[],[(7,oL v1.aT ca)]] ?_;refine m8 6 42 5 [] (.inr (by kernel_rfl)) ?_;refine dP 13 (cW v1.aT) (by kernel_rfl) fun h1=> ?_;have h2:=cr ca h1;refine cC ai 1 [] [0,3,4,6,13,14,15] 5 (fun((v4,v5,v8):Nat×(List ao)×(List bB))=>⟨102,[(0,(.ptr 0 0)),(3,(.ptr 2 0)),(4,(.ptr 3 0)),(6,(.own 4 (jN v8))),(13,(.d (.sl (cW v1.aT)))),(14,(an (v1.aT.length:Int))),(15,(an (v4:Int)))],[.cells (dO v2 [(.mp 1)]), .map (dA v3), .cells (aE v1).cells, .cells ji, .front 42 5 v8.length]⟩) (fun((v4,v5,v8):Nat×(List ao)×(List bB))=>v1.aT.drop v4=v5∧oX N v1 v2 v3 (tH N d) v5 v4 v8=some r) (fun((v4,v5,v8):Nat×(List ao)×(List bB))=>v5.length) (0,v1.aT,[]) ⟨rfl,J⟩ ?_;rintro⟨v4,v5,v8⟩ ⟨h3,J⟩ f1 aV;cases v5 with
  |nil=>
   rw[oX]at J;refine ma ai 2 [[],[(0,bF (bS h3))],[],[],[]] [0,3,4,6,11,35,36] 5 (fun(v9:Bool)=>⟨102,[(0,(.ptr 0 0)),(3,(.ptr 2 0)),(4,(.ptr 3 0)),(6,(.own 4 (jN v8))),(11,(.fn 169 [])),(35,(an v1.bg)),(36,(aM v9))],[.cells (dO v2 [(.mp 1)]), .map (dA v3), .cells (aE v1).cells, .cells ji, .front 42 5 v8.length]⟩) (fun(v9:Bool)=>By N v1 v2 v3 v8 v9=some r) ?_ ?_
   ·intro f2 dX;refine bc J (fun jg J=> ?_) fun jg J=> ?_
    ·exact dT ai dX (v1.bg==(1:Int)) [[(0,bT jg)]] J
    exact dT ai dX (v1.bg==(12:Int)) [[(0,bF jg)],[]] J
   rintro v9 J
   try dsimp only at J
   rw[By]at J;refine bc J (fun h4 J=> ?_) fun h4 J=> ?_
   ·obtain rfl:=sj J;exact cQ ai [[(0,bT h4)],[]]
   refine au ai [[(0,bF h4)],[]] ?_;refine bc J (fun h5 J=> ?_) fun h5 J=> ?_
   ·obtain⟨v10,h6,J⟩:=ar J;obtain rfl:=sj J;exact cQ ai [[(0,bT h5)],[(13,⟨_,_, .rq (db:=[(.ptr 0 0),(b9 v1.aQ)]) (h:=[.cells (dO v2 [(.mp 1)]), .map (dA v3), .cells (aE v1).cells, .cells ji, .front 42 5 v8.length]) (l:=[0,1]) (by kernel_rfl) (by kernel_rfl) (by kernel_rfl) (by kernel_rfl) (KI N v1.aQ v2 v3 v10 h6)⟩)]]
   refine au ai [[(0,bF h5)],[]] ?_;refine bc J (fun h7 J=> ?_) fun h7 J=> ?_
   ·obtain⟨v11,h8,J⟩:=ar J;obtain rfl:=sj J;exact cQ ai [[(0,bT h7)],[(7,⟨_,_, .rq (db:=[(.ptr 0 0),(aE v1)]) (h:=[.cells (dO v2 [(.mp 1)]), .map (dA v3), .cells (aE v1).cells, .cells ji, .front 42 5 v8.length]) (l:=[0,1]) (by kernel_rfl) (by kernel_rfl) (by kernel_rfl) (by kernel_rfl) (XI N v1 v2 v3 v11 h8)⟩)]]
   refine au ai [[(0,bF h7)],[]] ?_;refine bc J (fun h9 J=> ?_) fun h9 J=> ?_
   ·obtain⟨aC,az,J⟩:=ar J;obtain rfl:=sj J;exact cQ ai [[(0,bT h9)],[(4,oE (k:=0) (ky az))]]
   refine au ai [[(0,bF h9)],[]] ?_;refine bc J (fun aZ J=> ?_) fun aZ J=> ?_
   ·obtain⟨aI,bf,J⟩:=ar J;obtain⟨aD,b5,J⟩:=ar J;obtain⟨aP,a8,J⟩:=ar J;obtain rfl:=sj J;exact cQ ai [[(0,bT aZ)],[(4,oE (k:=1) (ky bf)),(16,oE (k:=1) (ky bf)),(25,oE (k:=2) (ky b5)),(31,cL (KD N aI aD aP a8))]]
   refine ma ai 3 [[(0,bF aZ)],[]] [4,6,11,35,73] 5 (fun(aW:Bool)=>⟨102,[(4,(.ptr 3 0)),(6,(.own 4 (jN v8))),(11,(.fn 169 [])),(35,(an v1.bg)),(73,(aM aW))],[.cells (dO v2 [(.mp 1)]), .map (dA v3), .cells (aE v1).cells, .cells ji, .front 42 5 v8.length]⟩) (fun(aW:Bool)=>yn N v1 v8 aW=some r) ?_ ?_
   ·intro f3 jA;refine bc J (fun fp J=> ?_) fun fp J=> ?_
    ·exact dT ai jA (v1.bg==(16:Int)) [[(0,bT fp)]] J
    refine au ai [[(0,bF fp)],[]] ?_;refine bc J (fun h26 J=> ?_) fun h26 J=> ?_
    ·exact dT ai jA (v1.bg==(17:Int)) [[(0,bT h26)]] J
    exact dT ai jA (v1.bg==(18:Int)) [[(0,bF h26)],[]] J
   rintro aW J
   try dsimp only at J
   rw[yn]at J;refine bc J (fun bA J=> ?_) fun bA J=> ?_
   ·obtain rfl:=sj J;exact cQ ai [[(0,bT bA)],[]]
   refine ma ai 4 [[(0,bF bA)],[]] [4,6,11,78] 5 (fun(aH:Bool)=>⟨102,[(4,(.ptr 3 0)),(6,(.own 4 (jN v8))),(11,(.fn 169 [])),(78,(aM aH))],[.cells (dO v2 [(.mp 1)]), .map (dA v3), .cells (aE v1).cells, .cells ji, .front 42 5 v8.length]⟩) (fun(aH:Bool)=>zn N v8 aH=some r) ?_ ?_
   ·intro f4 nh;refine bc J (fun fb J=> ?_) fun fb J=> ?_
    ·exact dT ai nh (v1.bg==(13:Int)) [[(0,bT fb)]] J
    refine au ai [[(0,bF fb)],[]] ?_;refine bc J (fun eN J=> ?_) fun eN J=> ?_
    ·exact dT ai nh (v1.bg==(14:Int)) [[(0,bT eN)]] J
    exact dT ai nh (v1.bg==(15:Int)) [[(0,bF eN)],[]] J
   rintro aH J
   try dsimp only at J
   rw[zn]at J;refine bc J (fun a9 J=> ?_) fun a9 J=> ?_
   ·obtain⟨aU,cv,J⟩:=ar J;obtain⟨bU,bQ,J⟩:=ar J;obtain⟨v20,dk,J⟩:=ar J;obtain rfl:=sj J;exact cQ ai [[(0,bT a9)],[(10,oE (k:=0) (ky cv)),(19,oE (k:=1) (ky bQ)),(25,cL (KD N aU bU v20 dk))]]
   obtain⟨dF,dJ,J⟩:=ar J;obtain⟨dh,eG,J⟩:=ar J;obtain⟨cz,fe,J⟩:=ar J;obtain rfl:=sj J;exact cQ ai [[(0,bF a9)],[(4,oE (k:=0) (ky dJ)),(16,oE (k:=0) (ky dJ)),(25,oE (k:=1) (ky eG)),(31,cL (KD N dF dh cz fe))]]
  |cons v6 v7=>
   rw[oX]at J;obtain⟨cb,lL,J⟩:=ar J;refine au ai [[],[(0,bT (bR h3))],[(1,oE (jn (bj h3)))],[(7,⟨_,_, .rq (db:=[(.ptr 0 0),(aE v6)]) (h:=[.cells (dO v2 [(.mp 1)]), .map (dA v3), .cells (aE v1).cells, .cells ji, .front 42 5 v8.length, .cells (aE v6).cells]) (l:=[0,1]) (by kernel_rfl) (by kernel_rfl) (by kernel_rfl) (by kernel_rfl) (Wc v6 v2 v3 cb lL)⟩)],[]] ?_;refine bc J (fun j8 J=> ?_) fun j8 J=> ?_
   ·obtain rfl:=sj J;exact cQ ai [[(0,bT j8)],[]]
   obtain⟨qh,J⟩:=c8 J;exact cx ai aV (v4+1,v7,(v8++[cb.1])) [[(0,bF j8)],[(10,⟨_,_, .app (xs:=jN v8) (ys:=jN [cb.1]) (zs:=jN (v8++[cb.1])) (n:=(v8++[cb.1]).length) ga.symm FV FV (by rw[(ga (l:=v8)),(ga (l:=[cb.1]))];exact(cY qh (by decide)).1) (by rw[(ga (l:=v8)),(ga (l:=[cb.1]))];exact(cY qh (by decide)).2) P0 (by first|(rw[(ga (l:=v8)),(ga (l:=[cb.1]))];done)|(rw[(ga (l:=v8)),(ga (l:=[cb.1]))];rfl)|(rw[(ga (l:=v8)),(ga (l:=[cb.1])),agu];done)|(rw[(ga (l:=v8)),(ga (l:=[cb.1])),agu];rfl)|(rw[(ga (l:=v8)),(ga (l:=[cb.1])),agN]))⟩)],[(2,oq (b8 h3 rfl h2))]] ⟨b7 h3,J⟩
theorem aaY(N:Nat)(v1:ao)(v2:aY)(v3:List (ByteArray×Int))(r:bB×Int)(J:Ls N v1 v2 v3=some r):bW Tryz.prog 138 [(.ptr 0 0),(aE v1)] [.cells (dO v2 [(.mp 1)]), .map (dA v3)] fun r1 h1=>r1=(.bX [(e9 r.1),(an r.2)])∧h1=[.cells (dO v2 [(.mp 1)]), .map (dA v3)]:=(aaG N N) v1 v2 v3 r J
def pk(N:Nat)(v3:ao)(v1:aY):List ByteArray→Nat→(List (ByteArray×Int))→Option (bB×Int)
 |[],_,aP=>
  Option.bind (Ls N v3 v1 aP) fun aW=>
  bif (aW.2 !=(0:Int))then
   some (fD,aW.2)
  else
   some (aW.1,(0:Int))
 |aI::aD,v11,aP=>
  bif (Nat.blt aP.length 9223372036854775807)then
  (fun fS=>pk N v3 v1 aD (v11+1) fS) ((aI,(3:Int))::aP)
  else none
def uY(N:Nat)(v3:ao)(v1:aY)(v2:List ByteArray):List ByteArray→Nat→(List (ByteArray×Int))→Option (bB×Int)
 |[],_,v10=>
  pk N v3 v1 v2 0 v10
 |v8::v9,v6,v10=>
  bif (Nat.blt v10.length 9223372036854775807)then
  (fun ck=>uY N v3 v1 v2 v9 (v6+1) ck) ((v8,(1:Int))::v10)
  else none
def CP(N:Nat)(v1:aY)(v2:List ByteArray)(v3:ao):Option (bB×Int):=
 Option.bind (Ce N v3) fun v4=>
 bif (v4 !=(0:Int))then
  some (fD,v4)
 else
  Option.bind (y4 N v3) fun v5=>
  bif v5 then
   some (fD,(10:Int))
  else
   uY N v3 v1 v2 v1.bx 0 []
theorem XK(N:Nat)(v1:aY)(v2:List ByteArray)(v3:ao)(r:bB×Int)(J:CP N v1 v2 v3=some r):bm Tryz.prog 102 [(aX v1),(.d (.sl (ax v2))),(aE v3)] (·=(.bX [(e9 r.1),(an r.2)])):=by
 rw[CP]at J;refine bK Tryz.func102 (by kernel_rfl) (by kernel_rfl) ?_;obtain⟨v4,h1,J⟩:=ar J;refine au ai [[],[(4,cL (Wk N v3 v4 h1))],[]] ?_;refine bc J (fun h2 J=> ?_) fun h2 J=> ?_
 ·obtain rfl:=sj J;exact wr ai [[(0,bT h2)],[]]
 obtain⟨v5,h3,J⟩:=ar J;refine au ai [[(0,bF h2)],[(4,cL (U6 N v3 v5 h3))]] ?_;refine bc J (fun h4 J=> ?_) fun h4 J=> ?_
 ·obtain rfl:=sj J;exact wr ai [[(0,bT h4)],[]]
 refine au ai [[(0,bF h4)],[],[(7,oL v1.bx bD)]] ?_;refine dP 30 (ax v1.bx) (by kernel_rfl) fun h5=> ?_;have h6:=cr bD h5;refine cC ai 1 [] [1,5,6,9,30,31,32] 5 (fun((v6,v7,v10):Nat×(List ByteArray)×(List (ByteArray×Int)))=>⟨65,[(1,(.d (.sl (ax v2)))),(5,(.ptr 1 0)),(6,(.ptr 2 0)),(9,(.ptr 4 0)),(30,(.d (.sl (ax v1.bx)))),(31,(an (v1.bx.length:Int))),(32,(an (v6:Int)))],[.cells (aX v1).cells, .cells (aE v3).cells, .cells ji, .map (dA v10), .cells (dO v1 [(.mp 3)])]⟩) (fun((v6,v7,v10):Nat×(List ByteArray)×(List (ByteArray×Int)))=>v1.bx.drop v6=v7∧uY N v3 v1 v2 v7 v6 v10=some r) (fun((v6,v7,v10):Nat×(List ByteArray)×(List (ByteArray×Int)))=>v7.length) (0,v1.bx,[]) ⟨rfl,J⟩ ?_;rintro⟨v6,v7,v10⟩ ⟨h7,J⟩ f1 aV;cases v7 with
 |nil=>
  rw[uY]at J;refine au ai [[],[(0,bF (bS h7))],[(4,oL v2 bD)]] ?_;refine dP 1 (ax v2) (by kernel_rfl) fun h8=> ?_;have h9:=cr bD h8;refine cC ai 2 [] [5,6,9,42,43,44] 5 (fun((v11,aC,aP):Nat×(List ByteArray)×(List (ByteArray×Int)))=>⟨65,[(5,(.ptr 1 0)),(6,(.ptr 2 0)),(9,(.ptr 4 0)),(42,(.d (.sl (ax v2)))),(43,(an (v2.length:Int))),(44,(an (v11:Int)))],[.cells (aX v1).cells, .cells (aE v3).cells, .cells ji, .map (dA aP), .cells (dO v1 [(.mp 3)])]⟩) (fun((v11,aC,aP):Nat×(List ByteArray)×(List (ByteArray×Int)))=>v2.drop v11=aC∧pk N v3 v1 aC v11 aP=some r) (fun((v11,aC,aP):Nat×(List ByteArray)×(List (ByteArray×Int)))=>aC.length) (0,v2,v10) ⟨rfl,J⟩ ?_;rintro⟨v11,aC,aP⟩ ⟨az,J⟩ f2 dX;cases aC with
  |nil=>
   rw[pk]at J;obtain⟨aW,aZ,J⟩:=ar J;refine au ai [[],[(0,bF (bS az))],[(7,⟨_,_, .rq (db:=[(.ptr 4 0),(aE v3)]) (h:=[.cells (aX v1).cells, .cells (aE v3).cells, .cells ji, .map (dA aP), .cells (dO v1 [(.mp 3)])]) (l:=[4,3]) (by kernel_rfl) (by kernel_rfl) (by kernel_rfl) (by kernel_rfl) (aaY N v3 v1 aP aW aZ)⟩)],[]] ?_;refine bc J (fun bf J=> ?_) fun bf J=> ?_
   ·obtain rfl:=sj J;exact wr ai [[(0,bT bf)],[]]
   obtain rfl:=sj J;exact wr ai [[(0,bF bf)],[]]
  |cons aI aD=>
   rw[pk]at J;obtain⟨b5,J⟩:=c8 J;exact cx ai dX (v11+1,aD,((aI,(3:Int))::aP)) [[],[(0,bT (bR az))],[(1,oE (lK (bj az)))],[(16,⟨_,_, .sd (o:= .none) (J8 b5)⟩)],[(2,oq (b8 az rfl h9))]] ⟨b7 az,J⟩
 |cons v8 v9=>
  rw[uY]at J;obtain⟨a8,J⟩:=c8 J;exact cx ai aV (v6+1,v9,((v8,(1:Int))::v10)) [[],[(0,bT (bR h7))],[(1,oE (lK (bj h7)))],[(16,⟨_,_, .sd (o:= .none) (J8 a8)⟩)],[(2,oq (b8 h7 rfl h6))]] ⟨b7 h7,J⟩
def Ca(N:Nat)(v1:Int)(v2:aY)(v3:List (ByteArray×Int)):Option (Int×(List (ByteArray×Int))):=
 bif (decide ((0:Int)≤v1))then
 Option.bind (v2.aA[(v1).toNat]?) fun v4=>
 Option.bind (wu N v4.aq (2:Int) v2 v3) fun v5=>
 bif (v5.1 !=(0:Int))then
  some (v5.1,v5.2)
 else
  Option.bind (tN N v4.aB ([(v4.aJ.length:Int),(v4.bG.length:Int)])) fun v6=>
  bif (v6 !=(0:Int))then
   some (v6,v5.2)
  else
   Option.bind (Ec N v4 v2 v5.2) fun v7=>
   bif (v7 !=(0:Int))then
    some (v7,v5.2)
   else
    Option.bind (DP N v4) fun v8=>
    bif (v8 !=(0:Int))then
     some (v8,v5.2)
    else
     bif (decide ((v1).toNat≤v2.aA.length))then
     Option.bind (Ck N v4) fun v9=>
     Option.bind (CP N (⟨v2.bx,v2.cX,v2.bu,((v2.aA.take (v1).toNat).drop 0),v2.cU⟩:aY) v9 v4.bE) fun v10=>
     bif (v10.2 !=(0:Int))then
      some (v10.2,v5.2)
     else
      bif ((v10.1.cA==v4.aB.cA)&&((v10.1.cD==v4.aB.cD)&&((v10.1.dg==v4.aB.dg)&&((v10.1.de==v4.aB.de)&&((v10.1.dc==v4.aB.dc)&&true)))))then
       some ((0:Int),v5.2)
      else
       some ((10:Int),v5.2)
     else none
 else none
theorem afv(N:Nat)(v1:Int)(v2:aY)(v3:List (ByteArray×Int))(r:Int×(List (ByteArray×Int)))(J:Ca N v1 v2 v3=some r):bW Tryz.prog 63 [(.ptr 0 0),(an v1)] [.cells (dO v2 [(.mp 1)]), .map (dA v3)] fun r1 h1=>r1=(an r.1)∧h1=[.cells (dO v2 [(.mp 1)]), .map (dA r.2)]:=by
 rw[Ca]at J;refine fy 2 Tryz.func63 (by kernel_rfl) (by kernel_rfl) (agB rfl) ?_;obtain⟨h2,J⟩:=c8 J;obtain⟨v4,h1,J⟩:=ar J;obtain⟨v5,h3,J⟩:=ar J;refine au ai [[],[(19,⟨_,_, .el (xs:=cg v2.aA) (i:=v1) (of_decide_eq_true h2) (gA h1)⟩)],[(10,⟨_,_, .jf (db:=[(.ptr 0 0),(bq v4.aq),(an (2:Int))]) (h:=[.cells (dO v2 [(.mp 1)]), .map (dA v3), .cells (cE v4).cells]) (l:=[0,1]) (by kernel_rfl) (by kernel_rfl) (by kernel_rfl) (by kernel_rfl) (Iv N v4.aq (2:Int) v2 v3 v5 h3)⟩)],[]] ?_;refine bc J (fun h4 J=> ?_) fun h4 J=> ?_
 ·obtain rfl:=sj J;exact cQ ai [[(0,bT h4)],[]]
 obtain⟨v6,h5,J⟩:=ar J;refine au ai [[(0,bF h4)],[(13,oL v4.aJ bV),(22,oL v4.bG bV),(28,cL (RC N v4.aB ([(v4.aJ.length:Int),(v4.bG.length:Int)]) v6 h5))],[]] ?_;refine bc J (fun h6 J=> ?_) fun h6 J=> ?_
 ·obtain rfl:=sj J;exact cQ ai [[(0,bT h6)],[]]
 obtain⟨v7,h7,J⟩:=ar J;refine au ai [[(0,bF h6)],[(7,⟨_,_, .rq (db:=[(.ptr 0 0),(cE v4)]) (h:=[.cells (dO v2 [(.mp 1)]), .map (dA v5.2), .cells (cE v4).cells]) (l:=[0,1]) (by kernel_rfl) (by kernel_rfl) (by kernel_rfl) (by kernel_rfl) (Yz N v4 v2 v5.2 v7 h7)⟩)],[]] ?_;refine bc J (fun h8 J=> ?_) fun h8 J=> ?_
 ·obtain rfl:=sj J;exact cQ ai [[(0,bT h8)],[]]
 obtain⟨v8,h9,J⟩:=ar J;refine au ai [[(0,bF h8)],[(4,cL (aaq N v4 v8 h9))],[]] ?_;refine bc J (fun az J=> ?_) fun az J=> ?_
 ·obtain rfl:=sj J;exact cQ ai [[(0,bT az)],[]]
 obtain⟨aZ,J⟩:=c8 J;obtain⟨v9,bf,J⟩:=ar J;obtain⟨v10,b5,J⟩:=ar J;refine au ai [[(0,bF az)],[],[(19,⟨_,_, .sub (xs:=cg v2.aA) (lo:=(0:Int)) (hi:=v1) (by decide) (Nat.zero_le _) (of_decide_eq_true h2) (by rw[dB];exact(of_decide_eq_true aZ)) Cd QV⟩)],[(7,cL (ZW N v4 v9 bf)),(16,cL (XK N (⟨v2.bx,v2.cX,v2.bu,((v2.aA.take (v1).toNat).drop 0),v2.cU⟩:aY) v9 v4.bE v10 b5))],[]] ?_;refine bc J (fun a8 J=> ?_) fun a8 J=> ?_
 ·obtain rfl:=sj J;exact cQ ai [[(0,bT a8)],[]]
 refine au ai [[(0,bF a8)],[]] ?_;refine bc J (fun bA J=> ?_) fun bA J=> ?_
 ·obtain rfl:=sj J;exact cQ ai [[(0,bF (cG bA))],[]]
 obtain rfl:=sj J;exact cQ ai [[(0,bT (cT bA))],[]]
def tb(N:Nat)(cz:List (ByteArray×Int))(v1:aY):List ByteArray→Nat→Int→Option (Int×Int)
 |[],_,_=>
  some ((0:Int),(0:Int))
 |me::tA,cb,lu=>
  bif ((gF cz me 0) !=(2:Int))then
   some (lu,(9:Int))
  else
   bif (decide (((cb:Int)).toNat≤v1.cU.length))then
   Option.bind (sh N ((v1.cU.take ((cb:Int)).toNat).drop 0) me) fun J1=>
   bif J1 then
    some (lu,(8:Int))
   else
    (fun acx=>tb N cz v1 tA (cb+1) acx) (a7 (lu+(1:Int)))
   else none
def qW(N:Nat)(v1:aY):List aL→Nat→Int→(List (ByteArray×Int))→Option (Int×Int)
 |[],_,dh,cz=>
  tb N cz v1 v1.cU 0 dh
 |_::dF,aU,dh,cz=>
  Option.bind (Ca N (aU:Int) v1 cz) fun v30=>
  bif (v30.1 !=(0:Int))then
   some (dh,v30.1)
  else
   (fun uM V5=>qW N v1 dF (aU+1) uM V5) (a7 (dh+(1:Int))) v30.2
def q7(N:Nat)(v1:aY):List cq→Nat→Int→(List (ByteArray×Int))→Option (Int×Int)
 |[],_,aW,aH=>
  qW N v1 v1.aA 0 aW aH
 |aD::aP,aC,aW,aH=>
  Option.bind (CI N aD v1 aH) fun zh=>
  bif (zh.1 !=(0:Int))then
   some (aW,zh.1)
  else
   (fun lD xC=>q7 N v1 aP (aC+1) lD xC) (a7 (aW+(1:Int))) zh.2
def tQ(N:Nat)(v1:aY)(v7:List (ByteArray×Int)):List cF→Nat→Option (Int×Int)
 |[],_=>
  q7 N v1 v1.bu 0 (2:Int) v7
 |v10::v11,v8=>
  Option.bind (Cb N v10 v1 v7) fun GA=>
  bif (GA !=(0:Int))then
   some ((1:Int),GA)
  else
   (tQ N v1 v7 v11 (v8+1))
def vh(N:Nat)(v1:aY):List ByteArray→Nat→(List (ByteArray×Int))→Option (Int×Int)
 |[],_,v7=>
  tQ N v1 v7 v1.cX 0
 |v5::v6,v3,v7=>
  Option.bind (wu N v5 (1:Int) v1 v7) fun AA=>
  bif (AA.1 !=(0:Int))then
   some ((0:Int),AA.1)
  else
   (fun ck=>vh N v1 v6 (v3+1) ck) AA.2
def tq(N:Nat)(v1:aY):Option (Int×Int):=
 Option.bind (C9 N v1) fun v2=>
 bif v2 then
  vh N v1 v1.bx 0 []
 else
  some ((0:Int),(2:Int))
theorem HS(N:Nat)(v1:aY)(r:Int×Int)(J:tq N v1=some r):bm Tryz.prog 30 [(aX v1)] (·=(.bX [(an r.1),(an r.2)])):=by
 rw[tq]at J;refine bK Tryz.func30 (by kernel_rfl) (by kernel_rfl) ?_;obtain⟨v2,h1,J⟩:=ar J;refine au ai [[],[(4,cL (VB N v1 v2 h1))]] ?_;refine bc J (fun h2 J=> ?_) fun h2 J=> ?_
 ·refine au ai [[(0,bF (cG h2))],[],[(7,oL v1.bx bD)]] ?_;refine dP 27 (ax v1.bx) (by kernel_rfl) fun h3=> ?_;have h4:=cr bD h3;refine cC ai 1 [] [1,4,27,28,29] 3 (fun((v3,v4,v7):Nat×(List ByteArray)×(List (ByteArray×Int)))=>⟨115,[(1,(.ptr 0 0)),(4,(.ptr 2 0)),(27,(.d (.sl (ax v1.bx)))),(28,(an (v1.bx.length:Int))),(29,(an (v3:Int)))],[.cells (aX v1).cells, .map (dA v7), .cells (dO v1 [(.mp 1)])]⟩) (fun((v3,v4,v7):Nat×(List ByteArray)×(List (ByteArray×Int)))=>v1.bx.drop v3=v4∧vh N v1 v4 v3 v7=some r) (fun((v3,v4,v7):Nat×(List ByteArray)×(List (ByteArray×Int)))=>v4.length) (0,v1.bx,[]) ⟨rfl,J⟩ ?_;rintro⟨v3,v4,v7⟩ ⟨h5,J⟩ f1 aV;cases v4 with
  |nil=>
   rw[vh]at J;refine au ai [[],[(0,bF (bS h5))],[(7,oL v1.cX fa)]] ?_;refine dP 41 (bJ v1.cX) (by kernel_rfl) fun h6=> ?_;have h7:=cr fa h6;refine cC ai 2 [] [1,4,41,42,43] 3 (fun((v8,v9):Nat×(List cF))=>⟨115,[(1,(.ptr 0 0)),(4,(.ptr 2 0)),(41,(.d (.sl (bJ v1.cX)))),(42,(an (v1.cX.length:Int))),(43,(an (v8:Int)))],[.cells (aX v1).cells, .map (dA v7), .cells (dO v1 [(.mp 1)])]⟩) (fun((v8,v9):Nat×(List cF))=>v1.cX.drop v8=v9∧tQ N v1 v7 v9 v8=some r) (fun((v8,v9):Nat×(List cF))=>v9.length) (0,v1.cX) ⟨rfl,J⟩ ?_;rintro⟨v8,v9⟩ ⟨h8,J⟩ f2 dX;cases v9 with
   |nil=>
    rw[tQ]at J;refine au ai [[],[(0,bF (bS h8))],[],[(7,oL v1.bu er)]] ?_;refine dP 55 (bN v1.bu) (by kernel_rfl) fun h9=> ?_;have az:=cr er h9;refine cC ai 3 [] [1,4,11,55,56,57] 3 (fun((aC,aI,aW,aH):Nat×(List cq)×Int×(List (ByteArray×Int)))=>⟨115,[(1,(.ptr 0 0)),(4,(.ptr 2 0)),(11,(an aW)),(55,(.d (.sl (bN v1.bu)))),(56,(an (v1.bu.length:Int))),(57,(an (aC:Int)))],[.cells (aX v1).cells, .map (dA aH), .cells (dO v1 [(.mp 1)])]⟩) (fun((aC,aI,aW,aH):Nat×(List cq)×Int×(List (ByteArray×Int)))=>v1.bu.drop aC=aI∧q7 N v1 aI aC aW aH=some r) (fun((aC,aI,aW,aH):Nat×(List cq)×Int×(List (ByteArray×Int)))=>aI.length) (0,v1.bu,(2:Int),v7) ⟨rfl,J⟩ ?_;rintro⟨aC,aI,aW,aH⟩ ⟨aZ,J⟩ f3 jA;cases aI with
    |nil=>
     rw[q7]at J;refine au ai [[],[(0,bF (bS aZ))],[(7,oL v1.aA dB)]] ?_;refine eo 0 3 (cg v1.aA) (by kernel_rfl) fun bf=> ?_;have b5:=cr dB bf;refine cC ai 4 [] [1,4,11,73,74] 3 (fun((aU,bU,dh,cz):Nat×(List aL)×Int×(List (ByteArray×Int)))=>⟨115,[(1,(.ptr 0 0)),(4,(.ptr 2 0)),(11,(an dh)),(73,(an (v1.aA.length:Int))),(74,(an (aU:Int)))],[.cells (aX v1).cells, .map (dA cz), .cells (dO v1 [(.mp 1)])]⟩) (fun((aU,bU,dh,cz):Nat×(List aL)×Int×(List (ByteArray×Int)))=>v1.aA.drop aU=bU∧qW N v1 bU aU dh cz=some r) (fun((aU,bU,dh,cz):Nat×(List aL)×Int×(List (ByteArray×Int)))=>bU.length) (0,v1.aA,aW,aH) ⟨rfl,J⟩ ?_;rintro⟨aU,bU,dh,cz⟩ ⟨a8,J⟩ f4 nh;cases bU with
     |nil=>
      rw[qW]at J;refine au ai [[],[(0,bF (bS a8))],[(7,oL v1.cU bD)]] ?_;refine dP 88 (ax v1.cU) (by kernel_rfl) fun bA=> ?_;have a9:=cr bD bA;refine cC ai 5 [] [1,4,11,88,89,90] 3 (fun((cb,eC,lu):Nat×(List ByteArray)×Int)=>⟨115,[(1,(.ptr 0 0)),(4,(.ptr 2 0)),(11,(an lu)),(88,(.d (.sl (ax v1.cU)))),(89,(an (v1.cU.length:Int))),(90,(an (cb:Int)))],[.cells (aX v1).cells, .map (dA cz), .cells (dO v1 [(.mp 1)])]⟩) (fun((cb,eC,lu):Nat×(List ByteArray)×Int)=>v1.cU.drop cb=eC∧tb N cz v1 eC cb lu=some r) (fun((cb,eC,lu):Nat×(List ByteArray)×Int)=>eC.length) (0,v1.cU,dh) ⟨rfl,J⟩ ?_;rintro⟨cb,eC,lu⟩ ⟨cv,J⟩ f5 hf5;cases eC with
      |nil=>
       rw[tb]at J;obtain rfl:=sj J;exact wr ai [[],[(0,bF (bS cv))],[]]
      |cons me tA=>
       rw[tb]at J;refine au ai [[],[(0,bT (bR cv))],[(4,oE (lK (bj cv)))],[(17,⟨_,_, .eq (BZ false cz me)⟩)]] ?_;refine bc J (fun bQ J=> ?_) fun bQ J=> ?_
       ·obtain rfl:=sj J;exact wr ai [[(0,bT bQ)],[]]
       obtain⟨dk,J⟩:=c8 J;obtain⟨J1,dJ,J⟩:=ar J;refine au ai [[(0,bF bQ)],[(10,⟨_,_, .sub (xs:=ax v1.cU) (lo:=(0:Int)) (hi:=(cb:Int)) (by decide) (Nat.zero_le _) (of_decide_eq_true (aha (Int.natCast_nonneg _))) (by rw[bD];exact(of_decide_eq_true dk)) jz Ml⟩),(16,cL (IB N ((v1.cU.take ((cb:Int)).toNat).drop 0) me J1 dJ))]] ?_;refine bc J (fun eG J=> ?_) fun eG J=> ?_
       ·obtain rfl:=sj J;exact wr ai [[(0,bT eG)],[]]
       exact cx ai hf5 (cb+1,tA,(a7 (lu+(1:Int)))) [[(0,bF eG)],[],[(2,oq (b8 cv rfl a9))]] ⟨b7 cv,J⟩
     |cons v20 dF=>
      rw[qW]at J;obtain⟨v30,fe,J⟩:=ar J;refine au ai [[],[(0,bT (bR a8))],[],[(7,⟨_,_, .jf (db:=[(.ptr 2 0),(an (aU:Int))]) (h:=[.cells (aX v1).cells, .map (dA cz), .cells (dO v1 [(.mp 1)])]) (l:=[2,1]) (by kernel_rfl) (by kernel_rfl) (by kernel_rfl) (by kernel_rfl) (afv N (aU:Int) v1 cz v30 fe)⟩)],[]] ?_;refine bc J (fun fb J=> ?_) fun fb J=> ?_
      ·obtain rfl:=sj J;exact wr ai [[(0,bT fb)],[]]
      exact cx ai nh (aU+1,dF,(a7 (dh+(1:Int))),v30.2) [[(0,bF fb)],[],[(2,oq (b8 a8 rfl b5))]] ⟨b7 a8,J⟩
    |cons aD aP=>
     rw[q7]at J;obtain⟨zh,eN,J⟩:=ar J;refine au ai [[],[(0,bT (bR aZ))],[(1,oE (kJ (bj aZ)))],[(7,⟨_,_, .jf (db:=[(.ptr 2 0),(qO aD)]) (h:=[.cells (aX v1).cells, .map (dA aH), .cells (dO v1 [(.mp 1)]), .cells (qO aD).cells]) (l:=[2,1]) (by kernel_rfl) (by kernel_rfl) (by kernel_rfl) (by kernel_rfl) (acS N aD v1 aH zh eN)⟩)],[]] ?_;refine bc J (fun fp J=> ?_) fun fp J=> ?_
     ·obtain rfl:=sj J;exact wr ai [[(0,bT fp)],[]]
     exact cx ai jA (aC+1,aP,(a7 (aW+(1:Int))),zh.2) [[(0,bF fp)],[],[(2,oq (b8 aZ rfl az))]] ⟨b7 aZ,J⟩
   |cons v10 v11=>
    rw[tQ]at J;obtain⟨GA,h26,J⟩:=ar J;refine au ai [[],[(0,bT (bR h8))],[(1,oE (zQ (bj h8)))],[(7,⟨_,_, .rq (db:=[(.ptr 2 0),(mR v10)]) (h:=[.cells (aX v1).cells, .map (dA v7), .cells (dO v1 [(.mp 1)]), .cells (mR v10).cells]) (l:=[2,1]) (by kernel_rfl) (by kernel_rfl) (by kernel_rfl) (by kernel_rfl) (abr N v10 v1 v7 GA h26)⟩)],[]] ?_;refine bc J (fun jg J=> ?_) fun jg J=> ?_
    ·obtain rfl:=sj J;exact wr ai [[(0,bT jg)],[]]
    exact cx ai dX (v8+1,v11) [[(0,bF jg)],[(2,oq (b8 h8 rfl h7))]] ⟨b7 h8,J⟩
  |cons v5 v6=>
   rw[vh]at J;obtain⟨AA,lL,J⟩:=ar J;refine au ai [[],[(0,bT (bR h5))],[(1,oE (lK (bj h5)))],[(7,⟨_,_, .jf (db:=[(.ptr 2 0),(bq v5),(an (1:Int))]) (h:=[.cells (aX v1).cells, .map (dA v7), .cells (dO v1 [(.mp 1)])]) (l:=[2,1]) (by kernel_rfl) (by kernel_rfl) (by kernel_rfl) (by kernel_rfl) (Iv N v5 (1:Int) v1 v7 AA lL)⟩)],[]] ?_;refine bc J (fun j8 J=> ?_) fun j8 J=> ?_
   ·obtain rfl:=sj J;exact wr ai [[(0,bT j8)],[]]
   exact cx ai aV (v3+1,v6,AA.2) [[(0,bF j8)],[(2,oq (b8 h5 rfl h4))]] ⟨b7 h5,J⟩
 obtain rfl:=sj J;exact wr ai [[(0,bT (cT h2))],[]]
def HH(N:Nat)(v1:ay)(v2:ByteArray):Option Bool:=
 some (bL v1.bp==bL v2)
theorem afm(N:Nat)(v1:ay)(v2:ByteArray)(r:Bool)(J:HH N v1 v2=some r):bW Tryz.prog 35 [(fX v1),(.ptr 0 0)] [.cells [(bq v2)]] fun r1 h1=>r1=(aM r)∧h1=[.cells [(bq v2)]]:=by
 rw[HH]at J;refine fy 1 Tryz.func35 (by kernel_rfl) (by kernel_rfl) (agB rfl) ?_;obtain rfl:=sj J;exact cQ ai [[],[]]
def uo(N:Nat)(v2:ByteArray):List ay→Nat→Option Int
 |[],_=>
  some (-1:Int)
 |v5::v6,v3=>
  Option.bind (HH N v5 v2) fun v7=>
  bif v7 then
   some (v3:Int)
  else
   (uo N v2 v6 (v3+1))
def GO(N:Nat)(v1:List ay)(v2:ByteArray):Option Int:=
 uo N v2 v1 0
theorem WL(N:Nat)(v1:List ay)(v2:ByteArray)(r:Int)(J:GO N v1 v2=some r):bW Tryz.prog 72 [(.d (.sl (bM v1))),(.fn 35 [(.ptr 0 0)])] [.cells [(bq v2)]] fun r1 h1=>r1=(an r)∧h1=[.cells [(bq v2)]]:=by
 rw[GO]at J;refine fy 1 Tryz.func72 (by kernel_rfl) (by kernel_rfl) (agB rfl) ?_;refine au ai [[],[(4,oL v1 cn)]] ?_;refine dP 0 (bM v1) (by kernel_rfl) fun h1=> ?_;have h2:=cr cn h1;refine cC ai 1 [] [0,1,7,8] 1 (fun((v3,v4):Nat×(List ay))=>⟨19,[(0,(.d (.sl (bM v1)))),(1,(.fn 35 [(.ptr 0 0)])),(7,(an (v1.length:Int))),(8,(an (v3:Int)))],[.cells [(bq v2)]]⟩) (fun((v3,v4):Nat×(List ay))=>v1.drop v3=v4∧uo N v2 v4 v3=some r) (fun((v3,v4):Nat×(List ay))=>v4.length) (0,v1) ⟨rfl,J⟩ ?_;rintro⟨v3,v4⟩ ⟨h3,J⟩ f1 aV;cases v4 with
 |nil=>
  rw[uo]at J;obtain rfl:=sj J;exact cQ ai [[],[(0,bF (bS h3))],[]]
 |cons v5 v6=>
  rw[uo]at J;obtain⟨v7,h4,J⟩:=ar J;refine au ai [[],[(0,bT (bR h3))],[],[(10,oE (eM (bj h3))),(16,⟨_,_, .rq (db:=[(fX v5),(.ptr 0 0)]) (h:=[.cells [(bq v2)]]) (l:=[0]) (by kernel_rfl) (by kernel_rfl) (by kernel_rfl) (by kernel_rfl) (afm N v5 v2 v7 h4)⟩)]] ?_;refine bc J (fun h5 J=> ?_) fun h5 J=> ?_
  ·obtain rfl:=sj J;exact cQ ai [[(0,bT h5)],[]]
  exact cx ai aV (v3+1,v6) [[(0,bF h5)],[(2,oq (b8 h3 rfl h2))]] ⟨b7 h3,J⟩
def B5(N:Nat)(v1:List ay)(v2:ByteArray):Option Bool:=
 Option.bind (GO N v1 v2) fun v3=>
 some (decide (v3≥(0:Int)))
theorem ER(N:Nat)(v1:List ay)(v2:ByteArray)(r:Bool)(J:B5 N v1 v2=some r):bW Tryz.prog 36 [(.d (.sl (bM v1))),(.fn 35 [(.ptr 0 0)])] [.cells [(bq v2)]] fun r1 h1=>r1=(aM r)∧h1=[.cells [(bq v2)]]:=by
 rw[B5]at J;refine fy 1 Tryz.func36 (by kernel_rfl) (by kernel_rfl) (agB rfl) ?_;obtain⟨v3,h1,J⟩:=ar J;obtain rfl:=sj J;exact cQ ai [[],[(7,⟨_,_, .rq (db:=[(.d (.sl (bM v1))),(.fn 35 [(.ptr 0 0)])]) (h:=[.cells [(bq v2)]]) (l:=[0]) (by kernel_rfl) (by kernel_rfl) (by kernel_rfl) (by kernel_rfl) (WL N v1 v2 v3 h1)⟩)]]
def G4(N:Nat)(v1:ay):Option Bool:=
 some (!(bL v1.bp==bL (bs [])))
theorem afd(N:Nat)(v1:ay)(r:Bool)(J:G4 N v1=some r):bm Tryz.prog 37 [(fX v1)] (·=(aM r)):=by
 rw[G4]at J;refine bK Tryz.func37 (by kernel_rfl) (by kernel_rfl) ?_;obtain rfl:=sj J;exact wr ai [[],[]]
def vX(N:Nat):List ay→Nat→Option Int
 |[],_=>
  some (-1:Int)
 |v4::v5,v2=>
  Option.bind (G4 N v4) fun v6=>
  bif v6 then
   some (v2:Int)
  else
   (vX N v5 (v2+1))
def FY(N:Nat)(v1:List ay):Option Int:=
 vX N v1 0
theorem afU(N:Nat)(v1:List ay)(r:Int)(J:FY N v1=some r):bW Tryz.prog 72 [(.d (.sl (bM v1))),(.fn 37 [])] [] fun r1 h1=>r1=(an r)∧h1=[]:=by
 rw[FY]at J;refine fy 0 Tryz.func72 (by kernel_rfl) (by kernel_rfl) (agB rfl) ?_;refine au ai [[],[(4,oL v1 cn)]] ?_;refine dP 0 (bM v1) (by kernel_rfl) fun h1=> ?_;have h2:=cr cn h1;refine cC ai 1 [] [0,1,7,8] 0 (fun((v2,v3):Nat×(List ay))=>⟨19,[(0,(.d (.sl (bM v1)))),(1,(.fn 37 [])),(7,(an (v1.length:Int))),(8,(an (v2:Int)))],[]⟩) (fun((v2,v3):Nat×(List ay))=>v1.drop v2=v3∧vX N v3 v2=some r) (fun((v2,v3):Nat×(List ay))=>v3.length) (0,v1) ⟨rfl,J⟩ ?_;rintro⟨v2,v3⟩ ⟨h3,J⟩ f1 aV;cases v3 with
 |nil=>
  rw[vX]at J;obtain rfl:=sj J;exact cQ ai [[],[(0,bF (bS h3))],[]]
 |cons v4 v5=>
  rw[vX]at J;obtain⟨v6,h4,J⟩:=ar J;refine au ai [[],[(0,bT (bR h3))],[],[(10,oE (eM (bj h3))),(16,cL (afd N v4 v6 h4))]] ?_;refine bc J (fun h5 J=> ?_) fun h5 J=> ?_
  ·obtain rfl:=sj J;exact cQ ai [[(0,bT h5)],[]]
  exact cx ai aV (v2+1,v5) [[(0,bF h5)],[(2,oq (b8 h3 rfl h2))]] ⟨b7 h3,J⟩
def DA(N:Nat)(v1:List ay):Option Bool:=
 Option.bind (FY N v1) fun v2=>
 some (decide (v2≥(0:Int)))
theorem Zq(N:Nat)(v1:List ay)(r:Bool)(J:DA N v1=some r):bW Tryz.prog 36 [(.d (.sl (bM v1))),(.fn 37 [])] [] fun r1 h1=>r1=(aM r)∧h1=[]:=by
 rw[DA]at J;refine fy 0 Tryz.func36 (by kernel_rfl) (by kernel_rfl) (agB rfl) ?_;obtain⟨v2,h1,J⟩:=ar J;obtain rfl:=sj J;exact cQ ai [[],[(7,⟨_,_, .rq (db:=[(.d (.sl (bM v1))),(.fn 37 [])]) (h:=[]) (l:=[]) (by kernel_rfl) (by kernel_rfl) (by kernel_rfl) (by kernel_rfl) (afU N v1 v2 h1)⟩)]]
def uZ(N:Nat)(gB:Option Int)(v2:ByteArray):List ao→Option Int
 |[]=>
  gB
 |v11::aC=>
  Option.bind (B5 N v11.xIdx v2) fun aI=>
  Option.bind (bif aI then some true else(bif (v11.bg==(3:Int))then(bif (bL v11.aq==bL v2)then Option.bind (DA N v11.xIdx) fun aD=>
  some aD else some false)else some false)) fun aP=>
  bif aP then
   some (1:Int)
  else
   (uZ N gB v2 aC)
def tE(N:Nat)(v2:ByteArray):List aL→Nat→Option Int
 |[],_=>
  some (0:Int)
 |v8::v9,v6=>
  Option.bind (yk N v8.bE) fun v10=>
  uZ N (tE N v2 v9 (v6+1)) v2 (dN v10)
def Aw(N:Nat)(v1:aY)(v2:ByteArray):Option Int:=
 Option.bind (tq N v1) fun v3=>
 bif (v3.2 !=(0:Int))then
  some v3.2
 else
  Option.bind (xw N v1 v2) fun v4=>
  bif (decide (v4<(0:Int)))then
   some (9:Int)
  else
   bif (decide ((0:Int)≤v4))then
   Option.bind (v1.aA[(v4).toNat]?) fun v5=>
   bif (v5.cP !=(0:Int))then
    some (1:Int)
   else
    tE N v2 v1.aA 0
   else none
theorem A3(N:Nat)(v1:aY)(v2:ByteArray)(r:Int)(J:Aw N v1 v2=some r):bm Tryz.prog 10 [(aX v1),(bq v2)] (·=(an r)):=by
 rw[Aw]at J;refine pY Tryz.func10 rfl (by kernel_rfl) ?_;refine gP [0,1] 0 (agE _) (s':=⟨65,[(0,(aX v1)),(1,(bq v2))],[]⟩) (by kernel_rfl) ?_;refine aN ?_;refine rg [] [(2,(.ptr 0 0)),(3,(.ptr 1 0)),(4,(.ptr 2 0))] [.cells (aX v1).cells, .cells [(bq v2)], .cells [(an (0:Int))]] (by kernel_rfl) ?_;refine aN ?_;refine aN ?_;obtain⟨v3,h1,J⟩:=ar J;refine rg [(4,cL (HS N v1 v3 h1))] [(6,(an v3.2))] [.cells (aX v1).cells, .cells [(bq v2)], .cells [(an (0:Int))]] (by kernel_rfl) ?_;refine aN ?_;refine rg [] [(18,(aM (v3.2 !=(0:Int))))] [.cells (aX v1).cells, .cells [(bq v2)], .cells [(an (0:Int))]] (by kernel_rfl) ?_;rcases fP (v3.2 !=(0:Int))with h2|h2
 ·replace J:=(dx h2).symm.trans J;refine fz (t:=(v3.2 !=(0:Int))) (by kernel_rfl) h2 ?_;refine aN ?_;refine rg [] [] [.cells (aX v1).cells, .cells [(bq v2)], .cells [(an v3.2)]] (by kernel_rfl) ?_;refine dM (ej ?_);have hr:=agM J;subst hr;exact gi (by kernel_rfl)
 replace J:=(fR h2).symm.trans J;refine ft (t:=(v3.2 !=(0:Int))) (by kernel_rfl) h2 ?_;refine et ?_;refine cm ?_;refine aN ?_;obtain⟨v4,h3,J⟩:=ar J;refine rg [(7,cL (JT N v1 v2 v4 h3))] [(7,(an v4))] [.cells (aX v1).cells, .cells [(bq v2)], .cells [(an (0:Int))]] (by kernel_rfl) ?_;refine aN ?_;refine aN ?_;refine rg [] [(24,(aM (decide (v4<(0:Int)))))] [.cells (aX v1).cells, .cells [(bq v2)], .cells [(an (0:Int))]] (by kernel_rfl) ?_;rcases fP (decide (v4<(0:Int)))with h4|h4
 ·replace J:=(dx h4).symm.trans J;refine fz (t:=(decide (v4<(0:Int)))) (by kernel_rfl) h4 ?_;refine aN ?_;refine rg [] [] [.cells (aX v1).cells, .cells [(bq v2)], .cells [(an (9:Int))]] (by kernel_rfl) ?_;refine dM (ej ?_);have hr:=agM J;subst hr;exact gi (by kernel_rfl)
 replace J:=(fR h4).symm.trans J;refine ft (t:=(decide (v4<(0:Int)))) (by kernel_rfl) h4 ?_;refine et ?_;refine cm ?_;refine aN ?_;refine aN ?_;have h6:=fv J;replace J:=(dx h6).symm.trans J;obtain⟨v5,h5,J⟩:=ar J;refine rg [(10,⟨_,_, .el (xs:=cg v1.aA) (i:=v4) (of_decide_eq_true h6) (gA h5)⟩)] [(31,(aM (v5.cP !=(0:Int))))] [.cells (aX v1).cells, .cells [(bq v2)], .cells [(an (0:Int))]] (by kernel_rfl) ?_;rcases fP (v5.cP !=(0:Int))with h7|h7
 ·replace J:=(dx h7).symm.trans J;refine fz (t:=(v5.cP !=(0:Int))) (by kernel_rfl) h7 ?_;refine aN ?_;refine rg [] [] [.cells (aX v1).cells, .cells [(bq v2)], .cells [(an (1:Int))]] (by kernel_rfl) ?_;refine dM (ej ?_);have hr:=agM J;subst hr;exact gi (by kernel_rfl)
 replace J:=(fR h7).symm.trans J;refine ft (t:=(v5.cP !=(0:Int))) (by kernel_rfl) h7 ?_;refine et ?_;refine cm ?_;refine aN ?_;refine aN ?_;refine rg [(7,oL v1.aA dB)] [(33,(.d (.sl (cg v1.aA)))),(34,(an (v1.aA.length:Int))),(35,(an (0:Int)))] [.cells (aX v1).cells, .cells [(bq v2)], .cells [(an (0:Int))]] (by kernel_rfl) ?_;refine e6 ?_;refine oe 33 (cg v1.aA) (by kernel_rfl) fun h8=> ?_;have h9:=cr dB h8;refine OS [3,4,33,34,35] 3 (fun((v6,v7):Nat×(List aL))=>⟨65,[(3,(.ptr 1 0)),(4,(.ptr 2 0)),(33,(.d (.sl (cg v1.aA)))),(34,(an (v1.aA.length:Int))),(35,(an (v6:Int)))],[.cells (aX v1).cells, .cells [(bq v2)], .cells [(an (0:Int))]]⟩) (fun((v6,v7):Nat×(List aL))=>v1.aA.drop v6=v7∧tE N v2 v7 v6=some r) (fun((v6,v7):Nat×(List aL))=>v7.length) (0,v1.aA) (agB rfl) (by kernel_rfl) ⟨rfl,J⟩ ?_;rintro⟨v6,v7⟩ ⟨az,J⟩;cases v7 with
 |nil=>
  rw[tE]at J;refine aN ?_;refine rg [] [(36,(aM (decide ((v6:Int)<(v1.aA.length:Int)))))] [.cells (aX v1).cells, .cells [(bq v2)], .cells [(an (0:Int))]] (by kernel_rfl) ?_;refine aN ?_;refine ft (t:=(decide ((v6:Int)<(v1.aA.length:Int)))) (by kernel_rfl) (bS az) ?_;refine jZ (gK (gK (kZ rfl ?_)));refine cm ?_;refine aN ?_;refine rg [] [] [.cells (aX v1).cells, .cells [(bq v2)], .cells [(an (0:Int))]] (by kernel_rfl) ?_;refine dM ?_;have hr:=agM J;subst hr;exact gi (by kernel_rfl)
 |cons v8 v9=>
  rw[tE]at J;refine aN ?_;refine rg [] [(36,(aM (decide ((v6:Int)<(v1.aA.length:Int)))))] [.cells (aX v1).cells, .cells [(bq v2)], .cells [(an (0:Int))]] (by kernel_rfl) ?_;refine aN ?_;refine fz (t:=(decide ((v6:Int)<(v1.aA.length:Int)))) (by kernel_rfl) (bR az) ?_;refine et ?_;refine cm ?_;refine aN ?_;refine e6 ?_;refine aN ?_;refine rg [(1,oE (gA (bj az)))] [(9,(.ptr 3 0))] [.cells (aX v1).cells, .cells [(bq v2)], .cells [(an (0:Int))], .cells (cE v8).cells] (by kernel_rfl) ?_;refine aN ?_;obtain⟨v10,aZ,J⟩:=ar J;refine rg [(7,cL (Mu N v8.bE v10 aZ))] [(41,(.fn 70 [(.bn [dw v10] 0 0)]))] [.cells (aX v1).cells, .cells [(bq v2)], .cells [(an (0:Int))], .cells (cE v8).cells] (by kernel_rfl) ?_;refine e6 ?_;refine gP [3,4,33,34,35,41] 4 (agB rfl) (s':=⟨65,[(3,(.ptr 1 0)),(4,(.ptr 2 0)),(33,(.d (.sl (cg v1.aA)))),(34,(an (v1.aA.length:Int))),(35,(an (v6:Int))),(41,(.fn 70 [(.bn [dw v10] 0 0)]))],[.cells (aX v1).cells, .cells [(bq v2)], .cells [(an (0:Int))], .cells (cE v8).cells]⟩) (by kernel_rfl) ?_;refine F7 (m:=4) (enc:=aE) (xs:=(dN v10)) (by kernel_rfl) (LX v10) (fun(_:Unit)=>[.cells (aX v1).cells, .cells [(bq v2)], .cells [(an (0:Int))], .cells (cE v8).cells]) (fun(_:Unit) l=>uZ N (tE N v2 v9 (v6+1)) v2 l=some r) () (by kernel_rfl) J (by rintro _;rfl) (by rintro _;kernel_rfl) (by kernel_rfl) rfl ?_ ?_
  ·rintro _ v11 aC J bf n5 nL
   try dsimp only at J
   rw[uZ]at J;refine gP [3,4,33,34,35,42] 5 (agE _) (s':=⟨65,[(3,(.ptr 1 0)),(4,(.ptr 2 0)),(33,(.d (.sl (cg v1.aA)))),(34,(an (v1.aA.length:Int))),(35,(an (v6:Int))),(42,(aE v11))],[.cells (aX v1).cells, .cells [(bq v2)], .cells [(an (0:Int))], .cells (cE v8).cells, .lp .ready 42 n5 nL (dG 65 [(3,(.ptr 1 0)),(4,(.ptr 2 0)),(33,(.d (.sl (cg v1.aA)))),(34,(an (v1.aA.length:Int))),(35,(an (v6:Int))),(41,(.fn 70 [(.bn [dw v10] 0 0)]))])]⟩) (by kernel_rfl) ?_;refine re [] [(10,(.ptr 5 0))] [.cells (aX v1).cells, .cells [(bq v2)], .cells [(an (0:Int))], .cells (cE v8).cells, .lp .ready 42 n5 nL (dG 65 [(3,(.ptr 1 0)),(4,(.ptr 2 0)),(33,(.d (.sl (cg v1.aA)))),(34,(an (v1.aA.length:Int))),(35,(an (v6:Int))),(41,(.fn 70 [(.bn [dw v10] 0 0)]))]), .cells (aE v11).cells] (by kernel_rfl) ?_;refine cm ?_;refine⟨[.cells (aX v1).cells, .cells [(bq v2)], .cells [(an (0:Int))], .cells (cE v8).cells],[.cells (aE v11).cells],rfl,(by kernel_rfl),?_⟩;refine gP [3,4,10,33,34,35,42] 6 (agB rfl) (s':=⟨65,[(3,(.ptr 1 0)),(4,(.ptr 2 0)),(10,(.ptr 5 0)),(33,(.d (.sl (cg v1.aA)))),(34,(an (v1.aA.length:Int))),(35,(an (v6:Int))),(42,(aE v11))],[.cells (aX v1).cells, .cells [(bq v2)], .cells [(an (0:Int))], .cells (cE v8).cells, .lp .busy 42 n5 nL (dG 65 [(3,(.ptr 1 0)),(4,(.ptr 2 0)),(33,(.d (.sl (cg v1.aA)))),(34,(an (v1.aA.length:Int))),(35,(an (v6:Int))),(41,(.fn 70 [(.bn [dw v10] 0 0)]))]), .cells (aE v11).cells]⟩) (by kernel_rfl) ?_
   refine e6 ?_;refine aN ?_;refine rg [] [(11,(.fn 35 [(.ptr 1 0)]))] [.cells (aX v1).cells, .cells [(bq v2)], .cells [(an (0:Int))], .cells (cE v8).cells, .lp .busy 42 n5 nL (dG 65 [(3,(.ptr 1 0)),(4,(.ptr 2 0)),(33,(.d (.sl (cg v1.aA)))),(34,(an (v1.aA.length:Int))),(35,(an (v6:Int))),(41,(.fn 70 [(.bn [dw v10] 0 0)]))]), .cells (aE v11).cells] (by kernel_rfl) ?_;refine aN ?_;obtain⟨aI,b5,J⟩:=ar J;obtain⟨aP,bQ,J⟩:=ar J;refine PL [(63,(aM aP))] [.cells (aX v1).cells, .cells [(bq v2)], .cells [(an (0:Int))], .cells (cE v8).cells, .lp .busy 42 n5 nL (dG 65 [(3,(.ptr 1 0)),(4,(.ptr 2 0)),(33,(.d (.sl (cg v1.aA)))),(34,(an (v1.aA.length:Int))),(35,(an (v6:Int))),(41,(.fn 70 [(.bn [dw v10] 0 0)]))]), .cells (aE v11).cells] ?_ ?_
   ·rcases fP aI with a8|a8
    ·replace bQ:=(dx a8).symm.trans bQ;have he:=agM bQ;subst he;exact⟨[(10,⟨_,_, .rq (db:=[(.d (.sl (bM v11.xIdx))),(.fn 35 [(.ptr 1 0)])]) (h:=[.cells (aX v1).cells, .cells [(bq v2)], .cells [(an (0:Int))], .cells (cE v8).cells, .lp .busy 42 n5 nL (dG 65 [(3,(.ptr 1 0)),(4,(.ptr 2 0)),(33,(.d (.sl (cg v1.aA)))),(34,(an (v1.aA.length:Int))),(35,(an (v6:Int))),(41,(.fn 70 [(.bn [dw v10] 0 0)]))]), .cells (aE v11).cells]) (l:=[1]) (by kernel_rfl) (by kernel_rfl) (by kernel_rfl) (by kernel_rfl) (ER N v11.xIdx v2 aI b5)⟩),(15,bT a8),(18,bT a8),(21,bT a8),(24,bT a8),(27,uN),(30,uN),(33,uN),(36,uN),(39,bT a8),(42,bT a8),(45,uN),(48,uN),(51,uN),(54,bT a8),(58,bT a8)],by kernel_rfl⟩
    replace bQ:=(fR a8).symm.trans bQ;rcases fP (v11.bg==(3:Int))with bA|bA
    ·replace bQ:=(dx bA).symm.trans bQ;rcases fP (bL v11.aq==bL v2)with a9|a9
     ·replace bQ:=(dx a9).symm.trans bQ;obtain⟨aD,cv,bQ⟩:=ar bQ;have he:=agM bQ;subst he;exact⟨[(10,⟨_,_, .rq (db:=[(.d (.sl (bM v11.xIdx))),(.fn 35 [(.ptr 1 0)])]) (h:=[.cells (aX v1).cells, .cells [(bq v2)], .cells [(an (0:Int))], .cells (cE v8).cells, .lp .busy 42 n5 nL (dG 65 [(3,(.ptr 1 0)),(4,(.ptr 2 0)),(33,(.d (.sl (cg v1.aA)))),(34,(an (v1.aA.length:Int))),(35,(an (v6:Int))),(41,(.fn 70 [(.bn [dw v10] 0 0)]))]), .cells (aE v11).cells]) (l:=[1]) (by kernel_rfl) (by kernel_rfl) (by kernel_rfl) (by kernel_rfl) (ER N v11.xIdx v2 aI b5)⟩),(15,bF a8),(18,bF a8),(21,bF a8),(24,bF a8),(27,bT bA),(30,bT bA),(33,bT bA),(36,bT bA),(39,bF a8),(40,bT bA),(42,bF a8),(45,bT a9),(48,bT a9),(51,bT a9),(52,⟨_,_, .rq (db:=[(.d (.sl (bM v11.xIdx))),(.fn 37 [])]) (h:=[.cells (aX v1).cells, .cells [(bq v2)], .cells [(an (0:Int))], .cells (cE v8).cells, .lp .busy 42 n5 nL (dG 65 [(3,(.ptr 1 0)),(4,(.ptr 2 0)),(33,(.d (.sl (cg v1.aA)))),(34,(an (v1.aA.length:Int))),(35,(an (v6:Int))),(41,(.fn 70 [(.bn [dw v10] 0 0)]))]), .cells (aE v11).cells]) (l:=[]) (by kernel_rfl) (by kernel_rfl) (by kernel_rfl) (by kernel_rfl) (Zq N v11.xIdx aD cv)⟩),(54,bF a8),(55,bT a9),(58,bF a8)],by kernel_rfl⟩
     replace bQ:=(fR a9).symm.trans bQ;have he:=agM bQ;subst he;exact⟨[(10,⟨_,_, .rq (db:=[(.d (.sl (bM v11.xIdx))),(.fn 35 [(.ptr 1 0)])]) (h:=[.cells (aX v1).cells, .cells [(bq v2)], .cells [(an (0:Int))], .cells (cE v8).cells, .lp .busy 42 n5 nL (dG 65 [(3,(.ptr 1 0)),(4,(.ptr 2 0)),(33,(.d (.sl (cg v1.aA)))),(34,(an (v1.aA.length:Int))),(35,(an (v6:Int))),(41,(.fn 70 [(.bn [dw v10] 0 0)]))]), .cells (aE v11).cells]) (l:=[1]) (by kernel_rfl) (by kernel_rfl) (by kernel_rfl) (by kernel_rfl) (ER N v11.xIdx v2 aI b5)⟩),(15,bF a8),(18,bF a8),(21,bF a8),(24,bF a8),(27,bT bA),(30,bT bA),(33,bT bA),(36,bT bA),(39,bF a8),(40,bT bA),(42,bF a8),(45,bF a9),(48,bF a9),(51,bF a9),(54,bF a8),(55,bF a9),(58,bF a8)],by kernel_rfl⟩
    replace bQ:=(fR bA).symm.trans bQ;have he:=agM bQ;subst he;exact⟨[(10,⟨_,_, .rq (db:=[(.d (.sl (bM v11.xIdx))),(.fn 35 [(.ptr 1 0)])]) (h:=[.cells (aX v1).cells, .cells [(bq v2)], .cells [(an (0:Int))], .cells (cE v8).cells, .lp .busy 42 n5 nL (dG 65 [(3,(.ptr 1 0)),(4,(.ptr 2 0)),(33,(.d (.sl (cg v1.aA)))),(34,(an (v1.aA.length:Int))),(35,(an (v6:Int))),(41,(.fn 70 [(.bn [dw v10] 0 0)]))]), .cells (aE v11).cells]) (l:=[1]) (by kernel_rfl) (by kernel_rfl) (by kernel_rfl) (by kernel_rfl) (ER N v11.xIdx v2 aI b5)⟩),(15,bF a8),(18,bF a8),(21,bF a8),(24,bF a8),(27,bF bA),(30,bF bA),(33,bF bA),(36,bF bA),(39,bF a8),(40,bF bA),(42,bF a8),(45,bF rfl),(48,bF rfl),(51,bF rfl),(54,bF a8),(55,bF rfl),(58,bF a8)],by kernel_rfl⟩
   rcases fP aP with dk|dk
   ·replace J:=(dx dk).symm.trans J;refine fz (t:=aP) (by kernel_rfl) dk ?_;refine aN ?_;refine rg [] [] [.cells (aX v1).cells, .cells [(bq v2)], .cells [(an (1:Int))], .cells (cE v8).cells, .lp .busy 42 n5 nL (dG 65 [(3,(.ptr 1 0)),(4,(.ptr 2 0)),(33,(.d (.sl (cg v1.aA)))),(34,(an (v1.aA.length:Int))),(35,(an (v6:Int))),(41,(.fn 70 [(.bn [dw v10] 0 0)]))]), .cells (aE v11).cells] (by kernel_rfl) ?_;refine dM (fg ?_);refine JC [.cells (aX v1).cells, .cells [(bq v2)], .cells [(an (1:Int))], .cells (cE v8).cells] rfl (by kernel_rfl) (by kernel_rfl) ?_;refine(fg (fg (ej (ej (fg (ej ?_))))));have hr:=agM J;subst hr;exact gi (by kernel_rfl)
   replace J:=(fR dk).symm.trans J;refine ft (t:=aP) (by kernel_rfl) dk ?_;refine et ?_;refine iJ ?_;refine Ih [.cells (aX v1).cells, .cells [(bq v2)], .cells [(an (0:Int))], .cells (cE v8).cells] rfl (by kernel_rfl) (by kernel_rfl) ?_;exact⟨(),(by kernel_rfl),J⟩
  rintro _ J
  try dsimp only at J
  rw[uZ]at J;refine iJ ?_;refine iJ ?_;refine cm ?_;refine re [(2,oq (b8 az rfl h9))] [(35,(an ((v6+1:Nat):Int))),(64,(an ((v6+1:Nat):Int)))] [.cells (aX v1).cells, .cells [(bq v2)], .cells [(an (0:Int))], .cells (cE v8).cells, .gone] (by kernel_rfl) ?_;refine cm ?_;exact⟨(v6+1,v9),by kernel_rfl,⟨b7 az,J⟩,ahf _⟩
def FR(N:Nat)(v1:List ByteArray):Option (List ByteArray):=bif Nat.ble (v1.length*16) 140737488355328 then some v1 else none
theorem UD(N:Nat)(v1 r:List ByteArray)(J:FR N v1=some r):bm Tryz.prog 51 [(.d (.sl (ax v1)))] (·=(.d (.sl (ax r)))):=by
 obtain⟨hb,rfl⟩:=cV J;have hc:=cY hb (by decide);exact aa7 jz (by rw[bD];exact hc.1) (by rw[bD];exact hc.2)
def se(N:Nat):List bk→Nat→(List bk)→Option ((List bk))
 |[],_,v6=>
  some v6
 |v4::v5,v2,v6=>
  Option.bind (sF N v4.dS) fun v7=>
  bif (Nat.ble ((v6.length+1)*48) 140737488355328)then
  (fun ck=>se N v5 (v2+1) ck) (v6++[(⟨v4.aq,v7⟩:bk)])
  else none
def rC(N:Nat)(v1:List bk):Option ((List bk)):=
 se N v1 0 []
theorem O9(N:Nat)(v1:List bk)(r:(List bk))(J:rC N v1=some r):bm Tryz.prog 54 [(.d (.sl (cy v1)))] (·=(.d (.sl (cy r)))):=by
 rw[rC]at J;refine bK Tryz.func54 (by kernel_rfl) (by kernel_rfl) ?_;refine au ai [[],[],[(4,oL v1 bV)]] ?_;refine m8 3 64 3 [] (.inr (by kernel_rfl)) ?_;refine dP 0 (cy v1) (by kernel_rfl) fun h1=> ?_;have h2:=cr bV h1;refine cC ai 1 [] [3,6,7,8] 1 (fun((v2,v3,v6):Nat×(List bk)×(List bk))=>⟨23,[(3,(.own 0 (cy v6))),(6,(.d (.sl (cy v1)))),(7,(an (v1.length:Int))),(8,(an (v2:Int)))],[.front 64 3 v6.length]⟩) (fun((v2,v3,v6):Nat×(List bk)×(List bk))=>v1.drop v2=v3∧se N v3 v2 v6=some r) (fun((v2,v3,v6):Nat×(List bk)×(List bk))=>v3.length) (0,v1,[]) ⟨rfl,J⟩ ?_;rintro⟨v2,v3,v6⟩ ⟨h3,J⟩ f1 aV;cases v3 with
 |nil=>
  rw[se]at J;obtain rfl:=sj J;exact wr ai [[],[(0,bF (bS h3))],[]]
 |cons v4 v5=>
  rw[se]at J;obtain⟨v7,h4,J⟩:=ar J;obtain⟨h5,J⟩:=c8 J;exact cx ai aV (v2+1,v5,(v6++[(⟨v4.aq,v7⟩:bk)])) [[],[(0,bT (bR h3))],[(1,oE (kg (bj h3)))],[(16,cL (Gp N v4.dS v7 h4)),(25,⟨_,_, .app (xs:=cy v6) (ys:=cy [(⟨v4.aq,v7⟩:bk)]) (zs:=cy (v6++[(⟨v4.aq,v7⟩:bk)])) (n:=(v6++[(⟨v4.aq,v7⟩:bk)]).length) bV.symm oy oy (by rw[(bV (l:=v6)),(bV (l:=[(⟨v4.aq,v7⟩:bk)]))];exact(cY h5 (by decide)).1) (by rw[(bV (l:=v6)),(bV (l:=[(⟨v4.aq,v7⟩:bk)]))];exact(cY h5 (by decide)).2) EO (by first|(rw[(bV (l:=v6)),(bV (l:=[(⟨v4.aq,v7⟩:bk)]))];done)|(rw[(bV (l:=v6)),(bV (l:=[(⟨v4.aq,v7⟩:bk)]))];rfl)|(rw[(bV (l:=v6)),(bV (l:=[(⟨v4.aq,v7⟩:bk)])),agu];done)|(rw[(bV (l:=v6)),(bV (l:=[(⟨v4.aq,v7⟩:bk)])),agu];rfl)|(rw[(bV (l:=v6)),(bV (l:=[(⟨v4.aq,v7⟩:bk)])),agN]))⟩)],[(2,oq (b8 h3 rfl h2))]] ⟨b7 h3,J⟩
def w8(N:Nat)(v1:aw):Option (aw×Int):=
 Option.bind (BK N v1.xL) fun v2=>
 some ((⟨v1.xK,v2⟩:aw),(0:Int))
theorem Jz(N:Nat)(v1:aw)(r:aw×Int)(J:w8 N v1=some r):bm Tryz.prog 87 [(b9 v1)] (·=(.bX [(b9 r.1),(an r.2)])):=by
 rw[w8]at J;refine bK Tryz.func87 (by kernel_rfl) (by kernel_rfl) ?_;obtain⟨v2,h1,J⟩:=ar J;obtain rfl:=sj J;exact wr ai [[],[(13,cL (OL N v1.xL v2 h1))]]
def KW(N:Nat)(v1:List ay):Option (List ay):=bif Nat.ble (v1.length*72) 140737488355328 then some v1 else none
theorem abj(N:Nat)(v1 r:List ay)(J:KW N v1=some r):bW Tryz.prog 120 [(.d (.sl (bM v1)))] [] fun r1 h1=>r1=(.vec 0 0 r.length r.length 4)∧h1=[.vec 80 4 (aK (r.map fO))]:=by
 obtain⟨hb,rfl⟩:=cV J;have hc:=cY hb (by decide);have h1:=afC (xs:=bM v1) wP (by rw[cn];exact hc.1) (by rw[cn];exact hc.2);have h2:aK (v1.map fO)=aK (bM v1):=by rw[qi]
 have h3:=cn (l:=v1);rw[h3]at h1;rw[h2];exact h1
def IG(N:Nat)(v1:List aw):Option (List aw):=bif Nat.ble (v1.length*32) 140737488355328 then some v1 else none
theorem aby(N:Nat)(v1 r:List aw)(J:IG N v1=some r):bW Tryz.prog 121 [(.d (.sl (cS v1)))] [] fun r1 h1=>r1=(.vec 0 0 r.length r.length 2)∧h1=[.vec 48 2 (aK (r.map jY))]:=by
 obtain⟨hb,rfl⟩:=cV J;have hc:=cY hb (by decide);have h1:=abP (xs:=cS v1) nC (by rw[bO];exact hc.1) (by rw[bO];exact hc.2);have h2:aK (v1.map jY)=aK (cS v1):=by rw[qc]
 have h3:=bO (l:=v1);rw[h3]at h1;rw[h2];exact h1
def L5(N:Nat)(v1:List ao):Option (List ao):=bif Nat.ble (v1.length*160) 140737488355328 then some v1 else none
theorem W4(N:Nat)(v1 r:List ao)(J:L5 N v1=some r):bW Tryz.prog 122 [(.d (.sl (cW v1)))] [] fun r1 h1=>r1=(.vec 0 0 r.length r.length 13)∧h1=[.vec 52 13 (aK (r.map dw))]:=by
 obtain⟨hb,rfl⟩:=cV J;have hc:=cY hb (by decide);have h1:=afg (xs:=cW v1) pV (by rw[ca];exact hc.1) (by rw[ca];exact hc.2);have h2:aK (v1.map dw)=aK (cW v1):=by rw[kV]
 have h3:=ca (l:=v1);rw[h3]at h1;rw[h2];exact h1
def tY(N:Nat)(v8:List ay)(v3:List ay)(v9:List ao)(v1:ao)(v2:aw×Int)(DD:ao→Option (ao×Int)):List ao→Nat→(List ao)→Option (ao×Int)
 |[],_,aD=>
  bif (Nat.beq v8.length v3.length)then
  bif (Nat.beq aD.length v9.length)then
  some ((⟨v1.bg,v1.aq,v1.dK,v1.aB,v2.1,v8,aD⟩:ao),(0:Int))
  else none
  else none
 |aC::aI,v10,aD=>
  Option.bind (DD aC) fun aP=>
  bif (Nat.beq aD.length v9.length)then
  bif (decide ((v10:Int)<(v9.length:Int)))then
  Option.bind (aD[v10]?) fun aW=>
  bif (aP.2 !=(0:Int))then
   some (fQ,aP.2)
  else
   (fun fS=>tY N v8 v3 v9 v1 v2 DD aI (v10+1) fS) (aD.set v10 aP.1)
  else none
  else none
def sD(N:Nat)(bU:List aw)(gB:(List ay)→Option (ao×Int))(v8:List ay)(v4:Nat)(aH:aw×Int)(aU:ay):List aw→Nat→(List aw)→Option (ao×Int)
 |[],_,cb=>
  bif (Nat.beq cb.length bU.length)then
  gB ((v8.set v4 (⟨aH.1,aU.bp,aU.bw⟩:ay)).set v4 (⟨(⟨aH.1,aU.bp,aU.bw⟩:ay).aQ,(⟨aH.1,aU.bp,aU.bw⟩:ay).bp,cb⟩:ay))
  else none
 |dh::cz,v20,cb=>
  Option.bind (w8 N dh) fun eC=>
  bif (Nat.beq cb.length bU.length)then
  bif (decide ((v20:Int)<(bU.length:Int)))then
  Option.bind (cb[v20]?) fun me=>
  bif (eC.2 !=(0:Int))then
   some (fQ,eC.2)
  else
   (fun lD=>sD N bU gB v8 v4 aH aU cz (v20+1) lD) (cb.set v20 eC.1)
  else none
  else none
def qJ(N:Nat)(v1:ao)(v3:List ay)(v2:aw×Int)(DD:ao→Option (ao×Int)):List ay→Nat→(List ay)→Option (ao×Int)
 |[],_,v8=>
  Option.bind (L5 N v1.aT) fun v9=>
  tY N v8 v3 v9 v1 v2 DD v1.aT 0 v9
 |v6::v7,v4,v8=>
  Option.bind (w8 N v6.aQ) fun aH=>
  bif (Nat.beq v8.length v3.length)then
  bif (decide ((v4:Int)<(v3.length:Int)))then
  Option.bind (v8[v4]?) fun aU=>
  bif (aH.2 !=(0:Int))then
   some (fQ,aH.2)
  else
   Option.bind (IG N v6.bw) fun bU=>
   bif (Nat.beq (v8.set v4 (⟨aH.1,aU.bp,aU.bw⟩:ay)).length v3.length)then
   sD N bU (fun ck=>qJ N v1 v3 v2 DD v7 (v4+1) ck) v8 v4 aH aU v6.bw 0 bU
   else none
  else none
  else none
def oB(N:Nat):Nat→ao→Option (ao×Int)
 |0,_=>none
 |d+1,v1=>
  Option.bind (w8 N v1.aQ) fun v2=>
  bif (v2.2 !=(0:Int))then
   some (fQ,v2.2)
  else
   Option.bind (KW N v1.xIdx) fun v3=>
   qJ N v1 v3 v2 (oB N d) v1.xIdx 0 v3
def Ld(N:Nat)(v1:ao):Option (ao×Int):=oB N N v1
theorem XR(N:Nat):∀d:Nat,(∀(v1:ao)(r:ao×Int),oB N d v1=some r→bW Tryz.prog 86 [(aE v1),(.fn 87 [])] [] fun r1 h1=>r1=(.bX [(aE r.1),(an r.2)])∧h1=[]):=by
 intro d
 induction d with
 |zero=>intro v1 r J;rw[oB]at J;cases J
 |succ d ih=>
  have adR:=ih;intro v1 r J;rw[oB]at J;refine fy 0 Tryz.func86 (by kernel_rfl) (by kernel_rfl) (agB rfl) ?_;obtain⟨v2,h1,J⟩:=ar J;refine au ai [[],[],[],[(10,cL (Jz N v1.aQ v2 h1))],[]] ?_;refine bc J (fun h2 J=> ?_) fun h2 J=> ?_
  ·obtain rfl:=sj J;exact cQ ai [[(0,bT h2)],[]]
  obtain⟨v3,h3,J⟩:=ar J;refine au ai [[(0,bF h2)],[(7,⟨_,_, .l7 hX (kF (xs:=(v3.map fO)) hX) (db:=[(.d (.sl (bM v1.xIdx)))]) (h:=[.cells (aE v1).cells, .cells iz, .cells (mn v1 [(bt v2.1.xK),(.d (.sl (bP v2.1.xL))),(.d (.sl (bM v1.xIdx))),(.d (.sl (cW v1.aT)))])]) (l:=[]) (by kernel_rfl) (by kernel_rfl) (by kernel_rfl) (by kernel_rfl) (abj N v1.xIdx v3 h3)⟩)],[(7,oL v1.xIdx cn)]] ?_;refine dP 32 (bM v1.xIdx) (by kernel_rfl) fun h4=> ?_;have h5:=cr cn h4;refine jQ ai 1 [] [1,2,4,6,32,33,34] 4 [] [(1,10),(1,11),(1,12)] (fun((v4,v5,v8):Nat×(List ay)×(List ay))=>⟨119,[(1,(.fn 87 [])),(2,(.ptr 0 0)),(4,(.ptr 1 0)),(6,(.ptr 2 0)),(32,(.d (.sl (bM v1.xIdx)))),(33,(an (v1.xIdx.length:Int))),(34,(an (v4:Int)))],[.cells (aE v1).cells, .cells iz, .cells (mn v1 [(bt v2.1.xK),(.d (.sl (bP v2.1.xL))),(.vec 3 0 v3.length v3.length 4),(.d (.sl (cW v1.aT)))]), .vec 80 4 (aK (v8.map fO))]⟩) (fun((v4,v5,v8):Nat×(List ay)×(List ay))=>v1.xIdx.drop v4=v5∧qJ N v1 v3 v2 (oB N d) v5 v4 v8=some r) (fun((v4,v5,v8):Nat×(List ay)×(List ay))=>v5.length) (0,v1.xIdx,v3) ⟨rfl,J⟩ ?_ (jI:=[.iE (v3.map fO)]);rintro⟨v4,v5,v8⟩ ⟨h6,J⟩ f1 aV;cases v5 with
  |nil=>
   rw[qJ]at J;obtain⟨v9,h7,J⟩:=ar J;refine au ai [[],[(0,bF (bS h6))],[(7,⟨_,_, .l7 hX (kF (xs:=(v9.map dw)) hX) (db:=[(.d (.sl (cW v1.aT)))]) (h:=[.cells (aE v1).cells, .cells iz, .cells (mn v1 [(bt v2.1.xK),(.d (.sl (bP v2.1.xL))),(.vec 3 0 v3.length v3.length 4),(.d (.sl (cW v1.aT)))]), .vec 80 4 (aK (v8.map fO))]) (l:=[]) (by kernel_rfl) (by kernel_rfl) (by kernel_rfl) (by kernel_rfl) (W4 N v1.aT v9 h7)⟩)],[(7,oL v1.aT ca)]] ?_;refine dP 96 (cW v1.aT) (by kernel_rfl) fun h8=> ?_;have h9:=cr ca h8;refine jQ ai 2 [] [1,4,6,96,97,98] 5 [] [(1,10),(1,11),(1,12)] (fun((v10,v11,aD):Nat×(List ao)×(List ao))=>⟨119,[(1,(.fn 87 [])),(4,(.ptr 1 0)),(6,(.ptr 2 0)),(96,(.d (.sl (cW v1.aT)))),(97,(an (v1.aT.length:Int))),(98,(an (v10:Int)))],[.cells (aE v1).cells, .cells iz, .cells (mn v1 [(bt v2.1.xK),(.d (.sl (bP v2.1.xL))),(.vec 3 0 v3.length v3.length 4),(.vec 4 0 v9.length v9.length 13)]), .vec 80 4 (aK (v8.map fO)), .vec 52 13 (aK (aD.map dw))]⟩) (fun((v10,v11,aD):Nat×(List ao)×(List ao))=>v1.aT.drop v10=v11∧tY N v8 v3 v9 v1 v2 (oB N d) v11 v10 aD=some r) (fun((v10,v11,aD):Nat×(List ao)×(List ao))=>v11.length) (0,v1.aT,v9) ⟨rfl,J⟩ ?_ (jI:=[.iE (v8.map fO), .iE (v9.map dw)])
   rintro⟨v10,v11,aD⟩ ⟨az,J⟩ f2 dX;cases v11 with
   |nil=>
    rw[tY]at J;obtain⟨aZ,J⟩:=c8 J;obtain⟨bf,J⟩:=c8 J;refine au ai [[],[(0,bF (bS az))]] ?_;refine Hx [4,6] 3 (bM v8) v3.length 1 80 4 [.iE (v8.map fO), .iE (aD.map dw)] (pW (agH aZ)) (qi _) (oY (fun _=>rfl) _) ?_;refine Hx [4,6] 4 (cW aD) v9.length 1 52 13 [.iE (aD.map dw)] (pW (agH bf)) (kV _) (oY (fun _=>rfl) _) ?_;obtain rfl:=sj J;exact cQ ai [[]]
   |cons aC aI=>
    rw[tY]at J;obtain⟨aP,b5,J⟩:=ar J;obtain⟨a8,J⟩:=c8 J;obtain⟨bA,J⟩:=c8 J;obtain⟨aW,a9,J⟩:=ar J;refine au ai [[],[(0,bT (bR az))],[(4,oE (jn (bj az)))],[(16,⟨_,_, .rq (db:=[(aE aC),(.fn 87 [])]) (h:=[.cells (aE v1).cells, .cells iz, .cells (mn v1 [(bt v2.1.xK),(.d (.sl (bP v2.1.xL))),(.vec 3 0 v3.length v3.length 4),(.vec 4 0 v9.length v9.length 13)]), .vec 80 4 (aK (v8.map fO)), .vec 52 13 (aK (aD.map dw)), .cells (aE aC).cells]) (l:=[]) (by kernel_rfl) (by kernel_rfl) (by kernel_rfl) (by kernel_rfl) (adR aC aP b5)⟩),(28,⟨_,_, .pr (.ix v10) (kS (gQ (f:=dw) (agH a8)) (Int.natCast_nonneg _) (of_decide_eq_true bA) (agU _))⟩),(31,⟨_,_, .pr (.st ((dw aW).map AV.d) (aK ((aD.set v10 aP.1).map dw))) (At (f:=dw) (j:=0) (y:=aP.1) (zs:=[(an aP.1.bg),(bq aP.1.aq),(bt aP.1.dK.xN),(bt aP.1.dK.xD),(an aP.1.aB.cA),(an aP.1.aB.cD),(an aP.1.aB.dg),(an aP.1.aB.de),(an aP.1.aB.dc),(bt aP.1.aQ.xK),(.d (.sl (bP aP.1.aQ.xL))),(.d (.sl (bM aP.1.xIdx))),(.d (.sl (cW aP.1.aT)))]) (agH a8) a9 rfl)⟩)],[]] ?_;refine bc J (fun cv J=> ?_) fun cv J=> ?_
    ·obtain rfl:=sj J;exact cQ ai [[(0,bT cv)],[]]
    exact iQ ai dX (v10+1,aI,(aD.set v10 aP.1)) [[(0,bF cv)],[(2,oq (b8 az rfl h9))]] ⟨b7 az,J⟩ (jI:=[.iE (v8.map fO), .iE ((aD.set v10 aP.1).map dw)])
  |cons v6 v7=>
   rw[qJ]at J;obtain⟨aH,bQ,J⟩:=ar J;obtain⟨dk,J⟩:=c8 J;obtain⟨dJ,J⟩:=c8 J;obtain⟨aU,eG,J⟩:=ar J;refine au ai [[],[(0,bT (bR h6))],[(4,oE (eM (bj h6)))],[(19,cL (Jz N v6.aQ aH bQ)),(31,⟨_,_, .pr (.ix v4) (kS (gQ (f:=fO) (agH dk)) (Int.natCast_nonneg _) (of_decide_eq_true dJ) (agU _))⟩),(34,⟨_,_, .pr .no trivial⟩),(37,⟨_,_, .pr (.st ((fO aU).map AV.d) (aK ((v8.set v4 (⟨aH.1,aU.bp,aU.bw⟩:ay)).map fO))) (At (f:=fO) (j:=0) (y:=(⟨aH.1,aU.bp,aU.bw⟩:ay)) (zs:=[(bt aH.1.xK),(.d (.sl (bP aH.1.xL)))]) (agH dk) eG rfl)⟩)],[]] ?_;refine bc J (fun fe J=> ?_) fun fe J=> ?_
   ·obtain rfl:=sj J;exact cQ ai [[(0,bT fe)],[]]
   obtain⟨bU,fb,J⟩:=ar J;obtain⟨eN,J⟩:=c8 J;refine au ai [[(0,bF fe)],[(16,⟨_,_, .l7 hX (kF (xs:=(bU.map jY)) hX) (db:=[(.d (.sl (cS v6.bw)))]) (h:=[.cells (aE v1).cells, .cells iz, .cells (mn v1 [(bt v2.1.xK),(.d (.sl (bP v2.1.xL))),(.vec 3 0 v3.length v3.length 4),(.d (.sl (cW v1.aT)))]), .vec 80 4 (aK ((v8.set v4 (⟨aH.1,aU.bp,aU.bw⟩:ay)).map fO)), .cells (fX v6).cells]) (l:=[]) (by kernel_rfl) (by kernel_rfl) (by kernel_rfl) (by kernel_rfl) (aby N v6.bw bU fb)⟩),(19,⟨_,_, .pr (.ix v4) (kS (gQ (f:=fO) (agH eN)) (Int.natCast_nonneg _) (of_decide_eq_true dJ) (agU _))⟩),(22,⟨_,_, .pr .no trivial⟩),(25,⟨_,_, .pr (.st ((fO (⟨aH.1,aU.bp,aU.bw⟩:ay)).map AV.d) ((aK ((v8.set v4 (⟨aH.1,aU.bp,aU.bw⟩:ay)).map fO)).set v4 [(bt (⟨aH.1,aU.bp,aU.bw⟩:ay).aQ.xK),(.d (.sl (bP (⟨aH.1,aU.bp,aU.bw⟩:ay).aQ.xL))),(bq (⟨aH.1,aU.bp,aU.bw⟩:ay).bp),(.vec 5 0 bU.length bU.length 2)])) (acB (f:=fO) (j:=3) (r:=[(bt (⟨aH.1,aU.bp,aU.bw⟩:ay).aQ.xK),(.d (.sl (bP (⟨aH.1,aU.bp,aU.bw⟩:ay).aQ.xL))),(bq (⟨aH.1,aU.bp,aU.bw⟩:ay).bp),(.vec 5 0 bU.length bU.length 2)]) (zs:=[(.vec 5 0 bU.length bU.length 2)]) (agH eN) (TK eG) rfl)⟩)],[(7,oL v6.bw bO)]] ?_
   refine dP 64 (cS v6.bw) (by kernel_rfl) fun fp=> ?_;have h26:=cr bO fp;refine jQ ai 3 [] [1,2,4,6,8,32,33,34,64,65,66] 6 [] [(1,10),(1,11),(1,12)] (fun((v20,dF,cb):Nat×(List aw)×(List aw))=>⟨119,[(1,(.fn 87 [])),(2,(.ptr 0 0)),(4,(.ptr 1 0)),(6,(.ptr 2 0)),(8,(an (v4:Int))),(32,(.d (.sl (bM v1.xIdx)))),(33,(an (v1.xIdx.length:Int))),(34,(an (v4:Int))),(64,(.d (.sl (cS v6.bw)))),(65,(an (v6.bw.length:Int))),(66,(an (v20:Int)))],[.cells (aE v1).cells, .cells iz, .cells (mn v1 [(bt v2.1.xK),(.d (.sl (bP v2.1.xL))),(.vec 3 0 v3.length v3.length 4),(.d (.sl (cW v1.aT)))]), .vec 80 4 ((aK ((v8.set v4 (⟨aH.1,aU.bp,aU.bw⟩:ay)).map fO)).set v4 [(bt (⟨aH.1,aU.bp,aU.bw⟩:ay).aQ.xK),(.d (.sl (bP (⟨aH.1,aU.bp,aU.bw⟩:ay).aQ.xL))),(bq (⟨aH.1,aU.bp,aU.bw⟩:ay).bp),(.vec 5 0 bU.length bU.length 2)]), .cells (fX v6).cells, .vec 48 2 (aK (cb.map jY))]⟩) (fun((v20,dF,cb):Nat×(List aw)×(List aw))=>v6.bw.drop v20=dF∧sD N bU (fun ck=>qJ N v1 v3 v2 (oB N d) v7 (v4+1) ck) v8 v4 aH aU dF v20 cb=some r) (fun((v20,dF,cb):Nat×(List aw)×(List aw))=>dF.length) (0,v6.bw,bU) ⟨rfl,J⟩ ?_ (jI:=[.row ((v8.set v4 (⟨aH.1,aU.bp,aU.bw⟩:ay)).map fO) v4 [(bt (⟨aH.1,aU.bp,aU.bw⟩:ay).aQ.xK),(.d (.sl (bP (⟨aH.1,aU.bp,aU.bw⟩:ay).aQ.xL))),(bq (⟨aH.1,aU.bp,aU.bw⟩:ay).bp),(.vec 5 0 bU.length bU.length 2)], .iE (bU.map jY)])
   rintro⟨v20,dF,cb⟩ ⟨jg,J⟩ f3 jA;cases dF with
   |nil=>
    rw[sD]at J;obtain⟨lL,J⟩:=c8 J;refine au ai [[],[(0,bF (bS jg))]] ?_;refine Hx [1,2,4,6,32,33,34] 5 (cS cb) bU.length 0 48 2 [.row fO (v8.set v4 (⟨aH.1,aU.bp,aU.bw⟩:ay)) v4 [(bt (⟨aH.1,aU.bp,aU.bw⟩:ay).aQ.xK),(.d (.sl (bP (⟨aH.1,aU.bp,aU.bw⟩:ay).aQ.xL))),(bq (⟨aH.1,aU.bp,aU.bw⟩:ay).bp),(.vec 5 0 bU.length bU.length 2)] (⟨(⟨aH.1,aU.bp,aU.bw⟩:ay).aQ,(⟨aH.1,aU.bp,aU.bw⟩:ay).bp,cb⟩:ay) 1, .iE (cb.map jY)] (pW (agH lL)) (qc _) (oY (fun _=>rfl) _) ?_;exact iQ ai aV (v4+1,v7,((v8.set v4 (⟨aH.1,aU.bp,aU.bw⟩:ay)).set v4 (⟨(⟨aH.1,aU.bp,aU.bw⟩:ay).aQ,(⟨aH.1,aU.bp,aU.bw⟩:ay).bp,cb⟩:ay))) [[(2,oq (b8 h6 rfl h5))]] ⟨b7 h6,J⟩ (jI:=[.iE (((v8.set v4 (⟨aH.1,aU.bp,aU.bw⟩:ay)).set v4 (⟨(⟨aH.1,aU.bp,aU.bw⟩:ay).aQ,(⟨aH.1,aU.bp,aU.bw⟩:ay).bp,cb⟩:ay)).map fO)])
   |cons dh cz=>
    rw[sD]at J;obtain⟨eC,j8,J⟩:=ar J;obtain⟨qh,J⟩:=c8 J;obtain⟨DX,J⟩:=c8 J;obtain⟨me,h32,J⟩:=ar J;refine au ai [[],[(0,bT (bR jg))],[(4,oE (jv (bj jg)))],[(10,⟨_,_, .pr (.ix v4) (kS (adN (i:=v4) (r:=[(bt (⟨aH.1,aU.bp,aU.bw⟩:ay).aQ.xK),(.d (.sl (bP (⟨aH.1,aU.bp,aU.bw⟩:ay).aQ.xL))),(bq (⟨aH.1,aU.bp,aU.bw⟩:ay).bp),(.vec 5 0 bU.length bU.length 2)]) (f:=fO) (agH eN)) (Int.natCast_nonneg _) (of_decide_eq_true dJ) (agU _))⟩),(13,⟨_,_, .pr .no trivial⟩),(16,⟨_,_, .pr (.el [(bt (⟨aH.1,aU.bp,aU.bw⟩:ay).aQ.xK),(.d (.sl (bP (⟨aH.1,aU.bp,aU.bw⟩:ay).aQ.xL))),(bq (⟨aH.1,aU.bp,aU.bw⟩:ay).bp),(.vec 5 0 bU.length bU.length 2)]) (abf (f:=fO) [(bt (⟨aH.1,aU.bp,aU.bw⟩:ay).aQ.xK),(.d (.sl (bP (⟨aH.1,aU.bp,aU.bw⟩:ay).aQ.xL))),(bq (⟨aH.1,aU.bp,aU.bw⟩:ay).bp),(.vec 5 0 bU.length bU.length 2)] (agH eN) (TK eG))⟩),(28,cL (Jz N dh eC j8)),(40,⟨_,_, .pr (.ix v20) (kS (gQ (f:=jY) (agH qh)) (Int.natCast_nonneg _) (of_decide_eq_true DX) (agU _))⟩),(43,⟨_,_, .pr (.st ((jY me).map AV.d) (aK ((cb.set v20 eC.1).map jY))) (At (f:=jY) (j:=0) (y:=eC.1) (zs:=[(bt eC.1.xK),(.d (.sl (bP eC.1.xL)))]) (agH qh) h32 rfl)⟩)],[]] ?_
    refine bc J (fun KQ J=> ?_) fun KQ J=> ?_
    ·obtain rfl:=sj J;exact cQ ai [[(0,bT KQ)],[]]
    exact iQ ai jA (v20+1,cz,(cb.set v20 eC.1)) [[(0,bF KQ)],[(2,oq (b8 jg rfl h26))]] ⟨b7 jg,J⟩ (jI:=[.row ((v8.set v4 (⟨aH.1,aU.bp,aU.bw⟩:ay)).map fO) v4 [(bt (⟨aH.1,aU.bp,aU.bw⟩:ay).aQ.xK),(.d (.sl (bP (⟨aH.1,aU.bp,aU.bw⟩:ay).aQ.xL))),(bq (⟨aH.1,aU.bp,aU.bw⟩:ay).bp),(.vec 5 0 bU.length bU.length 2)], .iE ((cb.set v20 eC.1).map jY)])
theorem acu(N:Nat)(v1:ao)(r:ao×Int)(J:Ld N v1=some r):bW Tryz.prog 86 [(aE v1),(.fn 87 [])] [] fun r1 h1=>r1=(.bX [(aE r.1),(an r.2)])∧h1=[]:=(XR N N) v1 r J
def A1(N:Nat)(v1:ao):Option ao:=
 Option.bind (Ld N v1) fun v2=>
 some v2.1
theorem WT(N:Nat)(v1:ao)(r:ao)(J:A1 N v1=some r):bm Tryz.prog 55 [(aE v1)] (·=(aE r)):=by
 rw[A1]at J;refine bK Tryz.func55 (by kernel_rfl) (by kernel_rfl) ?_;obtain⟨v2,h1,J⟩:=ar J;obtain rfl:=sj J;exact wr ai [[],[(4,⟨_,_, .rq (db:=[(aE v1),(.fn 87 [])]) (h:=[.cells (aE v1).cells, .cells iz]) (l:=[]) (by kernel_rfl) (by kernel_rfl) (by kernel_rfl) (by kernel_rfl) (acu N v1 v2 h1)⟩)],[]]
end Go.Proofs.YtphmhnabilhbgaaGreatDoor
