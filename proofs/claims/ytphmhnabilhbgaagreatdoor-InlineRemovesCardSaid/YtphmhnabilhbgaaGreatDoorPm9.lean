/-
  Part 9 of the proof: PQ3.
-/
import Derived.Test.YtphmhnabilhbgaaGreatDoorPm8
namespace Go.Proofs.YtphmhnabilhbgaaGreatDoor
open Go.RowKit
set_option maxRecDepth 100000
set_option maxHeartbeats 0
set_option linter.unusedVariables false
def fq:ar:=⟨(0:Int),(bs []),C6,fb,dB,[],[]⟩
def ox(v:ar)(r:agU AV):agU AV:=(ao v.aQ)::(bp v.aq)::(bt v.dm.xN)::(bt v.dm.xD)::(ao v.aC.bW)::(ao v.aC.ca)::(ao v.aC.cF)::(ao v.aC.cE)::(ao v.aC.cJ)::r
def uT(N:Nat)(v4:bn×(agU aw)×Bool)(v2:aY)(v3:agU (agV×Int)):agU az→Nat→agW (bn×Int)
 |[],_=>
  some (v4.1,(0:Int))
 |v7::v8,v5=>
  Option.bind (AI N v7 v2 v3) fun v9=>
  bif (v9 !=(0:Int))then
   some (fb,v9)
  else
   (uT N v4 v2 v3 v8 (v5+1))
def Cf(N:Nat)(v1:ar)(v2:aY)(v3:agU (agV×Int)):agW (bn×Int):=
 Option.bind (zR N v2 v1.aq) fun v4=>
 bif v4.2.2 then
  bif ((v1.xIdx.length:Int) !=(v4.2.1.length:Int))then
   some (fb,(11:Int))
  else
   uT N v4 v2 v3 v1.xIdx 0
 else
  some (fb,(9:Int))
theorem Xs(N:Nat)(v1:ar)(v2:aY)(v3:agU (agV×Int))(r:bn×Int)(J:Cf N v1 v2 v3=some r):bD Tryz.prog 171 [(.ptr 0 0),(aD v1)] [.cells (dx v2 [(.mp 1)]), .map (dp v3)] fun r1 h1=>r1=(.bU [(gO r.1),(ao r.2)])∧h1=[.cells (dx v2 [(.mp 1)]), .map (dp v3)]:=by
 rw[Cf]at J;refine dS 2 Tryz.func171 (by kernel_rfl) (by kernel_rfl) (agd rfl) ?_;obtain⟨v4,h1,J⟩:=au J;refine ax ak [[],[(19,cL (Un N v2 v1.aq v4 h1))],[]] ?_;refine bc J (fun h2 J=> ?_) fun h2 J=> ?_
 ·refine ax ak [[(0,bF (dH h2))],[(7,oL v1.xIdx cW),(13,oL v4.2.1 cd)]] ?_;refine bc J (fun h3 J=> ?_) fun h3 J=> ?_
  ·cases J;exact bH ak [[(0,bT h3)],[]]
  refine ax ak [[(0,bF h3)],[(7,oL v1.xIdx cW)]] ?_;refine dj 34 (bC v1.xIdx) (by kernel_rfl) fun h4=> ?_;have h5:=cP cW h4;refine c9 ak 1 [] [0,4,6,34,35,36] 5 (fun((v5,v6):Nat×(agU az))=>⟨49,[(0,(.ptr 0 0)),(4,(.ptr 3 0)),(6,(.ptr 4 0)),(34,(.d (.sl (bC v1.xIdx)))),(35,(ao (v1.xIdx.length:Int))),(36,(ao (v5:Int)))],[.cells (dx v2 [(.mp 1)]), .map (dp v3), .cells (aD v1).cells, .cells ld, .cells (gO v4.1).cells]⟩) (fun((v5,v6):Nat×(agU az))=>v1.xIdx.drop v5=v6∧uT N v4 v2 v3 v6 v5=some r) (fun((v5,v6):Nat×(agU az))=>v6.length) (0,v1.xIdx) ⟨rfl,J⟩ ?_;rintro⟨v5,v6⟩ ⟨h6,J⟩ f1 ba;cases v6 with
  |nil=>
   rw[uT]at J;cases J;exact bH ak [[],[(0,bF (ck h6))],[]]
  |cons v7 v8=>
   rw[uT]at J;obtain⟨v9,h7,J⟩:=au J;refine ax ak [[],[(0,bT (cf h6))],[(1,oE (ik (bS h6)))],[(7,⟨_,_, .rq (cb:=[(.ptr 0 0),(eC v7)]) (h:=[.cells (dx v2 [(.mp 1)]), .map (dp v3), .cells (aD v1).cells, .cells ld, .cells (gO v4.1).cells, .cells (eC v7).cells]) (l:=[0,1]) (by kernel_rfl) (by kernel_rfl) (by kernel_rfl) (by kernel_rfl) (acO N v7 v2 v3 v9 h7)⟩)],[]] ?_;refine bc J (fun h8 J=> ?_) fun h8 J=> ?_
   ·cases J;exact bH ak [[(0,bT h8)],[]]
   exact cU ak ba (v5+1,v8) [[(0,bF h8)],[(2,oq (cx h6 rfl h5))]] ⟨ct h6,J⟩
 cases J;exact bH ak [[(0,bT (dK h2))],[]]
def wR(N:Nat)(v1:bn)(v2:bn):agW Int:=
 bif ((v1.bW==v2.bW)&&((v1.ca==v2.ca)&&((v1.cF==v2.cF)&&((v1.cE==v2.cE)&&((v1.cJ==v2.cJ)&&true)))))then
  some (0:Int)
 else
  some (10:Int)
theorem HH(N:Nat)(v1:bn)(v2:bn)(r:Int)(J:wR N v1 v2=some r):bA Tryz.prog 169 [(gO v1),(gO v2)] (·=(ao r)):=by
 rw[wR]at J;refine bZ Tryz.func169 (by kernel_rfl) (by kernel_rfl) ?_;refine ax ak [[],[]] ?_;refine bc J (fun h1 J=> ?_) fun h1 J=> ?_
 ·cases J;exact wr ak [[(0,bF (dH h1))],[]]
 cases J;exact wr ak [[(0,bT (dK h1))],[]]
def xq(N:Nat)(v8:agU bn)(aK:Bool):agW (bn×Int):=
 bif aK then
  Option.bind (v8[0]?) fun aR=>
  Option.bind (v8[1]?) fun bG=>
  Option.bind (wR N aR bG) fun v20=>
  some (fb,v20)
 else
  Option.bind (v8[0]?) fun v21=>
  Option.bind (v8[1]?) fun cY=>
  Option.bind (wR N v21 cY) fun cz=>
  some (v21,cz)
def wI(N:Nat)(v1:ar)(v8:agU bn)(aX:Bool):agW (bn×Int):=
 bif aX then
  some (fb,(0:Int))
 else
  bif (v1.aQ==(13:Int))then
   xq N v8 (v1.aQ==(13:Int))
  else
   bif (v1.aQ==(14:Int))then
    xq N v8 (v1.aQ==(14:Int))
   else
    xq N v8 (v1.aQ==(15:Int))
def zB(N:Nat)(v1:ar)(v2:aY)(v3:agU (agV×Int))(v8:agU bn)(v9:Bool):agW (bn×Int):=
 bif v9 then
  some (v1.aC,(0:Int))
 else
  bif (v1.aQ==(2:Int))then
   Option.bind (wZ N v1.aL v2 v3) fun v10=>
   some ((⟨(3:Int),(0:Int),(0:Int),(0:Int),(0:Int)⟩:bn),v10)
  else
   bif (v1.aQ==(3:Int))then
    Option.bind (Cf N v1 v2 v3) fun v11=>
    some (v11.1,v11.2)
   else
    bif (v1.aQ==(8:Int))then
     Option.bind (v8[0]?) fun v12=>
     some (v12,(0:Int))
    else
     bif (v1.aQ==(11:Int))then
      Option.bind (v8[1]?) fun aH=>
      Option.bind (v8[2]?) fun aA=>
      Option.bind (wR N aH aA) fun aT=>
      some (aH,aT)
     else
      bif (v1.aQ==(16:Int))then
       wI N v1 v8 (v1.aQ==(16:Int))
      else
       bif (v1.aQ==(17:Int))then
        wI N v1 v8 (v1.aQ==(17:Int))
       else
        wI N v1 v8 (v1.aQ==(18:Int))
def nN(N:Nat)(v1:ar)(v2:aY)(v3:agU (agV×Int))(Ps:ar→aY→(agU (agV×Int))→agW (bn×Int)):agU ar→Nat→(agU bn)→agW (bn×Int)
 |[],_,v8=>
  bif (v1.aQ==(1:Int))then
   zB N v1 v2 v3 v8 (v1.aQ==(1:Int))
  else
   zB N v1 v2 v3 v8 (v1.aQ==(12:Int))
 |v6::v7,v4,v8=>
  Option.bind (Ps v6 v2 v3) fun v24=>
  bif (v24.2 !=(0:Int))then
   some (fb,v24.2)
  else
   bif (Nat.ble ((v8.length+1)*40) 140737488355328)then
   (fun bE=>nN N v1 v2 v3 Ps v7 (v4+1) bE) (v8++[v24.1])
   else none
def q7(N:Nat):Nat→ar→aY→(agU (agV×Int))→agW (bn×Int)
 |0,_,_,_=>none
 |d+1,v1,v2,v3=>
  nN N v1 v2 v3 (q7 N d) v1.a7 0 []
def Ih(N:Nat)(v1:ar)(v2:aY)(v3:agU (agV×Int)):agW (bn×Int):=q7 N N v1 v2 v3
theorem acJ(N:Nat):∀d:Nat,(∀(v1:ar)(v2:aY)(v3:agU (agV×Int))(r:bn×Int),q7 N d v1 v2 v3=some r→bD Tryz.prog 138 [(.ptr 0 0),(aD v1)] [.cells (dx v2 [(.mp 1)]), .map (dp v3)] fun r1 h1=>r1=(.bU [(gO r.1),(ao r.2)])∧h1=[.cells (dx v2 [(.mp 1)]), .map (dp v3)]):=by
 intro d
 induction d with
 |zero=>intro v1 v2 v3 r J;rw[q7]at J;cases J
 |succ d ih=>
  have aab:=ih;intro v1 v2 v3 r J;rw[q7]at J;refine dS 2 Tryz.func138 (by kernel_rfl) (by kernel_rfl) (agd rfl) ?_;refine ax ak [[],[],[(7,oL v1.a7 da)]] ?_;refine qQ 6 42 5 [] (.inr (by kernel_rfl)) ?_;refine dj 13 (cQ v1.a7) (by kernel_rfl) fun h1=> ?_;have h2:=cP da h1;refine c9 ak 1 [] [0,3,4,6,13,14,15] 5 (fun((v4,v5,v8):Nat×(agU ar)×(agU bn))=>⟨102,[(0,(.ptr 0 0)),(3,(.ptr 2 0)),(4,(.ptr 3 0)),(6,(.own 4 (kP v8))),(13,(.d (.sl (cQ v1.a7)))),(14,(ao (v1.a7.length:Int))),(15,(ao (v4:Int)))],[.cells (dx v2 [(.mp 1)]), .map (dp v3), .cells (aD v1).cells, .cells ld, .front 42 5 v8.length]⟩) (fun((v4,v5,v8):Nat×(agU ar)×(agU bn))=>v1.a7.drop v4=v5∧nN N v1 v2 v3 (q7 N d) v5 v4 v8=some r) (fun((v4,v5,v8):Nat×(agU ar)×(agU bn))=>v5.length) (0,v1.a7,[]) ⟨rfl,J⟩ ?_;rintro⟨v4,v5,v8⟩ ⟨h3,J⟩ f1 ba;cases v5 with
  |nil=>
   rw[nN]at J;refine ni ak 2 [[],[(0,bF (ck h3))],[],[],[]] [0,3,4,6,11,35,36] 5 (fun(v9:Bool)=>⟨102,[(0,(.ptr 0 0)),(3,(.ptr 2 0)),(4,(.ptr 3 0)),(6,(.own 4 (kP v8))),(11,(.fn 169 [])),(35,(ao v1.aQ)),(36,(aU v9))],[.cells (dx v2 [(.mp 1)]), .map (dp v3), .cells (aD v1).cells, .cells ld, .front 42 5 v8.length]⟩) (fun(v9:Bool)=>zB N v1 v2 v3 v8 v9=some r) ?_ ?_
   ·intro f2 fD;refine bc J (fun gL J=> ?_) fun gL J=> ?_
    ·exact dN ak fD (v1.aQ==(1:Int)) [[(0,bT gL)]] J
    exact dN ak fD (v1.aQ==(12:Int)) [[(0,bF gL)],[]] J
   rintro v9 J
   try dsimp only at J
   rw[zB]at J;refine bc J (fun h4 J=> ?_) fun h4 J=> ?_
   ·cases J;exact bH ak [[(0,bT h4)],[]]
   refine ax ak [[(0,bF h4)],[]] ?_;refine bc J (fun h5 J=> ?_) fun h5 J=> ?_
   ·obtain⟨v10,h6,J⟩:=au J;cases J;exact bH ak [[(0,bT h5)],[(13,⟨_,_, .rq (cb:=[(.ptr 0 0),(bY v1.aL)]) (h:=[.cells (dx v2 [(.mp 1)]), .map (dp v3), .cells (aD v1).cells, .cells ld, .front 42 5 v8.length]) (l:=[0,1]) (by kernel_rfl) (by kernel_rfl) (by kernel_rfl) (by kernel_rfl) (Hx N v1.aL v2 v3 v10 h6)⟩)]]
   refine ax ak [[(0,bF h5)],[]] ?_;refine bc J (fun h7 J=> ?_) fun h7 J=> ?_
   ·obtain⟨v11,h8,J⟩:=au J;cases J;exact bH ak [[(0,bT h7)],[(7,⟨_,_, .rq (cb:=[(.ptr 0 0),(aD v1)]) (h:=[.cells (dx v2 [(.mp 1)]), .map (dp v3), .cells (aD v1).cells, .cells ld, .front 42 5 v8.length]) (l:=[0,1]) (by kernel_rfl) (by kernel_rfl) (by kernel_rfl) (by kernel_rfl) (Xs N v1 v2 v3 v11 h8)⟩)]]
   refine ax ak [[(0,bF h7)],[]] ?_;refine bc J (fun h9 J=> ?_) fun h9 J=> ?_
   ·obtain⟨v12,aJ,J⟩:=au J;cases J;exact bH ak [[(0,bT h9)],[(4,oE (k:=0) (p8 aJ))]]
   refine ax ak [[(0,bF h9)],[]] ?_;refine bc J (fun bQ J=> ?_) fun bQ J=> ?_
   ·obtain⟨aH,cl,J⟩:=au J;obtain⟨aA,dg,J⟩:=au J;obtain⟨aT,cg,J⟩:=au J;cases J;exact bH ak [[(0,bT bQ)],[(4,oE (k:=1) (p8 cl)),(16,oE (k:=1) (p8 cl)),(25,oE (k:=2) (p8 dg)),(31,cL (HH N aH aA aT cg))]]
   refine ni ak 3 [[(0,bF bQ)],[]] [4,6,11,35,73] 5 (fun(aX:Bool)=>⟨102,[(4,(.ptr 3 0)),(6,(.own 4 (kP v8))),(11,(.fn 169 [])),(35,(ao v1.aQ)),(73,(aU aX))],[.cells (dx v2 [(.mp 1)]), .map (dp v3), .cells (aD v1).cells, .cells ld, .front 42 5 v8.length]⟩) (fun(aX:Bool)=>wI N v1 v8 aX=some r) ?_ ?_
   ·intro f3 lK;refine bc J (fun jn J=> ?_) fun jn J=> ?_
    ·exact dN ak lK (v1.aQ==(16:Int)) [[(0,bT jn)]] J
    refine ax ak [[(0,bF jn)],[]] ?_;refine bc J (fun gR J=> ?_) fun gR J=> ?_
    ·exact dN ak lK (v1.aQ==(17:Int)) [[(0,bT gR)]] J
    exact dN ak lK (v1.aQ==(18:Int)) [[(0,bF gR)],[]] J
   rintro aX J
   try dsimp only at J
   rw[wI]at J;refine bc J (fun cV J=> ?_) fun cV J=> ?_
   ·cases J;exact bH ak [[(0,bT cV)],[]]
   refine ni ak 4 [[(0,bF cV)],[]] [4,6,11,78] 5 (fun(aK:Bool)=>⟨102,[(4,(.ptr 3 0)),(6,(.own 4 (kP v8))),(11,(.fn 169 [])),(78,(aU aK))],[.cells (dx v2 [(.mp 1)]), .map (dp v3), .cells (aD v1).cells, .cells ld, .front 42 5 v8.length]⟩) (fun(aK:Bool)=>xq N v8 aK=some r) ?_ ?_
   ·intro f4 oU;refine bc J (fun iH J=> ?_) fun iH J=> ?_
    ·exact dN ak oU (v1.aQ==(13:Int)) [[(0,bT iH)]] J
    refine ax ak [[(0,bF iH)],[]] ?_;refine bc J (fun gU J=> ?_) fun gU J=> ?_
    ·exact dN ak oU (v1.aQ==(14:Int)) [[(0,bT gU)]] J
    exact dN ak oU (v1.aQ==(15:Int)) [[(0,bF gU)],[]] J
   rintro aK J
   try dsimp only at J
   rw[xq]at J;refine bc J (fun b9 J=> ?_) fun b9 J=> ?_
   ·obtain⟨aR,c8,J⟩:=au J;obtain⟨bG,cr,J⟩:=au J;obtain⟨v20,dk,J⟩:=au J;cases J;exact bH ak [[(0,bT b9)],[(10,oE (k:=0) (p8 c8)),(19,oE (k:=1) (p8 cr)),(25,cL (HH N aR bG v20 dk))]]
   obtain⟨v21,eY,J⟩:=au J;obtain⟨cY,gB,J⟩:=au J;obtain⟨cz,gn,J⟩:=au J;cases J;exact bH ak [[(0,bF b9)],[(4,oE (k:=0) (p8 eY)),(16,oE (k:=0) (p8 eY)),(25,oE (k:=1) (p8 gB)),(31,cL (HH N v21 cY cz gn))]]
  |cons v6 v7=>
   rw[nN]at J;obtain⟨v24,kF,J⟩:=au J;refine ax ak [[],[(0,bT (cf h3))],[(1,oE (lh (bS h3)))],[(7,⟨_,_, .rq (cb:=[(.ptr 0 0),(aD v6)]) (h:=[.cells (dx v2 [(.mp 1)]), .map (dp v3), .cells (aD v1).cells, .cells ld, .front 42 5 v8.length, .cells (aD v6).cells]) (l:=[0,1]) (by kernel_rfl) (by kernel_rfl) (by kernel_rfl) (by kernel_rfl) (aab v6 v2 v3 v24 kF)⟩)],[]] ?_;refine bc J (fun hJ J=> ?_) fun hJ J=> ?_
   ·cases J;exact bH ak [[(0,bT hJ)],[]]
   obtain⟨kZ,J⟩:=dO J;exact cU ak ba (v4+1,v7,(v8++[v24.1])) [[(0,bF hJ)],[(10,⟨_,_, .app (xs:=kP v8) (ys:=kP [v24.1]) (zs:=kP (v8++[v24.1])) (n:=(v8++[v24.1]).length) ky.symm Tw Tw (by rw[(ky (l:=v8)),(ky (l:=[v24.1]))];exact(dQ kZ (by decide)).1) (by rw[(ky (l:=v8)),(ky (l:=[v24.1]))];exact(dQ kZ (by decide)).2) VI (by first|(rw[(ky (l:=v8)),(ky (l:=[v24.1]))];done)|(rw[(ky (l:=v8)),(ky (l:=[v24.1]))];rfl)|(rw[(ky (l:=v8)),(ky (l:=[v24.1])),af6];done)|(rw[(ky (l:=v8)),(ky (l:=[v24.1])),af6];rfl)|(rw[(ky (l:=v8)),(ky (l:=[v24.1])),agq]))⟩)],[(2,oq (cx h3 rfl h2))]] ⟨ct h3,J⟩
theorem acW(N:Nat)(v1:ar)(v2:aY)(v3:agU (agV×Int))(r:bn×Int)(J:Ih N v1 v2 v3=some r):bD Tryz.prog 138 [(.ptr 0 0),(aD v1)] [.cells (dx v2 [(.mp 1)]), .map (dp v3)] fun r1 h1=>r1=(.bU [(gO r.1),(ao r.2)])∧h1=[.cells (dx v2 [(.mp 1)]), .map (dp v3)]:=(acJ N N) v1 v2 v3 r J
def n5(N:Nat)(v3:ar)(v1:aY):agU agV→Nat→(agU (agV×Int))→agW (bn×Int)
 |[],_,aT=>
  Option.bind (Ih N v3 v1 aT) fun aX=>
  bif (aX.2 !=(0:Int))then
   some (fb,aX.2)
  else
   some (aX.1,(0:Int))
 |aH::aA,v11,aT=>
  bif (Nat.blt aT.length 9223372036854775807)then
  (fun fx=>n5 N v3 v1 aA (v11+1) fx) ((aH,(3:Int))::aT)
  else none
def tV(N:Nat)(v3:ar)(v1:aY)(v2:agU agV):agU agV→Nat→(agU (agV×Int))→agW (bn×Int)
 |[],_,v10=>
  n5 N v3 v1 v2 0 v10
 |v8::v9,v6,v10=>
  bif (Nat.blt v10.length 9223372036854775807)then
  (fun bE=>tV N v3 v1 v2 v9 (v6+1) bE) ((v8,(1:Int))::v10)
  else none
def AU(N:Nat)(v1:aY)(v2:agU agV)(v3:ar):agW (bn×Int):=
 Option.bind (zn N v3) fun v4=>
 bif (v4 !=(0:Int))then
  some (fb,v4)
 else
  Option.bind (wJ N v3) fun v5=>
  bif v5 then
   some (fb,(10:Int))
  else
   tV N v3 v1 v2 v1.bu 0 []
theorem YL(N:Nat)(v1:aY)(v2:agU agV)(v3:ar)(r:bn×Int)(J:AU N v1 v2 v3=some r):bA Tryz.prog 102 [(aZ v1),(.d (.sl (aB v2))),(aD v3)] (·=(.bU [(gO r.1),(ao r.2)])):=by
 rw[AU]at J;refine bZ Tryz.func102 (by kernel_rfl) (by kernel_rfl) ?_;obtain⟨v4,h1,J⟩:=au J;refine ax ak [[],[(4,cL (ZD N v3 v4 h1))],[]] ?_;refine bc J (fun h2 J=> ?_) fun h2 J=> ?_
 ·cases J;exact wr ak [[(0,bT h2)],[]]
 obtain⟨v5,h3,J⟩:=au J;refine ax ak [[(0,bF h2)],[(4,cL (Tb N v3 v5 h3))]] ?_;refine bc J (fun h4 J=> ?_) fun h4 J=> ?_
 ·cases J;exact wr ak [[(0,bT h4)],[]]
 refine ax ak [[(0,bF h4)],[],[(7,oL v1.bu dz)]] ?_;refine dj 30 (aB v1.bu) (by kernel_rfl) fun h5=> ?_;have h6:=cP dz h5;refine c9 ak 1 [] [1,5,6,9,30,31,32] 5 (fun((v6,v7,v10):Nat×(agU agV)×(agU (agV×Int)))=>⟨65,[(1,(.d (.sl (aB v2)))),(5,(.ptr 1 0)),(6,(.ptr 2 0)),(9,(.ptr 4 0)),(30,(.d (.sl (aB v1.bu)))),(31,(ao (v1.bu.length:Int))),(32,(ao (v6:Int)))],[.cells (aZ v1).cells, .cells (aD v3).cells, .cells ld, .map (dp v10), .cells (dx v1 [(.mp 3)])]⟩) (fun((v6,v7,v10):Nat×(agU agV)×(agU (agV×Int)))=>v1.bu.drop v6=v7∧tV N v3 v1 v2 v7 v6 v10=some r) (fun((v6,v7,v10):Nat×(agU agV)×(agU (agV×Int)))=>v7.length) (0,v1.bu,[]) ⟨rfl,J⟩ ?_;rintro⟨v6,v7,v10⟩ ⟨h7,J⟩ f1 ba;cases v7 with
 |nil=>
  rw[tV]at J;refine ax ak [[],[(0,bF (ck h7))],[(4,oL v2 dz)]] ?_;refine dj 1 (aB v2) (by kernel_rfl) fun h8=> ?_;have h9:=cP dz h8;refine c9 ak 2 [] [5,6,9,42,43,44] 5 (fun((v11,v12,aT):Nat×(agU agV)×(agU (agV×Int)))=>⟨65,[(5,(.ptr 1 0)),(6,(.ptr 2 0)),(9,(.ptr 4 0)),(42,(.d (.sl (aB v2)))),(43,(ao (v2.length:Int))),(44,(ao (v11:Int)))],[.cells (aZ v1).cells, .cells (aD v3).cells, .cells ld, .map (dp aT), .cells (dx v1 [(.mp 3)])]⟩) (fun((v11,v12,aT):Nat×(agU agV)×(agU (agV×Int)))=>v2.drop v11=v12∧n5 N v3 v1 v12 v11 aT=some r) (fun((v11,v12,aT):Nat×(agU agV)×(agU (agV×Int)))=>v12.length) (0,v2,v10) ⟨rfl,J⟩ ?_;rintro⟨v11,v12,aT⟩ ⟨aJ,J⟩ f2 fD;cases v12 with
  |nil=>
   rw[n5]at J;obtain⟨aX,bQ,J⟩:=au J;refine ax ak [[],[(0,bF (ck aJ))],[(7,⟨_,_, .rq (cb:=[(.ptr 4 0),(aD v3)]) (h:=[.cells (aZ v1).cells, .cells (aD v3).cells, .cells ld, .map (dp aT), .cells (dx v1 [(.mp 3)])]) (l:=[4,3]) (by kernel_rfl) (by kernel_rfl) (by kernel_rfl) (by kernel_rfl) (acW N v3 v1 aT aX bQ)⟩)],[]] ?_;refine bc J (fun cl J=> ?_) fun cl J=> ?_
   ·cases J;exact wr ak [[(0,bT cl)],[]]
   cases J;exact wr ak [[(0,bF cl)],[]]
  |cons aH aA=>
   rw[n5]at J;obtain⟨dg,J⟩:=dO J;exact cU ak fD (v11+1,aA,((aH,(3:Int))::aT)) [[],[(0,bT (cf aJ))],[(1,oE (m5 (bS aJ)))],[(16,⟨_,_, .sd (o:= .none) (Kl dg)⟩)],[(2,oq (cx aJ rfl h9))]] ⟨ct aJ,J⟩
 |cons v8 v9=>
  rw[tV]at J;obtain⟨cg,J⟩:=dO J;exact cU ak ba (v6+1,v9,((v8,(1:Int))::v10)) [[],[(0,bT (cf h7))],[(1,oE (m5 (bS h7)))],[(16,⟨_,_, .sd (o:= .none) (Kl cg)⟩)],[(2,oq (cx h7 rfl h6))]] ⟨ct h7,J⟩
def AW(N:Nat)(v1:Int)(v2:aY)(v3:agU (agV×Int)):agW (Int×(agU (agV×Int))):=
 bif (decide ((0:Int)≤v1))then
 Option.bind (v2.ay[(v1).toNat]?) fun v4=>
 Option.bind (sV N v4.aq (2:Int) v2 v3) fun v5=>
 bif (v5.1 !=(0:Int))then
  some (v5.1,v5.2)
 else
  Option.bind (rL N v4.aC ([(v4.aS.length:Int),(v4.bI.length:Int)])) fun v6=>
  bif (v6 !=(0:Int))then
   some (v6,v5.2)
  else
   Option.bind (yE N v4 v2 v5.2) fun v7=>
   bif (v7 !=(0:Int))then
    some (v7,v5.2)
   else
    Option.bind (Ba N v4) fun v8=>
    bif (v8 !=(0:Int))then
     some (v8,v5.2)
    else
     bif (decide ((v1).toNat≤v2.ay.length))then
     Option.bind (Aw N v4) fun v9=>
     Option.bind (AU N (⟨v2.bu,v2.cM,v2.bk,((v2.ay.take (v1).toNat).drop 0),v2.cu⟩:aY) v9 v4.bq) fun v10=>
     bif (v10.2 !=(0:Int))then
      some (v10.2,v5.2)
     else
      bif ((v10.1.bW==v4.aC.bW)&&((v10.1.ca==v4.aC.ca)&&((v10.1.cF==v4.aC.cF)&&((v10.1.cE==v4.aC.cE)&&((v10.1.cJ==v4.aC.cJ)&&true)))))then
       some ((0:Int),v5.2)
      else
       some ((10:Int),v5.2)
     else none
 else none
theorem Xn(N:Nat)(v1:Int)(v2:aY)(v3:agU (agV×Int))(r:Int×(agU (agV×Int)))(J:AW N v1 v2 v3=some r):bD Tryz.prog 63 [(.ptr 0 0),(ao v1)] [.cells (dx v2 [(.mp 1)]), .map (dp v3)] fun r1 h1=>r1=(ao r.1)∧h1=[.cells (dx v2 [(.mp 1)]), .map (dp r.2)]:=by
 rw[AW]at J;refine dS 2 Tryz.func63 (by kernel_rfl) (by kernel_rfl) (agd rfl) ?_;obtain⟨h2,J⟩:=dO J;obtain⟨v4,h1,J⟩:=au J;obtain⟨v5,h3,J⟩:=au J;refine ax ak [[],[(19,⟨_,_, .el (xs:=bP v2.ay) (i:=v1) (of_decide_eq_true h2) (gP h1)⟩)],[(10,⟨_,_, .iN (cb:=[(.ptr 0 0),(bp v4.aq),(ao (2:Int))]) (h:=[.cells (dx v2 [(.mp 1)]), .map (dp v3), .cells (cp v4).cells]) (l:=[0,1]) (by kernel_rfl) (by kernel_rfl) (by kernel_rfl) (by kernel_rfl) (II N v4.aq (2:Int) v2 v3 v5 h3)⟩)],[]] ?_;refine bc J (fun h4 J=> ?_) fun h4 J=> ?_
 ·cases J;exact bH ak [[(0,bT h4)],[]]
 obtain⟨v6,h5,J⟩:=au J;refine ax ak [[(0,bF h4)],[(13,oL v4.aS cK),(22,oL v4.bI cK),(28,cL (UU N v4.aC ([(v4.aS.length:Int),(v4.bI.length:Int)]) v6 h5))],[]] ?_;refine bc J (fun h6 J=> ?_) fun h6 J=> ?_
 ·cases J;exact bH ak [[(0,bT h6)],[]]
 obtain⟨v7,h7,J⟩:=au J;refine ax ak [[(0,bF h6)],[(7,⟨_,_, .rq (cb:=[(.ptr 0 0),(cp v4)]) (h:=[.cells (dx v2 [(.mp 1)]), .map (dp v5.2), .cells (cp v4).cells]) (l:=[0,1]) (by kernel_rfl) (by kernel_rfl) (by kernel_rfl) (by kernel_rfl) (abU N v4 v2 v5.2 v7 h7)⟩)],[]] ?_;refine bc J (fun h8 J=> ?_) fun h8 J=> ?_
 ·cases J;exact bH ak [[(0,bT h8)],[]]
 obtain⟨v8,h9,J⟩:=au J;refine ax ak [[(0,bF h8)],[(4,cL (ZU N v4 v8 h9))],[]] ?_;refine bc J (fun aJ J=> ?_) fun aJ J=> ?_
 ·cases J;exact bH ak [[(0,bT aJ)],[]]
 obtain⟨bQ,J⟩:=dO J;obtain⟨v9,cl,J⟩:=au J;obtain⟨v10,dg,J⟩:=au J;refine ax ak [[(0,bF aJ)],[],[(19,⟨_,_, .sub (xs:=bP v2.ay) (lo:=(0:Int)) (hi:=v1) (by decide) (Nat.zero_le _) (of_decide_eq_true h2) (by rw[eI];exact(of_decide_eq_true bQ)) Oh Yl⟩)],[(7,cL (afl N v4 v9 cl)),(16,cL (YL N (⟨v2.bu,v2.cM,v2.bk,((v2.ay.take (v1).toNat).drop 0),v2.cu⟩:aY) v9 v4.bq v10 dg))],[]] ?_;refine bc J (fun cg J=> ?_) fun cg J=> ?_
 ·cases J;exact bH ak [[(0,bT cg)],[]]
 refine ax ak [[(0,bF cg)],[]] ?_;refine bc J (fun cV J=> ?_) fun cV J=> ?_
 ·cases J;exact bH ak [[(0,bF (dH cV))],[]]
 cases J;exact bH ak [[(0,bT (dK cV))],[]]
def qH(N:Nat)(cz:agU (agV×Int))(v1:aY):agU agV→Nat→Int→agW (Int×Int)
 |[],_,_=>
  some ((0:Int),(0:Int))
 |mU::wy,v24,v28=>
  bif ((gi cz mU 0) !=(2:Int))then
   some (v28,(9:Int))
  else
   bif (decide (((v24:Int)).toNat≤v1.cu.length))then
   Option.bind (qD N ((v1.cu.take ((v24:Int)).toNat).drop 0) mU) fun Me=>
   bif Me then
    some (v28,(8:Int))
   else
    (fun Wz=>qH N cz v1 wy (v24+1) Wz) (a8 (v28+(1:Int)))
   else none
def oP(N:Nat)(v1:aY):agU aG→Nat→Int→(agU (agV×Int))→agW (Int×Int)
 |[],_,cY,cz=>
  qH N cz v1 v1.cu 0 cY
 |_::v21,aR,cY,cz=>
  Option.bind (AW N (aR:Int) v1 cz) fun v30=>
  bif (v30.1 !=(0:Int))then
   some (cY,v30.1)
  else
   (fun tY aeV=>oP N v1 v21 (aR+1) tY aeV) (a8 (cY+(1:Int))) v30.2
def oM(N:Nat)(v1:aY):agU bN→Nat→Int→(agU (agV×Int))→agW (Int×Int)
 |[],_,aX,aK=>
  oP N v1 v1.ay 0 aX aK
 |aA::aT,v12,aX,aK=>
  Option.bind (yP N aA v1 aK) fun v31=>
  bif (v31.1 !=(0:Int))then
   some (aX,v31.1)
  else
   (fun jq m7=>oM N v1 aT (v12+1) jq m7) (a8 (aX+(1:Int))) v31.2
def qX(N:Nat)(v1:aY)(v7:agU (agV×Int)):agU cv→Nat→agW (Int×Int)
 |[],_=>
  oM N v1 v1.bk 0 (2:Int) v7
 |v10::v11,v8=>
  Option.bind (yO N v10 v1 v7) fun GG=>
  bif (GG !=(0:Int))then
   some ((1:Int),GG)
  else
   (qX N v1 v7 v11 (v8+1))
def tc(N:Nat)(v1:aY):agU agV→Nat→(agU (agV×Int))→agW (Int×Int)
 |[],_,v7=>
  qX N v1 v7 v1.cM 0
 |v5::v6,v3,v7=>
  Option.bind (sV N v5 (1:Int) v1 v7) fun xp=>
  bif (xp.1 !=(0:Int))then
   some ((0:Int),xp.1)
  else
   (fun bE=>tc N v1 v6 (v3+1) bE) xp.2
def se(N:Nat)(v1:aY):agW (Int×Int):=
 Option.bind (Cc N v1) fun v2=>
 bif v2 then
  tc N v1 v1.bu 0 []
 else
  some ((0:Int),(2:Int))
theorem ES(N:Nat)(v1:aY)(r:Int×Int)(J:se N v1=some r):bA Tryz.prog 30 [(aZ v1)] (·=(.bU [(ao r.1),(ao r.2)])):=by
 rw[se]at J;refine bZ Tryz.func30 (by kernel_rfl) (by kernel_rfl) ?_;obtain⟨v2,h1,J⟩:=au J;refine ax ak [[],[(4,cL (aeP N v1 v2 h1))]] ?_;refine bc J (fun h2 J=> ?_) fun h2 J=> ?_
 ·refine ax ak [[(0,bF (dH h2))],[],[(7,oL v1.bu dz)]] ?_;refine dj 27 (aB v1.bu) (by kernel_rfl) fun h3=> ?_;have h4:=cP dz h3;refine c9 ak 1 [] [1,4,27,28,29] 3 (fun((v3,v4,v7):Nat×(agU agV)×(agU (agV×Int)))=>⟨115,[(1,(.ptr 0 0)),(4,(.ptr 2 0)),(27,(.d (.sl (aB v1.bu)))),(28,(ao (v1.bu.length:Int))),(29,(ao (v3:Int)))],[.cells (aZ v1).cells, .map (dp v7), .cells (dx v1 [(.mp 1)])]⟩) (fun((v3,v4,v7):Nat×(agU agV)×(agU (agV×Int)))=>v1.bu.drop v3=v4∧tc N v1 v4 v3 v7=some r) (fun((v3,v4,v7):Nat×(agU agV)×(agU (agV×Int)))=>v4.length) (0,v1.bu,[]) ⟨rfl,J⟩ ?_;rintro⟨v3,v4,v7⟩ ⟨h5,J⟩ f1 ba;cases v4 with
  |nil=>
   rw[tc]at J;refine ax ak [[],[(0,bF (ck h5))],[(7,oL v1.cM fv)]] ?_;refine dj 41 (bw v1.cM) (by kernel_rfl) fun h6=> ?_;have h7:=cP fv h6;refine c9 ak 2 [] [1,4,41,42,43] 3 (fun((v8,v9):Nat×(agU cv))=>⟨115,[(1,(.ptr 0 0)),(4,(.ptr 2 0)),(41,(.d (.sl (bw v1.cM)))),(42,(ao (v1.cM.length:Int))),(43,(ao (v8:Int)))],[.cells (aZ v1).cells, .map (dp v7), .cells (dx v1 [(.mp 1)])]⟩) (fun((v8,v9):Nat×(agU cv))=>v1.cM.drop v8=v9∧qX N v1 v7 v9 v8=some r) (fun((v8,v9):Nat×(agU cv))=>v9.length) (0,v1.cM) ⟨rfl,J⟩ ?_;rintro⟨v8,v9⟩ ⟨h8,J⟩ f2 fD;cases v9 with
   |nil=>
    rw[qX]at J;refine ax ak [[],[(0,bF (ck h8))],[],[(7,oL v1.bk e9)]] ?_;refine dj 55 (bx v1.bk) (by kernel_rfl) fun h9=> ?_;have aJ:=cP e9 h9;refine c9 ak 3 [] [1,4,11,55,56,57] 3 (fun((v12,aH,aX,aK):Nat×(agU bN)×Int×(agU (agV×Int)))=>⟨115,[(1,(.ptr 0 0)),(4,(.ptr 2 0)),(11,(ao aX)),(55,(.d (.sl (bx v1.bk)))),(56,(ao (v1.bk.length:Int))),(57,(ao (v12:Int)))],[.cells (aZ v1).cells, .map (dp aK), .cells (dx v1 [(.mp 1)])]⟩) (fun((v12,aH,aX,aK):Nat×(agU bN)×Int×(agU (agV×Int)))=>v1.bk.drop v12=aH∧oM N v1 aH v12 aX aK=some r) (fun((v12,aH,aX,aK):Nat×(agU bN)×Int×(agU (agV×Int)))=>aH.length) (0,v1.bk,(2:Int),v7) ⟨rfl,J⟩ ?_;rintro⟨v12,aH,aX,aK⟩ ⟨bQ,J⟩ f3 lK;cases aH with
    |nil=>
     rw[oM]at J;refine ax ak [[],[(0,bF (ck bQ))],[(7,oL v1.ay eI)]] ?_;refine oD 0 3 (bP v1.ay) (by kernel_rfl) fun cl=> ?_;have dg:=cP eI cl;refine c9 ak 4 [] [1,4,11,73,74] 3 (fun((aR,bG,cY,cz):Nat×(agU aG)×Int×(agU (agV×Int)))=>⟨115,[(1,(.ptr 0 0)),(4,(.ptr 2 0)),(11,(ao cY)),(73,(ao (v1.ay.length:Int))),(74,(ao (aR:Int)))],[.cells (aZ v1).cells, .map (dp cz), .cells (dx v1 [(.mp 1)])]⟩) (fun((aR,bG,cY,cz):Nat×(agU aG)×Int×(agU (agV×Int)))=>v1.ay.drop aR=bG∧oP N v1 bG aR cY cz=some r) (fun((aR,bG,cY,cz):Nat×(agU aG)×Int×(agU (agV×Int)))=>bG.length) (0,v1.ay,aX,aK) ⟨rfl,J⟩ ?_;rintro⟨aR,bG,cY,cz⟩ ⟨cg,J⟩ f4 oU;cases bG with
     |nil=>
      rw[oP]at J;refine ax ak [[],[(0,bF (ck cg))],[(7,oL v1.cu dz)]] ?_;refine dj 88 (aB v1.cu) (by kernel_rfl) fun cV=> ?_;have b9:=cP dz cV;refine c9 ak 5 [] [1,4,11,88,89,90] 3 (fun((v24,fV,v28):Nat×(agU agV)×Int)=>⟨115,[(1,(.ptr 0 0)),(4,(.ptr 2 0)),(11,(ao v28)),(88,(.d (.sl (aB v1.cu)))),(89,(ao (v1.cu.length:Int))),(90,(ao (v24:Int)))],[.cells (aZ v1).cells, .map (dp cz), .cells (dx v1 [(.mp 1)])]⟩) (fun((v24,fV,v28):Nat×(agU agV)×Int)=>v1.cu.drop v24=fV∧qH N cz v1 fV v24 v28=some r) (fun((v24,fV,v28):Nat×(agU agV)×Int)=>fV.length) (0,v1.cu,cY) ⟨rfl,J⟩ ?_;rintro⟨v24,fV,v28⟩ ⟨c8,J⟩ f5 hf5;cases fV with
      |nil=>
       rw[qH]at J;cases J;exact wr ak [[],[(0,bF (ck c8))],[]]
      |cons mU wy=>
       rw[qH]at J;refine ax ak [[],[(0,bT (cf c8))],[(4,oE (m5 (bS c8)))],[(17,⟨_,_, .eq (BE false cz mU)⟩)]] ?_;refine bc J (fun cr J=> ?_) fun cr J=> ?_
       ·cases J;exact wr ak [[(0,bT cr)],[]]
       obtain⟨dk,J⟩:=dO J;obtain⟨Me,eY,J⟩:=au J;refine ax ak [[(0,bF cr)],[(10,⟨_,_, .sub (xs:=aB v1.cu) (lo:=(0:Int)) (hi:=(v24:Int)) (by decide) (Nat.zero_le _) (of_decide_eq_true (agN (Int.natCast_nonneg _))) (by rw[dz];exact(of_decide_eq_true dk)) wO Vc⟩),(16,cL (Jz N ((v1.cu.take ((v24:Int)).toNat).drop 0) mU Me eY))]] ?_;refine bc J (fun gB J=> ?_) fun gB J=> ?_
       ·cases J;exact wr ak [[(0,bT gB)],[]]
       exact cU ak hf5 (v24+1,wy,(a8 (v28+(1:Int)))) [[(0,bF gB)],[],[(2,oq (cx c8 rfl b9))]] ⟨ct c8,J⟩
     |cons v20 v21=>
      rw[oP]at J;obtain⟨v30,gn,J⟩:=au J;refine ax ak [[],[(0,bT (cf cg))],[],[(7,⟨_,_, .iN (cb:=[(.ptr 2 0),(ao (aR:Int))]) (h:=[.cells (aZ v1).cells, .map (dp cz), .cells (dx v1 [(.mp 1)])]) (l:=[2,1]) (by kernel_rfl) (by kernel_rfl) (by kernel_rfl) (by kernel_rfl) (Xn N (aR:Int) v1 cz v30 gn)⟩)],[]] ?_;refine bc J (fun iH J=> ?_) fun iH J=> ?_
      ·cases J;exact wr ak [[(0,bT iH)],[]]
      exact cU ak oU (aR+1,v21,(a8 (cY+(1:Int))),v30.2) [[(0,bF iH)],[],[(2,oq (cx cg rfl dg))]] ⟨ct cg,J⟩
    |cons aA aT=>
     rw[oM]at J;obtain⟨v31,gU,J⟩:=au J;refine ax ak [[],[(0,bT (cf bQ))],[(1,oE (s5 (bS bQ)))],[(7,⟨_,_, .iN (cb:=[(.ptr 2 0),(lC aA)]) (h:=[.cells (aZ v1).cells, .map (dp aK), .cells (dx v1 [(.mp 1)]), .cells (lC aA).cells]) (l:=[2,1]) (by kernel_rfl) (by kernel_rfl) (by kernel_rfl) (by kernel_rfl) (acH N aA v1 aK v31 gU)⟩)],[]] ?_;refine bc J (fun jn J=> ?_) fun jn J=> ?_
     ·cases J;exact wr ak [[(0,bT jn)],[]]
     exact cU ak lK (v12+1,aT,(a8 (aX+(1:Int))),v31.2) [[(0,bF jn)],[],[(2,oq (cx bQ rfl aJ))]] ⟨ct bQ,J⟩
   |cons v10 v11=>
    rw[qX]at J;obtain⟨GG,gR,J⟩:=au J;refine ax ak [[],[(0,bT (cf h8))],[(1,oE (AT (bS h8)))],[(7,⟨_,_, .rq (cb:=[(.ptr 2 0),(lV v10)]) (h:=[.cells (aZ v1).cells, .map (dp v7), .cells (dx v1 [(.mp 1)]), .cells (lV v10).cells]) (l:=[2,1]) (by kernel_rfl) (by kernel_rfl) (by kernel_rfl) (by kernel_rfl) (Yv N v10 v1 v7 GG gR)⟩)],[]] ?_;refine bc J (fun gL J=> ?_) fun gL J=> ?_
    ·cases J;exact wr ak [[(0,bT gL)],[]]
    exact cU ak fD (v8+1,v11) [[(0,bF gL)],[(2,oq (cx h8 rfl h7))]] ⟨ct h8,J⟩
  |cons v5 v6=>
   rw[tc]at J;obtain⟨xp,kF,J⟩:=au J;refine ax ak [[],[(0,bT (cf h5))],[(1,oE (m5 (bS h5)))],[(7,⟨_,_, .iN (cb:=[(.ptr 2 0),(bp v5),(ao (1:Int))]) (h:=[.cells (aZ v1).cells, .map (dp v7), .cells (dx v1 [(.mp 1)])]) (l:=[2,1]) (by kernel_rfl) (by kernel_rfl) (by kernel_rfl) (by kernel_rfl) (II N v5 (1:Int) v1 v7 xp kF)⟩)],[]] ?_;refine bc J (fun hJ J=> ?_) fun hJ J=> ?_
   ·cases J;exact wr ak [[(0,bT hJ)],[]]
   exact cU ak ba (v3+1,v6,xp.2) [[(0,bF hJ)],[(2,oq (cx h5 rfl h4))]] ⟨ct h5,J⟩
 cases J;exact wr ak [[(0,bT (dK h2))],[]]
def GH(N:Nat)(v1:az)(v2:agV):agW Bool:=
 some (bL v1.aV==bL v2)
theorem Y6(N:Nat)(v1:az)(v2:agV)(r:Bool)(J:GH N v1 v2=some r):bD Tryz.prog 35 [(eC v1),(.ptr 0 0)] [.cells [(bp v2)]] fun r1 h1=>r1=(aU r)∧h1=[.cells [(bp v2)]]:=by
 rw[GH]at J;refine dS 1 Tryz.func35 (by kernel_rfl) (by kernel_rfl) (agd rfl) ?_;cases J;exact bH ak [[],[]]
def tp(N:Nat)(v2:agV):agU az→Nat→agW Int
 |[],_=>
  some (-1:Int)
 |v5::v6,v3=>
  Option.bind (GH N v5 v2) fun v7=>
  bif v7 then
   some (v3:Int)
  else
   (tp N v2 v6 (v3+1))
def ET(N:Nat)(v1:agU az)(v2:agV):agW Int:=
 tp N v2 v1 0
theorem Xg(N:Nat)(v1:agU az)(v2:agV)(r:Int)(J:ET N v1 v2=some r):bD Tryz.prog 72 [(.d (.sl (bC v1))),(.fn 35 [(.ptr 0 0)])] [.cells [(bp v2)]] fun r1 h1=>r1=(ao r)∧h1=[.cells [(bp v2)]]:=by
 rw[ET]at J;refine dS 1 Tryz.func72 (by kernel_rfl) (by kernel_rfl) (agd rfl) ?_;refine ax ak [[],[(4,oL v1 cW)]] ?_;refine dj 0 (bC v1) (by kernel_rfl) fun h1=> ?_;have h2:=cP cW h1;refine c9 ak 1 [] [0,1,7,8] 1 (fun((v3,v4):Nat×(agU az))=>⟨19,[(0,(.d (.sl (bC v1)))),(1,(.fn 35 [(.ptr 0 0)])),(7,(ao (v1.length:Int))),(8,(ao (v3:Int)))],[.cells [(bp v2)]]⟩) (fun((v3,v4):Nat×(agU az))=>v1.drop v3=v4∧tp N v2 v4 v3=some r) (fun((v3,v4):Nat×(agU az))=>v4.length) (0,v1) ⟨rfl,J⟩ ?_;rintro⟨v3,v4⟩ ⟨h3,J⟩ f1 ba;cases v4 with
 |nil=>
  rw[tp]at J;cases J;exact bH ak [[],[(0,bF (ck h3))],[]]
 |cons v5 v6=>
  rw[tp]at J;obtain⟨v7,h4,J⟩:=au J;refine ax ak [[],[(0,bT (cf h3))],[],[(10,oE (ik (bS h3))),(16,⟨_,_, .rq (cb:=[(eC v5),(.ptr 0 0)]) (h:=[.cells [(bp v2)]]) (l:=[0]) (by kernel_rfl) (by kernel_rfl) (by kernel_rfl) (by kernel_rfl) (Y6 N v5 v2 v7 h4)⟩)]] ?_;refine bc J (fun h5 J=> ?_) fun h5 J=> ?_
  ·cases J;exact bH ak [[(0,bT h5)],[]]
  exact cU ak ba (v3+1,v6) [[(0,bF h5)],[(2,oq (cx h3 rfl h2))]] ⟨ct h3,J⟩
def zA(N:Nat)(v1:agU az)(v2:agV):agW Bool:=
 Option.bind (ET N v1 v2) fun v3=>
 some (decide (v3≥(0:Int)))
theorem DG(N:Nat)(v1:agU az)(v2:agV)(r:Bool)(J:zA N v1 v2=some r):bD Tryz.prog 36 [(.d (.sl (bC v1))),(.fn 35 [(.ptr 0 0)])] [.cells [(bp v2)]] fun r1 h1=>r1=(aU r)∧h1=[.cells [(bp v2)]]:=by
 rw[zA]at J;refine dS 1 Tryz.func36 (by kernel_rfl) (by kernel_rfl) (agd rfl) ?_;obtain⟨v3,h1,J⟩:=au J;cases J;exact bH ak [[],[(7,⟨_,_, .rq (cb:=[(.d (.sl (bC v1))),(.fn 35 [(.ptr 0 0)])]) (h:=[.cells [(bp v2)]]) (l:=[0]) (by kernel_rfl) (by kernel_rfl) (by kernel_rfl) (by kernel_rfl) (Xg N v1 v2 v3 h1)⟩)]]
def C8(N:Nat)(v1:az):agW Bool:=
 some (!(bL v1.aV==bL (bs [])))
theorem adX(N:Nat)(v1:az)(r:Bool)(J:C8 N v1=some r):bA Tryz.prog 37 [(eC v1)] (·=(aU r)):=by
 rw[C8]at J;refine bZ Tryz.func37 (by kernel_rfl) (by kernel_rfl) ?_;cases J;exact wr ak [[],[]]
def tM(N:Nat):agU az→Nat→agW Int
 |[],_=>
  some (-1:Int)
 |v4::v5,v2=>
  Option.bind (C8 N v4) fun v6=>
  bif v6 then
   some (v2:Int)
  else
   (tM N v5 (v2+1))
def Ev(N:Nat)(v1:agU az):agW Int:=
 tM N v1 0
theorem Y5(N:Nat)(v1:agU az)(r:Int)(J:Ev N v1=some r):bD Tryz.prog 72 [(.d (.sl (bC v1))),(.fn 37 [])] [] fun r1 h1=>r1=(ao r)∧h1=[]:=by
 rw[Ev]at J;refine dS 0 Tryz.func72 (by kernel_rfl) (by kernel_rfl) (agd rfl) ?_;refine ax ak [[],[(4,oL v1 cW)]] ?_;refine dj 0 (bC v1) (by kernel_rfl) fun h1=> ?_;have h2:=cP cW h1;refine c9 ak 1 [] [0,1,7,8] 0 (fun((v2,v3):Nat×(agU az))=>⟨19,[(0,(.d (.sl (bC v1)))),(1,(.fn 37 [])),(7,(ao (v1.length:Int))),(8,(ao (v2:Int)))],[]⟩) (fun((v2,v3):Nat×(agU az))=>v1.drop v2=v3∧tM N v3 v2=some r) (fun((v2,v3):Nat×(agU az))=>v3.length) (0,v1) ⟨rfl,J⟩ ?_;rintro⟨v2,v3⟩ ⟨h3,J⟩ f1 ba;cases v3 with
 |nil=>
  rw[tM]at J;cases J;exact bH ak [[],[(0,bF (ck h3))],[]]
 |cons v4 v5=>
  rw[tM]at J;obtain⟨v6,h4,J⟩:=au J;refine ax ak [[],[(0,bT (cf h3))],[],[(10,oE (ik (bS h3))),(16,cL (adX N v4 v6 h4))]] ?_;refine bc J (fun h5 J=> ?_) fun h5 J=> ?_
  ·cases J;exact bH ak [[(0,bT h5)],[]]
  exact cU ak ba (v2+1,v5) [[(0,bF h5)],[(2,oq (cx h3 rfl h2))]] ⟨ct h3,J⟩
def Cg(N:Nat)(v1:agU az):agW Bool:=
 Option.bind (Ev N v1) fun v2=>
 some (decide (v2≥(0:Int)))
theorem adm(N:Nat)(v1:agU az)(r:Bool)(J:Cg N v1=some r):bD Tryz.prog 36 [(.d (.sl (bC v1))),(.fn 37 [])] [] fun r1 h1=>r1=(aU r)∧h1=[]:=by
 rw[Cg]at J;refine dS 0 Tryz.func36 (by kernel_rfl) (by kernel_rfl) (agd rfl) ?_;obtain⟨v2,h1,J⟩:=au J;cases J;exact bH ak [[],[(7,⟨_,_, .rq (cb:=[(.d (.sl (bC v1))),(.fn 37 [])]) (h:=[]) (l:=[]) (by kernel_rfl) (by kernel_rfl) (by kernel_rfl) (by kernel_rfl) (Y5 N v1 v2 h1)⟩)]]
def sS(N:Nat)(fa:agW Int)(v2:agV):agU ar→agW Int
 |[]=>
  fa
 |v11::v12=>
  Option.bind (zA N v11.xIdx v2) fun aH=>
  Option.bind (bif aH then some true else(bif (v11.aQ==(3:Int))then(bif (bL v11.aq==bL v2)then Option.bind (Cg N v11.xIdx) fun aA=>
  some aA else some false)else some false)) fun aT=>
  bif aT then
   some (1:Int)
  else
   (sS N fa v2 v12)
def qC(N:Nat)(v2:agV):agU aG→Nat→agW Int
 |[],_=>
  some (0:Int)
 |v8::v9,v6=>
  Option.bind (sm N v8.bq) fun v10=>
  sS N (qC N v2 v9 (v6+1)) v2 (dd v10)
def rJ(N:Nat)(v1:aY)(v2:agV):agW Int:=
 Option.bind (se N v1) fun v3=>
 bif (v3.2 !=(0:Int))then
  some v3.2
 else
  Option.bind (rH N v1 v2) fun v4=>
  bif (decide (v4<(0:Int)))then
   some (9:Int)
  else
   bif (decide ((0:Int)≤v4))then
   Option.bind (v1.ay[(v4).toNat]?) fun v5=>
   bif (v5.cG !=(0:Int))then
    some (1:Int)
   else
    qC N v2 v1.ay 0
   else none
theorem aaB(N:Nat)(v1:aY)(v2:agV)(r:Int)(J:rJ N v1 v2=some r):bA Tryz.prog 10 [(aZ v1),(bp v2)] (·=(ao r)):=by
 rw[rJ]at J;refine pk Tryz.func10 rfl (by kernel_rfl) ?_;refine gk [0,1] 0 (agh _) (s':=⟨65,[(0,(aZ v1)),(1,(bp v2))],[]⟩) (by kernel_rfl) ?_;refine aP ?_;refine rg [] [(2,(.ptr 0 0)),(3,(.ptr 1 0)),(4,(.ptr 2 0))] [.cells (aZ v1).cells, .cells [(bp v2)], .cells [(ao (0:Int))]] (by kernel_rfl) ?_;refine aP ?_;refine aP ?_;obtain⟨v3,h1,J⟩:=au J;refine rg [(4,cL (ES N v1 v3 h1))] [(6,(ao v3.2))] [.cells (aZ v1).cells, .cells [(bp v2)], .cells [(ao (0:Int))]] (by kernel_rfl) ?_;refine aP ?_;refine rg [] [(18,(aU (v3.2 !=(0:Int))))] [.cells (aZ v1).cells, .cells [(bp v2)], .cells [(ao (0:Int))]] (by kernel_rfl) ?_;rcases fS (v3.2 !=(0:Int))with h2|h2
 ·replace J:=(dM h2).symm.trans J;refine fy (t:=(v3.2 !=(0:Int))) (by kernel_rfl) h2 ?_;refine aP ?_;refine rg [] [] [.cells (aZ v1).cells, .cells [(bp v2)], .cells [(ao v3.2)]] (by kernel_rfl) ?_;refine dD (dW ?_);have hr:=agp J;subst hr;exact fJ (by kernel_rfl)
 replace J:=(fP h2).symm.trans J;refine fp (t:=(v3.2 !=(0:Int))) (by kernel_rfl) h2 ?_;refine eo ?_;refine bX ?_;refine aP ?_;obtain⟨v4,h3,J⟩:=au J;refine rg [(7,cL (yZ N v1 v2 v4 h3))] [(7,(ao v4))] [.cells (aZ v1).cells, .cells [(bp v2)], .cells [(ao (0:Int))]] (by kernel_rfl) ?_;refine aP ?_;refine aP ?_;refine rg [] [(24,(aU (decide (v4<(0:Int)))))] [.cells (aZ v1).cells, .cells [(bp v2)], .cells [(ao (0:Int))]] (by kernel_rfl) ?_;rcases fS (decide (v4<(0:Int)))with h4|h4
 ·replace J:=(dM h4).symm.trans J;refine fy (t:=(decide (v4<(0:Int)))) (by kernel_rfl) h4 ?_;refine aP ?_;refine rg [] [] [.cells (aZ v1).cells, .cells [(bp v2)], .cells [(ao (9:Int))]] (by kernel_rfl) ?_;refine dD (dW ?_);have hr:=agp J;subst hr;exact fJ (by kernel_rfl)
 replace J:=(fP h4).symm.trans J;refine fp (t:=(decide (v4<(0:Int)))) (by kernel_rfl) h4 ?_;refine eo ?_;refine bX ?_;refine aP ?_;refine aP ?_;have h6:=iu J;replace J:=(dM h6).symm.trans J;obtain⟨v5,h5,J⟩:=au J;refine rg [(10,⟨_,_, .el (xs:=bP v1.ay) (i:=v4) (of_decide_eq_true h6) (gP h5)⟩)] [(31,(aU (v5.cG !=(0:Int))))] [.cells (aZ v1).cells, .cells [(bp v2)], .cells [(ao (0:Int))]] (by kernel_rfl) ?_;rcases fS (v5.cG !=(0:Int))with h7|h7
 ·replace J:=(dM h7).symm.trans J;refine fy (t:=(v5.cG !=(0:Int))) (by kernel_rfl) h7 ?_;refine aP ?_;refine rg [] [] [.cells (aZ v1).cells, .cells [(bp v2)], .cells [(ao (1:Int))]] (by kernel_rfl) ?_;refine dD (dW ?_);have hr:=agp J;subst hr;exact fJ (by kernel_rfl)
 replace J:=(fP h7).symm.trans J;refine fp (t:=(v5.cG !=(0:Int))) (by kernel_rfl) h7 ?_;refine eo ?_;refine bX ?_;refine aP ?_;refine aP ?_;refine rg [(7,oL v1.ay eI)] [(33,(.d (.sl (bP v1.ay)))),(34,(ao (v1.ay.length:Int))),(35,(ao (0:Int)))] [.cells (aZ v1).cells, .cells [(bp v2)], .cells [(ao (0:Int))]] (by kernel_rfl) ?_;refine fi ?_;refine oJ 33 (bP v1.ay) (by kernel_rfl) fun h8=> ?_;have h9:=cP eI h8;refine Tx [3,4,33,34,35] 3 (fun((v6,v7):Nat×(agU aG))=>⟨65,[(3,(.ptr 1 0)),(4,(.ptr 2 0)),(33,(.d (.sl (bP v1.ay)))),(34,(ao (v1.ay.length:Int))),(35,(ao (v6:Int)))],[.cells (aZ v1).cells, .cells [(bp v2)], .cells [(ao (0:Int))]]⟩) (fun((v6,v7):Nat×(agU aG))=>v1.ay.drop v6=v7∧qC N v2 v7 v6=some r) (fun((v6,v7):Nat×(agU aG))=>v7.length) (0,v1.ay) (agd rfl) (by kernel_rfl) ⟨rfl,J⟩ ?_;rintro⟨v6,v7⟩ ⟨aJ,J⟩;cases v7 with
 |nil=>
  rw[qC]at J;refine aP ?_;refine rg [] [(36,(aU (decide ((v6:Int)<(v1.ay.length:Int)))))] [.cells (aZ v1).cells, .cells [(bp v2)], .cells [(ao (0:Int))]] (by kernel_rfl) ?_;refine aP ?_;refine fp (t:=(decide ((v6:Int)<(v1.ay.length:Int)))) (by kernel_rfl) (ck aJ) ?_;refine lL (iU (iU (nb rfl ?_)));refine bX ?_;refine aP ?_;refine rg [] [] [.cells (aZ v1).cells, .cells [(bp v2)], .cells [(ao (0:Int))]] (by kernel_rfl) ?_;refine dD ?_;have hr:=agp J;subst hr;exact fJ (by kernel_rfl)
 |cons v8 v9=>
  rw[qC]at J;refine aP ?_;refine rg [] [(36,(aU (decide ((v6:Int)<(v1.ay.length:Int)))))] [.cells (aZ v1).cells, .cells [(bp v2)], .cells [(ao (0:Int))]] (by kernel_rfl) ?_;refine aP ?_;refine fy (t:=(decide ((v6:Int)<(v1.ay.length:Int)))) (by kernel_rfl) (cf aJ) ?_;refine eo ?_;refine bX ?_;refine aP ?_;refine fi ?_;refine aP ?_;refine rg [(1,oE (gP (bS aJ)))] [(9,(.ptr 3 0))] [.cells (aZ v1).cells, .cells [(bp v2)], .cells [(ao (0:Int))], .cells (cp v8).cells] (by kernel_rfl) ?_;refine aP ?_;obtain⟨v10,bQ,J⟩:=au J;refine rg [(7,cL (CQ N v8.bq v10 bQ))] [(41,(.fn 70 [(.aW [cB v10] 0 0)]))] [.cells (aZ v1).cells, .cells [(bp v2)], .cells [(ao (0:Int))], .cells (cp v8).cells] (by kernel_rfl) ?_;refine fi ?_;refine gk [3,4,33,34,35,41] 4 (agd rfl) (s':=⟨65,[(3,(.ptr 1 0)),(4,(.ptr 2 0)),(33,(.d (.sl (bP v1.ay)))),(34,(ao (v1.ay.length:Int))),(35,(ao (v6:Int))),(41,(.fn 70 [(.aW [cB v10] 0 0)]))],[.cells (aZ v1).cells, .cells [(bp v2)], .cells [(ao (0:Int))], .cells (cp v8).cells]⟩) (by kernel_rfl) ?_;refine CA (m:=4) (enc:=aD) (xs:=(dd v10)) (by kernel_rfl) (F7 v10) (fun(_:Unit)=>[.cells (aZ v1).cells, .cells [(bp v2)], .cells [(ao (0:Int))], .cells (cp v8).cells]) (fun(_:Unit) l=>sS N (qC N v2 v9 (v6+1)) v2 l=some r) () (by kernel_rfl) J (by rintro _;rfl) (by rintro _;kernel_rfl) (by kernel_rfl) rfl ?_ ?_
  ·rintro _ v11 v12 J cl my nk
   try dsimp only at J
   rw[sS]at J;refine gk [3,4,33,34,35,42] 5 (agh _) (s':=⟨65,[(3,(.ptr 1 0)),(4,(.ptr 2 0)),(33,(.d (.sl (bP v1.ay)))),(34,(ao (v1.ay.length:Int))),(35,(ao (v6:Int))),(42,(aD v11))],[.cells (aZ v1).cells, .cells [(bp v2)], .cells [(ao (0:Int))], .cells (cp v8).cells, .lp .ready 42 my nk (cX 65 [(3,(.ptr 1 0)),(4,(.ptr 2 0)),(33,(.d (.sl (bP v1.ay)))),(34,(ao (v1.ay.length:Int))),(35,(ao (v6:Int))),(41,(.fn 70 [(.aW [cB v10] 0 0)]))])]⟩) (by kernel_rfl) ?_;refine re [] [(10,(.ptr 5 0))] [.cells (aZ v1).cells, .cells [(bp v2)], .cells [(ao (0:Int))], .cells (cp v8).cells, .lp .ready 42 my nk (cX 65 [(3,(.ptr 1 0)),(4,(.ptr 2 0)),(33,(.d (.sl (bP v1.ay)))),(34,(ao (v1.ay.length:Int))),(35,(ao (v6:Int))),(41,(.fn 70 [(.aW [cB v10] 0 0)]))]), .cells (aD v11).cells] (by kernel_rfl) ?_;refine bX ?_;refine⟨[.cells (aZ v1).cells, .cells [(bp v2)], .cells [(ao (0:Int))], .cells (cp v8).cells],[.cells (aD v11).cells],rfl,(by kernel_rfl),?_⟩;refine gk [3,4,10,33,34,35,42] 6 (agd rfl) (s':=⟨65,[(3,(.ptr 1 0)),(4,(.ptr 2 0)),(10,(.ptr 5 0)),(33,(.d (.sl (bP v1.ay)))),(34,(ao (v1.ay.length:Int))),(35,(ao (v6:Int))),(42,(aD v11))],[.cells (aZ v1).cells, .cells [(bp v2)], .cells [(ao (0:Int))], .cells (cp v8).cells, .lp .busy 42 my nk (cX 65 [(3,(.ptr 1 0)),(4,(.ptr 2 0)),(33,(.d (.sl (bP v1.ay)))),(34,(ao (v1.ay.length:Int))),(35,(ao (v6:Int))),(41,(.fn 70 [(.aW [cB v10] 0 0)]))]), .cells (aD v11).cells]⟩) (by kernel_rfl) ?_
   refine fi ?_;refine aP ?_;refine rg [] [(11,(.fn 35 [(.ptr 1 0)]))] [.cells (aZ v1).cells, .cells [(bp v2)], .cells [(ao (0:Int))], .cells (cp v8).cells, .lp .busy 42 my nk (cX 65 [(3,(.ptr 1 0)),(4,(.ptr 2 0)),(33,(.d (.sl (bP v1.ay)))),(34,(ao (v1.ay.length:Int))),(35,(ao (v6:Int))),(41,(.fn 70 [(.aW [cB v10] 0 0)]))]), .cells (aD v11).cells] (by kernel_rfl) ?_;refine aP ?_;obtain⟨aH,dg,J⟩:=au J;obtain⟨aT,cr,J⟩:=au J;refine N2 [(63,(aU aT))] [.cells (aZ v1).cells, .cells [(bp v2)], .cells [(ao (0:Int))], .cells (cp v8).cells, .lp .busy 42 my nk (cX 65 [(3,(.ptr 1 0)),(4,(.ptr 2 0)),(33,(.d (.sl (bP v1.ay)))),(34,(ao (v1.ay.length:Int))),(35,(ao (v6:Int))),(41,(.fn 70 [(.aW [cB v10] 0 0)]))]), .cells (aD v11).cells] ?_ ?_
   ·rcases fS aH with cg|cg
    ·replace cr:=(dM cg).symm.trans cr;have he:=agp cr;subst he;exact⟨[(10,⟨_,_, .rq (cb:=[(.d (.sl (bC v11.xIdx))),(.fn 35 [(.ptr 1 0)])]) (h:=[.cells (aZ v1).cells, .cells [(bp v2)], .cells [(ao (0:Int))], .cells (cp v8).cells, .lp .busy 42 my nk (cX 65 [(3,(.ptr 1 0)),(4,(.ptr 2 0)),(33,(.d (.sl (bP v1.ay)))),(34,(ao (v1.ay.length:Int))),(35,(ao (v6:Int))),(41,(.fn 70 [(.aW [cB v10] 0 0)]))]), .cells (aD v11).cells]) (l:=[1]) (by kernel_rfl) (by kernel_rfl) (by kernel_rfl) (by kernel_rfl) (DG N v11.xIdx v2 aH dg)⟩),(15,bT cg),(18,bT cg),(21,bT cg),(24,bT cg),(27,uN),(30,uN),(33,uN),(36,uN),(39,bT cg),(42,bT cg),(45,uN),(48,uN),(51,uN),(54,bT cg),(58,bT cg)],by kernel_rfl⟩
    replace cr:=(fP cg).symm.trans cr;rcases fS (v11.aQ==(3:Int))with cV|cV
    ·replace cr:=(dM cV).symm.trans cr;rcases fS (bL v11.aq==bL v2)with b9|b9
     ·replace cr:=(dM b9).symm.trans cr;obtain⟨aA,c8,cr⟩:=au cr;have he:=agp cr;subst he;exact⟨[(10,⟨_,_, .rq (cb:=[(.d (.sl (bC v11.xIdx))),(.fn 35 [(.ptr 1 0)])]) (h:=[.cells (aZ v1).cells, .cells [(bp v2)], .cells [(ao (0:Int))], .cells (cp v8).cells, .lp .busy 42 my nk (cX 65 [(3,(.ptr 1 0)),(4,(.ptr 2 0)),(33,(.d (.sl (bP v1.ay)))),(34,(ao (v1.ay.length:Int))),(35,(ao (v6:Int))),(41,(.fn 70 [(.aW [cB v10] 0 0)]))]), .cells (aD v11).cells]) (l:=[1]) (by kernel_rfl) (by kernel_rfl) (by kernel_rfl) (by kernel_rfl) (DG N v11.xIdx v2 aH dg)⟩),(15,bF cg),(18,bF cg),(21,bF cg),(24,bF cg),(27,bT cV),(30,bT cV),(33,bT cV),(36,bT cV),(39,bF cg),(40,bT cV),(42,bF cg),(45,bT b9),(48,bT b9),(51,bT b9),(52,⟨_,_, .rq (cb:=[(.d (.sl (bC v11.xIdx))),(.fn 37 [])]) (h:=[.cells (aZ v1).cells, .cells [(bp v2)], .cells [(ao (0:Int))], .cells (cp v8).cells, .lp .busy 42 my nk (cX 65 [(3,(.ptr 1 0)),(4,(.ptr 2 0)),(33,(.d (.sl (bP v1.ay)))),(34,(ao (v1.ay.length:Int))),(35,(ao (v6:Int))),(41,(.fn 70 [(.aW [cB v10] 0 0)]))]), .cells (aD v11).cells]) (l:=[]) (by kernel_rfl) (by kernel_rfl) (by kernel_rfl) (by kernel_rfl) (adm N v11.xIdx aA c8)⟩),(54,bF cg),(55,bT b9),(58,bF cg)],by kernel_rfl⟩
     replace cr:=(fP b9).symm.trans cr;have he:=agp cr;subst he;exact⟨[(10,⟨_,_, .rq (cb:=[(.d (.sl (bC v11.xIdx))),(.fn 35 [(.ptr 1 0)])]) (h:=[.cells (aZ v1).cells, .cells [(bp v2)], .cells [(ao (0:Int))], .cells (cp v8).cells, .lp .busy 42 my nk (cX 65 [(3,(.ptr 1 0)),(4,(.ptr 2 0)),(33,(.d (.sl (bP v1.ay)))),(34,(ao (v1.ay.length:Int))),(35,(ao (v6:Int))),(41,(.fn 70 [(.aW [cB v10] 0 0)]))]), .cells (aD v11).cells]) (l:=[1]) (by kernel_rfl) (by kernel_rfl) (by kernel_rfl) (by kernel_rfl) (DG N v11.xIdx v2 aH dg)⟩),(15,bF cg),(18,bF cg),(21,bF cg),(24,bF cg),(27,bT cV),(30,bT cV),(33,bT cV),(36,bT cV),(39,bF cg),(40,bT cV),(42,bF cg),(45,bF b9),(48,bF b9),(51,bF b9),(54,bF cg),(55,bF b9),(58,bF cg)],by kernel_rfl⟩
    replace cr:=(fP cV).symm.trans cr;have he:=agp cr;subst he;exact⟨[(10,⟨_,_, .rq (cb:=[(.d (.sl (bC v11.xIdx))),(.fn 35 [(.ptr 1 0)])]) (h:=[.cells (aZ v1).cells, .cells [(bp v2)], .cells [(ao (0:Int))], .cells (cp v8).cells, .lp .busy 42 my nk (cX 65 [(3,(.ptr 1 0)),(4,(.ptr 2 0)),(33,(.d (.sl (bP v1.ay)))),(34,(ao (v1.ay.length:Int))),(35,(ao (v6:Int))),(41,(.fn 70 [(.aW [cB v10] 0 0)]))]), .cells (aD v11).cells]) (l:=[1]) (by kernel_rfl) (by kernel_rfl) (by kernel_rfl) (by kernel_rfl) (DG N v11.xIdx v2 aH dg)⟩),(15,bF cg),(18,bF cg),(21,bF cg),(24,bF cg),(27,bF cV),(30,bF cV),(33,bF cV),(36,bF cV),(39,bF cg),(40,bF cV),(42,bF cg),(45,bF rfl),(48,bF rfl),(51,bF rfl),(54,bF cg),(55,bF rfl),(58,bF cg)],by kernel_rfl⟩
   rcases fS aT with dk|dk
   ·replace J:=(dM dk).symm.trans J;refine fy (t:=aT) (by kernel_rfl) dk ?_;refine aP ?_;refine rg [] [] [.cells (aZ v1).cells, .cells [(bp v2)], .cells [(ao (1:Int))], .cells (cp v8).cells, .lp .busy 42 my nk (cX 65 [(3,(.ptr 1 0)),(4,(.ptr 2 0)),(33,(.d (.sl (bP v1.ay)))),(34,(ao (v1.ay.length:Int))),(35,(ao (v6:Int))),(41,(.fn 70 [(.aW [cB v10] 0 0)]))]), .cells (aD v11).cells] (by kernel_rfl) ?_;refine dD (ff ?_);refine Mo [.cells (aZ v1).cells, .cells [(bp v2)], .cells [(ao (1:Int))], .cells (cp v8).cells] rfl (by kernel_rfl) (by kernel_rfl) ?_;refine(ff (ff (dW (dW (ff (dW ?_))))));have hr:=agp J;subst hr;exact fJ (by kernel_rfl)
   replace J:=(fP dk).symm.trans J;refine fp (t:=aT) (by kernel_rfl) dk ?_;refine eo ?_;refine ie ?_;refine EY [.cells (aZ v1).cells, .cells [(bp v2)], .cells [(ao (0:Int))], .cells (cp v8).cells] rfl (by kernel_rfl) (by kernel_rfl) ?_;exact⟨(),(by kernel_rfl),J⟩
  rintro _ J
  try dsimp only at J
  rw[sS]at J;refine ie ?_;refine ie ?_;refine bX ?_;refine re [(2,oq (cx aJ rfl h9))] [(35,(ao ((v6+1:Nat):Int))),(64,(ao ((v6+1:Nat):Int)))] [.cells (aZ v1).cells, .cells [(bp v2)], .cells [(ao (0:Int))], .cells (cp v8).cells, .gone] (by kernel_rfl) ?_;refine bX ?_;exact⟨(v6+1,v9),by kernel_rfl,⟨ct aJ,J⟩,agS _⟩
def FC(N:Nat)(v1:agU agV):agW (agU agV):=bif Nat.ble (v1.length*16) 140737488355328 then some v1 else none
theorem S6(N:Nat)(v1 r:agU agV)(J:FC N v1=some r):bA Tryz.prog 51 [(.d (.sl (aB v1)))] (·=(.d (.sl (aB r)))):=by
 obtain⟨hb,rfl⟩:=dJ J;have hc:=dQ hb (by decide);exact XF wO (by rw[dz];exact hc.1) (by rw[dz];exact hc.2)
def rh(N:Nat):agU bf→Nat→(agU bf)→agW ((agU bf))
 |[],_,v6=>
  some v6
 |v4::v5,v2,v6=>
  Option.bind (qJ N v4.ep) fun v7=>
  bif (Nat.ble ((v6.length+1)*48) 140737488355328)then
  (fun bE=>rh N v5 (v2+1) bE) (v6++[(⟨v4.aq,v7⟩:bf)])
  else none
def rV(N:Nat)(v1:agU bf):agW ((agU bf)):=
 rh N v1 0 []
theorem P6(N:Nat)(v1:agU bf)(r:(agU bf))(J:rV N v1=some r):bA Tryz.prog 54 [(.d (.sl (cm v1)))] (·=(.d (.sl (cm r)))):=by
 rw[rV]at J;refine bZ Tryz.func54 (by kernel_rfl) (by kernel_rfl) ?_;refine ax ak [[],[],[(4,oL v1 cK)]] ?_;refine qQ 3 64 3 [] (.inr (by kernel_rfl)) ?_;refine dj 0 (cm v1) (by kernel_rfl) fun h1=> ?_;have h2:=cP cK h1;refine c9 ak 1 [] [3,6,7,8] 1 (fun((v2,v3,v6):Nat×(agU bf)×(agU bf))=>⟨23,[(3,(.own 0 (cm v6))),(6,(.d (.sl (cm v1)))),(7,(ao (v1.length:Int))),(8,(ao (v2:Int)))],[.front 64 3 v6.length]⟩) (fun((v2,v3,v6):Nat×(agU bf)×(agU bf))=>v1.drop v2=v3∧rh N v3 v2 v6=some r) (fun((v2,v3,v6):Nat×(agU bf)×(agU bf))=>v3.length) (0,v1,[]) ⟨rfl,J⟩ ?_;rintro⟨v2,v3,v6⟩ ⟨h3,J⟩ f1 ba;cases v3 with
 |nil=>
  rw[rh]at J;cases J;exact wr ak [[],[(0,bF (ck h3))],[]]
 |cons v4 v5=>
  rw[rh]at J;obtain⟨v7,h4,J⟩:=au J;obtain⟨h5,J⟩:=dO J;exact cU ak ba (v2+1,v5,(v6++[(⟨v4.aq,v7⟩:bf)])) [[],[(0,bT (cf h3))],[(1,oE (rB (bS h3)))],[(16,cL (E3 N v4.ep v7 h4)),(25,⟨_,_, .app (xs:=cm v6) (ys:=cm [(⟨v4.aq,v7⟩:bf)]) (zs:=cm (v6++[(⟨v4.aq,v7⟩:bf)])) (n:=(v6++[(⟨v4.aq,v7⟩:bf)]).length) cK.symm uq uq (by rw[(cK (l:=v6)),(cK (l:=[(⟨v4.aq,v7⟩:bf)]))];exact(dQ h5 (by decide)).1) (by rw[(cK (l:=v6)),(cK (l:=[(⟨v4.aq,v7⟩:bf)]))];exact(dQ h5 (by decide)).2) Lx (by first|(rw[(cK (l:=v6)),(cK (l:=[(⟨v4.aq,v7⟩:bf)]))];done)|(rw[(cK (l:=v6)),(cK (l:=[(⟨v4.aq,v7⟩:bf)]))];rfl)|(rw[(cK (l:=v6)),(cK (l:=[(⟨v4.aq,v7⟩:bf)])),af6];done)|(rw[(cK (l:=v6)),(cK (l:=[(⟨v4.aq,v7⟩:bf)])),af6];rfl)|(rw[(cK (l:=v6)),(cK (l:=[(⟨v4.aq,v7⟩:bf)])),agq]))⟩)],[(2,oq (cx h3 rfl h2))]] ⟨ct h3,J⟩
def uc(N:Nat)(v1:aw):agW (aw×Int):=
 Option.bind (A9 N v1.xL) fun v2=>
 some ((⟨v1.xK,v2⟩:aw),(0:Int))
theorem Hl(N:Nat)(v1:aw)(r:aw×Int)(J:uc N v1=some r):bA Tryz.prog 87 [(bY v1)] (·=(.bU [(bY r.1),(ao r.2)])):=by
 rw[uc]at J;refine bZ Tryz.func87 (by kernel_rfl) (by kernel_rfl) ?_;obtain⟨v2,h1,J⟩:=au J;cases J;exact wr ak [[],[(13,cL (TX N v1.xL v2 h1))]]
def Ll(N:Nat)(v1:agU az):agW (agU az):=bif Nat.ble (v1.length*72) 140737488355328 then some v1 else none
theorem aat(N:Nat)(v1 r:agU az)(J:Ll N v1=some r):bD Tryz.prog 120 [(.d (.sl (bC v1)))] [] fun r1 h1=>r1=(.vec 0 0 r.length r.length 4)∧h1=[.vec 80 4 (aI (r.map fk))]:=by
 obtain⟨hb,rfl⟩:=dJ J;have hc:=dQ hb (by decide);have h1:=abi (xs:=bC v1) A4 (by rw[cW];exact hc.1) (by rw[cW];exact hc.2);have h2:aI (v1.map fk)=aI (bC v1):=by rw[pa]
 have h3:=cW (l:=v1);rw[h3]at h1;rw[h2];exact h1
def Jo(N:Nat)(v1:agU aw):agW (agU aw):=bif Nat.ble (v1.length*32) 140737488355328 then some v1 else none
theorem We(N:Nat)(v1 r:agU aw)(J:Jo N v1=some r):bD Tryz.prog 121 [(.d (.sl (cH v1)))] [] fun r1 h1=>r1=(.vec 0 0 r.length r.length 2)∧h1=[.vec 48 2 (aI (r.map ki))]:=by
 obtain⟨hb,rfl⟩:=dJ J;have hc:=dQ hb (by decide);have h1:=aeC (xs:=cH v1) tF (by rw[cd];exact hc.1) (by rw[cd];exact hc.2);have h2:aI (v1.map ki)=aI (cH v1):=by rw[pN]
 have h3:=cd (l:=v1);rw[h3]at h1;rw[h2];exact h1
def HX(N:Nat)(v1:agU ar):agW (agU ar):=bif Nat.ble (v1.length*160) 140737488355328 then some v1 else none
theorem Zt(N:Nat)(v1 r:agU ar)(J:HX N v1=some r):bD Tryz.prog 122 [(.d (.sl (cQ v1)))] [] fun r1 h1=>r1=(.vec 0 0 r.length r.length 13)∧h1=[.vec 52 13 (aI (r.map cB))]:=by
 obtain⟨hb,rfl⟩:=dJ J;have hc:=dQ hb (by decide);have h1:=Zy (xs:=cQ v1) AD (by rw[da];exact hc.1) (by rw[da];exact hc.2);have h2:aI (v1.map cB)=aI (cQ v1):=by rw[lf]
 have h3:=da (l:=v1);rw[h3]at h1;rw[h2];exact h1
def rU(N:Nat)(v8:agU az)(v3:agU az)(v9:agU ar)(v1:ar)(v2:aw×Int)(zM:ar→agW (ar×Int)):agU ar→Nat→(agU ar)→agW (ar×Int)
 |[],_,aA=>
  bif (Nat.beq v8.length v3.length)then
  bif (Nat.beq aA.length v9.length)then
  some ((⟨v1.aQ,v1.aq,v1.dm,v1.aC,v2.1,v8,aA⟩:ar),(0:Int))
  else none
  else none
 |v12::aH,v10,aA=>
  Option.bind (zM v12) fun aT=>
  bif (Nat.beq aA.length v9.length)then
  bif (decide ((v10:Int)<(v9.length:Int)))then
  Option.bind (aA[v10]?) fun aX=>
  bif (aT.2 !=(0:Int))then
   some (fq,aT.2)
  else
   (fun fx=>rU N v8 v3 v9 v1 v2 zM aH (v10+1) fx) (aA.set v10 aT.1)
  else none
  else none
def qS(N:Nat)(bG:agU aw)(fa:(agU az)→agW (ar×Int))(v8:agU az)(v4:Nat)(aK:aw×Int)(aR:az):agU aw→Nat→(agU aw)→agW (ar×Int)
 |[],_,v24=>
  bif (Nat.beq v24.length bG.length)then
  fa ((v8.set v4 (⟨aK.1,aR.aV,aR.bj⟩:az)).set v4 (⟨(⟨aK.1,aR.aV,aR.bj⟩:az).aL,(⟨aK.1,aR.aV,aR.bj⟩:az).aV,v24⟩:az))
  else none
 |cY::cz,v20,v24=>
  Option.bind (uc N cY) fun fV=>
  bif (Nat.beq v24.length bG.length)then
  bif (decide ((v20:Int)<(bG.length:Int)))then
  Option.bind (v24[v20]?) fun mU=>
  bif (fV.2 !=(0:Int))then
   some (fq,fV.2)
  else
   (fun jq=>qS N bG fa v8 v4 aK aR cz (v20+1) jq) (v24.set v20 fV.1)
  else none
  else none
def pA(N:Nat)(v1:ar)(v3:agU az)(v2:aw×Int)(zM:ar→agW (ar×Int)):agU az→Nat→(agU az)→agW (ar×Int)
 |[],_,v8=>
  Option.bind (HX N v1.a7) fun v9=>
  rU N v8 v3 v9 v1 v2 zM v1.a7 0 v9
 |v6::v7,v4,v8=>
  Option.bind (uc N v6.aL) fun aK=>
  bif (Nat.beq v8.length v3.length)then
  bif (decide ((v4:Int)<(v3.length:Int)))then
  Option.bind (v8[v4]?) fun aR=>
  bif (aK.2 !=(0:Int))then
   some (fq,aK.2)
  else
   Option.bind (Jo N v6.bj) fun bG=>
   bif (Nat.beq (v8.set v4 (⟨aK.1,aR.aV,aR.bj⟩:az)).length v3.length)then
   qS N bG (fun bE=>pA N v1 v3 v2 zM v7 (v4+1) bE) v8 v4 aK aR v6.bj 0 bG
   else none
  else none
  else none
def nS(N:Nat):Nat→ar→agW (ar×Int)
 |0,_=>none
 |d+1,v1=>
  Option.bind (uc N v1.aL) fun v2=>
  bif (v2.2 !=(0:Int))then
   some (fq,v2.2)
  else
   Option.bind (Ll N v1.xIdx) fun v3=>
   pA N v1 v3 v2 (nS N d) v1.xIdx 0 v3
def He(N:Nat)(v1:ar):agW (ar×Int):=nS N N v1
theorem X8(N:Nat):∀d:Nat,(∀(v1:ar)(r:ar×Int),nS N d v1=some r→bD Tryz.prog 86 [(aD v1),(.fn 87 [])] [] fun r1 h1=>r1=(.bU [(aD r.1),(ao r.2)])∧h1=[]):=by
 intro d
 induction d with
 |zero=>intro v1 r J;rw[nS]at J;cases J
 |succ d ih=>
  have XB:=ih;intro v1 r J;rw[nS]at J;refine dS 0 Tryz.func86 (by kernel_rfl) (by kernel_rfl) (agd rfl) ?_;obtain⟨v2,h1,J⟩:=au J;refine ax ak [[],[],[],[(10,cL (Hl N v1.aL v2 h1))],[]] ?_;refine bc J (fun h2 J=> ?_) fun h2 J=> ?_
  ·cases J;exact bH ak [[(0,bT h2)],[]]
  obtain⟨v3,h3,J⟩:=au J;refine ax ak [[(0,bF h2)],[(7,⟨_,_, .lT ij (lv (xs:=(v3.map fk)) ij) (cb:=[(.d (.sl (bC v1.xIdx)))]) (h:=[.cells (aD v1).cells, .cells jM, .cells (ox v1 [(bt v2.1.xK),(.d (.sl (bJ v2.1.xL))),(.d (.sl (bC v1.xIdx))),(.d (.sl (cQ v1.a7)))])]) (l:=[]) (by kernel_rfl) (by kernel_rfl) (by kernel_rfl) (by kernel_rfl) (aat N v1.xIdx v3 h3)⟩)],[(7,oL v1.xIdx cW)]] ?_;refine dj 32 (bC v1.xIdx) (by kernel_rfl) fun h4=> ?_;have h5:=cP cW h4;refine pv ak 1 [] [1,2,4,6,32,33,34] 4 [] [(1,10),(1,11),(1,12)] (fun((v4,v5,v8):Nat×(agU az)×(agU az))=>⟨119,[(1,(.fn 87 [])),(2,(.ptr 0 0)),(4,(.ptr 1 0)),(6,(.ptr 2 0)),(32,(.d (.sl (bC v1.xIdx)))),(33,(ao (v1.xIdx.length:Int))),(34,(ao (v4:Int)))],[.cells (aD v1).cells, .cells jM, .cells (ox v1 [(bt v2.1.xK),(.d (.sl (bJ v2.1.xL))),(.vec 3 0 v3.length v3.length 4),(.d (.sl (cQ v1.a7)))]), .vec 80 4 (aI (v8.map fk))]⟩) (fun((v4,v5,v8):Nat×(agU az)×(agU az))=>v1.xIdx.drop v4=v5∧pA N v1 v3 v2 (nS N d) v5 v4 v8=some r) (fun((v4,v5,v8):Nat×(agU az)×(agU az))=>v5.length) (0,v1.xIdx,v3) ⟨rfl,J⟩ ?_ (jc:=[.dat (v3.map fk)]);rintro⟨v4,v5,v8⟩ ⟨h6,J⟩ f1 ba;cases v5 with
  |nil=>
   rw[pA]at J;obtain⟨v9,h7,J⟩:=au J;refine ax ak [[],[(0,bF (ck h6))],[(7,⟨_,_, .lT ij (lv (xs:=(v9.map cB)) ij) (cb:=[(.d (.sl (cQ v1.a7)))]) (h:=[.cells (aD v1).cells, .cells jM, .cells (ox v1 [(bt v2.1.xK),(.d (.sl (bJ v2.1.xL))),(.vec 3 0 v3.length v3.length 4),(.d (.sl (cQ v1.a7)))]), .vec 80 4 (aI (v8.map fk))]) (l:=[]) (by kernel_rfl) (by kernel_rfl) (by kernel_rfl) (by kernel_rfl) (Zt N v1.a7 v9 h7)⟩)],[(7,oL v1.a7 da)]] ?_;refine dj 96 (cQ v1.a7) (by kernel_rfl) fun h8=> ?_;have h9:=cP da h8;refine pv ak 2 [] [1,4,6,96,97,98] 5 [] [(1,10),(1,11),(1,12)] (fun((v10,v11,aA):Nat×(agU ar)×(agU ar))=>⟨119,[(1,(.fn 87 [])),(4,(.ptr 1 0)),(6,(.ptr 2 0)),(96,(.d (.sl (cQ v1.a7)))),(97,(ao (v1.a7.length:Int))),(98,(ao (v10:Int)))],[.cells (aD v1).cells, .cells jM, .cells (ox v1 [(bt v2.1.xK),(.d (.sl (bJ v2.1.xL))),(.vec 3 0 v3.length v3.length 4),(.vec 4 0 v9.length v9.length 13)]), .vec 80 4 (aI (v8.map fk)), .vec 52 13 (aI (aA.map cB))]⟩) (fun((v10,v11,aA):Nat×(agU ar)×(agU ar))=>v1.a7.drop v10=v11∧rU N v8 v3 v9 v1 v2 (nS N d) v11 v10 aA=some r) (fun((v10,v11,aA):Nat×(agU ar)×(agU ar))=>v11.length) (0,v1.a7,v9) ⟨rfl,J⟩ ?_ (jc:=[.dat (v8.map fk), .dat (v9.map cB)])
   rintro⟨v10,v11,aA⟩ ⟨aJ,J⟩ f2 fD;cases v11 with
   |nil=>
    rw[rU]at J;obtain⟨bQ,J⟩:=dO J;obtain⟨cl,J⟩:=dO J;refine ax ak [[],[(0,bF (ck aJ))]] ?_;refine DO [4,6] 3 (bC v8) v3.length 1 80 4 [.dat (v8.map fk), .dat (aA.map cB)] (rR (agk bQ)) (pa _) (qt (fun _=>rfl) _) ?_;refine DO [4,6] 4 (cQ aA) v9.length 1 52 13 [.dat (aA.map cB)] (rR (agk cl)) (lf _) (qt (fun _=>rfl) _) ?_;cases J;exact bH ak [[]]
   |cons v12 aH=>
    rw[rU]at J;obtain⟨aT,dg,J⟩:=au J;obtain⟨cg,J⟩:=dO J;obtain⟨cV,J⟩:=dO J;obtain⟨aX,b9,J⟩:=au J;refine ax ak [[],[(0,bT (cf aJ))],[(4,oE (lh (bS aJ)))],[(16,⟨_,_, .rq (cb:=[(aD v12),(.fn 87 [])]) (h:=[.cells (aD v1).cells, .cells jM, .cells (ox v1 [(bt v2.1.xK),(.d (.sl (bJ v2.1.xL))),(.vec 3 0 v3.length v3.length 4),(.vec 4 0 v9.length v9.length 13)]), .vec 80 4 (aI (v8.map fk)), .vec 52 13 (aI (aA.map cB)), .cells (aD v12).cells]) (l:=[]) (by kernel_rfl) (by kernel_rfl) (by kernel_rfl) (by kernel_rfl) (XB v12 aT dg)⟩),(28,⟨_,_, .pr (.ix v10) (oV (jQ (f:=cB) (agk cg)) (Int.natCast_nonneg _) (of_decide_eq_true cV) (agx _))⟩),(31,⟨_,_, .pr (.st ((cB aX).map AV.d) (aI ((aA.set v10 aT.1).map cB))) (Ep (f:=cB) (j:=0) (y:=aT.1) (zs:=[(ao aT.1.aQ),(bp aT.1.aq),(bt aT.1.dm.xN),(bt aT.1.dm.xD),(ao aT.1.aC.bW),(ao aT.1.aC.ca),(ao aT.1.aC.cF),(ao aT.1.aC.cE),(ao aT.1.aC.cJ),(bt aT.1.aL.xK),(.d (.sl (bJ aT.1.aL.xL))),(.d (.sl (bC aT.1.xIdx))),(.d (.sl (cQ aT.1.a7)))]) (agk cg) b9 rfl)⟩)],[]] ?_;refine bc J (fun c8 J=> ?_) fun c8 J=> ?_
    ·cases J;exact bH ak [[(0,bT c8)],[]]
    exact nu ak fD (v10+1,aH,(aA.set v10 aT.1)) [[(0,bF c8)],[(2,oq (cx aJ rfl h9))]] ⟨ct aJ,J⟩ (jc:=[.dat (v8.map fk), .dat ((aA.set v10 aT.1).map cB)])
  |cons v6 v7=>
   rw[pA]at J;obtain⟨aK,cr,J⟩:=au J;obtain⟨dk,J⟩:=dO J;obtain⟨eY,J⟩:=dO J;obtain⟨aR,gB,J⟩:=au J;refine ax ak [[],[(0,bT (cf h6))],[(4,oE (ik (bS h6)))],[(19,cL (Hl N v6.aL aK cr)),(31,⟨_,_, .pr (.ix v4) (oV (jQ (f:=fk) (agk dk)) (Int.natCast_nonneg _) (of_decide_eq_true eY) (agx _))⟩),(34,⟨_,_, .pr .no trivial⟩),(37,⟨_,_, .pr (.st ((fk aR).map AV.d) (aI ((v8.set v4 (⟨aK.1,aR.aV,aR.bj⟩:az)).map fk))) (Ep (f:=fk) (j:=0) (y:=(⟨aK.1,aR.aV,aR.bj⟩:az)) (zs:=[(bt aK.1.xK),(.d (.sl (bJ aK.1.xL)))]) (agk dk) gB rfl)⟩)],[]] ?_;refine bc J (fun gn J=> ?_) fun gn J=> ?_
   ·cases J;exact bH ak [[(0,bT gn)],[]]
   obtain⟨bG,iH,J⟩:=au J;obtain⟨gU,J⟩:=dO J;refine ax ak [[(0,bF gn)],[(16,⟨_,_, .lT ij (lv (xs:=(bG.map ki)) ij) (cb:=[(.d (.sl (cH v6.bj)))]) (h:=[.cells (aD v1).cells, .cells jM, .cells (ox v1 [(bt v2.1.xK),(.d (.sl (bJ v2.1.xL))),(.vec 3 0 v3.length v3.length 4),(.d (.sl (cQ v1.a7)))]), .vec 80 4 (aI ((v8.set v4 (⟨aK.1,aR.aV,aR.bj⟩:az)).map fk)), .cells (eC v6).cells]) (l:=[]) (by kernel_rfl) (by kernel_rfl) (by kernel_rfl) (by kernel_rfl) (We N v6.bj bG iH)⟩),(19,⟨_,_, .pr (.ix v4) (oV (jQ (f:=fk) (agk gU)) (Int.natCast_nonneg _) (of_decide_eq_true eY) (agx _))⟩),(22,⟨_,_, .pr .no trivial⟩),(25,⟨_,_, .pr (.st ((fk (⟨aK.1,aR.aV,aR.bj⟩:az)).map AV.d) ((aI ((v8.set v4 (⟨aK.1,aR.aV,aR.bj⟩:az)).map fk)).set v4 [(bt (⟨aK.1,aR.aV,aR.bj⟩:az).aL.xK),(.d (.sl (bJ (⟨aK.1,aR.aV,aR.bj⟩:az).aL.xL))),(bp (⟨aK.1,aR.aV,aR.bj⟩:az).aV),(.vec 5 0 bG.length bG.length 2)])) (adU (f:=fk) (j:=3) (r:=[(bt (⟨aK.1,aR.aV,aR.bj⟩:az).aL.xK),(.d (.sl (bJ (⟨aK.1,aR.aV,aR.bj⟩:az).aL.xL))),(bp (⟨aK.1,aR.aV,aR.bj⟩:az).aV),(.vec 5 0 bG.length bG.length 2)]) (zs:=[(.vec 5 0 bG.length bG.length 2)]) (agk gU) (RD gB) rfl)⟩)],[(7,oL v6.bj cd)]] ?_
   refine dj 64 (cH v6.bj) (by kernel_rfl) fun jn=> ?_;have gR:=cP cd jn;refine pv ak 3 [] [1,2,4,6,8,32,33,34,64,65,66] 6 [] [(1,10),(1,11),(1,12)] (fun((v20,v21,v24):Nat×(agU aw)×(agU aw))=>⟨119,[(1,(.fn 87 [])),(2,(.ptr 0 0)),(4,(.ptr 1 0)),(6,(.ptr 2 0)),(8,(ao (v4:Int))),(32,(.d (.sl (bC v1.xIdx)))),(33,(ao (v1.xIdx.length:Int))),(34,(ao (v4:Int))),(64,(.d (.sl (cH v6.bj)))),(65,(ao (v6.bj.length:Int))),(66,(ao (v20:Int)))],[.cells (aD v1).cells, .cells jM, .cells (ox v1 [(bt v2.1.xK),(.d (.sl (bJ v2.1.xL))),(.vec 3 0 v3.length v3.length 4),(.d (.sl (cQ v1.a7)))]), .vec 80 4 ((aI ((v8.set v4 (⟨aK.1,aR.aV,aR.bj⟩:az)).map fk)).set v4 [(bt (⟨aK.1,aR.aV,aR.bj⟩:az).aL.xK),(.d (.sl (bJ (⟨aK.1,aR.aV,aR.bj⟩:az).aL.xL))),(bp (⟨aK.1,aR.aV,aR.bj⟩:az).aV),(.vec 5 0 bG.length bG.length 2)]), .cells (eC v6).cells, .vec 48 2 (aI (v24.map ki))]⟩) (fun((v20,v21,v24):Nat×(agU aw)×(agU aw))=>v6.bj.drop v20=v21∧qS N bG (fun bE=>pA N v1 v3 v2 (nS N d) v7 (v4+1) bE) v8 v4 aK aR v21 v20 v24=some r) (fun((v20,v21,v24):Nat×(agU aw)×(agU aw))=>v21.length) (0,v6.bj,bG) ⟨rfl,J⟩ ?_ (jc:=[.row ((v8.set v4 (⟨aK.1,aR.aV,aR.bj⟩:az)).map fk) v4 [(bt (⟨aK.1,aR.aV,aR.bj⟩:az).aL.xK),(.d (.sl (bJ (⟨aK.1,aR.aV,aR.bj⟩:az).aL.xL))),(bp (⟨aK.1,aR.aV,aR.bj⟩:az).aV),(.vec 5 0 bG.length bG.length 2)], .dat (bG.map ki)])
   rintro⟨v20,v21,v24⟩ ⟨gL,J⟩ f3 lK;cases v21 with
   |nil=>
    rw[qS]at J;obtain⟨kF,J⟩:=dO J;refine ax ak [[],[(0,bF (ck gL))]] ?_;refine DO [1,2,4,6,32,33,34] 5 (cH v24) bG.length 0 48 2 [.row fk (v8.set v4 (⟨aK.1,aR.aV,aR.bj⟩:az)) v4 [(bt (⟨aK.1,aR.aV,aR.bj⟩:az).aL.xK),(.d (.sl (bJ (⟨aK.1,aR.aV,aR.bj⟩:az).aL.xL))),(bp (⟨aK.1,aR.aV,aR.bj⟩:az).aV),(.vec 5 0 bG.length bG.length 2)] (⟨(⟨aK.1,aR.aV,aR.bj⟩:az).aL,(⟨aK.1,aR.aV,aR.bj⟩:az).aV,v24⟩:az) 1, .dat (v24.map ki)] (rR (agk kF)) (pN _) (qt (fun _=>rfl) _) ?_;exact nu ak ba (v4+1,v7,((v8.set v4 (⟨aK.1,aR.aV,aR.bj⟩:az)).set v4 (⟨(⟨aK.1,aR.aV,aR.bj⟩:az).aL,(⟨aK.1,aR.aV,aR.bj⟩:az).aV,v24⟩:az))) [[(2,oq (cx h6 rfl h5))]] ⟨ct h6,J⟩ (jc:=[.dat (((v8.set v4 (⟨aK.1,aR.aV,aR.bj⟩:az)).set v4 (⟨(⟨aK.1,aR.aV,aR.bj⟩:az).aL,(⟨aK.1,aR.aV,aR.bj⟩:az).aV,v24⟩:az)).map fk)])
   |cons cY cz=>
    rw[qS]at J;obtain⟨fV,hJ,J⟩:=au J;obtain⟨kZ,J⟩:=dO J;obtain⟨p7,J⟩:=dO J;obtain⟨mU,KB,J⟩:=au J;refine ax ak [[],[(0,bT (cf gL))],[(4,oE (ku (bS gL)))],[(10,⟨_,_, .pr (.ix v4) (oV (aaS (i:=v4) (r:=[(bt (⟨aK.1,aR.aV,aR.bj⟩:az).aL.xK),(.d (.sl (bJ (⟨aK.1,aR.aV,aR.bj⟩:az).aL.xL))),(bp (⟨aK.1,aR.aV,aR.bj⟩:az).aV),(.vec 5 0 bG.length bG.length 2)]) (f:=fk) (agk gU)) (Int.natCast_nonneg _) (of_decide_eq_true eY) (agx _))⟩),(13,⟨_,_, .pr .no trivial⟩),(16,⟨_,_, .pr (.el [(bt (⟨aK.1,aR.aV,aR.bj⟩:az).aL.xK),(.d (.sl (bJ (⟨aK.1,aR.aV,aR.bj⟩:az).aL.xL))),(bp (⟨aK.1,aR.aV,aR.bj⟩:az).aV),(.vec 5 0 bG.length bG.length 2)]) (abF (f:=fk) [(bt (⟨aK.1,aR.aV,aR.bj⟩:az).aL.xK),(.d (.sl (bJ (⟨aK.1,aR.aV,aR.bj⟩:az).aL.xL))),(bp (⟨aK.1,aR.aV,aR.bj⟩:az).aV),(.vec 5 0 bG.length bG.length 2)] (agk gU) (RD gB))⟩),(28,cL (Hl N cY fV hJ)),(40,⟨_,_, .pr (.ix v20) (oV (jQ (f:=ki) (agk kZ)) (Int.natCast_nonneg _) (of_decide_eq_true p7) (agx _))⟩),(43,⟨_,_, .pr (.st ((ki mU).map AV.d) (aI ((v24.set v20 fV.1).map ki))) (Ep (f:=ki) (j:=0) (y:=fV.1) (zs:=[(bt fV.1.xK),(.d (.sl (bJ fV.1.xL)))]) (agk kZ) KB rfl)⟩)],[]] ?_
    refine bc J (fun An J=> ?_) fun An J=> ?_
    ·cases J;exact bH ak [[(0,bT An)],[]]
    exact nu ak lK (v20+1,cz,(v24.set v20 fV.1)) [[(0,bF An)],[(2,oq (cx gL rfl gR))]] ⟨ct gL,J⟩ (jc:=[.row ((v8.set v4 (⟨aK.1,aR.aV,aR.bj⟩:az)).map fk) v4 [(bt (⟨aK.1,aR.aV,aR.bj⟩:az).aL.xK),(.d (.sl (bJ (⟨aK.1,aR.aV,aR.bj⟩:az).aL.xL))),(bp (⟨aK.1,aR.aV,aR.bj⟩:az).aV),(.vec 5 0 bG.length bG.length 2)], .dat ((v24.set v20 fV.1).map ki)])
theorem afe(N:Nat)(v1:ar)(r:ar×Int)(J:He N v1=some r):bD Tryz.prog 86 [(aD v1),(.fn 87 [])] [] fun r1 h1=>r1=(.bU [(aD r.1),(ao r.2)])∧h1=[]:=(X8 N N) v1 r J
def yJ(N:Nat)(v1:ar):agW ar:=
 Option.bind (He N v1) fun v2=>
 some v2.1
theorem ac2(N:Nat)(v1:ar)(r:ar)(J:yJ N v1=some r):bA Tryz.prog 55 [(aD v1)] (·=(aD r)):=by
 rw[yJ]at J;refine bZ Tryz.func55 (by kernel_rfl) (by kernel_rfl) ?_;obtain⟨v2,h1,J⟩:=au J;cases J;exact wr ak [[],[(4,⟨_,_, .rq (cb:=[(aD v1),(.fn 87 [])]) (h:=[.cells (aD v1).cells, .cells jM]) (l:=[]) (by kernel_rfl) (by kernel_rfl) (by kernel_rfl) (by kernel_rfl) (afe N v1 v2 h1)⟩)],[]]
end Go.Proofs.YtphmhnabilhbgaaGreatDoor
