/-
  Part 13 of the proof: PQ7.
-/
import Derived.Test.YtphmhnabilhbgaaGreatDoorPk12
namespace Go.Proofs.YtphmhnabilhbgaaGreatDoor
open Go.RowKit
set_option maxRecDepth 100000
set_option maxHeartbeats 0
set_option linter.unusedVariables false
def A1(N:Nat)(v1:aG):aiG Int:=
 Option.bind (bif (decide (v1.cP<(0:Int)))then some true else some (decide (v1.cP>(5:Int)))) fun v2=>
 bif v2 then
  some (1:Int)
 else
  Option.bind (bif (v1.cP==(0:Int))then some true else some (v1.cP==(5:Int))) fun v3=>
  Option.bind (bif (v3==((v1.bz.length:Int)==(0:Int)))then(bif (v1.cP==(5:Int))then some ((v1.aI.length:Int)==(0:Int))else some false)else some true) fun v4=>
  bif v4 then
   some (11:Int)
  else
   some (0:Int)
theorem Xs(N:Nat)(v1:aG)(r:Int)(J:A1 N v1=some r):bg Tryz.prog 110 [(cy v1)] (·=(ak r)):=by
 rw[A1]at J;refine bD Tryz.func110 (by kernel_rfl) (by kernel_rfl) ?_;refine au af [[]] ?_;obtain⟨v2,h2,J⟩:=ar J;refine cM af [(11,(aJ v2))] [.cells (cy v1).cells] ?_ ?_
 ·refine bc h2 (fun h1 h2=> ?_) fun h1 h2=> ?_
  ·cases h2;exact⟨so (os [12,15,18,22] (bT h1) []),by kernel_rfl⟩
  cases h2;exact⟨so (os [12,15,18,22] (bF h1) []),by kernel_rfl⟩
 refine bc J (fun h3 J=> ?_) fun h3 J=> ?_
 ·cases J;exact wr af [[(0,bT h3)],[]]
 refine au af [[(0,bF h3)]] ?_;obtain⟨v3,h5,J⟩:=ar J;refine cM af [(3,(aJ v3))] [.cells (cy v1).cells] ?_ ?_
 ·refine bc h5 (fun h4 h5=> ?_) fun h4 h5=> ?_
  ·cases h5;exact⟨so (os [12,15,18,22] (bT h4) []),by kernel_rfl⟩
  cases h5;exact⟨so (os [12,15,18,22] (bF h4) []),by kernel_rfl⟩
 obtain⟨v4,h8,J⟩:=ar J;refine cM af [(36,(aJ v4))] [.cells (cy v1).cells] ?_ ?_
 ·refine bc h8 (fun h6 h8=> ?_) fun h6 h8=> ?_
  ·refine bc h8 (fun h7 h8=> ?_) fun h7 h8=> ?_
   ·cases h8;exact⟨so (os [21,24,27,30,45,49] (bF (cG h6)) (os [33,36,39,42,46] (bT h7) [(10,oL v1.bz b5),(40,oL v1.aI b5)])),by kernel_rfl⟩
   cases h8;exact⟨so (os [21,24,27,30,45,49] (bF (cG h6)) (os [33,36,39,42,46] (bF h7) [(10,oL v1.bz b5)])),by kernel_rfl⟩
  cases h8;exact⟨so (os [21,24,27,30,45,49] (bT (cU h6)) (os [33,36,39,42] uN [(10,oL v1.bz b5)])),by kernel_rfl⟩
 refine bc J (fun h9 J=> ?_) fun h9 J=> ?_
 ·cases J;exact wr af [[(0,bT h9)],[]]
 cases J;exact wr af [[(0,bF h9)],[]]
def tt(N:Nat):aiE bj→Nat→(aiE aiF)→aiG ((aiE aiF))
 |[],_,v11=>
  some v11
 |v9::v10,v7,v11=>
  bif (Nat.ble ((v11.length+1)*16) 140737488355328)then
  (fun fI=>tt N v10 (v7+1) fI) (v11++[v9.ao])
  else none
def sR(N:Nat)(v1:aG):aiE bj→Nat→(aiE aiF)→aiG ((aiE aiF))
 |[],_,v6=>
  tt N v1.bz 0 v6
 |v4::v5,v2,v6=>
  bif (Nat.ble ((v6.length+1)*16) 140737488355328)then
  (fun b6=>sR N v1 v5 (v2+1) b6) (v6++[v4.ao])
  else none
def Cj(N:Nat)(v1:aG):aiG ((aiE aiF)):=
 sR N v1 v1.aI 0 []
theorem agl(N:Nat)(v1:aG)(r:(aiE aiF))(J:Cj N v1=some r):bg Tryz.prog 112 [(cy v1)] (·=(.d (.sl (aB r)))):=by
 rw[Cj]at J;refine bD Tryz.func112 (by kernel_rfl) (by kernel_rfl) ?_;refine au af [[],[],[]] ?_;refine nV 3 9 1 [] (.inr (by kernel_rfl)) ?_;refine dX 0 6 (cu v1.aI) (by kernel_rfl) fun h1=> ?_;have h2:=cd b5 h1;refine cx af 1 [] [1,3,4] 2 (fun((v2,v3,v6):Nat×(aiE bj)×(aiE aiF))=>⟨39,[(1,(.ptr 0 0)),(3,(.own 1 (aB v6))),(4,(ak (v2:Int)))],[.cells (cy v1).cells, .front 9 1 v6.length]⟩) (fun((v2,v3,v6):Nat×(aiE bj)×(aiE aiF))=>v1.aI.drop v2=v3∧sR N v1 v3 v2 v6=some r) (fun((v2,v3,v6):Nat×(aiE bj)×(aiE aiF))=>v3.length) (0,v1.aI,[]) ⟨rfl,J⟩ ?_;rintro⟨v2,v3,v6⟩ ⟨h3,J⟩ f1 aN;cases v3 with
 |nil=>
  rw[sR]at J;refine au af [[(10,oL v1.aI b5)],[(0,bF (bO h3))],[]] ?_;refine dX 0 7 (cu v1.bz) (by kernel_rfl) fun h4=> ?_;have h5:=cd b5 h4;refine cx af 2 [] [1,3,5] 2 (fun((v7,v8,v11):Nat×(aiE bj)×(aiE aiF))=>⟨39,[(1,(.ptr 0 0)),(3,(.own 1 (aB v11))),(5,(ak (v7:Int)))],[.cells (cy v1).cells, .front 9 1 v11.length]⟩) (fun((v7,v8,v11):Nat×(aiE bj)×(aiE aiF))=>v1.bz.drop v7=v8∧tt N v8 v7 v11=some r) (fun((v7,v8,v11):Nat×(aiE bj)×(aiE aiF))=>v8.length) (0,v1.bz,v6) ⟨rfl,J⟩ ?_;rintro⟨v7,v8,v11⟩ ⟨h6,J⟩ f2 dU;cases v8 with
  |nil=>
   rw[tt]at J;cases J;exact wr af [[(10,oL v1.bz b5)],[(0,bF (bO h6))],[]]
  |cons v9 v10=>
   rw[tt]at J;obtain⟨h7,J⟩:=dg J;exact ct af dU (v7+1,v10,(v11++[v9.ao])) [[(10,oL v1.bz b5)],[(0,bT (bN h6))],[(13,oE (jK (aU h6))),(25,⟨_,_, .app (xs:=aB v11) (ys:=aB [v9.ao]) (zs:=aB (v11++[v9.ao])) (n:=(v11++[v9.ao]).length) bC.symm jq jq (by rw[(bC (l:=v11)),(bC (l:=[v9.ao]))];exact(de h7 (by decide)).1) (by rw[(bC (l:=v11)),(bC (l:=[v9.ao]))];exact(de h7 (by decide)).2) Aq (by first|(rw[(bC (l:=v11)),(bC (l:=[v9.ao]))];done)|(rw[(bC (l:=v11)),(bC (l:=[v9.ao]))];rfl)|(rw[(bC (l:=v11)),(bC (l:=[v9.ao])),ahQ];done)|(rw[(bC (l:=v11)),(bC (l:=[v9.ao])),ahQ];rfl)|(rw[(bC (l:=v11)),(bC (l:=[v9.ao])),ah9]))⟩)],[(5,oq (bV h6 rfl h5))]] ⟨bR h6,J⟩
 |cons v4 v5=>
  rw[sR]at J;obtain⟨h8,J⟩:=dg J;exact ct af aN (v2+1,v5,(v6++[v4.ao])) [[(10,oL v1.aI b5)],[(0,bT (bN h3))],[(13,oE (jK (aU h3))),(25,⟨_,_, .app (xs:=aB v6) (ys:=aB [v4.ao]) (zs:=aB (v6++[v4.ao])) (n:=(v6++[v4.ao]).length) bC.symm jq jq (by rw[(bC (l:=v6)),(bC (l:=[v4.ao]))];exact(de h8 (by decide)).1) (by rw[(bC (l:=v6)),(bC (l:=[v4.ao]))];exact(de h8 (by decide)).2) Aq (by first|(rw[(bC (l:=v6)),(bC (l:=[v4.ao]))];done)|(rw[(bC (l:=v6)),(bC (l:=[v4.ao]))];rfl)|(rw[(bC (l:=v6)),(bC (l:=[v4.ao])),ahQ];done)|(rw[(bC (l:=v6)),(bC (l:=[v4.ao])),ahQ];rfl)|(rw[(bC (l:=v6)),(bC (l:=[v4.ao])),ah9]))⟩)],[(5,oq (bV h3 rfl h2))]] ⟨bR h3,J⟩
def rN(N:Nat)(v2:Int)(QJ:aq→Int→aiG Int):aiE aq→Nat→Int→aiG Int
 |[],_,v7=>
  some v7
 |v5::v6,v3,v7=>
  bif (decide (v2>(1:Int)))then
   Option.bind (QJ v5 (aV (v2-(1:Int)))) fun v8=>
   (fun b6=>rN N v2 QJ v6 (v3+1) b6) (if(aV ((1:Int)+v8))>v7 then(aV ((1:Int)+v8))else v7)
  else
   some v7
def nH(N:Nat):Nat→aq→Int→aiG Int
 |0,_,_=>none
 |d+1,v1,v2=>
  rN N v2 (nH N d) v1.aM 0 (1:Int)
def L8(N:Nat)(v1:aq)(v2:Int):aiG Int:=nH N N v1 v2
theorem agJ(N:Nat):∀d:Nat,(∀(v1:aq)(v2:Int)(r:Int),nH N d v1 v2=some r→bg Tryz.prog 209 [(aF v1),(ak v2)] (·=(ak r))):=by
 intro d
 induction d with
 |zero=>intro v1 v2 r J;rw[nH]at J;cases J
 |succ d ih=>
  have afy:=ih;intro v1 v2 r J;rw[nH]at J;refine bD Tryz.func209 (by kernel_rfl) (by kernel_rfl) ?_;refine au af [[],[],[]] ?_;refine dX 0 12 (cT v1.aM) (by kernel_rfl) fun h1=> ?_;have h2:=cd b7 h1;refine cx af 1 [] [1,2,5,6] 1 (fun((v3,v4,v7):Nat×(aiE aq)×Int)=>⟨30,[(1,(ak v2)),(2,(.ptr 0 0)),(5,(ak v7)),(6,(ak (v3:Int)))],[.cells (aF v1).cells]⟩) (fun((v3,v4,v7):Nat×(aiE aq)×Int)=>v1.aM.drop v3=v4∧rN N v2 (nH N d) v4 v3 v7=some r) (fun((v3,v4,v7):Nat×(aiE aq)×Int)=>v4.length) (0,v1.aM,(1:Int)) ⟨rfl,J⟩ ?_;rintro⟨v3,v4,v7⟩ ⟨h3,J⟩ f1 aN;cases v4 with
  |nil=>
   rw[rN]at J;cases J;exact wr af [[(10,oL v1.aM b7),(18,bF (bO h3)),(21,bF (bO h3)),(25,bF (bO h3))],[(0,bF rfl)],[]]
  |cons v5 v6=>
   rw[rN]at J;refine au af [[(10,oL v1.aM b7),(18,bT (bN h3)),(21,bT (bN h3)),(25,bT (bN h3))]] ?_;refine bc J (fun h4 J=> ?_) fun h4 J=> ?_
   ·obtain⟨v8,h5,J⟩:=ar J;exact ct af aN (v3+1,v6,(if(aV ((1:Int)+v8))>v7 then(aV ((1:Int)+v8))else v7)) [[(0,bT h4)],[(13,oE (ik (aU h3))),(25,cL (afy v5 (aV (v2-(1:Int))) v8 h5))],[(5,oq (bV h3 rfl h2))]] ⟨bR h3,J⟩
   cases J;exact wr af [[(0,bF h4)],[]]
theorem ae0(N:Nat)(v1:aq)(v2:Int)(r:Int)(J:L8 N v1 v2=some r):bg Tryz.prog 209 [(aF v1),(ak v2)] (·=(ak r)):=(agJ N N) v1 v2 r J
def HH(N:Nat)(v1:aq):aiG Int:=
 Option.bind (L8 N v1 (41:Int)) fun v2=>
 some v2
theorem acK(N:Nat)(v1:aq)(r:Int)(J:HH N v1=some r):bg Tryz.prog 178 [(aF v1)] (·=(ak r)):=by
 rw[HH]at J;refine bD Tryz.func178 (by kernel_rfl) (by kernel_rfl) ?_;obtain⟨v2,h1,J⟩:=ar J;obtain rfl:=sj J;exact wr af [[],[(4,cL (ae0 N v1 (41:Int) v2 h1))]]
def tv(N:Nat)(v2:Int)(Px:aq→Int→aiG Int):aiE aq→Nat→Int→aiG Int
 |[],_,v7=>
  some v7
 |v5::v6,v3,v7=>
  bif (decide (v7≤v2))then
   Option.bind (Px v5 (aV (v2-v7))) fun v8=>
   (fun b6=>tv N v2 Px v6 (v3+1) b6) (aV (v7+v8))
  else
   some v7
def oU(N:Nat):Nat→aq→Int→aiG Int
 |0,_,_=>none
 |d+1,v1,v2=>
  tv N v2 (oU N d) v1.aM 0 (1:Int)
def Me(N:Nat)(v1:aq)(v2:Int):aiG Int:=oU N N v1 v2
theorem aaf(N:Nat):∀d:Nat,(∀(v1:aq)(v2:Int)(r:Int),oU N d v1 v2=some r→bg Tryz.prog 210 [(aF v1),(ak v2)] (·=(ak r))):=by
 intro d
 induction d with
 |zero=>intro v1 v2 r J;rw[oU]at J;cases J
 |succ d ih=>
  have ada:=ih;intro v1 v2 r J;rw[oU]at J;refine bD Tryz.func210 (by kernel_rfl) (by kernel_rfl) ?_;refine au af [[],[],[]] ?_;refine dX 0 12 (cT v1.aM) (by kernel_rfl) fun h1=> ?_;have h2:=cd b7 h1;refine cx af 1 [] [1,2,5,6] 1 (fun((v3,v4,v7):Nat×(aiE aq)×Int)=>⟨31,[(1,(ak v2)),(2,(.ptr 0 0)),(5,(ak v7)),(6,(ak (v3:Int)))],[.cells (aF v1).cells]⟩) (fun((v3,v4,v7):Nat×(aiE aq)×Int)=>v1.aM.drop v3=v4∧tv N v2 (oU N d) v4 v3 v7=some r) (fun((v3,v4,v7):Nat×(aiE aq)×Int)=>v4.length) (0,v1.aM,(1:Int)) ⟨rfl,J⟩ ?_;rintro⟨v3,v4,v7⟩ ⟨h3,J⟩ f1 aN;cases v4 with
  |nil=>
   rw[tv]at J;cases J;exact wr af [[(10,oL v1.aM b7),(18,bF (bO h3)),(21,bF (bO h3)),(24,bF (bO h3)),(28,bF (bO h3))],[(0,bF rfl)],[]]
  |cons v5 v6=>
   rw[tv]at J;refine au af [[(10,oL v1.aM b7),(18,bT (bN h3)),(21,bT (bN h3)),(24,bT (bN h3)),(28,bT (bN h3))]] ?_;refine bc J (fun h4 J=> ?_) fun h4 J=> ?_
   ·obtain⟨v8,h5,J⟩:=ar J;exact ct af aN (v3+1,v6,(aV (v7+v8))) [[(0,bT h4)],[(13,oE (ik (aU h3))),(28,cL (ada v5 (aV (v2-v7)) v8 h5))],[(5,oq (bV h3 rfl h2))]] ⟨bR h3,J⟩
   cases J;exact wr af [[(0,bF h4)],[]]
theorem ab6(N:Nat)(v1:aq)(v2:Int)(r:Int)(J:Me N v1 v2=some r):bg Tryz.prog 210 [(aF v1),(ak v2)] (·=(ak r)):=(aaf N N) v1 v2 r J
def Fl(N:Nat)(v1:aq):aiG Int:=
 Option.bind (Me N v1 (2000:Int)) fun v2=>
 some (if(2001:Int)<v2 then(2001:Int)else v2)
theorem acu(N:Nat)(v1:aq)(r:Int)(J:Fl N v1=some r):bg Tryz.prog 179 [(aF v1)] (·=(ak r)):=by
 rw[Fl]at J;refine bD Tryz.func179 (by kernel_rfl) (by kernel_rfl) ?_;obtain⟨v2,h1,J⟩:=ar J;cases J;exact wr af [[],[(4,cL (ab6 N v1 (2000:Int) v2 h1))]]
def vO(N:Nat):aiE az→Nat→aiG Bool
 |[],_=>
  some true
 |v7::v8,v5=>
  Option.bind (bif (bL v7.bn==bL (bs []))then(bif (decide ((v7.bp.length:Int)>(0:Int)))then some true else some false)else(bif (v7.aK.xK.toInt !=(0:Int))then some true else some (decide ((v7.aK.xL.length:Int)>(0:Int))))) fun v9=>
  bif v9 then
   some false
  else
   (vO N v8 (v5+1))
def BP(N:Nat)(v1:aq):aiG Bool:=
 Option.bind (bif (decide (v1.aX<(1:Int)))then some true else some (decide (v1.aX>(18:Int)))) fun v2=>
 bif v2 then
  some false
 else
  Option.bind (bif (v1.aX !=(1:Int))then(bif ((v1.db.xN.toInt==(0:Int64).toInt)&&((v1.db.xD.toInt==(0:Int64).toInt)&&true))then(bif (v1.aX !=(12:Int))then some (!((v1.aw.ck==(0:Int))&&((v1.aw.cq==(0:Int))&&((v1.aw.cJ==(0:Int))&&((v1.aw.cH==(0:Int))&&((v1.aw.cK==(0:Int))&&true))))))else some false)else some true)else some false) fun v3=>
  bif v3 then
   some false
  else
   Option.bind (bif (v1.aX !=(2:Int))then(bif (v1.aK.xK.toInt !=(0:Int))then some true else(bif (decide ((v1.aK.xL.length:Int)>(0:Int)))then some true else(bif (v1.aX !=(3:Int))then(bif (bL v1.ao==bL (bs []))then some (decide ((v1.xIdx.length:Int)>(0:Int)))else some true)else some false)))else(bif (v1.aX !=(3:Int))then(bif (bL v1.ao==bL (bs []))then some (decide ((v1.xIdx.length:Int)>(0:Int)))else some true)else some false)) fun v4=>
   bif v4 then
    some false
   else
    vO N v1.xIdx 0
theorem agq(N:Nat)(v1:aq)(r:Bool)(J:BP N v1=some r):bg Tryz.prog 211 [(aF v1)] (·=(aJ r)):=by
 rw[BP]at J;refine bD Tryz.func211 (by kernel_rfl) (by kernel_rfl) ?_;refine au af [[]] ?_;obtain⟨v2,h2,J⟩:=ar J;refine cM af [(12,(aJ v2))] [.cells (aF v1).cells] ?_ ?_
 ·refine bc h2 (fun h1 h2=> ?_) fun h1 h2=> ?_
  ·cases h2;exact⟨so (os [12,15,18,22] (bT h1) []),by kernel_rfl⟩
  cases h2;exact⟨so (os [12,15,18,22] (bF h1) []),by kernel_rfl⟩
 refine bc J (fun h3 J=> ?_) fun h3 J=> ?_
 ·cases J;exact wr af [[(0,bT h3)],[]]
 refine au af [[(0,bF h3)]] ?_;obtain⟨v3,h7,J⟩:=ar J;refine cM af [(37,(aJ v3))] [.cells (aF v1).cells] ?_ ?_
 ·refine bc h7 (fun h4 h7=> ?_) fun h4 h7=> ?_
  ·refine bc h7 (fun h5 h7=> ?_) fun h5 h7=> ?_
   ·refine bc h7 (fun h6 h7=> ?_) fun h6 h7=> ?_
    ·cases h7;exact⟨so (os [12,15,18,21,25,42,45,48,52] (bT h4) (os [30,33,36,39,51,54,69,73] (bF (cG h5)) (os [57,60,63,66,70] (bT h6) []))),by kernel_rfl⟩
    cases h7;exact⟨so (os [12,15,18,21,25,42,45,48,52] (bT h4) (os [30,33,36,39,51,54,69,73] (bF (cG h5)) (os [57,60,63,66,70] (bF h6) []))),by kernel_rfl⟩
   cases h7;exact⟨so (os [12,15,18,21,25] (bT h4) (os [30,33,36,39,51,54,69,73] (bT (cU h5)) (os [42,45,48,57,60,63,66] uN []))),by kernel_rfl⟩
  cases h7;exact⟨so (os [12,15,18,21,25,42,45,48,52] (bF h4) (os [30,33,36,39,51,54,57,60,63,66,69,70,73] (bF rfl) [])),by kernel_rfl⟩
 refine bc J (fun h8 J=> ?_) fun h8 J=> ?_
 ·cases J;exact wr af [[(0,bT h8)],[]]
 refine au af [[(0,bF h8)]] ?_;obtain⟨v4,bo,J⟩:=ar J;refine cM af [(69,(aJ v4))] [.cells (aF v1).cells] ?_ ?_
 ·refine bc bo (fun h9 bo=> ?_) fun h9 bo=> ?_
  ·refine bc bo (fun aA bo=> ?_) fun aA bo=> ?_
   ·cases bo;exact⟨so (os [12,15,18,21,24,42,46] (bT h9) (os [27,30,33,36,39,43] (bT aA) (os [51,54,57,60,90,94] (bT rfl) (os [63,66,69,72,75,78,81,84,87] uN [])))),by kernel_rfl⟩
   refine bc bo (fun a7 bo=> ?_) fun a7 bo=> ?_
   ·cases bo;exact⟨so (os [12,15,18,21,24,42,46] (bT h9) (os [27,30,33,36,39,43] (bF aA) (os [51,54,57,60,90,94] (bT a7) (os [63,66,69,72,75,78,81,84,87] uN [(37,oL v1.aK.xL bZ)])))),by kernel_rfl⟩
   refine bc bo (fun bk bo=> ?_) fun bk bo=> ?_
   ·refine bc bo (fun cg bo=> ?_) fun cg bo=> ?_
    ·cases bo;exact⟨so (os [12,15,18,21,24,42,46] (bT h9) (os [27,30,33,36,39,43] (bF aA) (os [51,54,57,60,90,94] (bF a7) (os [63,66,69,72,87,91] (bT bk) (os [75,78,81,84,88] (bF (cG cg)) [(37,oL v1.aK.xL bZ),(82,oL v1.xIdx cn)]))))),by kernel_rfl⟩
    cases bo;exact⟨so (os [12,15,18,21,24,42,46] (bT h9) (os [27,30,33,36,39,43] (bF aA) (os [51,54,57,60,90,94] (bF a7) (os [63,66,69,72,87,91] (bT bk) (os [75,78,81,84,88] (bT (cU cg)) [(37,oL v1.aK.xL bZ)]))))),by kernel_rfl⟩
   cases bo;exact⟨so (os [12,15,18,21,24,42,46] (bT h9) (os [27,30,33,36,39,43] (bF aA) (os [51,54,57,60,90,94] (bF a7) (os [63,66,69,72,87,91] (bF bk) (os [75,78,81,84] uN [(37,oL v1.aK.xL bZ)]))))),by kernel_rfl⟩
  refine bc bo (fun bm bo=> ?_) fun bm bo=> ?_
  ·refine bc bo (fun bQ bo=> ?_) fun bQ bo=> ?_
   ·cases bo;exact⟨so (os [12,15,18,21,24,42,46] (bF h9) (os [27,30,33,36,39] uN (os [51,54,57,60,90,94] (bF rfl) (os [63,66,69,72,87,91] (bT bm) (os [75,78,81,84,88] (bF (cG bQ)) [(82,oL v1.xIdx cn)]))))),by kernel_rfl⟩
   cases bo;exact⟨so (os [12,15,18,21,24,42,46] (bF h9) (os [27,30,33,36,39] uN (os [51,54,57,60,90,94] (bF rfl) (os [63,66,69,72,87,91] (bT bm) (os [75,78,81,84,88] (bT (cU bQ)) []))))),by kernel_rfl⟩
  cases bo;exact⟨so (os [12,15,18,21,24,42,46] (bF h9) (os [27,30,33,36,39,75,78,81,84] uN (os [51,54,57,60,90,94] (bF rfl) (os [63,66,69,72,87,91] (bF bm) [])))),by kernel_rfl⟩
 refine bc J (fun cC J=> ?_) fun cC J=> ?_
 ·cases J;exact wr af [[(0,bT cC)],[]]
 refine au af [[(0,bF cC)],[]] ?_;refine dX 0 11 (bJ v1.xIdx) (by kernel_rfl) fun bW=> ?_;have dh:=cd cn bW;refine cx af 1 [] [1,3] 1 (fun((v5,v6):Nat×(aiE az))=>⟨109,[(1,(.ptr 0 0)),(3,(ak (v5:Int)))],[.cells (aF v1).cells]⟩) (fun((v5,v6):Nat×(aiE az))=>v1.xIdx.drop v5=v6∧vO N v6 v5=some r) (fun((v5,v6):Nat×(aiE az))=>v6.length) (0,v1.xIdx) ⟨rfl,J⟩ ?_;rintro⟨v5,v6⟩ ⟨dH,J⟩ f1 aN;cases v6 with
 |nil=>
  rw[vO]at J;cases J;exact wr af [[(10,oL v1.xIdx cn)],[(0,bF (bO dH))],[]]
 |cons v7 v8=>
  rw[vO]at J;refine au af [[(10,oL v1.xIdx cn)],[(0,bT (bN dH))],[(10,oE (eH (aU dH)))]] ?_;obtain⟨v9,eN,J⟩:=ar J;refine cM af [(108,(aJ v9))] [.cells (aF v1).cells, .cells (fx v7).cells] ?_ ?_
  ·refine bc eN (fun eJ eN=> ?_) fun eJ eN=> ?_
   ·refine bc eN (fun fk eN=> ?_) fun fk eN=> ?_
    ·cases eN;exact⟨so (os [12,15,18,21,25] (bT eJ) (os [30,33,36,39,75,79] (bT fk) (os [42,45,48,51,54,57,60,63,66,69,72] uN [(19,oL v7.bp bM)]))),by kernel_rfl⟩
    cases eN;exact⟨so (os [12,15,18,21,25] (bT eJ) (os [30,33,36,39,75,79] (bF fk) (os [42,45,48,51,54,72,76] (bF (cG eJ)) (os [57,60,63,66,69] uN [(19,oL v7.bp bM)])))),by kernel_rfl⟩
   refine bc eN (fun fg eN=> ?_) fun fg eN=> ?_
   ·cases eN;exact⟨so (os [12,15,18,21,25] (bF eJ) (os [30,33,36,39,75,79] (bF rfl) (os [42,45,48,51,54,72,76] (bT (cU eJ)) (os [57,60,63,66,69,73] (bT fg) [])))),by kernel_rfl⟩
   cases eN;exact⟨so (os [12,15,18,21,25] (bF eJ) (os [30,33,36,39,75,79] (bF rfl) (os [42,45,48,51,54,72,76] (bT (cU eJ)) (os [57,60,63,66,69,73] (bF fg) [(67,oL v7.aK.xL bZ)])))),by kernel_rfl⟩
  refine bc J (fun fu J=> ?_) fun fu J=> ?_
  ·cases J;exact wr af [[(0,bT fu)],[]]
  exact ct af aN (v5+1,v8) [[(0,bF fu)],[(5,oq (bV dH rfl dh))]] ⟨bR dH,J⟩
def wj(N:Nat):aiE az→Nat→aiG Bool
 |[],_=>
  some true
 |v6::v7,v4=>
  Option.bind (bif (bL v6.bn==bL (bs []))then some false else Option.bind (uF N v6.bn) fun v8=>
  some (!v8)) fun v9=>
  bif v9 then
   some false
  else
   (wj N v7 (v4+1))
def BR(N:Nat)(v1:aq):aiG Bool:=
 Option.bind (bif (v1.aX==(3:Int))then Option.bind (uF N v1.ao) fun v2=>
 some (!v2)else some false) fun v3=>
 bif v3 then
  some false
 else
  wj N v1.xIdx 0
theorem agu(N:Nat)(v1:aq)(r:Bool)(J:BR N v1=some r):bg Tryz.prog 212 [(aF v1)] (·=(aJ r)):=by
 rw[BR]at J;refine bD Tryz.func212 (by kernel_rfl) (by kernel_rfl) ?_;refine au af [[]] ?_;obtain⟨v3,h3,J⟩:=ar J;refine cM af [(12,(aJ v3))] [.cells (aF v1).cells] ?_ ?_
 ·refine bc h3 (fun h1 h3=> ?_) fun h1 h3=> ?_
  ·obtain⟨v2,h2,h3⟩:=ar h3;cases h3;exact⟨so (os [12,15,18,21,25] (bT h1) [(19,cL (vt N v1.ao v2 h2))]),by kernel_rfl⟩
  cases h3;exact⟨so (os [12,15,18,21,25] (bF h1) []),by kernel_rfl⟩
 refine bc J (fun h4 J=> ?_) fun h4 J=> ?_
 ·cases J;exact wr af [[(0,bT h4)],[]]
 refine au af [[(0,bF h4)],[]] ?_;refine dX 0 11 (bJ v1.xIdx) (by kernel_rfl) fun h5=> ?_;have h6:=cd cn h5;refine cx af 1 [] [1,3] 1 (fun((v4,v5):Nat×(aiE az))=>⟨37,[(1,(.ptr 0 0)),(3,(ak (v4:Int)))],[.cells (aF v1).cells]⟩) (fun((v4,v5):Nat×(aiE az))=>v1.xIdx.drop v4=v5∧wj N v5 v4=some r) (fun((v4,v5):Nat×(aiE az))=>v5.length) (0,v1.xIdx) ⟨rfl,J⟩ ?_;rintro⟨v4,v5⟩ ⟨h7,J⟩ f1 aN;cases v5 with
 |nil=>
  rw[wj]at J;cases J;exact wr af [[(10,oL v1.xIdx cn)],[(0,bF (bO h7))],[]]
 |cons v6 v7=>
  rw[wj]at J;refine au af [[(10,oL v1.xIdx cn)],[(0,bT (bN h7))]] ?_;obtain⟨v9,aA,J⟩:=ar J;refine cM af [(36,(aJ v9))] [.cells (aF v1).cells] ?_ ?_
  ·refine bc aA (fun h8 aA=> ?_) fun h8 aA=> ?_
   ·cases aA;exact⟨so (os [24,27,30,33,36,39,42,45,49] (bF (cG h8)) [(10,oE (eH (aU h7)))]),by kernel_rfl⟩
   obtain⟨v8,h9,aA⟩:=ar aA;cases aA;exact⟨so (os [10,34] (oE (eH (aU h7))) (os [24,27,30,33,36,39,42,45,49] (bT (cU h8)) [(43,cL (vt N v6.bn v8 h9))])),by kernel_rfl⟩
  refine bc J (fun a7 J=> ?_) fun a7 J=> ?_
  ·cases J;exact wr af [[(0,bT a7)],[]]
  exact ct af aN (v4+1,v7) [[(0,bF a7)],[(5,oq (bV h7 rfl h6))]] ⟨bR h7,J⟩
def yn(N:Nat)(v1:Int)(v3:Bool):aiG Int:=
 bif v3 then
  some (1:Int)
 else
  bif (v1==(11:Int))then
   some (3:Int)
  else
   some (2:Int)
def yS(N:Nat)(v1:Int)(v2:Bool):aiG Int:=
 bif v2 then
  some (0:Int)
 else
  bif (v1==(8:Int))then
   yn N v1 (v1==(8:Int))
  else
   bif (v1==(12:Int))then
    yn N v1 (v1==(12:Int))
   else
    yn N v1 (v1==(18:Int))
def Bh(N:Nat)(v1:Int):aiG Int:=
 bif (v1==(1:Int))then
  yS N v1 (v1==(1:Int))
 else
  bif (v1==(2:Int))then
   yS N v1 (v1==(2:Int))
  else
   yS N v1 (v1==(3:Int))
theorem UR(N:Nat)(v1:Int)(r:Int)(J:Bh N v1=some r):bg Tryz.prog 239 [(ak v1)] (·=(ak r)):=by
 rw[Bh]at J;refine bD Tryz.func239 (by kernel_rfl) (by kernel_rfl) ?_;refine l0 af 1 [[],[],[]] [3,4] 0 (fun(v2:Bool)=>⟨14,[(3,(ak v1)),(4,(aJ v2))],[]⟩) (fun(v2:Bool)=>yS N v1 v2=some r) ?_ ?_
 ·intro f1 aN;refine bc J (fun h6 J=> ?_) fun h6 J=> ?_
  ·exact dR af aN (v1==(1:Int)) [[(0,bT h6)]] J
  refine au af [[(0,bF h6)],[]] ?_;refine bc J (fun h7 J=> ?_) fun h7 J=> ?_
  ·exact dR af aN (v1==(2:Int)) [[(0,bT h7)]] J
  exact dR af aN (v1==(3:Int)) [[(0,bF h7)],[]] J
 rintro v2 J
 try dsimp only at J
 rw[yS]at J;refine bc J (fun h1 J=> ?_) fun h1 J=> ?_
 ·cases J;exact wr af [[(0,bT h1)],[]]
 refine l0 af 2 [[(0,bF h1)],[]] [3,8] 0 (fun(v3:Bool)=>⟨14,[(3,(ak v1)),(8,(aJ v3))],[]⟩) (fun(v3:Bool)=>yn N v1 v3=some r) ?_ ?_
 ·intro f2 dU;refine bc J (fun h4 J=> ?_) fun h4 J=> ?_
  ·exact dR af dU (v1==(8:Int)) [[(0,bT h4)]] J
  refine au af [[(0,bF h4)],[]] ?_;refine bc J (fun h5 J=> ?_) fun h5 J=> ?_
  ·exact dR af dU (v1==(12:Int)) [[(0,bT h5)]] J
  exact dR af dU (v1==(18:Int)) [[(0,bF h5)],[]] J
 rintro v3 J
 try dsimp only at J
 rw[yn]at J;refine bc J (fun h2 J=> ?_) fun h2 J=> ?_
 ·cases J;exact wr af [[(0,bT h2)],[]]
 refine au af [[(0,bF h2)],[]] ?_;refine bc J (fun h3 J=> ?_) fun h3 J=> ?_
 ·cases J;exact wr af [[(0,bT h3)],[]]
 cases J;exact wr af [[(0,bF h3)],[]]
def xd(N:Nat):aiE az→Nat→aiG Bool
 |[],_=>
  some true
 |v6::v7,v4=>
  bif (decide ((v6.bp.length:Int)>(6:Int)))then
   some false
  else
   (xd N v7 (v4+1))
def EA(N:Nat)(v1:aq):aiG Bool:=
 Option.bind (Bh N v1.aX) fun v2=>
 Option.bind (bif ((v1.aM.length:Int) !=v2)then some true else some (decide ((v1.xIdx.length:Int)>(6:Int)))) fun v3=>
 bif v3 then
  some false
 else
  xd N v1.xIdx 0
theorem ab4(N:Nat)(v1:aq)(r:Bool)(J:EA N v1=some r):bg Tryz.prog 213 [(aF v1)] (·=(aJ r)):=by
 rw[EA]at J;refine bD Tryz.func213 (by kernel_rfl) (by kernel_rfl) ?_;refine au af [[]] ?_;obtain⟨v2,h1,J⟩:=ar J;obtain⟨v3,h3,J⟩:=ar J;refine cM af [(16,(aJ v3))] [.cells (aF v1).cells] ?_ ?_
 ·refine bc h3 (fun h2 h3=> ?_) fun h2 h3=> ?_
  ·cases h3;exact⟨so (os [24,27,30,33,37] (bT h2) [(7,oL v1.aM b7),(16,cL (UR N v1.aX v2 h1))]),by kernel_rfl⟩
  cases h3;exact⟨so (os [24,27,30,33,37] (bF h2) [(7,oL v1.aM b7),(16,cL (UR N v1.aX v2 h1)),(31,oL v1.xIdx cn)]),by kernel_rfl⟩
 refine bc J (fun h4 J=> ?_) fun h4 J=> ?_
 ·cases J;exact wr af [[(0,bT h4)],[]]
 refine au af [[(0,bF h4)],[]] ?_;refine dX 0 11 (bJ v1.xIdx) (by kernel_rfl) fun h5=> ?_;have h6:=cd cn h5;refine cx af 1 [] [1,3] 1 (fun((v4,v5):Nat×(aiE az))=>⟨32,[(1,(.ptr 0 0)),(3,(ak (v4:Int)))],[.cells (aF v1).cells]⟩) (fun((v4,v5):Nat×(aiE az))=>v1.xIdx.drop v4=v5∧xd N v5 v4=some r) (fun((v4,v5):Nat×(aiE az))=>v5.length) (0,v1.xIdx) ⟨rfl,J⟩ ?_;rintro⟨v4,v5⟩ ⟨h7,J⟩ f1 aN;cases v5 with
 |nil=>
  rw[xd]at J;cases J;exact wr af [[(10,oL v1.xIdx cn)],[(0,bF (bO h7))],[]]
 |cons v6 v7=>
  rw[xd]at J;refine au af [[(10,oL v1.xIdx cn)],[(0,bT (bN h7))],[(10,oE (eH (aU h7))),(19,oL v6.bp bM)]] ?_;refine bc J (fun h8 J=> ?_) fun h8 J=> ?_
  ·cases J;exact wr af [[(0,bT h8)],[]]
  exact ct af aN (v4+1,v7) [[(0,bF h8)],[(5,oq (bV h7 rfl h6))]] ⟨bR h7,J⟩
def zZ(N:Nat)(v1:aq):aiG Bool:=
 Option.bind (bif (decide (v1.aX≥(13:Int)))then some (decide (v1.aX≤(18:Int)))else some false) fun v2=>
 some v2
theorem Oh(N:Nat)(v1:aq)(r:Bool)(J:zZ N v1=some r):bg Tryz.prog 143 [(aF v1)] (·=(aJ r)):=by
 rw[zZ]at J;refine bD Tryz.func143 (by kernel_rfl) (by kernel_rfl) ?_;refine au af [[]] ?_;obtain⟨v2,h2,J⟩:=ar J;refine cM af [(2,(aJ v2))] [.cells (aF v1).cells] ?_ ?_
 ·refine bc h2 (fun h1 h2=> ?_) fun h1 h2=> ?_
  ·cases h2;exact⟨so (os [12,15,18,22] (bT h1) []),by kernel_rfl⟩
  cases h2;exact⟨so (os [12,15,18,22] (bF h1) []),by kernel_rfl⟩
 cases J;exact wr af []
def El(N:Nat)(v1:Int)(v2:Int):aiG Bool:=
 Option.bind (bif (v1==(11:Int))then(bif (v2==(0:Int))then some true else(bif (v1==(16:Int))then some true else(bif (v1==(17:Int))then some true else some (v1==(18:Int)))))else(bif (v1==(16:Int))then some true else(bif (v1==(17:Int))then some true else some (v1==(18:Int))))) fun v3=>
 some v3
theorem Y1(N:Nat)(v1:Int)(v2:Int)(r:Bool)(J:El N v1 v2=some r):bg Tryz.prog 240 [(ak v1),(ak v2)] (·=(aJ r)):=by
 rw[El]at J;refine bD Tryz.func240 (by kernel_rfl) (by kernel_rfl) ?_;refine au af [[]] ?_;obtain⟨v3,h7,J⟩:=ar J;refine cM af [(4,(aJ v3))] [] ?_ ?_
 ·refine bc h7 (fun h1 h7=> ?_) fun h1 h7=> ?_
  ·refine bc h7 (fun h2 h7=> ?_) fun h2 h7=> ?_
   ·cases h7;exact⟨so (os [9,12,16] (bT h1) (os [21,24,28] (bT h2) (os [33,36,40,45,48,52] (bT rfl) []))),by kernel_rfl⟩
   refine bc h7 (fun h3 h7=> ?_) fun h3 h7=> ?_
   ·cases h7;exact⟨so (os [9,12,16] (bT h1) (os [21,24,28] (bF h2) (os [33,36,40] (bT h3) (os [45,48,52] (bT rfl) [])))),by kernel_rfl⟩
   refine bc h7 (fun h4 h7=> ?_) fun h4 h7=> ?_
   ·cases h7;exact⟨so (os [9,12,16] (bT h1) (os [21,24,28] (bF h2) (os [33,36,40] (bF h3) (os [45,48,52] (bT h4) [])))),by kernel_rfl⟩
   cases h7;exact⟨so (os [9,12,16] (bT h1) (os [21,24,28] (bF h2) (os [33,36,40] (bF h3) (os [45,48,52] (bF h4) [])))),by kernel_rfl⟩
  refine bc h7 (fun h5 h7=> ?_) fun h5 h7=> ?_
  ·cases h7;exact⟨so (os [9,12,16] (bF h1) (os [21,24,28] (bF rfl) (os [33,36,40] (bT h5) (os [45,48,52] (bT rfl) [])))),by kernel_rfl⟩
  refine bc h7 (fun h6 h7=> ?_) fun h6 h7=> ?_
  ·cases h7;exact⟨so (os [9,12,16] (bF h1) (os [21,24,28] (bF rfl) (os [33,36,40] (bF h5) (os [45,48,52] (bT h6) [])))),by kernel_rfl⟩
  cases h7;exact⟨so (os [9,12,16] (bF h1) (os [21,24,28] (bF rfl) (os [33,36,40] (bF h5) (os [45,48,52] (bF h6) [])))),by kernel_rfl⟩
 cases J;exact wr af []
def xm(N:Nat)(v1:aq):aiE aq→Nat→aiG Bool
 |[],_=>
  some true
 |v7::v8,v5=>
  Option.bind (zZ N v7) fun v9=>
  Option.bind (El N v1.aX (v5:Int)) fun v10=>
  bif (v9==v10)then
   (xm N v1 v8 (v5+1))
  else
   some false
def BT(N:Nat)(v1:aq):aiG Bool:=
 Option.bind (bif (v1.aX==(1:Int))then Option.bind (tK N v1.aw) fun v2=>
 some (!v2)else(bif (v1.aX==(12:Int))then Option.bind (tK N v1.aw) fun v3=>
 some (!v3)else some false)) fun v4=>
 bif v4 then
  some false
 else
  xm N v1 v1.aM 0
theorem acZ(N:Nat)(v1:aq)(r:Bool)(J:BT N v1=some r):bg Tryz.prog 214 [(aF v1)] (·=(aJ r)):=by
 rw[BT]at J;refine bD Tryz.func214 (by kernel_rfl) (by kernel_rfl) ?_;refine au af [[]] ?_;obtain⟨v4,h5,J⟩:=ar J;refine cM af [(17,(aJ v4))] [.cells (aF v1).cells] ?_ ?_
 ·refine bc h5 (fun h1 h5=> ?_) fun h1 h5=> ?_
  ·obtain⟨v2,h2,h5⟩:=ar h5;cases h5;exact⟨so (os [12,15,18,22] (bT h1) (os [27,30,33,36,40] (bT rfl) [(34,cL (GD N v1.aw v2 h2))])),by kernel_rfl⟩
  refine bc h5 (fun h3 h5=> ?_) fun h3 h5=> ?_
  ·obtain⟨v3,h4,h5⟩:=ar h5;cases h5;exact⟨so (os [12,15,18,22] (bF h1) (os [27,30,33,36,40] (bT h3) [(34,cL (GD N v1.aw v3 h4))])),by kernel_rfl⟩
  cases h5;exact⟨so (os [12,15,18,22] (bF h1) (os [27,30,33,36,40] (bF h3) [])),by kernel_rfl⟩
 refine bc J (fun h6 J=> ?_) fun h6 J=> ?_
 ·cases J;exact wr af [[(0,bT h6)],[]]
 refine au af [[(0,bF h6)],[]] ?_;refine dX 0 12 (cT v1.aM) (by kernel_rfl) fun h7=> ?_;have h8:=cd b7 h7;refine cx af 1 [] [1,3] 1 (fun((v5,v6):Nat×(aiE aq))=>⟨36,[(1,(.ptr 0 0)),(3,(ak (v5:Int)))],[.cells (aF v1).cells]⟩) (fun((v5,v6):Nat×(aiE aq))=>v1.aM.drop v5=v6∧xm N v1 v6 v5=some r) (fun((v5,v6):Nat×(aiE aq))=>v6.length) (0,v1.aM) ⟨rfl,J⟩ ?_;rintro⟨v5,v6⟩ ⟨h9,J⟩ f1 aN;cases v6 with
 |nil=>
  rw[xm]at J;cases J;exact wr af [[(10,oL v1.aM b7)],[(0,bF (bO h9))],[]]
 |cons v7 v8=>
  rw[xm]at J;obtain⟨v9,aA,J⟩:=ar J;obtain⟨v10,a7,J⟩:=ar J;refine au af [[(10,oL v1.aM b7)],[(0,bT (bN h9))],[(10,oE (ik (aU h9))),(16,cL (Oh N v7 v9 aA)),(28,cL (Y1 N v1.aX (v5:Int) v10 a7))]] ?_;refine bc J (fun bk J=> ?_) fun bk J=> ?_
  ·exact ct af aN (v5+1,v8) [[(0,bF (cG bk))],[(5,oq (bV h9 rfl h8))]] ⟨bR h9,J⟩
  cases J;exact wr af [[(0,bT (cU bk))],[]]
def u9(N:Nat):Nat→Int64→Int64→aiG Int64
 |0,_,_=>none
 |v3+1,v4,v5=>
  bif (v5.toInt !=(0:Int))then
   (fun b6 dZ=>u9 N v3 b6 dZ) v5 (Int64.ofInt ((v4.toInt).tmod v5.toInt))
  else
   some v4
def Fx(N:Nat)(v1:Int64)(v2:Int64):aiG Int64:=
 u9 N N v1 v2
theorem Z5(N:Nat)(v1:Int64)(v2:Int64)(r:Int64)(J:Fx N v1 v2=some r):bg Tryz.prog 250 [(bu v1),(bu v2)] (·=(bu r)):=by
 rw[Fx]at J;refine bD Tryz.func250 (by kernel_rfl) (by kernel_rfl) ?_;refine cx af 1 [[]] [0,1] 0 (fun((v3,v4,v5):Nat×Int64×Int64)=>⟨12,[(0,(bu v4)),(1,(bu v5))],[]⟩) (fun((v3,v4,v5):Nat×Int64×Int64)=>u9 N v3 v4 v5=some r) (fun((v3,v4,v5):Nat×Int64×Int64)=>v3) (N,v1,v2) J ?_;rintro⟨v3,v4,v5⟩ J f1 aN
 try dsimp only at J
 cases v3 with
 |zero=>
  rw[u9]at J;cases J
 |succ v3=>
  rw[u9]at J;refine au af [[]] ?_;refine bc J (fun h1 J=> ?_) fun h1 J=> ?_
  ·exact ct af aN (v3,v5,(Int64.ofInt ((v4.toInt).tmod v5.toInt))) [[(0,bT h1)],[(10,⟨_,_, .nz (b:=v5.toInt) (bne_iff_ne.1 h1)⟩),(11,⟨_,_, .eq (afU v4 v5.toInt)⟩)]] J
  cases J;exact wr af [[(0,bF h1)],[]]
def A8(N:Nat)(v1:bB)(v2:gg):aiG Bool:=
 bif (v1.ck==(2:Int))then
  bif (decide ((0:Int)≤(aV (v1.cq-(1:Int)))))then
  Option.bind (bif (v2.xD.toInt==(1:Int))then(bif (decide (v2.xN.toInt≥(-(Int64.ofInt ((1:Int)*2^(min ((aV (v1.cq-(1:Int)))).toNat (IntKind.bits .i64))))).toInt))then some (decide (v2.xN.toInt<(Int64.ofInt ((1:Int)*2^(min ((aV (v1.cq-(1:Int)))).toNat (IntKind.bits .i64)))).toInt))else some false)else some false) fun v3=>
  some v3
  else none
 else
  Option.bind (bif (decide (v2.xN.toInt>(2147483647:Int)))then some true else(bif (decide (v2.xN.toInt<(-2147483647:Int)))then some true else(bif (decide (v2.xD.toInt<(1:Int)))then some true else some (decide (v2.xD.toInt>(2147483647:Int)))))) fun v4=>
  bif v4 then
   some false
  else
   bif (v1.ck==(3:Int))then
    some (v2.xD.toInt==(1:Int))
   else
    Option.bind (Fx N (xg v2.xN (-v2.xN)) v2.xD) fun v5=>
    some (v5.toInt==(1:Int))
theorem P6(N:Nat)(v1:bB)(v2:gg)(r:Bool)(J:A8 N v1 v2=some r):bg Tryz.prog 241 [(eZ v1),(pW v2)] (·=(aJ r)):=by
 rw[A8]at J;refine bD Tryz.func241 (by kernel_rfl) (by kernel_rfl) ?_;refine au af [[],[]] ?_;refine bc J (fun h1 J=> ?_) fun h1 J=> ?_
 ·obtain⟨h2,J⟩:=dg J;refine au af [[(0,bT h1)],[(10,⟨_,_, .nn (b:=(aV (v1.cq-(1:Int)))) (of_decide_eq_true h2)⟩),(11,⟨_,_, .eq (nF ((1:Int)*2^(min ((aV (v1.cq-(1:Int)))).toNat (IntKind.bits .i64))))⟩)]] ?_;obtain⟨v3,h5,J⟩:=ar J;refine cM af [(4,(aJ v3))] [.cells (eZ v1).cells, .cells (pW v2).cells] ?_ ?_
  ·refine bc h5 (fun h3 h5=> ?_) fun h3 h5=> ?_
   ·refine bc h5 (fun h4 h5=> ?_) fun h4 h5=> ?_
    ·cases h5;exact⟨so (os [12,15,18,21,24,28] (bT h3) (os [33,36,39,42,46] (bT h4) [(23,⟨_,_, .eq (GZ (Int64.ofInt ((1:Int)*2^(min ((aV (v1.cq-(1:Int)))).toNat (IntKind.bits .i64)))))⟩)])),by kernel_rfl⟩
    cases h5;exact⟨so (os [12,15,18,21,24,28] (bT h3) (os [33,36,39,42,46] (bF h4) [(23,⟨_,_, .eq (GZ (Int64.ofInt ((1:Int)*2^(min ((aV (v1.cq-(1:Int)))).toNat (IntKind.bits .i64)))))⟩)])),by kernel_rfl⟩
   cases h5;exact⟨so (os [12,15,18,21,24,28] (bF h3) (os [33,36,39,42,46] (bF rfl) [])),by kernel_rfl⟩
  cases J;exact wr af []
 refine au af [[(0,bF h1)]] ?_;obtain⟨v4,h9,J⟩:=ar J;refine cM af [(46,(aJ v4))] [.cells (eZ v1).cells, .cells (pW v2).cells] ?_ ?_
 ·refine bc h9 (fun h6 h9=> ?_) fun h6 h9=> ?_
  ·cases h9;exact⟨so (os [12,15,18,22] (bT h6) (os [27,30,33,37,42,45,48,52] (bT rfl) [])),by kernel_rfl⟩
  refine bc h9 (fun h7 h9=> ?_) fun h7 h9=> ?_
  ·cases h9;exact⟨so (os [12,15,18,22] (bF h6) (os [27,30,33,37] (bT h7) (os [42,45,48,52] (bT rfl) []))),by kernel_rfl⟩
  refine bc h9 (fun h8 h9=> ?_) fun h8 h9=> ?_
  ·cases h9;exact⟨so (os [12,15,18,22] (bF h6) (os [27,30,33,37] (bF h7) (os [42,45,48,52] (bT h8) []))),by kernel_rfl⟩
  cases h9;exact⟨so (os [12,15,18,22] (bF h6) (os [27,30,33,37] (bF h7) (os [42,45,48,52] (bF h8) []))),by kernel_rfl⟩
 refine bc J (fun aA J=> ?_) fun aA J=> ?_
 ·cases J;exact wr af [[(0,bT aA)],[]]
 refine au af [[(0,bF aA)],[]] ?_;refine bc J (fun a7 J=> ?_) fun a7 J=> ?_
 ·cases J;exact wr af [[(0,bT a7)],[]]
 obtain⟨v5,bk,J⟩:=ar J;cases J;exact wr af [[(0,bF a7)],[(14,⟨_,_, .eq (GZ v2.xN)⟩),(17,⟨_,_, .eq (YN v2.xN (-v2.xN))⟩),(25,cL (Z5 N (xg v2.xN (-v2.xN)) v2.xD v5 bk))]]
def uT(N:Nat)(gz:aiG Bool):aiE ax→Nat→aiG Bool
 |[],_=>
  gz
 |aE::aC,v11=>
  Option.bind (qW N aE) fun aP=>
  bif aP then
   (uT N gz aC (v11+1))
  else
   some false
def tA(N:Nat):aiE az→Nat→aiG Bool
 |[],_=>
  some true
 |v8::v9,v6=>
  Option.bind (qW N v8.aK) fun v10=>
  bif v10 then
   uT N (tA N v9 (v6+1)) v8.bp 0
  else
   some false
def CY(N:Nat)(v1:aq):aiG Bool:=
 Option.bind (bif (v1.aX==(1:Int))then Option.bind (A8 N v1.aw v1.db) fun v2=>
 (bif v2 then Option.bind (qW N v1.aK) fun v3=>
 some (!v3)else some true)else Option.bind (qW N v1.aK) fun v4=>
 some (!v4)) fun v5=>
 bif v5 then
  some false
 else
  tA N v1.xIdx 0
theorem abu(N:Nat)(v1:aq)(r:Bool)(J:CY N v1=some r):bg Tryz.prog 215 [(aF v1)] (·=(aJ r)):=by
 rw[CY]at J;refine bD Tryz.func215 (by kernel_rfl) (by kernel_rfl) ?_;refine au af [[]] ?_;obtain⟨v5,h6,J⟩:=ar J;refine cM af [(21,(aJ v5))] [.cells (aF v1).cells] ?_ ?_
 ·refine bc h6 (fun h1 h6=> ?_) fun h1 h6=> ?_
  ·obtain⟨v2,h2,h6⟩:=ar h6;refine bc h6 (fun h3 h6=> ?_) fun h3 h6=> ?_
   ·obtain⟨v3,h4,h6⟩:=ar h6;cases h6;exact⟨so (os [12,15,18,21,24,27,31] (bT h1) (os [36,39,42,45,49] (bF (cG h3)) [(25,cL (P6 N v1.aw v1.db v2 h2)),(43,cL (Am N v1.aK v3 h4))])),by kernel_rfl⟩
   cases h6;exact⟨so (os [12,15,18,21,24,27,31] (bT h1) (os [36,39,42,45,49] (bT (cU h3)) [(25,cL (P6 N v1.aw v1.db v2 h2))])),by kernel_rfl⟩
  obtain⟨v4,h5,h6⟩:=ar h6;cases h6;exact⟨so (os [12,15,18,21,24,27,31] (bF h1) (os [36,39,42,45,49] (bF rfl) [(43,cL (Am N v1.aK v4 h5))])),by kernel_rfl⟩
 refine bc J (fun h7 J=> ?_) fun h7 J=> ?_
 ·cases J;exact wr af [[(0,bT h7)],[]]
 refine au af [[(0,bF h7)],[]] ?_;refine dX 0 11 (bJ v1.xIdx) (by kernel_rfl) fun h8=> ?_;have h9:=cd cn h8;refine cx af 1 [] [1,3] 1 (fun((v6,v7):Nat×(aiE az))=>⟨59,[(1,(.ptr 0 0)),(3,(ak (v6:Int)))],[.cells (aF v1).cells]⟩) (fun((v6,v7):Nat×(aiE az))=>v1.xIdx.drop v6=v7∧tA N v7 v6=some r) (fun((v6,v7):Nat×(aiE az))=>v7.length) (0,v1.xIdx) ⟨rfl,J⟩ ?_;rintro⟨v6,v7⟩ ⟨aA,J⟩ f1 aN;cases v7 with
 |nil=>
  rw[tA]at J;cases J;exact wr af [[(10,oL v1.xIdx cn)],[(0,bF (bO aA))],[]]
 |cons v8 v9=>
  rw[tA]at J;obtain⟨v10,a7,J⟩:=ar J;refine au af [[(10,oL v1.xIdx cn)],[(0,bT (bN aA))],[(10,oE (eH (aU aA))),(19,cL (Am N v8.aK v10 a7))]] ?_;refine bc J (fun bk J=> ?_) fun bk J=> ?_
  ·refine au af [[(0,bF (cG bk))],[]] ?_;refine dX 0 11 (bJ v1.xIdx) (by kernel_rfl) fun cg=> ?_;have bm:v8.bp.length≤maxLen:=by rw[←bM];exact qH (DJ (j:=3) (d:= .sl (cz v8.bp)) cg (eH (aU aA)) rfl)
   refine cx af 2 [] [1,3,4] 1 (fun((v11,v12):Nat×(aiE ax))=>⟨59,[(1,(.ptr 0 0)),(3,(ak (v6:Int))),(4,(ak (v11:Int)))],[.cells (aF v1).cells]⟩) (fun((v11,v12):Nat×(aiE ax))=>v8.bp.drop v11=v12∧uT N (tA N v9 (v6+1)) v12 v11=some r) (fun((v11,v12):Nat×(aiE ax))=>v12.length) (0,v8.bp) ⟨rfl,J⟩ ?_;rintro⟨v11,v12⟩ ⟨bQ,J⟩ f2 dU;cases v12 with
   |nil=>
    rw[uT]at J;exact ct af aN (v6+1,v9) [[(13,oE (eH (aU aA))),(22,oL v8.bp bM)],[(0,bF (bO bQ))],[(5,oq (bV aA rfl h9))]] ⟨bR aA,J⟩
   |cons aE aC=>
    rw[uT]at J;obtain⟨aP,bo,J⟩:=ar J;refine au af [[(13,oE (eH (aU aA))),(22,oL v8.bp bM)],[(0,bT (bN bQ))],[(10,oE (eH (aU aA))),(22,oE (hY (aU bQ))),(28,cL (Am N aE aP bo))]] ?_;refine bc J (fun cC J=> ?_) fun cC J=> ?_
    ·exact ct af dU (v11+1,aC) [[(0,bF (cG cC))],[(5,oq (bV bQ rfl bm))]] ⟨bR bQ,J⟩
    cases J;exact wr af [[(0,bT (cU cC))],[]]
  cases J;exact wr af [[(0,bT (cU bk))],[]]
def xA(N:Nat)(OJ:aq→aiG Int):aiE aq→Nat→aiG Int
 |[],_=>
  some (0:Int)
 |v9::v10,v7=>
  Option.bind (OJ v9) fun v11=>
  bif (v11 !=(0:Int))then
   some v11
  else
   (xA N OJ v10 (v7+1))
def pP(N:Nat):Nat→aq→aiG Int
 |0,_=>none
 |d+1,v1=>
  Option.bind (BP N v1) fun v2=>
  bif v2 then
   Option.bind (BR N v1) fun v3=>
   bif v3 then
    Option.bind (EA N v1) fun v4=>
    bif v4 then
     Option.bind (BT N v1) fun v5=>
     bif v5 then
      Option.bind (CY N v1) fun v6=>
      bif v6 then
       xA N (pP N d) v1.aM 0
      else
       some (1:Int)
     else
      some (10:Int)
    else
     some (11:Int)
   else
    some (7:Int)
  else
   some (5:Int)
def LQ(N:Nat)(v1:aq):aiG Int:=pP N N v1
theorem Yf(N:Nat):∀d:Nat,(∀(v1:aq)(r:Int),pP N d v1=some r→bg Tryz.prog 180 [(aF v1)] (·=(ak r))):=by
 intro d
 induction d with
 |zero=>intro v1 r J;rw[pP]at J;cases J
 |succ d ih=>
  have abo:=ih;intro v1 r J;rw[pP]at J;refine bD Tryz.func180 (by kernel_rfl) (by kernel_rfl) ?_;obtain⟨v2,h1,J⟩:=ar J;refine au af [[],[(4,cL (agq N v1 v2 h1))]] ?_;refine bc J (fun h2 J=> ?_) fun h2 J=> ?_
  ·obtain⟨v3,h3,J⟩:=ar J;refine au af [[(0,bF (cG h2))],[(4,cL (agu N v1 v3 h3))]] ?_;refine bc J (fun h4 J=> ?_) fun h4 J=> ?_
   ·obtain⟨v4,h5,J⟩:=ar J;refine au af [[(0,bF (cG h4))],[(4,cL (ab4 N v1 v4 h5))]] ?_;refine bc J (fun h6 J=> ?_) fun h6 J=> ?_
    ·obtain⟨v5,h7,J⟩:=ar J;refine au af [[(0,bF (cG h6))],[(4,cL (acZ N v1 v5 h7))]] ?_;refine bc J (fun h8 J=> ?_) fun h8 J=> ?_
     ·obtain⟨v6,h9,J⟩:=ar J;refine au af [[(0,bF (cG h8))],[(4,cL (abu N v1 v6 h9))]] ?_;refine bc J (fun aA J=> ?_) fun aA J=> ?_
      ·refine au af [[(0,bF (cG aA))],[]] ?_;refine dX 0 12 (cT v1.aM) (by kernel_rfl) fun a7=> ?_;have bk:=cd b7 a7;refine cx af 1 [] [1,3] 1 (fun((v7,v8):Nat×(aiE aq))=>⟨41,[(1,(.ptr 0 0)),(3,(ak (v7:Int)))],[.cells (aF v1).cells]⟩) (fun((v7,v8):Nat×(aiE aq))=>v1.aM.drop v7=v8∧xA N (pP N d) v8 v7=some r) (fun((v7,v8):Nat×(aiE aq))=>v8.length) (0,v1.aM) ⟨rfl,J⟩ ?_;rintro⟨v7,v8⟩ ⟨cg,J⟩ f1 aN;cases v8 with
       |nil=>
        rw[xA]at J;cases J;exact wr af [[(10,oL v1.aM b7)],[(0,bF (bO cg))],[]]
       |cons v9 v10=>
        rw[xA]at J;obtain⟨v11,bm,J⟩:=ar J;refine au af [[(10,oL v1.aM b7)],[(0,bT (bN cg))],[(10,oE (ik (aU cg))),(16,cL (abo v9 v11 bm))],[]] ?_;refine bc J (fun bQ J=> ?_) fun bQ J=> ?_
        ·cases J;exact wr af [[(0,bT bQ)],[]]
        exact ct af aN (v7+1,v10) [[(0,bF bQ)],[(5,oq (bV cg rfl bk))]] ⟨bR cg,J⟩
      cases J;exact wr af [[(0,bT (cU aA))],[]]
     cases J;exact wr af [[(0,bT (cU h8))],[]]
    cases J;exact wr af [[(0,bT (cU h6))],[]]
   cases J;exact wr af [[(0,bT (cU h4))],[]]
  cases J;exact wr af [[(0,bT (cU h2))],[]]
theorem abw(N:Nat)(v1:aq)(r:Int)(J:LQ N v1=some r):bg Tryz.prog 180 [(aF v1)] (·=(ak r)):=(Yf N N) v1 r J
def yA(N:Nat)(v1:aq):aiG Int:=
 Option.bind (HH N v1) fun v2=>
 bif (decide (v2>(40:Int)))then
  some (13:Int)
 else
  Option.bind (Fl N v1) fun v3=>
  bif (decide (v3>(2000:Int)))then
   some (2:Int)
  else
   Option.bind (LQ N v1) fun v4=>
   some v4
theorem ahs(N:Nat)(v1:aq)(r:Int)(J:yA N v1=some r):bg Tryz.prog 142 [(aF v1)] (·=(ak r)):=by
 rw[yA]at J;refine bD Tryz.func142 (by kernel_rfl) (by kernel_rfl) ?_;obtain⟨v2,h1,J⟩:=ar J;refine au af [[],[(4,cL (acK N v1 v2 h1))]] ?_;refine bc J (fun h2 J=> ?_) fun h2 J=> ?_
 ·cases J;exact wr af [[(0,bT h2)],[]]
 obtain⟨v3,h3,J⟩:=ar J;refine au af [[(0,bF h2)],[(4,cL (acu N v1 v3 h3))]] ?_;refine bc J (fun h4 J=> ?_) fun h4 J=> ?_
 ·cases J;exact wr af [[(0,bT h4)],[]]
 obtain⟨v4,h5,J⟩:=ar J;obtain rfl:=sj J;exact wr af [[(0,bF h4)],[(4,cL (abw N v1 v4 h5))]]
def xY(N:Nat)(v2:aiE aiF)(v1:aQ):aiE ax→Nat→aiG Int
 |[],_=>
  some (0:Int)
 |v6::v7,v4=>
  Option.bind (yM N v6 v2 v1.ba) fun v8=>
  bif v8 then
   (xY N v2 v1 v7 (v4+1))
  else
   some (9:Int)
def AZ(N:Nat)(v1:aQ)(v2:aiE aiF)(v3:aiE ax):aiG Int:=
 xY N v2 v1 v3 0
theorem N9(N:Nat)(v1:aQ)(v2:aiE aiF)(v3:aiE ax)(r:Int)(J:AZ N v1 v2 v3=some r):bg Tryz.prog 181 [(aS v1),(.d (.sl (aB v2))),(.d (.sl (cz v3)))] (·=(ak r)):=by
 rw[AZ]at J;refine bD Tryz.func181 (by kernel_rfl) (by kernel_rfl) ?_;refine au af [[],[]] ?_;refine dq 2 (cz v3) (by kernel_rfl) fun h1=> ?_;have h2:=cd bM h1;refine cx af 1 [] [1,2,3,7] 1 (fun((v4,v5):Nat×(aiE ax))=>⟨23,[(1,(.d (.sl (aB v2)))),(2,(.d (.sl (cz v3)))),(3,(.ptr 0 0)),(7,(ak (v4:Int)))],[.cells (aS v1).cells]⟩) (fun((v4,v5):Nat×(aiE ax))=>v3.drop v4=v5∧xY N v2 v1 v5 v4=some r) (fun((v4,v5):Nat×(aiE ax))=>v5.length) (0,v3) ⟨rfl,J⟩ ?_;rintro⟨v4,v5⟩ ⟨h3,J⟩ f1 aN;cases v5 with
 |nil=>
  rw[xY]at J;cases J;exact wr af [[(7,oL v3 bM)],[(0,bF (bO h3))],[]]
 |cons v6 v7=>
  rw[xY]at J;obtain⟨v8,h4,J⟩:=ar J;refine au af [[(7,oL v3 bM)],[(0,bT (bN h3))],[(7,oE (hY (aU h3))),(22,cL (KT N v6 v2 v1.ba v8 h4))]] ?_;refine bc J (fun h5 J=> ?_) fun h5 J=> ?_
  ·exact ct af aN (v4+1,v7) [[(0,bF (cG h5))],[(5,oq (bV h3 rfl h2))]] ⟨bR h3,J⟩
  cases J;exact wr af [[(0,bT (cU h5))],[]]
def sH(N:Nat)(v9:aG):aiE bj→Nat→(aiE ax)→aiG (bB×(aiE ax)×Bool)
 |[],_,aP=>
  some (v9.aw,aP,true)
 |aE::aC,v11,aP=>
  bif (Nat.ble ((aP.length+1)*32) 140737488355328)then
  (fun lC=>sH N v9 aC (v11+1) lC) (aP++[aE.dB])
  else none
def wX(N:Nat)(v2:aiF):aiE aG→Nat→aiG (bB×(aiE ax)×Bool)
 |[],_=>
  some (fA,[],false)
 |v9::v10,v7=>
  bif (bL v9.ao==bL v2)then
   sH N v9 v9.aI 0 []
  else
   (wX N v2 v10 (v7+1))
def sa(N:Nat)(v2:aiF)(v1:aQ):aiE bX→Nat→aiG (bB×(aiE ax)×Bool)
 |[],_=>
  wX N v2 v1.ay 0
 |v5::v6,v3=>
  bif (bL v5.ao==bL v2)then
   some (v5.aw,v5.aI,true)
  else
   (sa N v2 v1 v6 (v3+1))
def z6(N:Nat)(v1:aQ)(v2:aiF):aiG (bB×(aiE ax)×Bool):=
 sa N v2 v1 v1.a8 0
theorem LG(N:Nat)(v1:aQ)(v2:aiF)(r:bB×(aiE ax)×Bool)(J:z6 N v1 v2=some r):bg Tryz.prog 69 [(aS v1),(bw v2)] (·=(.cb [(eZ r.1),(.d (.sl (cz r.2.1))),(aJ r.2.2)])):=by
 rw[z6]at J;refine bD Tryz.func69 (by kernel_rfl) (by kernel_rfl) ?_;refine au af [[],[]] ?_;refine dX 0 2 (bI v1.a8) (by kernel_rfl) fun h1=> ?_;have h2:=cd ee h1;refine cx af 1 [] [1,2,4,7] 2 (fun((v3,v4):Nat×(aiE bX))=>⟨85,[(1,(bw v2)),(2,(.ptr 0 0)),(4,(.ptr 1 0)),(7,(ak (v3:Int)))],[.cells (aS v1).cells, .cells jg]⟩) (fun((v3,v4):Nat×(aiE bX))=>v1.a8.drop v3=v4∧sa N v2 v1 v4 v3=some r) (fun((v3,v4):Nat×(aiE bX))=>v4.length) (0,v1.a8) ⟨rfl,J⟩ ?_;rintro⟨v3,v4⟩ ⟨h3,J⟩ f1 aN;cases v4 with
 |nil=>
  rw[sa]at J;refine au af [[(10,oL v1.a8 ee)],[(0,bF (bO h3))],[]] ?_;refine dX 0 3 (b8 v1.ay) (by kernel_rfl) fun h4=> ?_;have h5:=cd du h4;refine cx af 2 [] [1,2,4,8] 2 (fun((v7,v8):Nat×(aiE aG))=>⟨85,[(1,(bw v2)),(2,(.ptr 0 0)),(4,(.ptr 1 0)),(8,(ak (v7:Int)))],[.cells (aS v1).cells, .cells jg]⟩) (fun((v7,v8):Nat×(aiE aG))=>v1.ay.drop v7=v8∧wX N v2 v8 v7=some r) (fun((v7,v8):Nat×(aiE aG))=>v8.length) (0,v1.ay) ⟨rfl,J⟩ ?_;rintro⟨v7,v8⟩ ⟨h6,J⟩ f2 dU;cases v8 with
  |nil=>
   rw[wX]at J;cases J;exact wr af [[(10,oL v1.ay du)],[(0,bF (bO h6))],[]]
  |cons v9 v10=>
   rw[wX]at J;refine au af [[(10,oL v1.ay du)],[(0,bT (bN h6))],[(10,oE (fW (aU h6)))]] ?_;refine bc J (fun h7 J=> ?_) fun h7 J=> ?_
   ·refine au af [[(0,bT h7)],[],[]] ?_;refine nV 9 48 2 [] (.inr (by kernel_rfl)) ?_;refine dX 0 3 (b8 v1.ay) (by kernel_rfl) fun h8=> ?_;have h9:v9.aI.length≤maxLen:=by rw[←b5];exact qH (DJ (j:=6) (d:= .sl (cu v9.aI)) h8 (fW (aU h6)) rfl)
    refine cx af 3 [] [2,4,8,9,10] 3 (fun((v11,v12,aP):Nat×(aiE bj)×(aiE ax))=>⟨85,[(2,(.ptr 0 0)),(4,(.ptr 1 0)),(8,(ak (v7:Int))),(9,(.own 2 (cz aP))),(10,(ak (v11:Int)))],[.cells (aS v1).cells, .cells jg, .front 48 2 aP.length]⟩) (fun((v11,v12,aP):Nat×(aiE bj)×(aiE ax))=>v9.aI.drop v11=v12∧sH N v9 v12 v11 aP=some r) (fun((v11,v12,aP):Nat×(aiE bj)×(aiE ax))=>v12.length) (0,v9.aI,[]) ⟨rfl,J⟩ ?_;rintro⟨v11,v12,aP⟩ ⟨aA,J⟩ f3 jB;cases v12 with
    |nil=>
     rw[sH]at J;cases J;exact wr af [[(13,oE (fW (aU h6))),(22,oL v9.aI b5)],[(0,bF (bO aA))],[(10,oE (fW (aU h6)))]]
    |cons aE aC=>
     rw[sH]at J;obtain⟨a7,J⟩:=dg J;exact ct af jB (v11+1,aC,(aP++[aE.dB])) [[(13,oE (fW (aU h6))),(22,oL v9.aI b5)],[(0,bT (bN aA))],[(13,oE (fW (aU h6))),(25,oE (jK (aU aA))),(37,⟨_,_, .app (xs:=cz aP) (ys:=cz [aE.dB]) (zs:=cz (aP++[aE.dB])) (n:=(aP++[aE.dB]).length) bM.symm nI nI (by rw[(bM (l:=aP)),(bM (l:=[aE.dB]))];exact(de a7 (by decide)).1) (by rw[(bM (l:=aP)),(bM (l:=[aE.dB]))];exact(de a7 (by decide)).2) Bw (by first|(rw[(bM (l:=aP)),(bM (l:=[aE.dB]))];done)|(rw[(bM (l:=aP)),(bM (l:=[aE.dB]))];rfl)|(rw[(bM (l:=aP)),(bM (l:=[aE.dB])),ahQ];done)|(rw[(bM (l:=aP)),(bM (l:=[aE.dB])),ahQ];rfl)|(rw[(bM (l:=aP)),(bM (l:=[aE.dB])),ah9]))⟩)],[(5,oq (bV aA rfl h9))]] ⟨bR aA,J⟩
   exact ct af dU (v7+1,v10) [[(0,bF h7)],[(5,oq (bV h6 rfl h5))]] ⟨bR h6,J⟩
 |cons v5 v6=>
  rw[sa]at J;refine au af [[(10,oL v1.a8 ee)],[(0,bT (bN h3))],[(10,oE (jV (aU h3)))]] ?_;refine bc J (fun bk J=> ?_) fun bk J=> ?_
  ·refine au af [[(0,bT bk)]] ?_;refine P3 3 af [(5,(.d (.sl (cz v5.aI)))),(6,(aJ true))] [.cells (aS v1).cells, .cells (eZ v5.aw).cells] ⟨[(10,oE (jV (aU h3))),(28,oE (jV (aU h3)))],by kernel_rfl⟩ ?_;cases J;exact wr af []
  exact ct af aN (v3+1,v6) [[(0,bF bk)],[(5,oq (bV h3 rfl h2))]] ⟨bR h3,J⟩
def sY(N:Nat)(v4:bB×(aiE ax)×Bool)(v2:aiE aiF)(v1:aQ):aiE az→Nat→aiG (bB×Int)
 |[],_=>
  some (v4.1,(0:Int))
 |v7::v8,v5=>
  bif (bL v7.bn==bL (bs []))then
   Option.bind (yM N v7.aK v2 v1.ba) fun v9=>
   bif v9 then
    (sY N v4 v2 v1 v8 (v5+1))
   else
    some (fA,(9:Int))
  else
   Option.bind (z6 N v1 v7.bn) fun v10=>
   bif v10.2.2 then
    bif (v10.1.ck !=(3:Int))then
     some (fA,(10:Int))
    else
     bif ((v10.2.1.length:Int) !=(v7.bp.length:Int))then
      some (fA,(11:Int))
     else
      Option.bind (AZ N v1 v2 v7.bp) fun v11=>
      bif (v11 !=(0:Int))then
       some (fA,v11)
      else
       (sY N v4 v2 v1 v8 (v5+1))
   else
    some (fA,(9:Int))
def A5(N:Nat)(v1:aQ)(v2:aiE aiF)(v3:aq):aiG (bB×Int):=
 Option.bind (z6 N v1 v3.ao) fun v4=>
 bif v4.2.2 then
  bif ((v4.2.1.length:Int) !=(v3.xIdx.length:Int))then
   some (fA,(11:Int))
  else
   sY N v4 v2 v1 v3.xIdx 0
 else
  some (fA,(9:Int))
theorem g_brocaderef17_read_ok(N:Nat)(v1:aQ)(v2:aiE aiF)(v3:aq)(r:bB×Int)(J:A5 N v1 v2 v3=some r):bg Tryz.prog 182 [(aS v1),(.d (.sl (aB v2))),(aF v3)] (·=(.cb [(eZ r.1),(ak r.2)])):=by
 rw[A5]at J;refine bD Tryz.func182 (by kernel_rfl) (by kernel_rfl) ?_;obtain⟨v4,h1,J⟩:=ar J;refine au af [[],[(10,cL (LG N v1 v3.ao v4 h1))],[]] ?_;refine bc J (fun h2 J=> ?_) fun h2 J=> ?_
 ·refine au af [[(0,bF (cG h2))],[(4,oL v4.2.1 bM),(13,oL v3.xIdx cn)]] ?_;refine bc J (fun h3 J=> ?_) fun h3 J=> ?_
  ·cases J;exact wr af [[(0,bT h3)],[]]
  refine au af [[(0,bF h3)],[]] ?_;refine dX 1 11 (bJ v3.xIdx) (by kernel_rfl) fun h4=> ?_;have h5:=cd cn h4;refine cx af 1 [] [1,3,5,6,8,11] 4 (fun((v5,v6):Nat×(aiE az))=>⟨90,[(1,(.d (.sl (aB v2)))),(3,(.ptr 0 0)),(5,(.ptr 1 0)),(6,(.ptr 2 0)),(8,(.ptr 3 0)),(11,(ak (v5:Int)))],[.cells (aS v1).cells, .cells (aF v3).cells, .cells jg, .cells (eZ v4.1).cells]⟩) (fun((v5,v6):Nat×(aiE az))=>v3.xIdx.drop v5=v6∧sY N v4 v2 v1 v6 v5=some r) (fun((v5,v6):Nat×(aiE az))=>v6.length) (0,v3.xIdx) ⟨rfl,J⟩ ?_;rintro⟨v5,v6⟩ ⟨h6,J⟩ f1 aN;cases v6 with
  |nil=>
   rw[sY]at J;cases J;exact wr af [[(10,oL v3.xIdx cn)],[(0,bF (bO h6))],[]]
  |cons v7 v8=>
   rw[sY]at J;refine au af [[(10,oL v3.xIdx cn)],[(0,bT (bN h6))],[(10,oE (eH (aU h6)))],[]] ?_;refine bc J (fun h7 J=> ?_) fun h7 J=> ?_
   ·obtain⟨v9,h8,J⟩:=ar J;refine au af [[(0,bT h7)],[(16,cL (KT N v7.aK v2 v1.ba v9 h8))]] ?_;refine bc J (fun h9 J=> ?_) fun h9 J=> ?_
    ·exact ct af aN (v5+1,v8) [[(0,bF (cG h9))],[(5,oq (bV h6 rfl h5))]] ⟨bR h6,J⟩
    cases J;exact wr af [[(0,bT (cU h9))],[]]
   obtain⟨v10,aA,J⟩:=ar J;refine au af [[(0,bF h7)],[(10,cL (LG N v1 v7.bn v10 aA))],[]] ?_;refine bc J (fun a7 J=> ?_) fun a7 J=> ?_
   ·refine au af [[(0,bF (cG a7))],[]] ?_;refine bc J (fun bk J=> ?_) fun bk J=> ?_
    ·cases J;exact wr af [[(0,bT bk)],[]]
    refine au af [[(0,bF bk)],[(4,oL v10.2.1 bM),(13,oL v7.bp bM)]] ?_;refine bc J (fun cg J=> ?_) fun cg J=> ?_
    ·cases J;exact wr af [[(0,bT cg)],[]]
    obtain⟨v11,bm,J⟩:=ar J;refine au af [[(0,bF cg)],[(13,cL (N9 N v1 v2 v7.bp v11 bm))],[]] ?_;refine bc J (fun bQ J=> ?_) fun bQ J=> ?_
    ·cases J;exact wr af [[(0,bT bQ)],[]]
    exact ct af aN (v5+1,v8) [[(0,bF bQ)],[(5,oq (bV h6 rfl h5))]] ⟨bR h6,J⟩
   cases J;exact wr af [[(0,bT (cU a7))],[]]
 cases J;exact wr af [[(0,bT (cU h2))],[]]
def lh(N:Nat)(v3:aq)(v1:aQ)(v2:aiE aiF)(SI:aQ→(aiE aiF)→aq→aiG (bB×Int)):aiE aq→Nat→(aiE bB)→aiG (bB×Int)
 |[],_,v8=>
  Option.bind (bif (v3.aX==(1:Int))then some true else some (v3.aX==(12:Int))) fun v9=>
  bif v9 then
   some (v3.aw,(0:Int))
  else
   bif (v3.aX==(2:Int))then
    Option.bind (AZ N v1 v2 [v3.aK]) fun v10=>
    some ((⟨(3:Int),(0:Int),(0:Int),(0:Int),(0:Int)⟩:bB),v10)
   else
    bif (v3.aX==(3:Int))then
     Option.bind (A5 N v1 v2 v3) fun v11=>
     some (v11.1,v11.2)
    else
     bif (v3.aX==(11:Int))then
      Option.bind (v8[1]?) fun v12=>
      Option.bind (v8[2]?) fun aE=>
      bif ((v12.ck==aE.ck)&&((v12.cq==aE.cq)&&((v12.cJ==aE.cJ)&&((v12.cH==aE.cH)&&((v12.cK==aE.cK)&&true)))))then
       some (v12,(0:Int))
      else
       some (fA,(10:Int))
     else
      bif (v3.aX==(8:Int))then
       Option.bind (v8[0]?) fun aC=>
       some (aC,(0:Int))
      else
       bif (decide (v3.aX≥(16:Int)))then
        some (fA,(0:Int))
       else
        Option.bind (v8[0]?) fun aP=>
        Option.bind (v8[1]?) fun aW=>
        bif ((aP.ck==aW.ck)&&((aP.cq==aW.cq)&&((aP.cJ==aW.cJ)&&((aP.cH==aW.cH)&&((aP.cK==aW.cK)&&true)))))then
         bif (decide (v3.aX≥(13:Int)))then
          some (fA,(0:Int))
         else
          some (aP,(0:Int))
        else
         some (fA,(10:Int))
 |v6::v7,v4,v8=>
  Option.bind (SI v1 v2 v6) fun aH=>
  bif (aH.2 !=(0:Int))then
   some (fA,aH.2)
  else
   bif (Nat.ble ((v8.length+1)*40) 140737488355328)then
   (fun b6=>lh N v3 v1 v2 SI v7 (v4+1) b6) (v8++[aH.1])
   else none
def oJ(N:Nat):Nat→aQ→(aiE aiF)→aq→aiG (bB×Int)
 |0,_,_,_=>none
 |d+1,v1,v2,v3=>
  lh N v3 v1 v2 (oJ N d) v3.aM 0 []
def Cf(N:Nat)(v1:aQ)(v2:aiE aiF)(v3:aq):aiG (bB×Int):=oJ N N v1 v2 v3
theorem YW(N:Nat):∀d:Nat,(∀(v1:aQ)(v2:aiE aiF)(v3:aq)(r:bB×Int),oJ N d v1 v2 v3=some r→bg Tryz.prog 144 [(aS v1),(.d (.sl (aB v2))),(aF v3)] (·=(.cb [(eZ r.1),(ak r.2)]))):=by
 intro d
 induction d with
 |zero=>intro v1 v2 v3 r J;rw[oJ]at J;cases J
 |succ d ih=>
  have abJ:=ih;intro v1 v2 v3 r J;rw[oJ]at J;refine bD Tryz.func144 (by kernel_rfl) (by kernel_rfl) ?_;refine au af [[],[],[]] ?_;refine nV 8 42 5 [] (.inr (by kernel_rfl)) ?_;refine dX 1 12 (cT v3.aM) (by kernel_rfl) fun h1=> ?_;have h2:=cd b7 h1;refine cx af 1 [] [1,3,5,6,8,9] 4 (fun((v4,v5,v8):Nat×(aiE aq)×(aiE bB))=>⟨112,[(1,(.d (.sl (aB v2)))),(3,(.ptr 0 0)),(5,(.ptr 1 0)),(6,(.ptr 2 0)),(8,(.own 3 (jT v8))),(9,(ak (v4:Int)))],[.cells (aS v1).cells, .cells (aF v3).cells, .cells jg, .front 42 5 v8.length]⟩) (fun((v4,v5,v8):Nat×(aiE aq)×(aiE bB))=>v3.aM.drop v4=v5∧lh N v3 v1 v2 (oJ N d) v5 v4 v8=some r) (fun((v4,v5,v8):Nat×(aiE aq)×(aiE bB))=>v5.length) (0,v3.aM,[]) ⟨rfl,J⟩ ?_;rintro⟨v4,v5,v8⟩ ⟨h3,J⟩ f1 aN;cases v5 with
  |nil=>
   rw[lh]at J;refine au af [[(10,oL v3.aM b7)],[(0,bF (bO h3))]] ?_;obtain⟨v9,h5,J⟩:=ar J;refine cM af [(38,(aJ v9))] [.cells (aS v1).cells, .cells (aF v3).cells, .cells jg, .front 42 5 v8.length] ?_ ?_
   ·refine bc h5 (fun h4 h5=> ?_) fun h4 h5=> ?_
    ·cases h5;exact⟨so (os [12,15,18,22] (bT h4) []),by kernel_rfl⟩
    cases h5;exact⟨so (os [12,15,18,22] (bF h4) []),by kernel_rfl⟩
   refine bc J (fun h6 J=> ?_) fun h6 J=> ?_
   ·cases J;exact wr af [[(0,bT h6)],[]]
   refine au af [[(0,bF h6)],[]] ?_;refine bc J (fun h7 J=> ?_) fun h7 J=> ?_
   ·obtain⟨v10,h8,J⟩:=ar J;cases J;exact wr af [[(0,bT h7)],[(19,cL (N9 N v1 v2 [v3.aK] v10 h8))]]
   refine au af [[(0,bF h7)],[]] ?_;refine bc J (fun h9 J=> ?_) fun h9 J=> ?_
   ·obtain⟨v11,aA,J⟩:=ar J;cases J;exact wr af [[(0,bT h9)],[(10,cL (g_brocaderef17_read_ok N v1 v2 v3 v11 aA))]]
   refine au af [[(0,bF h9)],[]] ?_;refine bc J (fun a7 J=> ?_) fun a7 J=> ?_
   ·obtain⟨v12,bk,J⟩:=ar J;obtain⟨aE,cg,J⟩:=ar J;refine au af [[(0,bT a7)],[(4,oE (k:=1) (kP bk)),(13,oE (k:=2) (kP cg))]] ?_;refine bc J (fun bm J=> ?_) fun bm J=> ?_
    ·cases J;exact wr af [[(0,bF (cG bm))],[(4,oE (k:=1) (kP bk))]]
    cases J;exact wr af [[(0,bT (cU bm))],[]]
   refine au af [[(0,bF a7)],[]] ?_;refine bc J (fun bQ J=> ?_) fun bQ J=> ?_
   ·obtain⟨aC,bo,J⟩:=ar J;cases J;exact wr af [[(0,bT bQ)],[(4,oE (k:=0) (kP bo))]]
   refine au af [[(0,bF bQ)],[]] ?_;refine bc J (fun cC J=> ?_) fun cC J=> ?_
   ·cases J;exact wr af [[(0,bT cC)],[]]
   obtain⟨aP,bW,J⟩:=ar J;obtain⟨aW,dh,J⟩:=ar J;refine au af [[(0,bF cC)],[(4,oE (k:=0) (kP bW)),(13,oE (k:=1) (kP dh))]] ?_;refine bc J (fun dH J=> ?_) fun dH J=> ?_
   ·refine au af [[(0,bF (cG dH))],[]] ?_;refine bc J (fun eJ J=> ?_) fun eJ J=> ?_
    ·cases J;exact wr af [[(0,bT eJ)],[]]
    cases J;exact wr af [[(0,bF eJ)],[(4,oE (k:=0) (kP bW))]]
   cases J;exact wr af [[(0,bT (cU dH))],[]]
  |cons v6 v7=>
   rw[lh]at J;obtain⟨aH,fk,J⟩:=ar J;refine au af [[(10,oL v3.aM b7)],[(0,bT (bN h3))],[(16,oE (ik (aU h3))),(22,cL (abJ v1 v2 v6 aH fk))],[]] ?_;refine bc J (fun fg J=> ?_) fun fg J=> ?_
   ·cases J;exact wr af [[(0,bT fg)],[]]
   obtain⟨eN,J⟩:=dg J;exact ct af aN (v4+1,v7,(v8++[aH.1])) [[(0,bF fg)],[(10,⟨_,_, .app (xs:=jT v8) (ys:=jT [aH.1]) (zs:=jT (v8++[aH.1])) (n:=(v8++[aH.1]).length) gh.symm EN EN (by rw[(gh (l:=v8)),(gh (l:=[aH.1]))];exact(de eN (by decide)).1) (by rw[(gh (l:=v8)),(gh (l:=[aH.1]))];exact(de eN (by decide)).2) Nt (by first|(rw[(gh (l:=v8)),(gh (l:=[aH.1]))];done)|(rw[(gh (l:=v8)),(gh (l:=[aH.1]))];rfl)|(rw[(gh (l:=v8)),(gh (l:=[aH.1])),ahQ];done)|(rw[(gh (l:=v8)),(gh (l:=[aH.1])),ahQ];rfl)|(rw[(gh (l:=v8)),(gh (l:=[aH.1])),ah9]))⟩)],[(5,oq (bV h3 rfl h2))]] ⟨bR h3,J⟩
theorem abf(N:Nat)(v1:aQ)(v2:aiE aiF)(v3:aq)(r:bB×Int)(J:Cf N v1 v2 v3=some r):bg Tryz.prog 144 [(aS v1),(.d (.sl (aB v2))),(aF v3)] (·=(.cb [(eZ r.1),(ak r.2)])):=(YW N N) v1 v2 v3 r J
def wg(N:Nat)(v1:aQ)(v2:aiE aiF)(v3:aq):aiG (bB×Int):=
 Option.bind (yA N v3) fun v4=>
 bif (v4 !=(0:Int))then
  some (fA,v4)
 else
  Option.bind (zZ N v3) fun v5=>
  bif v5 then
   some (fA,(10:Int))
  else
   Option.bind (Cf N v1 v2 v3) fun v6=>
   bif (v6.2 !=(0:Int))then
    some (fA,v6.2)
   else
    some (v6.1,(0:Int))
theorem YR(N:Nat)(v1:aQ)(v2:aiE aiF)(v3:aq)(r:bB×Int)(J:wg N v1 v2 v3=some r):bg Tryz.prog 111 [(aS v1),(.d (.sl (aB v2))),(aF v3)] (·=(.cb [(eZ r.1),(ak r.2)])):=by
 rw[wg]at J;refine bD Tryz.func111 (by kernel_rfl) (by kernel_rfl) ?_;obtain⟨v4,h1,J⟩:=ar J;refine au af [[],[(4,cL (ahs N v3 v4 h1))],[]] ?_;refine bc J (fun h2 J=> ?_) fun h2 J=> ?_
 ·cases J;exact wr af [[(0,bT h2)],[]]
 obtain⟨v5,h3,J⟩:=ar J;refine au af [[(0,bF h2)],[(4,cL (Oh N v3 v5 h3))]] ?_;refine bc J (fun h4 J=> ?_) fun h4 J=> ?_
 ·cases J;exact wr af [[(0,bT h4)],[]]
 obtain⟨v6,h5,J⟩:=ar J;refine au af [[(0,bF h4)],[(10,cL (abf N v1 v2 v3 v6 h5))],[]] ?_;refine bc J (fun h6 J=> ?_) fun h6 J=> ?_
 ·cases J;exact wr af [[(0,bT h6)],[]]
 cases J;exact wr af [[(0,bF h6)],[]]
def De(N:Nat)(v1:aQ)(v2:Int)(v3:aiE aiF):aiG Int:=
 bif (decide ((0:Int)≤v2))then
 Option.bind (v1.ay[(v2).toNat]?) fun v4=>
 Option.bind (tR N v4.ao v3) fun v5=>
 bif (v5 !=(0:Int))then
  some v5
 else
  Option.bind (tK N v4.aw) fun v6=>
  bif v6 then
   Option.bind (bif (decide ((v4.aI.length:Int)>(6:Int)))then some true else some (decide ((v4.bz.length:Int)>(6:Int)))) fun v7=>
   bif v7 then
    some (11:Int)
   else
    bif (Nat.ble ((0+v4.aI.length)*48) 140737488355328)then
    bif (Nat.ble ((v4.aI.length+v4.bz.length)*48) 140737488355328)then
    Option.bind (Dv N (v4.aI++v4.bz) v1.ba) fun v8=>
    bif (v8 !=(0:Int))then
     some v8
    else
     Option.bind (A1 N v4) fun v9=>
     bif (v9 !=(0:Int))then
      some v9
     else
      bif (decide ((v2).toNat≤v1.ay.length))then
      Option.bind (Cj N v4) fun v10=>
      Option.bind (wg N (⟨v1.ba,[],v1.a8,((v1.ay.take (v2).toNat).drop 0),[]⟩:aQ) v10 v4.bx) fun v11=>
      bif (v11.2 !=(0:Int))then
       some v11.2
      else
       bif ((v11.1.ck==v4.aw.ck)&&((v11.1.cq==v4.aw.cq)&&((v11.1.cJ==v4.aw.cJ)&&((v11.1.cH==v4.aw.cH)&&((v11.1.cK==v4.aw.cK)&&true)))))then
        some (0:Int)
       else
        some (10:Int)
      else none
    else none
    else none
  else
   some (10:Int)
 else none
theorem WM(N:Nat)(v1:aQ)(v2:Int)(v3:aiE aiF)(r:Int)(J:De N v1 v2 v3=some r):bg Tryz.prog 68 [(aS v1),(ak v2),(.d (.sl (aB v3)))] (·=(ak r)):=by
 rw[De]at J;refine bD Tryz.func68 (by kernel_rfl) (by kernel_rfl) ?_;obtain⟨h2,J⟩:=dg J;obtain⟨v4,h1,J⟩:=ar J;obtain⟨v5,h3,J⟩:=ar J;refine au af [[],[(10,⟨_,_, .el (xs:=b8 v1.ay) (i:=v2) (of_decide_eq_true h2) (fW h1)⟩)],[(10,cL (HR N v4.ao v3 v5 h3))],[]] ?_;refine bc J (fun h4 J=> ?_) fun h4 J=> ?_
 ·cases J;exact wr af [[(0,bT h4)],[]]
 obtain⟨v6,h5,J⟩:=ar J;refine au af [[(0,bF h4)],[(7,cL (GD N v4.aw v6 h5))]] ?_;refine bc J (fun h6 J=> ?_) fun h6 J=> ?_
 ·refine au af [[(0,bF (cG h6))]] ?_;obtain⟨v7,h8,J⟩:=ar J;refine cM af [(38,(aJ v7))] [.cells (aS v1).cells, .cells (cy v4).cells] ?_ ?_
  ·refine bc h8 (fun h7 h8=> ?_) fun h7 h8=> ?_
   ·cases h8;exact⟨so (os [15,18,21,24,28] (bT h7) [(7,oL v4.aI b5)]),by kernel_rfl⟩
   cases h8;exact⟨so (os [15,18,21,24,28] (bF h7) [(7,oL v4.aI b5),(22,oL v4.bz b5)]),by kernel_rfl⟩
  refine bc J (fun h9 J=> ?_) fun h9 J=> ?_
  ·cases J;exact wr af [[(0,bT h9)],[]]
  obtain⟨aA,J⟩:=dg J;obtain⟨a7,J⟩:=dg J;obtain⟨v8,bk,J⟩:=ar J;refine au af [[(0,bF h9)],[(10,⟨_,_, .app (xs:=[]) (ys:=cu v4.aI) (zs:=cu v4.aI) (n:=v4.aI.length) rfl (fun _ hc=>absurd hc aiw) oh (by rw[(show([]:aiE (aiE D)).length=0 from rfl),(b5 (l:=v4.aI))];exact(de aA (by decide)).1) (by rw[(show([]:aiE (aiE D)).length=0 from rfl),(b5 (l:=v4.aI))];exact(de aA (by decide)).2) rfl (by first|(rw[(show([]:aiE (aiE D)).length=0 from rfl),(b5 (l:=v4.aI))];done)|(rw[(show([]:aiE (aiE D)).length=0 from rfl),(b5 (l:=v4.aI))];rfl)|(rw[(show([]:aiE (aiE D)).length=0 from rfl),(b5 (l:=v4.aI)),ahQ];done)|(rw[(show([]:aiE (aiE D)).length=0 from rfl),(b5 (l:=v4.aI)),ahQ];rfl)|(rw[(show([]:aiE (aiE D)).length=0 from rfl),(b5 (l:=v4.aI)),ah9]))⟩),(19,⟨_,_, .app (xs:=cu v4.aI) (ys:=cu v4.bz) (zs:=cu (v4.aI++v4.bz)) (n:=(v4.aI++v4.bz).length) b5.symm oh oh (by rw[(b5 (l:=v4.aI)),(b5 (l:=v4.bz))];exact(de a7 (by decide)).1) (by rw[(b5 (l:=v4.aI)),(b5 (l:=v4.bz))];exact(de a7 (by decide)).2) Gm (by first|(rw[(b5 (l:=v4.aI)),(b5 (l:=v4.bz))];done)|(rw[(b5 (l:=v4.aI)),(b5 (l:=v4.bz))];rfl)|(rw[(b5 (l:=v4.aI)),(b5 (l:=v4.bz)),ahQ];done)|(rw[(b5 (l:=v4.aI)),(b5 (l:=v4.bz)),ahQ];rfl)|(rw[(b5 (l:=v4.aI)),(b5 (l:=v4.bz)),ah9]))⟩),(28,cL (acy N (v4.aI++v4.bz) v1.ba v8 bk))],[]] ?_
  refine bc J (fun cg J=> ?_) fun cg J=> ?_
  ·cases J;exact wr af [[(0,bT cg)],[]]
  obtain⟨v9,bm,J⟩:=ar J;refine au af [[(0,bF cg)],[(4,cL (Xs N v4 v9 bm))],[]] ?_;refine bc J (fun bQ J=> ?_) fun bQ J=> ?_
  ·cases J;exact wr af [[(0,bT bQ)],[]]
  obtain⟨bo,J⟩:=dg J;obtain⟨v10,cC,J⟩:=ar J;obtain⟨v11,bW,J⟩:=ar J;refine au af [[(0,bF bQ)],[(22,⟨_,_, .sub (xs:=b8 v1.ay) (lo:=(0:Int)) (hi:=v2) (by decide) (Nat.zero_le _) (of_decide_eq_true h2) (by rw[du];exact(of_decide_eq_true bo)) Dh RU⟩),(31,cL (agl N v4 v10 cC)),(40,cL (YR N (⟨v1.ba,[],v1.a8,((v1.ay.take (v2).toNat).drop 0),[]⟩:aQ) v10 v4.bx v11 bW))],[]] ?_;refine bc J (fun dh J=> ?_) fun dh J=> ?_
  ·cases J;exact wr af [[(0,bT dh)],[]]
  refine au af [[(0,bF dh)],[]] ?_;refine bc J (fun dH J=> ?_) fun dH J=> ?_
  ·cases J;exact wr af [[(0,bF (cG dH))],[]]
  cases J;exact wr af [[(0,bT (cU dH))],[]]
 cases J;exact wr af [[(0,bT (cU h6))],[]]
end Go.Proofs.YtphmhnabilhbgaaGreatDoor
