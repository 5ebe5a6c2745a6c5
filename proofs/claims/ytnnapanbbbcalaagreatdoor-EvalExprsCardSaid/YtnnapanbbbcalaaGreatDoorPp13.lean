/-
  Part 13 of the proof: PE7, PE8, PE9, PAll, ValNames, ValNode, LinP, ValTree, ValTree2, ValidLaw, InVal1, InVal2, InLin, InLin2, InLin3, EvA, EvB, EvC, SmV, SmVR.
-/
import Derived.Test.YtnnapanbbbcalaaGreatDoorPp12
import Derived.Laws.Bits64
namespace Go.Proofs.YtnnapanbbbcalaaGreatDoor
open Go.RowKit
set_option maxRecDepth 100000
set_option maxHeartbeats 0
set_option linter.unusedVariables false
def wy:cl:=⟨(0:Int),(0:Int),(0:Int),(0:Int),(0:Int),(0:Int)⟩
def Nb:amT AV:=[(bk (0:Int64)),(bk (0:Int64)),(ar (0:Int)),(ar (0:Int)),(ar (0:Int)),(ar (0:Int)),(ar (0:Int)),(ar (0:Int))]
def rm(N:Nat)(v2:amT aV):amT dP->Nat->Int->Int->Int->Int->Int->Int->Int->Int->Int->Int->Int->Int->amV (Int64×Int)
 |[],_,v20,v21,fS,dW,v24,fM,fe,iE,v28,kP,v30,v31=>
  Option.bind (Dt N (⟨v20,v21,fS,dW,v24,fM⟩:cl) (⟨fe,iE,v28,kP,v30,v31⟩:cl)) λzM=>
  bif zM then
   Option.bind (Bc N (⟨fe,iE,v28,kP,v30,v31⟩:cl) (⟨v20,v21,fS,dW,v24,fM⟩:cl)) λjk=>
   Option.bind (bif (jk.cX !=0)then some true else(bif (jk.cV !=0)then some true else(bif (jk.cP !=0)then some true else(bif (jk.cJ !=0)then some true else some (decide ((IntKind.u64.wrap (jk.cr+(IntKind.u64.wrap (jk.cE*(4294967296:Int)))))>9223372036854775808)))))) λN4=>
   bif N4 then
    some ((0:Int64),(3:Int))
   else
    some (((-(Int64.ofInt (IntKind.u64.wrap ((IntKind.u64.wrap (jk.cr+(IntKind.u64.wrap (jk.cE*(4294967296:Int)))))-(1:Int)))))-(1:Int64)),(0:Int))
  else
   Option.bind (Bc N (⟨v20,v21,fS,dW,v24,fM⟩:cl) (⟨fe,iE,v28,kP,v30,v31⟩:cl)) λoc=>
   Option.bind (bif (oc.cX !=0)then some true else(bif (oc.cV !=0)then some true else(bif (oc.cP !=0)then some true else(bif (oc.cJ !=0)then some true else some (decide ((IntKind.u64.wrap (oc.cr+(IntKind.u64.wrap (oc.cE*(4294967296:Int)))))>9223372036854775807)))))) λLA=>
   bif LA then
    some ((0:Int64),(3:Int))
   else
    some ((Int64.ofInt (IntKind.u64.wrap (oc.cr+(IntKind.u64.wrap (oc.cE*(4294967296:Int)))))),(0:Int))
 |bI::cF,bx,v20,v21,fS,dW,v24,fM,fe,iE,v28,kP,v30,v31=>
  (Lq N v2 bI.bo).bind λv37=>
  bif v37.2 then
   bif ((decide (v37.1.toInt<0))==(decide (bI.eQ.toInt<0)))then
    (rE N v37.1).bind λYG=>
    (rE N bI.eQ).bind λRJ=>
    Option.bind (vw N (⟨v20,v21,fS,dW,v24,fM⟩:cl) YG RJ) λv40=>
    (λiv Bo Qd P0 LF Oe Pj MA NO PY Lm Pn=>rm N v2 cF (bx+1) iv Bo Qd P0 LF Oe Pj MA NO PY Lm Pn) v40.cr v40.cE v40.cX v40.cV v40.cP v40.cJ fe iE v28 kP v30 v31
   else
    (rE N v37.1).bind λVU=>
    (rE N bI.eQ).bind λUR=>
    Option.bind (vw N (⟨fe,iE,v28,kP,v30,v31⟩:cl) VU UR) λny=>
    (λiv Bo Qd P0 LF Oe Pj MA NO PY Lm Pn=>rm N v2 cF (bx+1) iv Bo Qd P0 LF Oe Pj MA NO PY Lm Pn) v20 v21 fS dW v24 fM ny.cr ny.cE ny.cX ny.cV ny.cP ny.cJ
  else
   some ((0:Int64),(9:Int))
def HG(N:Nat)(v2:amT aV)(v1:cn)(v4:Int)(v5:Int)(v6:Int)(v7:Int)(v8:Int)(v9:Int)(v10:Int)(v11:Int)(v12:Int)(aF:Int)(aI:Int)(bg:Int):amV (Int64×Int):=
 rm N v2 v1.xL 0 v4 v5 v6 v7 v8 v9 v10 v11 v12 aF aI bg
def xz(N:Nat)(v1:cn)(v2:amT aV):amV (Int64×Int):=
 (Gl N v1).bind λv3=>
 bif (v3 !=0)then
  some ((0:Int64),(1:Int))
 else
  bif (decide (v1.xK.toInt<0))then
   (rE N v1.xK).bind λY7=>
   Option.bind (vw N wy Y7 (1:Int)) λnJ=>
   HG N v2 v1 (0:Int) (0:Int) (0:Int) (0:Int) (0:Int) (0:Int) nJ.cr nJ.cE nJ.cX nJ.cV nJ.cP nJ.cJ
  else
   (rE N v1.xK).bind λv46=>
   Option.bind (vw N wy v46 (1:Int)) λnL=>
   HG N v2 v1 nL.cr nL.cE nL.cX nL.cV nL.cP nL.cJ (0:Int) (0:Int) (0:Int) (0:Int) (0:Int) (0:Int)
def Fp(v1:cn)(v4:Int)(v5:Int)(v6:Int)(v7:Int)(v8:Int)(v9:Int)(v10:Int)(v11:Int)(v12:Int)(aF:Int)(aI:Int)(bg:Int)(l:amT aq):amT aq:= .cells (dT v1).cells:: .cells [(.d (.v (.int .u64 v4))),(.d (.v (.int .u64 v5))),(.d (.v (.int .u64 v6))),(.d (.v (.int .u64 v7))),(.d (.v (.int .u64 v8))),(.d (.v (.int .u64 v9)))]:: .cells [(.d (.v (.int .u64 v10))),(.d (.v (.int .u64 v11))),(.d (.v (.int .u64 v12))),(.d (.v (.int .u64 aF))),(.d (.v (.int .u64 aI))),(.d (.v (.int .u64 bg)))]::l
theorem N1{N v1 v2 r}(hF:xz N v1 v2=some r):KF 81 [(dT v1),(.d (.sl (aS v2)))] (.aY [(bk r.1),(ar r.2)]):=by
 rw[xz]at hF;refine JP Tryz.func81 ?_;obtain⟨v3,h1,hF⟩:=bm hF;refine gK bw [[],[(4,cK ajj h1)]] ?_;apply bc hF<;>intro h2 hF
 ·cases hF;exact wr bw [[(0,bT h2)],[]]
 refine DK bw 1 [[(0,bF h2)],[],[]] [1,2,6,7] 3 (λ((v4,v5,v6,v7,v8,v9,v10,v11,v12,aF,aI,bg):Int×Int×Int×Int×Int×Int×Int×Int×Int×Int×Int×Int)=>⟨155,[(1,(.d (.sl (aS v2)))),(2,(.ptr 0 0)),(6,(.ptr 1 0)),(7,(.ptr 2 0))],(Fp v1 v4 v5 v6 v7 v8 v9 v10 v11 v12 aF aI bg [])⟩) (λ((v4,v5,v6,v7,v8,v9,v10,v11,v12,aF,aI,bg):Int×Int×Int×Int×Int×Int×Int×Int×Int×Int×Int×Int)=>HG N v2 v1 v4 v5 v6 v7 v8 v9 v10 v11 v12 aF aI bg=some r) ?_ ?_
 ·intro f1 aJ;apply bc hF<;>intro oV hF
  ·obtain⟨Y7,Hz,nJ,OQ,hF⟩:=k01 hF;exact lg bw aJ ((0:Int),(0:Int),(0:Int),(0:Int),(0:Int),(0:Int),nJ.cr,nJ.cE,nJ.cX,nJ.cV,nJ.cP,nJ.cJ) [[(0,bT oV)],[(10,cK zQ Hz),(13,cK J3 OQ)]] hF
  obtain⟨v46,h34,nL,h35,hF⟩:=k01 hF;exact lg bw aJ (nL.cr,nL.cE,nL.cX,nL.cV,nL.cP,nL.cJ,(0:Int),(0:Int),(0:Int),(0:Int),(0:Int),(0:Int)) [[(0,bF oV)],[(10,cK zQ h34),(13,cK J3 h35)]] hF
 rintro⟨v4,v5,v6,v7,v8,v9,v10,v11,v12,aF,aI,bg⟩ hF
 try dsimp only at hF
 rw[HG]at hF;refine gK bw [[]] ?_;refine WE Al 0 1 v1.xL λh4=> ?_;refine Js bw 2 [] [1,2,6,7,8] 3 (λ((bx,cy,v20,v21,fS,dW,v24,fM,fe,iE,v28,kP,v30,v31):Nat×(amT dP)×Int×Int×Int×Int×Int×Int×Int×Int×Int×Int×Int×Int)=>⟨155,[(1,(.d (.sl (aS v2)))),(2,(.ptr 0 0)),(6,(.ptr 1 0)),(7,(.ptr 2 0)),(8,(ar (bx:Int)))],(Fp v1 v20 v21 fS dW v24 fM fe iE v28 kP v30 v31 [])⟩) (λ((bx,cy,v20,v21,fS,dW,v24,fM,fe,iE,v28,kP,v30,v31):Nat×(amT dP)×Int×Int×Int×Int×Int×Int×Int×Int×Int×Int×Int×Int)=>v1.xL.drop bx=cy/\rm N v2 cy bx v20 v21 fS dW v24 fM fe iE v28 kP v30 v31=some r) (λ((bx,cy,v20,v21,fS,dW,v24,fM,fe,iE,v28,kP,v30,v31):Nat×(amT dP)×Int×Int×Int×Int×Int×Int×Int×Int×Int×Int×Int×Int)=>cy.length) (0,v1.xL,v4,v5,v6,v7,v8,v9,v10,v11,v12,aF,aI,bg) ⟨rfl,hF⟩ ?_;rintro⟨bx,cy,v20,v21,fS,dW,v24,fM,fe,iE,v28,kP,v30,v31⟩ ⟨h5,hF⟩ f2 eK;cases cy with
 |nil=>
  rw[rm]at hF;obtain⟨zM,h6,hF⟩:=bm hF;refine gK bw [[(10,oL v1.xL lq)],[(0,bF (cf h5))],[(7,cL (alB h6))]] ?_;apply bc hF<;>intro h7 hF
  ·obtain⟨jk,h8,hF⟩:=bm hF;refine gK bw [[(0,bT h7)],[(7,cL (SG h8))],[(1,⟨_,_, .lt (z:=0) (n:=6) (by decide) (by decide)⟩),(7,⟨_,_, .lt (z:=1) (n:=6) (by decide) (by decide)⟩)]] ?_;obtain⟨N4,bC,hF⟩:=bm hF;refine wL bw [(116,(az N4))] (Fp v1 v20 v21 fS dW v24 fM fe iE v28 kP v30 v31 [.cells (eC jk).cells]) ?_ ?_
   ·apply bc bC<;>intro h9 bC
    ·cases bC;exact k00 [(3,bT h9),(8,bT rfl),(13,bT rfl),(18,bT rfl)] [(1,⟨_,_, .lt (z:=2) (n:=6) (by decide) (by decide)⟩)]
    apply bc bC<;>intro aW bC
    ·cases bC;exact k00 [(3,bF h9),(8,bT aW),(13,bT rfl),(18,bT rfl)] [(1,⟨_,_, .lt (z:=2) (n:=6) (by decide) (by decide)⟩),(13,⟨_,_, .lt (z:=3) (n:=6) (by decide) (by decide)⟩)]
    apply bc bC<;>intro aZ bC
    ·cases bC;exact k00 [(3,bF h9),(8,bF aW),(13,bT aZ),(18,bT rfl)] [(1,⟨_,_, .lt (z:=2) (n:=6) (by decide) (by decide)⟩),(13,⟨_,_, .lt (z:=3) (n:=6) (by decide) (by decide)⟩),(28,⟨_,_, .lt (z:=4) (n:=6) (by decide) (by decide)⟩)]
    apply bc bC<;>intro bj bC
    ·cases bC;exact k00 [(3,bF h9),(8,bF aW),(13,bF aZ),(18,bT bj)] [(1,⟨_,_, .lt (z:=2) (n:=6) (by decide) (by decide)⟩),(13,⟨_,_, .lt (z:=3) (n:=6) (by decide) (by decide)⟩),(28,⟨_,_, .lt (z:=4) (n:=6) (by decide) (by decide)⟩),(43,⟨_,_, .lt (z:=5) (n:=6) (by decide) (by decide)⟩)]
    cases bC;exact k00 [(3,bF h9),(8,bF aW),(13,bF aZ),(18,bF bj)] [(1,⟨_,_, .lt (z:=2) (n:=6) (by decide) (by decide)⟩),(13,⟨_,_, .lt (z:=3) (n:=6) (by decide) (by decide)⟩),(28,⟨_,_, .lt (z:=4) (n:=6) (by decide) (by decide)⟩),(43,⟨_,_, .lt (z:=5) (n:=6) (by decide) (by decide)⟩)]
   apply bc hF<;>intro bJ hF
   ·cases hF;exact wr bw [[(0,bT bJ)],[]]
   cases hF;exact wr bw [[(0,bF bJ)],[(8,⟨_,_, .eq (gP (IntKind.u64.wrap ((IntKind.u64.wrap (jk.cr+(IntKind.u64.wrap (jk.cE*(4294967296:Int)))))-(1:Int))))⟩),(11,⟨_,_, .eq (kG (Int64.ofInt (IntKind.u64.wrap ((IntKind.u64.wrap (jk.cr+(IntKind.u64.wrap (jk.cE*(4294967296:Int)))))-(1:Int)))))⟩),(14,⟨_,_, .eq (kV (-(Int64.ofInt (IntKind.u64.wrap ((IntKind.u64.wrap (jk.cr+(IntKind.u64.wrap (jk.cE*(4294967296:Int)))))-(1:Int))))) (1:Int64))⟩)]]
  obtain⟨oc,bH,hF⟩:=bm hF;refine gK bw [[(0,bF h7)],[(7,cL (SG bH))],[(1,⟨_,_, .lt (z:=0) (n:=6) (by decide) (by decide)⟩),(7,⟨_,_, .lt (z:=1) (n:=6) (by decide) (by decide)⟩)]] ?_;obtain⟨LA,dC,hF⟩:=bm hF;refine wL bw [(152,(az LA))] (Fp v1 v20 v21 fS dW v24 fM fe iE v28 kP v30 v31 [.cells (eC oc).cells]) ?_ ?_
  ·apply bc dC<;>intro bY dC
   ·cases dC;exact k00 [(3,bT bY),(8,bT rfl),(13,bT rfl),(18,bT rfl)] [(1,⟨_,_, .lt (z:=2) (n:=6) (by decide) (by decide)⟩)]
   apply bc dC<;>intro c9 dC
   ·cases dC;exact k00 [(3,bF bY),(8,bT c9),(13,bT rfl),(18,bT rfl)] [(1,⟨_,_, .lt (z:=2) (n:=6) (by decide) (by decide)⟩),(13,⟨_,_, .lt (z:=3) (n:=6) (by decide) (by decide)⟩)]
   apply bc dC<;>intro dZ dC
   ·cases dC;exact k00 [(3,bF bY),(8,bF c9),(13,bT dZ),(18,bT rfl)] [(1,⟨_,_, .lt (z:=2) (n:=6) (by decide) (by decide)⟩),(13,⟨_,_, .lt (z:=3) (n:=6) (by decide) (by decide)⟩),(28,⟨_,_, .lt (z:=4) (n:=6) (by decide) (by decide)⟩)]
   apply bc dC<;>intro eI dC
   ·cases dC;exact k00 [(3,bF bY),(8,bF c9),(13,bF dZ),(18,bT eI)] [(1,⟨_,_, .lt (z:=2) (n:=6) (by decide) (by decide)⟩),(13,⟨_,_, .lt (z:=3) (n:=6) (by decide) (by decide)⟩),(28,⟨_,_, .lt (z:=4) (n:=6) (by decide) (by decide)⟩),(43,⟨_,_, .lt (z:=5) (n:=6) (by decide) (by decide)⟩)]
   cases dC;exact k00 [(3,bF bY),(8,bF c9),(13,bF dZ),(18,bF eI)] [(1,⟨_,_, .lt (z:=2) (n:=6) (by decide) (by decide)⟩),(13,⟨_,_, .lt (z:=3) (n:=6) (by decide) (by decide)⟩),(28,⟨_,_, .lt (z:=4) (n:=6) (by decide) (by decide)⟩),(43,⟨_,_, .lt (z:=5) (n:=6) (by decide) (by decide)⟩)]
  apply bc hF<;>intro fY hF
  ·cases hF;exact wr bw [[(0,bT fY)],[]]
  cases hF;exact wr bw [[(0,bF fY)],[(5,⟨_,_, .eq (gP (IntKind.u64.wrap (oc.cr+(IntKind.u64.wrap (oc.cE*(4294967296:Int))))))⟩)]]
 |cons bI cF=>
  rw[rm]at hF;obtain⟨v37,h22,hF⟩:=bm hF;refine gK bw [[(10,oL v1.xL lq)],[(0,bT (bZ h5))],[(13,oE (nK (bM h5))),(22,cK ak0 h22)],[]] ?_;apply bc hF<;>intro fc hF
  ·refine gK bw [[(0,bF (cH fc))],[(16,oE (nK (bM h5)))]] ?_;apply bc hF<;>intro fB hF
   ·obtain⟨YG,lX,RJ,mN,hF⟩:=k01 hF;obtain⟨v40,gF,hF⟩:=bm hF;exact C0 bw eK (bx+1,cF,v40.cr,v40.cE,v40.cX,v40.cV,v40.cP,v40.cJ,fe,iE,v28,kP,v30,v31) [[(0,bF (cH fB))],[(7,cK zQ lX),(19,oE (nK (bM h5))),(28,cK zQ mN),(31,cK J3 gF)],[(5,oq (cC h5 rfl h4))]] ⟨jR h5,hF⟩
   obtain⟨VU,ly,UR,lD,hF⟩:=k01 hF;obtain⟨ny,mm,hF⟩:=bm hF;exact C0 bw eK (bx+1,cF,v20,v21,fS,dW,v24,fM,ny.cr,ny.cE,ny.cX,ny.cV,ny.cP,ny.cJ) [[(0,bT (dj fB))],[(7,cK zQ ly),(19,oE (nK (bM h5))),(28,cK zQ lD),(31,cK J3 mm)],[(5,oq (cC h5 rfl h4))]] ⟨jR h5,hF⟩
  cases hF;exact wr bw [[(0,bT (dj fc))],[]]
def Ft(N:Nat)(v2:amU):amT aO->Nat->amV (aU×Bool)
 |[],_=>
  some (mV,false)
 |v5::v6,v3=>
  bif (bL v5.bo==bL v2)then
   some (v5.gM,true)
  else
   (Ft N v2 v6 (v3+1))
def MQ(N:Nat)(v1:amT aO)(v2:amU):amV (aU×Bool):=
 Ft N v2 v1 0
theorem afN{N v1 v2}:KO 49 [(.d (.sl (aX v1))),(di v2)] (λr=> .aY [(gJ r.1),(az r.2)]) (MQ N v1 v2):=
 fw Tryz.func49 (gA [[],[]] (gT yo 0 v1 λh2=>ZJ 1 [] [0,1,4,6] 1 [] [(0,5),(0,6)] (λv3=>⟨26,[(0,(.d (.sl (aX v1)))),(1,(di v2)),(4,(.ptr 0 0)),(6,(ar (v3:Int)))],[.cells PO]⟩) (λv3 h3 f1=>gR [[(7,oL v1 ub)],[f0 (cf h3)],[]]) (λv3 v5 v6 h3 f1 aJ=>gA [[(7,oL v1 ub)],[t0 (bZ h3)],[(7,oE (uD (bM h3)))]] (ax (λh4=>gR [[t0 h4],[(7,oE (uD (bM h3)))]]) λh4=>gbX aJ () [[f0 h4],[(5,oq (cC h3 rfl h2))]] h3))))
def Kf(N:Nat):amT Int->Nat->Int->amV Int
 |[],_,_=>
  some (0:Int)
 |v8::v9,v6,v10=>
  bif (v10 !=0)then
  bif (decide (v8>(IntKind.i64.wrap (((4096:Int)).tdiv v10))))then
   some (2:Int)
  else
   (λiv=>Kf N v9 (v6+1) iv) (aE (v10*v8))
  else none
def B6(N:Nat)(v1:amT Int):amT Int->Nat->amV Int
 |[],_=>
  Kf N v1 0 (1:Int)
 |v4::v5,v2=>
  bif (decide (v4<1))then
   some (1:Int)
  else
   (B6 N v1 v5 (v2+1))
def JR(N:Nat)(v1:amT Int):amV Int:=
 bif (decide ((v1.length:Int)>6))then
  some (2:Int)
 else
  B6 N v1 v1 0
theorem ahp{N v1}:KO 225 [(.d (.sl (bA v1)))] ar (JR N v1):=
 fw Tryz.func225 (gA [[],[(4,oL v1 fy)]] (fP λ_=>gT mB 0 v1 λh3=>e7 1 [] [0,3] 0 (λv2=>⟨39,[(0,(.d (.sl (bA v1)))),(3,(ar (v2:Int)))],[]⟩) (λv2 h4 f1=>gA [[(7,oL v1 fy)],[f0 (cf h4)],[],[]] (gT mB 0 v1 λh6=>gd 2 [] [0,4,5] 0 (λv6(v10:Int)=>⟨39,[(0,(.d (.sl (bA v1)))),(4,(ar v10)),(5,(ar (v6:Int)))],[]⟩) (λv6 v10 h7 f2=>gR [[(7,oL v1 fy)],[f0 (cf h7)],[]]) (λv6 v8 v9 v10 h7 f2 eK=>dG λh8=>gA [[(7,oL v1 fy)],[t0 (bZ h7)],[(7,oE (gZ (bM h7))),(16,⟨_,_, .nz (b:=v10) (bne_iff_ne.1 h8)⟩)]] (bn λh9=>gb eK (aE (v10*v8)) [[f0 h9],[(10,oE (gZ (bM h7)))],[(5,oq (cC h7 rfl h6))]] h7)))) (λv2 v4 v5 h4 f1 aJ=>gA [[(7,oL v1 fy)],[t0 (bZ h4)],[(7,oE (gZ (bM h4)))]] (bn λaW=>gb aJ () [[f0 aW],[(5,oq (cC h4 rfl h3))]] h4))))
def Jb(N:Nat):amT Int->Nat->Int->amV Int
 |[],_,v6=>
  some v6
 |v4::v5,v2,v6=>
  (λcu=>Jb N v5 (v2+1) cu) (aE (v6*v4))
def IB(N:Nat)(v1:amT Int):amV Int:=
 Jb N v1 0 (1:Int)
theorem aiw{N v1}:KO 226 [(.d (.sl (bA v1)))] ar (IB N v1):=
 fw Tryz.func226 (gA [[],[],[]] (gT mB 0 v1 λh2=>gd 1 [] [0,3,4] 0 (λv2(v6:Int)=>⟨18,[(0,(.d (.sl (bA v1)))),(3,(ar v6)),(4,(ar (v2:Int)))],[]⟩) (λv2 v6 h3 f1=>gR [[(7,oL v1 fy)],[f0 (cf h3)],[]]) (λv2 v4 v5 v6 h3 f1 aJ=>gb aJ (aE (v6*v4)) [[(7,oL v1 fy)],[t0 (bZ h3)],[(10,oE (gZ (bM h3)))],[(5,oq (cC h3 rfl h2))]] h3)))
def G4(N:Nat)(v1:aU):amT aB->Nat->amV Int
 |[],_=>
  some (0:Int)
 |v7::v8,v5=>
  (qa N v1.aK v7).bind λv9=>
  bif v9 then
   (G4 N v1 v8 (v5+1))
  else
   some (1:Int)
def FO(N:Nat)(v1:aU):amV Int:=
 (qW N v1.aK).bind λv2=>
 bif v2 then
  (JR N v1.bS).bind λv3=>
  bif (v3 !=0)then
   some v3
  else
   (IB N v1.bS).bind λv4=>
   bif ((v1.dI.length:Int) !=v4)then
    some (1:Int)
   else
    G4 N v1 v1.dI 0
 else
  some (10:Int)
theorem agC{N v1}:KO 147 [(gJ v1)] ar (FO N v1):=
 fw Tryz.func147 (aw λv2 h1=>gA [[],[(7,cK wJ h1)]] (fW λh2=>aw λv3 h3=>gA [[f0 (cH h2)],[(7,cK ahp h3)],[]] (bn λh4=>aw λv4 h5=>gA [[f0 h4],[(7,oL v1.dI kp),(16,cK aiw h5)]] (fP λ_=>gB wj 0 6 v1.dI λh8=>e7 1 [] [1,4] 1 (λv5=>⟨38,[(1,(.ptr 0 0)),(4,(ar (v5:Int)))],[.cells (gJ v1).cells]⟩) (λv5 h9 f1=>gR [[(10,oL v1.dI kp)],[f0 (cf h9)],[]]) (λv5 v7 v8 h9 f1 aJ=>aw λv9 aW=>gA [[(10,oL v1.dI kp)],[t0 (bZ h9)],[(16,oE (nm (bM h9))),(22,cK vG aW)]] (fW λaZ=>gb aJ () [[f0 (cH aZ)],[(5,oq (cC h9 rfl h8))]] h9))))))
def B8(N:Nat)(v1:amT aO)(v2:amU):amV (aU×Int):=
 (MQ N v1 v2).bind λv3=>
 bif v3.2 then
  (FO N v3.1).bind λv4=>
  bif (v4 !=0)then
   some (mV,(1:Int))
  else
   some (v3.1,(0:Int))
 else
  some (mV,(9:Int))
theorem Vu{N v1 v2}:KO 170 [(.d (.sl (aX v1))),(di v2)] (λr=> .aY [(gJ r.1),(ar r.2)]) (B8 N v1 v2):=
 fw Tryz.func170 (aw λv3 h1=>gA [[],[(7,cK afN h1)],[]] (fW λh2=>aw λv4 h3=>gA [[f0 (cH h2)],[(4,cK agC h3)]] (bn λh4=>gR [[f0 h4],[]])))
def Ce(N:Nat)(v6:aU×Int)(v4:Int)(v2:amT aV):amT cn->Nat->Int->amV (Int64×Int)
 |[],_,v11=>
  bif (decide ((0:Int)<=v11))then
  Option.bind (v6.1.dI[(v11).toNat]?) λv12=>
  bif (aE (if(if v12.xN.toInt<(aE (v4-(1:Int)))then v12.xN.toInt else(aE (v4-(1:Int))))>0then(if v12.xN.toInt<(aE (v4-(1:Int)))then v12.xN.toInt else(aE (v4-(1:Int))))else(0:Int))==(if(if v12.xN.toInt<(aE (v4-(1:Int)))then v12.xN.toInt else(aE (v4-(1:Int))))>0then(if v12.xN.toInt<(aE (v4-(1:Int)))then v12.xN.toInt else(aE (v4-(1:Int))))else(0:Int)))then
  some ((Int64.ofInt (if(if v12.xN.toInt<(aE (v4-(1:Int)))then v12.xN.toInt else(aE (v4-(1:Int))))>0then(if v12.xN.toInt<(aE (v4-(1:Int)))then v12.xN.toInt else(aE (v4-(1:Int))))else(0:Int))),(0:Int))
  else none
  else none
 |v9::v10,v7,v11=>
  (xz N v9 v2).bind λaF=>
  bif (aF.2 !=0)then
   some ((0:Int64),aF.2)
  else
   Option.bind (bif (decide (aF.1.toInt<0))then some true else Option.bind (v6.1.bS[((v7:Int)).toNat]?) λaI=>
   some (decide (aF.1.toInt>=aI))) λbg=>
   bif bg then
    some ((0:Int64),(12:Int))
   else
    Option.bind (v6.1.bS[((v7:Int)).toNat]?) λbx=>
    (λcu=>Ce N v6 v4 v2 v10 (v7+1) cu) (aE ((aE (v11*bx))+aF.1.toInt))
def Ik(N:Nat)(v1:amT aO)(v2:amT aV)(v3:cY)(v4:Int):amV (Int64×Int):=
 bif (bL v3.dA==bL (bs []))then
  (xz N v3.cm v2).bind λv5=>
  some (v5.1,v5.2)
 else
  (B8 N v1 v3.dA).bind λv6=>
  bif (v6.2 !=0)then
   some ((0:Int64),v6.2)
  else
   bif (v6.1.aK.bu !=3)then
    some ((0:Int64),(10:Int))
   else
    bif ((v3.cO.length:Int) !=(v6.1.bS.length:Int))then
     some ((0:Int64),(11:Int))
    else
     Ce N v6 v4 v2 v3.cO 0 (0:Int)
theorem aiQ{N v1 v2 v3 v4}:KO 245 [(.d (.sl (aX v1))),(.d (.sl (aS v2))),(gy v3),(ar v4)] (λr=> .aY [(bk r.1),(ar r.2)]) (Ik N v1 v2 v3 v4):=
 fw Tryz.func245 (gA [[],[]] (ax (λh1=>aw λv5 h2=>gR [[t0 h1],[(10,cL (N1 h2))]]) λh1=>aw λv6 h3=>gA [[f0 h1],[(10,cK Vu h3)],[]] (fP λ_=>bn λh5=>gA [[f0 h5],[(7,oL v3.cO hJ),(16,oL v6.1.bS fy)]] (bn λh6=>gA [[f0 h6],[],[]] (gB rM 0 3 v3.cO λh8=>gd 1 [] [1,3,6,10,12,13] 2 (λv7(v11:Int)=>⟨96,[(1,(.d (.sl (aS v2)))),(3,(ar v4)),(6,(.ptr 0 0)),(10,(.ptr 1 0)),(12,(ar v11)),(13,(ar (v7:Int)))],[.cells (gy v3).cells, .cells (gJ v6.1).cells]⟩) (λv7 v11 h9 f1=>dG λaZ=>aw λv12 aW=>dG λbj=>gR [[(10,oL v3.cO hJ)],[f0 (cf h9)],[(16,⟨_,_, .el (xs:=dO v6.1.dI) (i:=v11) (of_decide_eq_true aZ) (nm aW)⟩),(32,⟨_,_, .eq (En (beq_iff_eq.1 bj))⟩)]]) (λv7 v9 v10 v11 h9 f1 aJ=>aw λaF bC=>gA [[(10,oL v3.cO hJ)],[t0 (bZ h9)],[(10,oE (sr (bM h9))),(19,cL (N1 bC))],[]] (bn λbJ=>gA [[f0 bJ]] (gG (λbg=>[(76,(az bg))]) (λ_=>[.cells (gy v3).cells, .cells (gJ v6.1).cells]) (ax (λbH=>gE [(2,bT bH)] []) λbH=>aw λaI bY=>gE [(2,bF bH)] [(22,oE (gZ bY))]) λbg=>bn λeI=>aw λbx dC=>gb aJ (aE ((aE (v11*bx))+aF.1.toInt)) [[f0 eI],[(13,oE (gZ dC))],[(5,oq (cC h9 rfl h8))]] h9))))))))
def BS(N:Nat)(v3:aU)(v1:amT aO)(v2:amT aV):amT cY->Nat->Int->amV (Int×Int)
 |[],_,v9=>
  some (v9,(0:Int))
 |v7::v8,v5,v9=>
  Option.bind (v3.bS[((v5:Int)).toNat]?) λv10=>
  (Ik N v1 v2 v7 v10).bind λv11=>
  bif (v11.2 !=0)then
   some ((0:Int),v11.2)
  else
   Option.bind (bif (decide (v11.1.toInt<0))then some true else some (decide (v11.1.toInt>=v10))) λv12=>
   bif v12 then
    some ((0:Int),(12:Int))
   else
    (λcu=>BS N v3 v1 v2 v8 (v5+1) cu) (aE ((aE (v9*v10))+v11.1.toInt))
def P8(N:Nat)(v1:amT aO)(v2:amT aV)(v3:aU)(v4:amT cY):amV (Int×Int):=
 bif ((v4.length:Int) !=(v3.bS.length:Int))then
  some ((0:Int),(11:Int))
 else
  BS N v3 v1 v2 v4 0 (0:Int)
theorem ag3{N v1 v2 v3 v4}:KO 171 [(.d (.sl (aX v1))),(.d (.sl (aS v2))),(gJ v3),(.d (.sl (eB v4)))] (λr=> .aY [(ar r.1),(ar r.2)]) (P8 N v1 v2 v3 v4):=
 fw Tryz.func171 (gA [[],[(4,oL v4 fF),(13,oL v3.bS fy)]] (bn λh1=>gA [[f0 h1],[],[]] (gT pI 3 v4 λh3=>gd 1 [] [0,1,3,6,10,11] 1 (λv5(v9:Int)=>⟨65,[(0,(.d (.sl (aX v1)))),(1,(.d (.sl (aS v2)))),(3,(.d (.sl (eB v4)))),(6,(.ptr 0 0)),(10,(ar v9)),(11,(ar (v5:Int)))],[.cells (gJ v3).cells]⟩) (λv5 v9 h4 f1=>gR [[(7,oL v4 fF)],[f0 (cf h4)],[]]) (λv5 v7 v8 v9 h4 f1 aJ=>aw λv10 h5=>aw λv11 h7=>gA [[(7,oL v4 fF)],[t0 (bZ h4)],[(13,oE (iB (bM h4))),(28,oE (gZ h5)),(34,cK aiQ h7)],[]] (bn λh8=>gA [[f0 h8]] (gG (λv12=>[(54,(az v12))]) (λ_=>[.cells (gJ v3).cells]) (ax (λh9=>gE [(2,bT h9)] []) λh9=>gE [(2,bF h9)] [(22,oE (gZ h5))]) λv12=>bn λaZ=>gb aJ (aE ((aE (v9*v10))+v11.1.toInt)) [[f0 aZ],[(13,oE (gZ h5))],[(5,oq (cC h4 rfl h3))]] h4))))))
def GG(N:Nat)(v4:Int64×Int)(v6:Int):amV iD:=
 bif (v6 !=0)then
  some (⟨bK,eD,v6⟩:iD)
 else
  some (⟨(⟨v4.1,(1:Int64)⟩:aB),(⟨(3:Int),(0:Int),(0:Int),(0:Int),(0:Int)⟩:aP),(0:Int)⟩:iD)
def Dq(N:Nat)(v1:amT aO)(v2:amT aV)(v3:ay):amV iD:=
 bif (v3.aC==1)then
  some (⟨v3.dR,v3.aK,(0:Int)⟩:iD)
 else
  bif (v3.aC==2)then
   (xz N v3.cm v2).bind λv4=>
   Option.bind (bif (v4.2==0)then(bif (decide (v4.1.toInt>2147483647))then some true else some (decide (v4.1.toInt<(-2147483647:Int))))else some false) λv5=>
   bif v5 then
    GG N v4 (3:Int)
   else
    GG N v4 v4.2
  else
   (B8 N v1 v3.bo).bind λv7=>
   bif (v7.2 !=0)then
    some (⟨bK,eD,v7.2⟩:iD)
   else
    (P8 N v1 v2 v7.1 v3.xIdx).bind λv8=>
    bif (v8.2 !=0)then
     some (⟨bK,eD,v8.2⟩:iD)
    else
     bif (decide ((0:Int)<=v8.1))then
     Option.bind (v7.1.dI[(v8.1).toNat]?) λv9=>
     some (⟨v9,v7.1.aK,(0:Int)⟩:iD)
     else none
theorem abe{N v1 v2 v3}:KO 101 [(.d (.sl (aX v1))),(.d (.sl (aS v2))),(aD v3)] tQ (Dq N v1 v2 v3):=
 fw Tryz.func101 (gA [[],[],[]] (fP λ_=>ax (λh2=>aw λv4 h3=>gA [[t0 h2],[(10,cL (N1 h3))]] (gG (λv5=>[(40,(az v5))]) (λ_=>[.cells (aD v3).cells, .cells Nb]) (ax (λh4=>cd (2,bT h4) (ax (λh5=>gE [(5,bT h5)] [(25,bT h5)]) λh5=>gE [(5,bF h5)] [(25,bF h5)])) λh4=>gE [(2,bF h4),(5,uN)] []) λv5=>kC 1 [] [6,7,8] 2 (λ(v6:Int)=>⟨81,[(6,(.ptr 1 0)),(7,(bk v4.1)),(8,(ar v6))],[.cells (aD v3).cells, .cells Nb]⟩) (GG N v4) (λf1 aJ=>ax (λh8=>gm aJ (3:Int) [[t0 h8],[]]) λh8=>gm aJ v4.2 [[f0 h8]]) (λv6=>gA [[]] (bn λh7=>gR [[f0 h7],[]])))) λh2=>aw λv7 h9=>gA [[f0 h2],[(10,cK Vu h9)],[]] (bn λaW=>aw λv8 aZ=>gA [[f0 aW],[(16,cK ag3 aZ)],[]] (bn λbj=>dG λbJ=>aw λv9 bC=>gR [[f0 bj],[(10,⟨_,_, .el (xs:=dO v7.1.dI) (i:=v8.1) (of_decide_eq_true bJ) (nm bC)⟩)]]))))
def GK(N:Nat)(v1:aP)(v2:aB):amV Bool:=
 (qW N v1).bind λv3=>
 Option.bind (bif v3 then (qa N v1 v2).bind λv4=>
 some v4 else some false) λv5=>
 some v5
theorem Ry{N v1 v2}:KO 184 [(bE v1),(aT v2)] az (GK N v1 v2):=
 fw Tryz.func184 (gA [[]] (aw λv3 h1=>gG (λv5=>[(4,(az v5))]) (λ_=>[.cells (bE v1).cells, .cells (aT v2).cells]) (dc (4,cK wJ h1) (ax (λh2=>aw λv4 h3=>gE [(2,bT h2)] [(16,cK vG h3)]) λh2=>gE [(2,bF h2)] [])) λv5=>gR []))
def mZ(N:Nat)(v1:aB):amV Bool:=
 Option.bind (qa N (⟨(1:Int),(0:Int),(0:Int),(0:Int),(0:Int)⟩:aP) v1) λv2=>
 some v2
theorem pV{N v1}:KO 247 [(aT v1)] az (mZ N v1):=
 fw Tryz.func247 (aw λv2 h1=>gR [[],[(7,cK vG h1)]])
def yG(N:Nat)(v1:Int64)(v2:Int64):amV Int:=
 bif (decide (v1.toInt<v2.toInt))then
  some (-1:Int)
 else
  bif (decide (v1.toInt>v2.toInt))then
   some (1:Int)
  else
   some (0:Int)
theorem Ox{N v1 v2}:KO 248 [(bk v1),(bk v2)] ar (yG N v1 v2):=
 fw Tryz.func248 (gA [[],[]] (fP λ_=>bn λh2=>gR [[f0 h2],[]]))
def Ql(N:Nat)(v1:aB)(v2:aB):amV Int:=
 (mZ N v1).bind λv3=>
 Option.bind (bif v3 then (mZ N v2).bind λv4=>
 some v4 else some false) λv5=>
 bif v5 then
  Option.bind (yG N (v1.xN*v2.xD) (v2.xN*v1.xD)) λv6=>
  some v6
 else
  bif (v1.xN.toInt !=v2.xN.toInt)then
   (yG N v1.xN v2.xN).bind λv7=>
   some v7
  else
   (yG N v1.xD v2.xD).bind λv8=>
   some v8
theorem adK{N v1 v2}:KO 185 [(aT v1),(aT v2)] ar (Ql N v1 v2):=
 fw Tryz.func185 (gA [[]] (aw λv3 h1=>gG (λv5=>[(10,(az v5))]) (λ_=>[.cells (aT v1).cells, .cells (aT v2).cells]) (dc (4,cK pV h1) (ax (λh2=>aw λv4 h3=>gE [(2,bT h2)] [(13,cK pV h3)]) λh2=>gE [(2,bF h2)] [])) λv5=>ax (λh5=>aw λv6 h6=>gR [[t0 h5],[(14,⟨_,_, .eq (fA v1.xN v2.xD)⟩),(29,⟨_,_, .eq (fA v2.xN v1.xD)⟩),(31,cK Ox h6)]]) λh5=>gA [[f0 h5],[]] (ax (λh7=>aw λv7 h8=>gR [[t0 h7],[(13,cK Ox h8)]]) λh7=>aw λv8 h9=>gR [[f0 h7],[(13,cK Ox h9)]])))
def EI(N:Nat)(v1:aP)(v2:aB)(v3:aB):amV Int:=
 (GK N v1 v2).bind λv4=>
 Option.bind (bif v4 then (GK N v1 v3).bind λv5=>
 some (!v5)else some true) λv6=>
 bif v6 then
  some (0:Int)
 else
  (Ql N v2 v3).bind λv7=>
  some v7
theorem QD{N v1 v2 v3}:KO 104 [(bE v1),(aT v2),(aT v3)] ar (EI N v1 v2 v3):=
 fw Tryz.func104 (gA [[]] (aw λv4 h1=>gG (λv6=>[(16,(az v6))]) (λ_=>[.cells (bE v1).cells, .cells (aT v2).cells, .cells (aT v3).cells]) (dc (7,cK Ry h1) (ax (λh2=>aw λv5 h3=>gE [(4,bF (cH h2))] [(22,cK Ry h3)]) λh2=>gE [(4,bT (dj h2))] [])) λv6=>bn λh5=>aw λv7 h6=>gR [[f0 h5],[(7,cK adK h6)]]))
def wF(N:Nat)(v1:aP):amV Int64:=
 bif (decide ((0:Int)<=(IntKind.u64.wrap v1.ck)))then
 some (Int64.ofInt ((1:Int)*2^(min ((IntKind.u64.wrap v1.ck)).toNat (IntKind.bits .i64))))
 else none
theorem Gf{N v1}:KO 176 [(bE v1)] bk (wF N v1):=
 fw Tryz.func176 (dG λh1=>gR [[],[(10,⟨_,_, .nn (b:=(IntKind.u64.wrap v1.ck)) (of_decide_eq_true h1)⟩),(11,⟨_,_, .eq (gP ((1:Int)*2^(min ((IntKind.u64.wrap v1.ck)).toNat (IntKind.bits .i64))))⟩)]])
def Dp(N:Nat)(v1:Int64):amV Int:=
 bif (decide (v1.toInt<0))then
  some (IntKind.u64.wrap ((IntKind.u64.wrap (-(v1+(1:Int64))).toInt)+(1:Int)))
 else
  some (IntKind.u64.wrap v1.toInt)
theorem QS{N v1}:KO 283 [(bk v1)] (λr=> .d (.v (.int .u64 r))) (Dp N v1):=
 fw Tryz.func283 (gA [[],[]] (jL λh1=>gR [[t0 h1],[(5,⟨_,_, .eq (nr v1 (1:Int64))⟩),(8,⟨_,_, .eq (kG (v1+(1:Int64)))⟩)]]))
def Ej(N:Nat):Nat->Int->Int->amV Int
 |0,_,_=>none
 |v3+1,v4,v5=>
  bif (v5 !=0)then
   (λcu fv=>Ej N v3 cu fv) v5 ((v4).tmod v5)
  else
   some v4
def KI(N:Nat)(v1:Int)(v2:Int):amV Int:=
 Ej N N v1 v2
theorem aaW{N v1 v2}:KO 306 [(.d (.v (.int .u64 v1))),(.d (.v (.int .u64 v2)))] (λr=> .d (.v (.int .u64 r))) (KI N v1 v2):=
 fw Tryz.func306 (PU 1 [[]] [0,1] 0 (λ(v4:Int)(v5:Int)=>⟨12,[(0,(.d (.v (.int .u64 v4)))),(1,(.d (.v (.int .u64 v5))))],[]⟩) (Ej N) (λv3 v4 v5 f1 aJ=>gA [[]] (jL λh1=>AJ aJ (v5,((v4).tmod v5)) [[t0 h1],[(10,⟨_,_, .nz (b:=v5) (bne_iff_ne.1 h1)⟩)]])))
def OS(N:Nat)(v1:Bool)(v2:Int)(v3:Int):amV (aB×Int):=
 (KI N v2 v3).bind λv4=>
 bif (v4 !=0)then
 Option.bind (bif (decide ((IntKind.u64.wrap ((v2).tdiv v4))>2147483647))then some true else some (decide ((IntKind.u64.wrap ((v3).tdiv v4))>2147483647))) λv5=>
 bif v5 then
  some (bK,(3:Int))
 else
  bif v1 then
   some ((⟨(-(Int64.ofInt (IntKind.u64.wrap ((v2).tdiv v4)))),(Int64.ofInt (IntKind.u64.wrap ((v3).tdiv v4)))⟩:aB),(0:Int))
  else
   some ((⟨(Int64.ofInt (IntKind.u64.wrap ((v2).tdiv v4))),(Int64.ofInt (IntKind.u64.wrap ((v3).tdiv v4)))⟩:aB),(0:Int))
 else none
theorem abb{N v1 v2 v3}:KO 282 [(az v1),(.d (.v (.int .u64 v2))),(.d (.v (.int .u64 v3)))] (λr=> .aY [(aT r.1),(ar r.2)]) (OS N v1 v2 v3):=
 fw Tryz.func282 (aw λv4 h1=>dG λh2=>gA [[],[(7,cK aaW h1)],[(7,⟨_,_, .nz (b:=v4) (bne_iff_ne.1 h2)⟩)],[(7,⟨_,_, .nz (b:=v4) (bne_iff_ne.1 h2)⟩)]] (gG (λv5=>[(23,(az v5))]) (λ_=>[.cells fG]) (ax (λh4=>gE [(2,bT h4)] []) λh4=>gE [(2,bF h4)] []) λv5=>fP λ_=>ax (λh7=>gR [[t0 h7],[(5,⟨_,_, .eq (gP (IntKind.u64.wrap ((v2).tdiv v4)))⟩),(8,⟨_,_, .eq (kG (Int64.ofInt (IntKind.u64.wrap ((v2).tdiv v4))))⟩),(14,⟨_,_, .eq (gP (IntKind.u64.wrap ((v3).tdiv v4)))⟩)]]) λh7=>gR [[f0 h7],[(5,⟨_,_, .eq (gP (IntKind.u64.wrap ((v2).tdiv v4)))⟩),(11,⟨_,_, .eq (gP (IntKind.u64.wrap ((v3).tdiv v4)))⟩)]]))
def uu(N:Nat)(v1:Int64)(v2:Int64):amV (aB×Int):=
 bif (v2.toInt==0)then
  some (bK,(4:Int))
 else
  (Dp N v1).bind λv3=>
  (Dp N v2).bind λv4=>
  Option.bind (OS N (!((decide (v1.toInt<0))==(decide (v2.toInt<0)))) v3 v4) λv5=>
  some (v5.1,v5.2)
theorem B3{N v1 v2}:KO 246 [(bk v1),(bk v2)] (λr=> .aY [(aT r.1),(ar r.2)]) (uu N v1 v2):=
 fw Tryz.func246 (gA [[],[]] (bn λh1=>aw λv3 h2=>aw λv4 h3=>aw λv5 h4=>gR [[f0 h1],[(19,cK QS h2),(25,cK QS h3),(28,cK abb h4)]]))
def H3(N:Nat)(v3:Int64)(v4:Int64):amV aB:=
 some (⟨v3,v4⟩:aB)
def IM(N:Nat)(v1:aP)(v2:aB):amV aB:=
 bif (v1.bu==2)then
  (wF N v1).bind λv5=>
  (uu N v2.xN v5).bind λv6=>
  H3 N v6.1.xN v6.1.xD
 else
  H3 N v2.xN v2.xD
theorem ajx{N v1 v2}:KO 172 [(bE v1),(aT v2)] aT (IM N v1 v2):=
 fw Tryz.func172 (NB 1 [[],[]] [3,4] 3 (λ(v3:Int64)(v4:Int64)=>⟨17,[(3,(.ptr 1 0)),(4,(.ptr 2 0))],[.cells (bE v1).cells, .cells [(bk v3),(bk v4)], .cells fG]⟩) (H3 N) (λf1 aJ=>ax (λh1=>aw λv5 h2=>aw λv6 h3=>gm aJ (v6.1.xN,v6.1.xD) [[t0 h1],[(10,cK Gf h2),(13,cK B3 h3)]]) λh1=>gm aJ (v2.xN,v2.xD) [[f0 h1]]) (λv3 v4=>gR [[]]))
def wq(N:Nat)(v1:Int64)(v2:Int64):amV Int64:=
 bif (v2.toInt !=0)then
 bif (decide (((Int64.ofInt ((v1.toInt).tdiv v2.toInt))*v2).toInt>v1.toInt))then
  some ((Int64.ofInt ((v1.toInt).tdiv v2.toInt))-(1:Int64))
 else
  some (Int64.ofInt ((v1.toInt).tdiv v2.toInt))
 else none
theorem Hc{N v1 v2}:KO 173 [(bk v1),(bk v2)] bk (wq N v1 v2):=
 fw Tryz.func173 (dG λh1=>gA [[],[(7,⟨_,_, .nz (b:=v2.toInt) (bne_iff_ne.1 h1)⟩),(8,⟨_,_, .eq (gP ((v1.toInt).tdiv v2.toInt))⟩)],[(8,⟨_,_, .eq (fA (Int64.ofInt ((v1.toInt).tdiv v2.toInt)) v2)⟩)]] (jL λh2=>gR [[t0 h2],[(5,⟨_,_, .eq (kV (Int64.ofInt ((v1.toInt).tdiv v2.toInt)) (1:Int64))⟩)]]))
def zw(N:Nat)(v1:Int64)(v2:Int64)(v3:Int):amV Int64:=
 (wq N v1 v2).bind λv4=>
 Option.bind (bif ((v1-(v4*v2)).toInt==0)then some true else some (v3==1)) λv5=>
 bif v5 then
  some v4
 else
  bif (v3==2)then
   some (v4+(1:Int64))
  else
   bif (v3==3)then
    bif (decide (v1.toInt<0))then
     some (v4+(1:Int64))
    else
     some v4
   else
    Option.bind (bif (decide ((v1-(v4*v2)).toInt>(v2-(v1-(v4*v2))).toInt))then some true else(bif ((v1-(v4*v2)).toInt==(v2-(v1-(v4*v2))).toInt)then some ((Int64.ofInt ((v4.toInt).tmod (2:Int))).toInt !=0)else some false)) λv6=>
    bif v6 then
     some (v4+(1:Int64))
    else
     some v4
theorem Qv{N v1 v2 v3}:KO 175 [(bk v1),(bk v2),(ar v3)] bk (zw N v1 v2 v3):=
 fw Tryz.func175 (aw λv4 h1=>gA [[],[(7,cK Hc h1)],[(11,⟨_,_, .eq (fA v4 v2)⟩),(14,⟨_,_, .eq (kV v1 (v4*v2))⟩)]] (gG (λv5=>[(22,(az v5))]) (λ_=>[]) (ax (λh2=>gE [(2,bT h2)] []) λh2=>gE [(2,bF h2)] []) λv5=>fP λ_=>ax (λh5=>gR [[t0 h5],[(5,⟨_,_, .eq (nr v4 (1:Int64))⟩)]]) λh5=>gA [[f0 h5],[]] (ax (λh6=>gA [[t0 h6],[]] (jL λh7=>gR [[t0 h7],[(5,⟨_,_, .eq (nr v4 (1:Int64))⟩)]])) λh6=>gA [[f0 h6]] (gG (λv6=>[(51,(az v6))]) (λ_=>[]) (dc (11,⟨_,_, .eq (kV v2 (v1-(v4*v2)))⟩) (ax (λh8=>gE [(5,bT h8),(11,uN)] []) λh8=>cd (5,bF h8) (dc (29,⟨_,_, .eq (kV v2 (v1-(v4*v2)))⟩) (ax (λh9=>gE [(11,bT h9)] [(40,⟨_,_, .nz (b:=2) (by decide)⟩),(41,⟨_,_, .eq (IL v4 (2:Int))⟩),(46,bT h9)]) λh9=>gE [(11,bF h9)] [(46,bF h9)])))) λv6=>jL λaZ=>gR [[t0 aZ],[(5,⟨_,_, .eq (nr v4 (1:Int64))⟩)]]))))
def Cb(N:Nat)(v1:aP)(v3:Int64):amV aB:=
 some (⟨(qo (-(Int64.ofInt ((1:Int)*2^(min ((IntKind.u64.wrap (aE (v1.bG-(1:Int))))).toNat (IntKind.bits .i64))))) (uY ((Int64.ofInt ((1:Int)*2^(min ((IntKind.u64.wrap (aE (v1.bG-(1:Int))))).toNat (IntKind.bits .i64))))-(1:Int64)) v3)),(1:Int64)⟩:aB)
def rV(N:Nat)(v1:aP)(v2:Int64):amV aB:=
 bif (decide ((0:Int)<=(IntKind.u64.wrap (aE (v1.bG-(1:Int))))))then
 bif (v1.cG==2)then
  Option.bind (wq N (v2+(Int64.ofInt ((1:Int)*2^(min ((IntKind.u64.wrap (aE (v1.bG-(1:Int))))).toNat (IntKind.bits .i64))))) ((2:Int64)*(Int64.ofInt ((1:Int)*2^(min ((IntKind.u64.wrap (aE (v1.bG-(1:Int))))).toNat (IntKind.bits .i64)))))) λv4=>
  Cb N v1 (v2-((v4*(2:Int64))*(Int64.ofInt ((1:Int)*2^(min ((IntKind.u64.wrap (aE (v1.bG-(1:Int))))).toNat (IntKind.bits .i64))))))
 else
  Cb N v1 v2
 else none
theorem yM{N v1 v2}:KO 174 [(bE v1),(bk v2)] aT (rV N v1 v2):=
 fw Tryz.func174 (dG λh1=>kC 1 [[],[(13,⟨_,_, .nn (b:=(IntKind.u64.wrap (aE (v1.bG-(1:Int))))) (of_decide_eq_true h1)⟩),(14,⟨_,_, .eq (gP ((1:Int)*2^(min ((IntKind.u64.wrap (aE (v1.bG-(1:Int))))).toNat (IntKind.bits .i64))))⟩)],[]] [1,4,5] 2 (λ(v3:Int64)=>⟨33,[(1,(bk v3)),(4,(.ptr 1 0)),(5,(bk (Int64.ofInt ((1:Int)*2^(min ((IntKind.u64.wrap (aE (v1.bG-(1:Int))))).toNat (IntKind.bits .i64))))))],[.cells (bE v1).cells, .cells fG]⟩) (Cb N v1) (λf1 aJ=>ax (λh2=>aw λv4 h3=>gm aJ (v2-((v4*(2:Int64))*(Int64.ofInt ((1:Int)*2^(min ((IntKind.u64.wrap (aE (v1.bG-(1:Int))))).toNat (IntKind.bits .i64)))))) [[t0 h2],[(11,⟨_,_, .eq (nr v2 (Int64.ofInt ((1:Int)*2^(min ((IntKind.u64.wrap (aE (v1.bG-(1:Int))))).toNat (IntKind.bits .i64)))))⟩),(17,⟨_,_, .eq (fA (2:Int64) (Int64.ofInt ((1:Int)*2^(min ((IntKind.u64.wrap (aE (v1.bG-(1:Int))))).toNat (IntKind.bits .i64)))))⟩),(19,cK Hc h3),(23,⟨_,_, .eq (fA v4 (2:Int64))⟩),(29,⟨_,_, .eq (fA (v4*(2:Int64)) (Int64.ofInt ((1:Int)*2^(min ((IntKind.u64.wrap (aE (v1.bG-(1:Int))))).toNat (IntKind.bits .i64)))))⟩),(32,⟨_,_, .eq (kV v2 ((v4*(2:Int64))*(Int64.ofInt ((1:Int)*2^(min ((IntKind.u64.wrap (aE (v1.bG-(1:Int))))).toNat (IntKind.bits .i64))))))⟩)]]) λh2=>gm aJ v2 [[f0 h2]]) (λv3=>gR [[(5,⟨_,_, .eq (kG (Int64.ofInt ((1:Int)*2^(min ((IntKind.u64.wrap (aE (v1.bG-(1:Int))))).toNat (IntKind.bits .i64)))))⟩),(11,⟨_,_, .eq (kV (Int64.ofInt ((1:Int)*2^(min ((IntKind.u64.wrap (aE (v1.bG-(1:Int))))).toNat (IntKind.bits .i64)))) (1:Int64))⟩),(17,⟨_,_, .eq (ab4 ((Int64.ofInt ((1:Int)*2^(min ((IntKind.u64.wrap (aE (v1.bG-(1:Int))))).toNat (IntKind.bits .i64))))-(1:Int64)) v3)⟩),(20,⟨_,_, .eq (YZ (-(Int64.ofInt ((1:Int)*2^(min ((IntKind.u64.wrap (aE (v1.bG-(1:Int))))).toNat (IntKind.bits .i64))))) (uY ((Int64.ofInt ((1:Int)*2^(min ((IntKind.u64.wrap (aE (v1.bG-(1:Int))))).toNat (IntKind.bits .i64))))-(1:Int64)) v3))⟩)]]))
def IQ(N:Nat)(v1:aP)(v2:aP)(v3:aB):amV (aB×Int):=
 (qW N v1).bind λv4=>
 Option.bind (bif v4 then (qW N v2).bind λv5=>
 some (!v5)else some true) λv6=>
 bif v6 then
  some (bK,(10:Int))
 else
  (qa N v1 v3).bind λv7=>
  bif v7 then
   (IM N v1 v3).bind λv8=>
   bif (v2.bu==3)then
    (wq N v8.xN v8.xD).bind λv9=>
    some ((⟨v9,(1:Int64)⟩:aB),(0:Int))
   else
    bif (v2.bu==2)then
     (wF N v2).bind λv10=>
     Option.bind (zw N (v8.xN*v10) v8.xD v2.cx) λv11=>
     (rV N v2 v11).bind λv12=>
     some (v12,(0:Int))
    else
     some (v8,(0:Int))
  else
   some (bK,(1:Int))
theorem afK{N v1 v2 v3}:KO 102 [(bE v1),(bE v2),(aT v3)] (λr=> .aY [(aT r.1),(ar r.2)]) (IQ N v1 v2 v3):=
 fw Tryz.func102 (gA [[]] (aw λv4 h1=>gG (λv6=>[(16,(az v6))]) (λ_=>[.cells (bE v1).cells, .cells (bE v2).cells, .cells (aT v3).cells, .cells fG]) (dc (4,cK wJ h1) (ax (λh2=>aw λv5 h3=>gE [(3,bF (cH h2))] [(16,cK wJ h3)]) λh2=>gE [(3,bT (dj h2))] [])) λv6=>bn λh5=>aw λv7 h6=>gA [[f0 h5],[(7,cK vG h6)]] (fW λh7=>aw λv8 h8=>gA [[f0 (cH h7)],[(7,cK ajx h8)],[]] (ax (λh9=>aw λv9 aW=>gR [[t0 h9],[(13,cK Hc aW)]]) λh9=>gA [[f0 h9],[]] (jL λaZ=>aw λv10 bj=>aw λv11 bC=>aw λv12 bJ=>gR [[t0 aZ],[(13,cK Gf bj),(17,⟨_,_, .eq (fA v8.xN v10)⟩),(31,cK Qv bC),(34,cK yM bJ)]])))))
def EF(N:Nat)(v2:aP)(v11:Int64)(v12:Int64):amV (aB×Int):=
 (wF N v2).bind λaF=>
 Option.bind (zw N (v11*aF) v12 v2.cx) λaI=>
 (rV N v2 aI).bind λbg=>
 some (bg,(0:Int))
def GU(N:Nat)(v1:Int)(v2:aP)(v3:Int64)(v4:Int64):amV (aB×Int):=
 bif (v1==4)then
  Option.bind (rV N v2 (v3+v4)) λv5=>
  some (v5,(0:Int))
 else
  bif (v1==5)then
   Option.bind (rV N v2 (v3-v4)) λv6=>
   some (v6,(0:Int))
  else
   bif (v1==6)then
    (wF N v2).bind λv7=>
    Option.bind (zw N (v3*v4) v7 v2.cx) λv8=>
    (rV N v2 v8).bind λv9=>
    some (v9,(0:Int))
   else
    bif (v1==8)then
     Option.bind (rV N v2 (-v3)) λv10=>
     some (v10,(0:Int))
    else
     bif (v4.toInt==0)then
      some (bK,(4:Int))
     else
      bif (decide (v4.toInt<0))then
       EF N v2 (-v3) (-v4)
      else
       EF N v2 v3 v4
theorem ahP{N v1 v2 v3 v4}:KO 177 [(ar v1),(bE v2),(bk v3),(bk v4)] (λr=> .aY [(aT r.1),(ar r.2)]) (GU N v1 v2 v3 v4):=
 fw Tryz.func177 (gA [[],[],[]] (ax (λh1=>aw λv5 h2=>gR [[t0 h1],[(11,⟨_,_, .eq (nr v3 v4)⟩),(13,cK yM h2)]]) λh1=>gA [[f0 h1],[]] (ax (λh3=>aw λv6 h4=>gR [[t0 h3],[(11,⟨_,_, .eq (kV v3 v4)⟩),(13,cK yM h4)]]) λh3=>gA [[f0 h3],[]] (ax (λh5=>aw λv7 h6=>aw λv8 h7=>aw λv9 h8=>gR [[t0 h5],[(11,⟨_,_, .eq (fA v3 v4)⟩),(16,cK Gf h6),(25,cK Qv h7),(28,cK yM h8)]]) λh5=>gA [[f0 h5],[]] (ax (λh9=>aw λv10 aW=>gR [[t0 h9],[(8,⟨_,_, .eq (kG v3)⟩),(10,cK yM aW)]]) λh9=>gA [[f0 h9],[]] (bn λaZ=>NB 1 [[f0 aZ],[]] [2,3,5,8] 2 (λ(v11:Int64)(v12:Int64)=>⟨62,[(2,(bk v11)),(3,(bk v12)),(5,(.ptr 0 0)),(8,(.ptr 1 0))],[.cells (bE v2).cells, .cells fG]⟩) (EF N v2) (λf1 aJ=>ax (λbH=>gm aJ ((-v3),(-v4)) [[t0 bH],[(5,⟨_,_, .eq (kG v3)⟩)],[(5,⟨_,_, .eq (kG v4)⟩)]]) λbH=>gm aJ (v3,v4) [[f0 bH]]) (λv11 v12=>aw λaF bj=>aw λaI bC=>aw λbg bJ=>gR [[(10,cK Gf bj),(14,⟨_,_, .eq (fA v11 aF)⟩),(25,cK Qv bC),(28,cK yM bJ)]])))))))
def EG(N:Nat)(v7:Int64)(v8:Int64):amV (aB×Int):=
 (wq N v7 v8).bind λv9=>
 Option.bind (bif (decide (v9.toInt>2147483647))then some true else some (decide (v9.toInt<(-2147483647:Int)))) λv10=>
 bif v10 then
  some (bK,(3:Int))
 else
  some ((⟨v9,(1:Int64)⟩:aB),(0:Int))
def IX(N:Nat)(v1:Int)(v2:Int64)(v3:Int64):amV (aB×Int):=
 bif (v1==4)then
  Option.bind (bif (decide ((v2+v3).toInt>2147483647))then some true else some (decide ((v2+v3).toInt<(-2147483647:Int)))) λv4=>
  bif v4 then
   some (bK,(3:Int))
  else
   some ((⟨(v2+v3),(1:Int64)⟩:aB),(0:Int))
 else
  bif (v1==5)then
   Option.bind (bif (decide ((v2-v3).toInt>2147483647))then some true else some (decide ((v2-v3).toInt<(-2147483647:Int)))) λv5=>
   bif v5 then
    some (bK,(3:Int))
   else
    some ((⟨(v2-v3),(1:Int64)⟩:aB),(0:Int))
  else
   bif (v1==6)then
    Option.bind (bif (decide ((v2*v3).toInt>2147483647))then some true else some (decide ((v2*v3).toInt<(-2147483647:Int)))) λv6=>
    bif v6 then
     some (bK,(3:Int))
    else
     some ((⟨(v2*v3),(1:Int64)⟩:aB),(0:Int))
   else
    bif (v1==7)then
     bif (v3.toInt==0)then
      some (bK,(4:Int))
     else
      bif (decide (v3.toInt<0))then
       EG N (-v2) (-v3)
      else
       EG N v2 v3
    else
     Option.bind (bif (decide ((-v2).toInt>2147483647))then some true else some (decide ((-v2).toInt<(-2147483647:Int)))) λv11=>
     bif v11 then
      some (bK,(3:Int))
     else
      some ((⟨(-v2),(1:Int64)⟩:aB),(0:Int))
def yl(l:amT aq):amT aq:= .cells fG::l
theorem ajQ{N v1 v2 v3}:KO 178 [(ar v1),(bk v2),(bk v3)] (λr=> .aY [(aT r.1),(ar r.2)]) (IX N v1 v2 v3):=
 fw Tryz.func178 (gA [[],[(5,⟨_,_, .eq (kG v2)⟩)],[],[]] (ax (λh1=>gA [[t0 h1],[(8,⟨_,_, .eq (nr v2 v3)⟩)]] (gG (λv4=>[(46,(az v4))]) (λ_=>(yl [])) (ax (λh2=>gE [(2,bT h2)] []) λh2=>gE [(2,bF h2)] []) λv4=>bn λh4=>gR [[f0 h4],[]])) λh1=>gA [[f0 h1],[]] (ax (λh5=>gA [[t0 h5],[(8,⟨_,_, .eq (kV v2 v3)⟩)]] (gG (λv5=>[(46,(az v5))]) (λ_=>(yl [])) (ax (λh6=>gE [(2,bT h6)] []) λh6=>gE [(2,bF h6)] []) λv5=>bn λh8=>gR [[f0 h8],[]])) λh5=>gA [[f0 h5],[]] (ax (λh9=>gA [[t0 h9],[(8,⟨_,_, .eq (fA v2 v3)⟩)]] (gG (λv6=>[(46,(az v6))]) (λ_=>(yl [])) (ax (λaW=>gE [(2,bT aW)] []) λaW=>gE [(2,bF aW)] []) λv6=>bn λbj=>gR [[f0 bj],[]])) λh9=>gA [[f0 h9],[]] (ax (λbC=>gA [[t0 bC],[]] (bn λbJ=>NB 1 [[f0 bJ],[]] [1,2,6] 1 (λ(v7:Int64)(v8:Int64)=>⟨50,[(1,(bk v7)),(2,(bk v8)),(6,(.ptr 0 0))],(yl [])⟩) (EG N) (λf1 aJ=>ax (λeI=>gm aJ ((-v2),(-v3)) [[t0 eI],[(5,⟨_,_, .eq (kG v2)⟩)],[(5,⟨_,_, .eq (kG v3)⟩)]]) λeI=>gm aJ (v2,v3) [[f0 eI]]) (λv7 v8=>aw λv9 bH=>gA [[(7,cK Hc bH)]] (gG (λv10=>[(46,(az v10))]) (λ_=>(yl [])) (ax (λbY=>gE [(2,bT bY)] []) λbY=>gE [(2,bF bY)] []) λv10=>bn λdZ=>gR [[f0 dZ],[]])))) λbC=>gA [[f0 bC]] (gG (λv11=>[(46,(az v11))]) (λ_=>(yl [])) (ax (λdC=>gE [(2,bT dC)] []) λdC=>gE [(2,bF dC)] []) λv11=>bn λh22=>gR [[f0 h22],[]]))))))
def IC(N:Nat)(v1:aB)(v2:aB):amV (aB×Int):=
 (mZ N v1).bind λv3=>
 Option.bind (bif v3 then (mZ N v2).bind λv4=>
 some (!v4)else some true) λv5=>
 bif v5 then
  some (bK,(1:Int))
 else
  Option.bind (uu N ((v1.xN*v2.xD)+(v2.xN*v1.xD)) (v1.xD*v2.xD)) λv6=>
  some (v6.1,v6.2)
theorem af3{N v1 v2}:KO 179 [(aT v1),(aT v2)] (λr=> .aY [(aT r.1),(ar r.2)]) (IC N v1 v2):=
 fw Tryz.func179 (gA [[]] (aw λv3 h1=>gG (λv5=>[(13,(az v5))]) (λ_=>[.cells (aT v1).cells, .cells (aT v2).cells, .cells fG]) (dc (4,cK pV h1) (ax (λh2=>aw λv4 h3=>gE [(3,bF (cH h2))] [(16,cK pV h3)]) λh2=>gE [(3,bT (dj h2))] [])) λv5=>bn λh5=>aw λv6 h6=>gR [[f0 h5],[(14,⟨_,_, .eq (fA v1.xN v2.xD)⟩),(29,⟨_,_, .eq (fA v2.xN v1.xD)⟩),(32,⟨_,_, .eq (nr (v1.xN*v2.xD) (v2.xN*v1.xD))⟩),(47,⟨_,_, .eq (fA v1.xD v2.xD)⟩),(49,cK B3 h6)]]))
def Gc(N:Nat)(v1:aB)(v2:aB):amV (aB×Int):=
 (mZ N v1).bind λv3=>
 Option.bind (bif v3 then (mZ N v2).bind λv4=>
 some (!v4)else some true) λv5=>
 bif v5 then
  some (bK,(1:Int))
 else
  Option.bind (uu N ((v1.xN*v2.xD)-(v2.xN*v1.xD)) (v1.xD*v2.xD)) λv6=>
  some (v6.1,v6.2)
theorem abO{N v1 v2}:KO 180 [(aT v1),(aT v2)] (λr=> .aY [(aT r.1),(ar r.2)]) (Gc N v1 v2):=
 fw Tryz.func180 (gA [[]] (aw λv3 h1=>gG (λv5=>[(13,(az v5))]) (λ_=>[.cells (aT v1).cells, .cells (aT v2).cells, .cells fG]) (dc (4,cK pV h1) (ax (λh2=>aw λv4 h3=>gE [(3,bF (cH h2))] [(16,cK pV h3)]) λh2=>gE [(3,bT (dj h2))] [])) λv5=>bn λh5=>aw λv6 h6=>gR [[f0 h5],[(14,⟨_,_, .eq (fA v1.xN v2.xD)⟩),(29,⟨_,_, .eq (fA v2.xN v1.xD)⟩),(32,⟨_,_, .eq (kV (v1.xN*v2.xD) (v2.xN*v1.xD))⟩),(47,⟨_,_, .eq (fA v1.xD v2.xD)⟩),(49,cK B3 h6)]]))
def J0(N:Nat)(v1:aB)(v2:aB):amV (aB×Int):=
 (mZ N v1).bind λv3=>
 Option.bind (bif v3 then (mZ N v2).bind λv4=>
 some (!v4)else some true) λv5=>
 bif v5 then
  some (bK,(1:Int))
 else
  Option.bind (uu N (v1.xN*v2.xN) (v1.xD*v2.xD)) λv6=>
  some (v6.1,v6.2)
theorem acF{N v1 v2}:KO 181 [(aT v1),(aT v2)] (λr=> .aY [(aT r.1),(ar r.2)]) (J0 N v1 v2):=
 fw Tryz.func181 (gA [[]] (aw λv3 h1=>gG (λv5=>[(13,(az v5))]) (λ_=>[.cells (aT v1).cells, .cells (aT v2).cells, .cells fG]) (dc (4,cK pV h1) (ax (λh2=>aw λv4 h3=>gE [(3,bF (cH h2))] [(16,cK pV h3)]) λh2=>gE [(3,bT (dj h2))] [])) λv5=>bn λh5=>aw λv6 h6=>gR [[f0 h5],[(14,⟨_,_, .eq (fA v1.xN v2.xN)⟩),(29,⟨_,_, .eq (fA v1.xD v2.xD)⟩),(31,cK B3 h6)]]))
def HB(N:Nat)(v1:aB)(v2:aB):amV (aB×Int):=
 (mZ N v1).bind λv3=>
 Option.bind (bif v3 then (mZ N v2).bind λv4=>
 some (!v4)else some true) λv5=>
 bif v5 then
  some (bK,(1:Int))
 else
  Option.bind (uu N (v1.xN*v2.xD) (v1.xD*v2.xN)) λv6=>
  some (v6.1,v6.2)
theorem ak5{N v1 v2}:KO 182 [(aT v1),(aT v2)] (λr=> .aY [(aT r.1),(ar r.2)]) (HB N v1 v2):=
 fw Tryz.func182 (gA [[]] (aw λv3 h1=>gG (λv5=>[(13,(az v5))]) (λ_=>[.cells (aT v1).cells, .cells (aT v2).cells, .cells fG]) (dc (4,cK pV h1) (ax (λh2=>aw λv4 h3=>gE [(3,bF (cH h2))] [(16,cK pV h3)]) λh2=>gE [(3,bT (dj h2))] [])) λv5=>bn λh5=>aw λv6 h6=>gR [[f0 h5],[(14,⟨_,_, .eq (fA v1.xN v2.xD)⟩),(29,⟨_,_, .eq (fA v1.xD v2.xN)⟩),(31,cK B3 h6)]]))
def Jv(N:Nat)(v1:aB):amV aB:=
 (mZ N v1).bind λv2=>
 bif v2 then
  some (⟨(-v1.xN),v1.xD⟩:aB)
 else
  some bK
theorem ajt{N v1}:KO 183 [(aT v1)] aT (Jv N v1):=
 fw Tryz.func183 (aw λv2 h1=>gA [[],[(4,cK pV h1)]] (fW λh2=>gR [[f0 (cH h2)],[(8,⟨_,_, .eq (kG v1.xN)⟩)]]))
def H0(N:Nat)(v1:Int)(v2:aP)(v3:aB)(v4:aB):amV (aB×Int):=
 Option.bind (bif (decide (v1<4))then some true else some (decide (v1>10))) λv5=>
 bif v5 then
  some (bK,(1:Int))
 else
  (qW N v2).bind λv6=>
  bif v6 then
   (qa N v2 v3).bind λv7=>
   Option.bind (bif v7 then(bif (v1 !=8)then (qa N v2 v4).bind λv8=>
   some (!v8)else some false)else some true) λv9=>
   bif v9 then
    some (bK,(1:Int))
   else
    Option.bind (bif (v1==9)then some true else some (v1==10)) λv10=>
    bif v10 then
     (EI N v2 v3 v4).bind λv11=>
     bif ((decide (v11>0))==(v1==9))then
      some (v4,(0:Int))
     else
      some (v3,(0:Int))
    else
     bif (v2.bu==2)then
      (GU N v1 v2 v3.xN v4.xN).bind λv12=>
      some (v12.1,v12.2)
     else
      bif (v2.bu==3)then
       (IX N v1 v3.xN v4.xN).bind λaF=>
       some (aF.1,aF.2)
      else
       bif (v1==4)then
        (IC N v3 v4).bind λaI=>
        some (aI.1,aI.2)
       else
        bif (v1==5)then
         (Gc N v3 v4).bind λbg=>
         some (bg.1,bg.2)
        else
         bif (v1==6)then
          (J0 N v3 v4).bind λbx=>
          some (bx.1,bx.2)
         else
          bif (v1==7)then
           (HB N v3 v4).bind λcy=>
           some (cy.1,cy.2)
          else
           (Jv N v3).bind λbI=>
           some (bI,(0:Int))
  else
   some (bK,(10:Int))
def OR(v2:aP)(v3:aB)(v4:aB)(l:amT aq):amT aq:= .cells (bE v2).cells:: .cells (aT v3).cells:: .cells (aT v4).cells:: .cells fG::l
theorem ahh{N v1 v2 v3 v4}:KO 103 [(ar v1),(bE v2),(aT v3),(aT v4)] (λr=> .aY [(aT r.1),(ar r.2)]) (H0 N v1 v2 v3 v4):=
 fw Tryz.func103 (gA [[]] (gG (λv5=>[(15,(az v5))]) (λ_=>(OR v2 v3 v4 [])) (ax (λh1=>gE [(2,bT h1)] []) λh1=>gE [(2,bF h1)] []) λv5=>bn λh3=>aw λv6 h4=>gA [[f0 h3],[(4,cK wJ h4)]] (fW λh5=>gA [[f0 (cH h5)]] (aw λv7 h6=>gG (λv9=>[(34,(az v9))]) (λ_=>(OR v2 v3 v4 [])) (dc (7,cK vG h6) (ax (λh7=>cd (4,bF (cH h7)) (ax (λh8=>aw λv8 h9=>gE [(7,bT h8)] [(31,cK vG h9),(37,bT h8)]) λh8=>gE [(7,bF h8)] [(37,bF h8)])) λh7=>gE [(4,bT (dj h7)),(7,uN)] [])) λv9=>bn λaZ=>gA [[f0 aZ]] (gG (λv10=>[(41,(az v10))]) (λ_=>(OR v2 v3 v4 [])) (ax (λbj=>gE [(2,bT bj)] []) λbj=>gE [(2,bF bj)] []) λv10=>ax (λbJ=>aw λv11 bH=>gA [[t0 bJ],[(10,cK QD bH)]] (bn λbY=>gR [[f0 bY],[]])) λbJ=>gA [[f0 bJ],[]] (ax (λc9=>aw λv12 dZ=>gR [[t0 c9],[(19,cK ahP dZ)]]) λc9=>gA [[f0 c9],[]] (ax (λeI=>aw λaF dC=>gR [[t0 eI],[(16,cK ajQ dC)]]) λeI=>gA [[f0 eI],[],[]] (ax (λfY=>aw λaI h22=>gR [[t0 fY],[(7,cK af3 h22)]]) λfY=>gA [[f0 fY],[]] (ax (λfc=>aw λbg fB=>gR [[t0 fc],[(7,cK abO fB)]]) λfc=>gA [[f0 fc],[]] (ax (λlX=>aw λbx mN=>gR [[t0 lX],[(7,cK acF mN)]]) λlX=>gA [[f0 lX],[]] (ax (λgF=>aw λcy ly=>gR [[t0 gF],[(7,cK ak5 ly)]]) λgF=>aw λbI lD=>gR [[f0 gF],[(4,cK ajt lD)]])))))))))))
def Fg(N:Nat)(v12:iD)(v3:ay)(aI:iD):amV iD:=
 bif (aI.xE !=0)then
  some aI
 else
  bif ((v12.xT.bu==aI.xT.bu)&&((v12.xT.bG==aI.xT.bG)&&((v12.xT.ck==aI.xT.ck)&&((v12.xT.cx==aI.xT.cx)&&((v12.xT.cG==aI.xT.cG)&&true)))))then
   (H0 N v3.aC v12.xT v12.xV aI.xV).bind λbg=>
   bif (bg.2 !=0)then
    some (⟨bK,eD,bg.2⟩:iD)
   else
    some (⟨bg.1,v12.xT,(0:Int)⟩:iD)
  else
   some (⟨bK,eD,(10:Int)⟩:iD)
mutual
def nX(N:Nat):Nat->(amT aO)->(amT aV)->ay->amV iD
 |0,_,_,_=>none
 |d+1,v1,v2,v3=>
  bif (decide (v3.aC<=3))then
   (Dq N v1 v2 v3).bind λv4=>
   some v4
  else
   bif (v3.aC==11)then
    Option.bind (v3.bD[0]?) λv5=>
    Option.bind ((su N d) v1 v2 v5) λv6=>
    bif (v6.2 !=0)then
     some (⟨bK,eD,v6.2⟩:iD)
    else
     bif v6.1 then
      Option.bind (v3.bD[1]?) λv7=>
      Option.bind ((nX N d) v1 v2 v7) λv8=>
      some v8
     else
      Option.bind (v3.bD[2]?) λv9=>
      Option.bind ((nX N d) v1 v2 v9) λv10=>
      some v10
   else
    Option.bind (v3.bD[0]?) λv11=>
    Option.bind ((nX N d) v1 v2 v11) λv12=>
    bif (v12.xE !=0)then
     some v12
    else
     bif (v3.aC==12)then
      (IQ N v12.xT v3.aK v12.xV).bind λaF=>
      bif (aF.2 !=0)then
       some (⟨bK,eD,aF.2⟩:iD)
      else
       some (⟨aF.1,v3.aK,(0:Int)⟩:iD)
     else
      bif (v3.aC !=8)then
       Option.bind (v3.bD[1]?) λbx=>
       Option.bind ((nX N d) v1 v2 bx) λcy=>
       Fg N v12 v3 cy
      else
       Fg N v12 v3 v12
def su(N:Nat):Nat->(amT aO)->(amT aV)->ay->amV (Bool×Int)
 |0,_,_,_=>none
 |d+1,v1,v2,v3=>
  bif (decide (v3.aC>=16))then
   Option.bind (v3.bD[0]?) λv4=>
   Option.bind ((su N d) v1 v2 v4) λv5=>
   Option.bind (bif (v5.2 !=0)then some true else some (v3.aC==18)) λv6=>
   bif v6 then
    Option.bind (bif (v5.2==0)then some (!v5.1)else some false) λv7=>
    some (v7,v5.2)
   else
    Option.bind (v3.bD[1]?) λv8=>
    Option.bind ((su N d) v1 v2 v8) λv9=>
    bif (v9.2 !=0)then
     some (false,v9.2)
    else
     Option.bind (bif (v3.aC==16)then(bif v5.1 then(bif v9.1 then some true else(bif (v3.aC==17)then some true else some false))else(bif (v3.aC==17)then some v9.1 else some false))else(bif (v3.aC==17)then(bif v5.1 then some true else some v9.1)else some false)) λv10=>
     some (v10,(0:Int))
  else
   Option.bind (v3.bD[0]?) λv11=>
   Option.bind ((nX N d) v1 v2 v11) λv12=>
   bif (v12.xE !=0)then
    some (false,v12.xE)
   else
    Option.bind (v3.bD[1]?) λaF=>
    Option.bind ((nX N d) v1 v2 aF) λaI=>
    bif (aI.xE !=0)then
     some (false,aI.xE)
    else
     bif ((v12.xT.bu==aI.xT.bu)&&((v12.xT.bG==aI.xT.bG)&&((v12.xT.ck==aI.xT.ck)&&((v12.xT.cx==aI.xT.cx)&&((v12.xT.cG==aI.xT.cG)&&true)))))then
      (EI N v12.xT v12.xV aI.xV).bind λbg=>
      Option.bind (bif (decide (bg<0))then(bif (v3.aC !=15)then some true else(bif (bg==0)then some (v3.aC !=13)else some false))else(bif (bg==0)then some (v3.aC !=13)else some false)) λbx=>
      some (bx,(0:Int))
     else
      some (false,(10:Int))
end
def PB(N:Nat)(v1:amT aO)(v2:amT aV)(v3:ay):amV iD:=nX N N v1 v2 v3
def O0(N:Nat)(v1:amT aO)(v2:amT aV)(v3:ay):amV (Bool×Int):=su N N v1 v2 v3
theorem WU(N:Nat):∀d:Nat,(∀{v1:amT aO}{v2:amT aV}{v3:ay},KO 57 [(.d (.sl (aX v1))),(.d (.sl (aS v2))),(aD v3)] tQ (nX N d v1 v2 v3))/\(∀{v1:amT aO}{v2:amT aV}{v3:ay},KO 58 [(.d (.sl (aX v1))),(.d (.sl (aS v2))),(aD v3)] (λr=> .aY [(az r.1),(ar r.2)]) (su N d v1 v2 v3)):=by
 intro d
 induction d with
 |zero=>exact⟨(by intro v1 v2 v3 r hF;rw[nX]at hF;cases hF),(by intro v1 v2 v3 r hF;rw[su]at hF;cases hF)⟩
 |succ d ih=>
  have zP:= @ih.1;have O5:= @ih.2;refine⟨?_,?_⟩
  ·intro v1 v2 v3;rw[nX];exact fw Tryz.func57 (gA [[],[]] (ax (λh1=>aw λv4 h2=>gR [[(0,bT h1)],[(10,cK abe h2)]]) λh1=>gA [[(0,bF h1)],[]] (ax (λh3=>aw λv5 h4=>aw λv6 h5=>gA [[(0,bT h3)],[(13,oE (k:=0) (gY h4)),(19,cK O5 h5)],[]] (fP λ_=>ax (λh7=>aw λv7 h8=>aw λv8 h9=>gR [[(0,bT h7)],[(13,oE (k:=1) (gY h8)),(19,cK zP h9)]]) λh7=>aw λv9 aW=>aw λv10 aZ=>gR [[(0,bF h7)],[(13,oE (k:=2) (gY aW)),(19,cK zP aZ)]])) λh3=>aw λv11 bj=>aw λv12 bC=>gA [[(0,bF h3)],[(13,oE (k:=0) (gY bj)),(19,cK zP bC)],[]] (fP λ_=>ax (λbH=>aw λaF bY=>gA [[(0,bT bH)],[(19,cK afK bY)],[]] (bn λc9=>gR [[(0,bF c9)],[]])) λbH=>kC 1 [[(0,bF bH)],[],[]] [5,6,9,12] 4 (λ(aI:iD)=>⟨129,[(5,(.ptr 0 0)),(6,(.ptr 1 0)),(9,(.ptr 2 0)),(12,(.ptr 3 0))],[.cells (aD v3).cells, .cells Nb, .cells (tQ v12).cells, .cells (tQ aI).cells]⟩) (Fg N v12 v3) (λf1 aJ=>ax (λh22=>aw λbx fc=>aw λcy fB=>gm aJ cy [[(0,bT h22)],[(13,oE (k:=1) (gY fc)),(19,cK zP fB)]]) λh22=>gm aJ v12 [[(0,bF h22)]]) (λaI=>gA [[]] (fP λ_=>fW λeI=>aw λbg dC=>gA [[(0,bF (cH eI))],[(25,cK ahh dC)],[]] (bn λfY=>gR [[(0,bF fY)],[]])))))))
  intro v1 v2 v3;rw[su];exact fw Tryz.func58 (gA [[],[]] (ax (λh1=>aw λv4 h2=>aw λv5 h3=>gA [[(0,bT h1)],[(13,oE (k:=0) (gY h2)),(19,cK O5 h3)]] (gG (λv6=>[(34,(az v6))]) (λ_=>[.cells (aD v3).cells]) (ax (λh4=>gE [(2,bT h4)] []) λh4=>gE [(2,bF h4)] []) λv6=>ax (λh6=>gA [[(0,bT h6)]] (gG (λv7=>[(6,(az v7)),(7,(ar v5.2))]) (λ_=>[.cells (aD v3).cells]) (ax (λh7=>gE [(2,bT h7)] []) λh7=>gE [(2,bF h7)] []) λv7=>gR [])) λh6=>aw λv8 h9=>aw λv9 aW=>gA [[(0,bF h6)],[(13,oE (k:=1) (gY h9)),(19,cK O5 aW)],[]] (bn λaZ=>gA [[(0,bF aZ)]] (gG (λv10=>[(6,(az v10)),(7,(ar (0:Int)))]) (λ_=>[.cells (aD v3).cells]) (ax (λbj=>cd (3,bT bj) (ax (λbC=>cd (6,bT bC) (ax (λbJ=>gE [(9,bT bJ),(13,uN),(15,uN)] []) λbJ=>cd (9,bF bJ) (ax (λbH=>gE [(13,bT bH),(15,bT bC)] [(52,bT bC),(55,bT bH)]) λbH=>gE [(13,bF bH),(15,uN)] [(55,bF bH)]))) λbC=>cd (6,bF bC) (cd (9,bF rfl) (ax (λbY=>gE [(13,bT bY),(15,bF bC)] [(52,bF bC),(55,bT bY)]) λbY=>gE [(13,bF bY),(15,uN)] [(55,bF bY)])))) λbj=>cd (3,bF bj) (cd (6,bF rfl) (cd (9,bF rfl) (ax (λc9=>cd (13,bT c9) (dc (55,bT c9) (ax (λdZ=>gE [(15,bT dZ)] [(52,bT dZ)]) λdZ=>gE [(15,bF dZ)] [(52,bF dZ)]))) λc9=>gE [(13,bF c9),(15,uN)] [(55,bF c9)])))) λv10=>gR [])))) λh1=>aw λv11 dC=>aw λv12 fY=>gA [[(0,bF h1)],[(13,oE (k:=0) (gY dC)),(19,cK zP fY)],[]] (bn λh22=>aw λaF fc=>aw λaI fB=>gA [[(0,bF h22)],[(13,oE (k:=1) (gY fc)),(19,cK zP fB)],[]] (fP λ_=>fW λmN=>aw λbg gF=>gA [[(0,bF (cH mN))],[(19,cK QD gF)]] (gG (λbx=>[(6,(az bx)),(7,(ar (0:Int)))]) (λ_=>[.cells (aD v3).cells, .cells (tQ v12).cells, .cells (tQ aI).cells]) (ax (λly=>cd (2,bT ly) (ax (λlD=>gE [(7,bT lD),(10,uN)] []) λlD=>cd (7,bF lD) (ax (λmm=>gE [(10,bT mm)] [(43,bT mm)]) λmm=>gE [(10,bF mm)] [(43,bF mm)]))) λly=>cd (2,bF ly) (cd (7,bF rfl) (ax (λoV=>gE [(10,bT oV)] [(43,bT oV)]) λoV=>gE [(10,bF oV)] [(43,bF oV)]))) λbx=>gR [])))))
theorem ajc{N v1 v2 v3}:KO 57 [(.d (.sl (aX v1))),(.d (.sl (aS v2))),(aD v3)] tQ (PB N v1 v2 v3):=(WU N N).1
theorem aj2{N v1 v2 v3}:KO 58 [(.d (.sl (aX v1))),(.d (.sl (aS v2))),(aD v3)] (λr=> .aY [(az r.1),(ar r.2)]) (O0 N v1 v2 v3):=(WU N N).2
def Gw(N:Nat)(v1:amT aO)(v2:amT aV)(v3:ay):amV (aB×aP×Int):=
 (BL N v3).bind λv4=>
 bif (v4 !=0)then
  some (bK,eD,v4)
 else
  (zg N v3).bind λv5=>
  bif v5 then
   some (bK,eD,(10:Int))
  else
   (PB N v1 v2 v3).bind λv6=>
   some (v6.xV,v6.xT,v6.xE)
theorem agB{N v1 v2 v3}:KO 27 [(.d (.sl (aX v1))),(.d (.sl (aS v2))),(aD v3)] (λr=> .aY [(aT r.1),(bE r.2.1),(ar r.2.2)]) (Gw N v1 v2 v3):=
 fw Tryz.func27 (aw λv4 h1=>gA [[],[(4,cK Ta h1)],[]] (bn λh2=>aw λv5 h3=>gA [[f0 h2],[(4,cK Na h3)]] (bn λh4=>aw λv6 h5=>gA [[f0 h4],[(10,cK ajc h5)]] (li (λ_=>(Ub 7 bw [(8,(ar v6.xE))] [.cells (aD v3).cells, .cells (aT v6.xV).cells, .cells (bE v6.xT).cells, .cells (tQ v6).cells] ⟨[],by kernel_rfl⟩ ·)) (gR [])))))
def C7(N:Nat)(v1:amT aO)(v2:amT aV)(v3:ay):amV (Bool×Int):=
 (xw N v3).bind λv4=>
 bif (v4 !=0)then
  some (false,v4)
 else
  (w7 N v3).bind λv5=>
  bif v5 then
   (vB N v1).bind λv6=>
   (uy N v2 v6.1 v6.2).bind λv7=>
   (MS N v3 v7 v6.1 v6.2).bind λv8=>
   some (v8.1,v8.2.1)
  else
   some (false,(10:Int))
def N8(v3:ay)(v6:(amT aO)×(amT (amU×aU)))(v7:(amT aV))(l:amT aq):amT aq:= .cells (aD v3).cells:: .cells [(.d (.sl (aX v6.1)))]:: .map (bP bQ v6.2):: .cells [(.mp 2)]:: .cells [(.fn 96 [(.ptr 3 0),(.ptr 1 0)])]:: .cells [(.d (.sl (aS v7)))]:: .cells [(.fn 93 [(.ptr 4 0),(.ptr 5 0),(.ptr 7 0)]),(.fn 91 [(.ptr 7 0)])]:: .cells [(.ptr 6 0)]::l
def qq(v3:ay)(l:amT aq):amT aq:= .cells (aD v3).cells::l
def Mq(v3:ay)(v6:(amT aO)×(amT (amU×aU)))(l:amT aq):amT aq:=qq v3 (.cells [(.d (.sl (aX v6.1)))]:: .map (bP bQ v6.2):: .cells [(.mp 2)]::l)
theorem afF{N v1 v2 v3 r}(hF:C7 N v1 v2 v3=some r):KF 28 [(.d (.sl (aX v1))),(.d (.sl (aS v2))),(aD v3)] (.aY [(az r.1),(ar r.2)]):=by
 rw[C7]at hF;refine lO Tryz.func28 rfl (by kernel_rfl) ?_;refine ft [0,1,2] 0 (amg _) (s':=⟨28,[(0,(.d (.sl (aX v1)))),(1,(.d (.sl (aS v2)))),(2,(aD v3))],[]⟩) (by kernel_rfl) ?_;refine au ?_;refine rg [] [(5,(.ptr 0 0))] (qq v3 []) (by kernel_rfl) ?_;refine au ?_;refine au ?_;obtain⟨v4,h1,hF⟩:=bm hF;refine rg [(4,cL (KR h1))] [(8,(ar v4))] (qq v3 []) (by kernel_rfl) ?_;refine au ?_;refine rg [] [(12,(az (v4 !=0)))] (qq v3 []) (by kernel_rfl) ?_;rcases dw (v4 !=0)with h2|h2
 ·replace hF:=(c7 h2).symm.trans hF;refine cS (t:=(v4 !=0)) (by kernel_rfl) h2 ?_;refine au ?_;refine rg [] [(6,(az false)),(7,(ar v4))] (qq v3 []) (by kernel_rfl) ?_;refine cU (cT ?_);have hr:=amo hF;subst hr;exact eJ (by kernel_rfl)
 replace hF:=(du h2).symm.trans hF;refine dm (t:=(v4 !=0)) (by kernel_rfl) h2 ?_;refine ct ?_;refine aM ?_;refine au ?_;refine au ?_;obtain⟨v5,h3,hF⟩:=bm hF;refine rg [(4,cK HC h3)] [(16,(az (!v5)))] (qq v3 []) (by kernel_rfl) ?_;rcases dw v5 with h4|h4
 ·replace hF:=(c7 h4).symm.trans hF;refine dm (t:=(!v5)) (by kernel_rfl) (cH h4) ?_;refine ct ?_;refine aM ?_;refine au ?_;obtain⟨v6,h5,v7,h6,hF⟩:=k01 hF;obtain⟨v8,h7,hF⟩:=bm hF;refine ro 3 bw (.node 0 [] (.node 2 [] (.node 1 [(4,oX c6 (aQ (dL (aQ c6))) [(.d (.sl (aX v1)))] (qq v3 []) [] (tN N v1 v6 h5))] (.node 3 [(10,oX (aQ (aQ (dL c6))) (aQ (aQ (dL (aQ (aQ (aQ (aQ c6))))))) [(.fn 96 [(.ptr 3 0),(.ptr 1 0)]),(.d (.sl (aS v2)))] (Mq v3 v6 []) [3,1,2] (iJ h6))] (.node 4 [] (.node 5 [] (.node 6 [] (.node 7 [] (.node 8 [(25,oR [(aD v3),(.ptr 7 0)] (N8 v3 v6 v7 []) [7,6,4,5,3,1,2] (OG N v3 v7 v6.1 v6.2 v8 h7))] (.node 9 [] (.node 10 [] (.node 11 [] (.node 12 [] .nil .nil) .nil) .nil) .nil) .nil) .nil) .nil) .nil) .nil) (.node 7 [] (.node 3 [(10,oX (aQ (aQ (dL c6))) (aQ (aQ (dL (aQ (aQ (aQ (aQ c6))))))) [(.fn 96 [(.ptr 3 0),(.ptr 1 0)]),(.d (.sl (aS v2)))] (Mq v3 v6 []) [3,1,2] (iJ h6))] (.node 4 [] (.node 5 [] (.node 6 [] (.node 8 [(25,oR [(aD v3),(.ptr 7 0)] (N8 v3 v6 v7 []) [7,6,4,5,3,1,2] (OG N v3 v7 v6.1 v6.2 v8 h7))] (.node 9 [] (.node 10 [] (.node 11 [] (.node 12 [] .nil .nil) .nil) .nil) .nil) .nil) .nil) .nil) .nil) .nil) .nil)) (.node 7 [] (.node 1 [(4,oX c6 (aQ (dL (aQ c6))) [(.d (.sl (aX v1)))] (qq v3 []) [] (tN N v1 v6 h5))] (.node 3 [(10,oX (aQ (aQ (dL c6))) (aQ (aQ (dL (aQ (aQ (aQ (aQ c6))))))) [(.fn 96 [(.ptr 3 0),(.ptr 1 0)]),(.d (.sl (aS v2)))] (Mq v3 v6 []) [3,1,2] (iJ h6))] (.node 4 [] (.node 5 [] (.node 6 [] (.node 8 [(25,oR [(aD v3),(.ptr 7 0)] (N8 v3 v6 v7 []) [7,6,4,5,3,1,2] (OG N v3 v7 v6.1 v6.2 v8 h7))] (.node 9 [] (.node 10 [] (.node 11 [] (.node 12 [] .nil .nil) .nil) .nil) .nil) .nil) .nil) .nil) .nil) .nil) .nil) .nil)) .nil) .nil) [(6,(az v8.1)),(7,(ar v8.2.1))] (qq v3 [.cells [(.d (.sl (aX v6.1)))], .map (bP bQ v8.2.2), .cells [(.mp 2)], .cells [(.fn 96 [(.ptr 3 0),(.ptr 1 0)])], .cells [(.d (.sl (aS v7)))], .cells [(.fn 93 [(.ptr 4 0),(.ptr 5 0),(.ptr 7 0)]),(.fn 91 [(.ptr 7 0)])], .cells [(.ptr 6 0)]]) (by kernel_rfl) ?_
  refine cU ?_;have hr:=amo hF;subst hr;exact eJ (by kernel_rfl)
 replace hF:=(du h4).symm.trans hF;refine cS (t:=(!v5)) (by kernel_rfl) (dj h4) ?_;refine au ?_;refine rg [] [(6,(az false)),(7,(ar (10:Int)))] (qq v3 []) (by kernel_rfl) ?_;refine cU (cT ?_);have hr:=amo hF;subst hr;exact eJ (by kernel_rfl)
def Jt(N:Nat)(v1:amT aO)(v2:amT aV)(v3:ay):amV (Bool×Int):=
 (BL N v3).bind λv4=>
 bif (v4 !=0)then
  some (false,v4)
 else
  (zg N v3).bind λv5=>
  bif v5 then
   (O0 N v1 v2 v3).bind λv6=>
   some (v6.1,v6.2)
  else
   some (false,(10:Int))
theorem ZL{N v1 v2 v3}:KO 29 [(.d (.sl (aX v1))),(.d (.sl (aS v2))),(aD v3)] (λr=> .aY [(az r.1),(ar r.2)]) (Jt N v1 v2 v3):=
 fw Tryz.func29 (aw λv4 h1=>gA [[],[(4,cK Ta h1)],[]] (bn λh2=>aw λv5 h3=>gA [[f0 h2],[(4,cK Na h3)]] (fW λh4=>aw λv6 h5=>gR [[f0 (cH h4)],[(10,cK aj2 h5)]])))
def Px(N:Nat)(v1:amT aO)(v2:amT aV)(v3:ay):amV Bool:=
 (OX N v1).bind λv4=>
 Option.bind (bif v4 then Option.bind (MT N v2 (20:Int)) λv5=>
 (bif v5 then Option.bind (E2 N v3 (300:Int)) λv6=>
 some (!v6)else some true)else some true) λv7=>
 bif v7 then
  (Cl N).bind λv8=>
  some v8
 else
  (wo N v1 v2 v3).bind λv9=>
  (Gw N v1 v2 v3).bind λv10=>
  (C7 N v1 v2 v3).bind λv11=>
  (Jt N v1 v2 v3).bind λv12=>
  Option.bind (bif ((v9.1.xN.toInt==v10.1.xN.toInt)&&((v9.1.xD.toInt==v10.1.xD.toInt)&&true))then(bif ((v9.2.1.bu==v10.2.1.bu)&&((v9.2.1.bG==v10.2.1.bG)&&((v9.2.1.ck==v10.2.1.ck)&&((v9.2.1.cx==v10.2.1.cx)&&((v9.2.1.cG==v10.2.1.cG)&&true)))))then(bif (v9.2.2==v10.2.2)then(bif (v11.1==v12.1)then(bif (v11.2==v12.2)then (Cl N).bind λaF=>
  some aF else some false)else some false)else some false)else some false)else some false) λaI=>
  some aI
theorem aat{N v1 v2 v3}:KO 6 [(.d (.sl (aX v1))),(.d (.sl (aS v2))),(aD v3)] az (Px N v1 v2 v3):=
 fw Tryz.func6 (gA [[]] (aw λv4 h1=>gG (λv7=>[(29,(az v7))]) (λ_=>[.cells (aD v3).cells]) (dc (4,cK agZ h1) (ax (λh2=>aw λv5 h3=>cd (3,bF (cH h2)) (dc (16,cK ait h3) (ax (λh4=>aw λv6 h5=>gE [(8,bF (cH h4))] [(31,cK af9 h5)]) λh4=>gE [(8,bT (dj h4))] []))) λh2=>gE [(3,bT (dj h2)),(8,bT rfl)] [])) λv7=>ax (λh7=>aw λv8 h8=>gR [[t0 h7],[(1,cK Vm h8)]]) λh7=>aw λv9 h9=>aw λv10 aW=>aw λv11 aZ=>aw λv12 bj=>gA [[f0 h7],[(10,cL (Mj h9))],[(10,cK agB aW)],[(10,cL (afF aZ))],[(10,cK ZL bj)]] (gG (λaI=>[(6,(az aI))]) (λ_=>[.cells (aD v3).cells, .cells (aT v9.1).cells, .cells (bE v9.2.1).cells, .cells (aT v10.1).cells, .cells (bE v10.2.1).cells]) (ax (λbC=>cd (3,bT bC) (ax (λbJ=>cd (8,bT bJ) (ax (λbH=>cd (13,bT bH) (ax (λbY=>cd (18,bT bY) (ax (λc9=>aw λaF dZ=>gE [(23,bT c9)] [(73,cK Vm dZ)]) λc9=>gE [(23,bF c9)] [])) λbY=>gE [(18,bF bY),(23,bF rfl)] [])) λbH=>gE [(13,bF bH),(18,bF rfl),(23,bF rfl)] [])) λbJ=>gE [(8,bF bJ),(13,bF rfl),(18,bF rfl),(23,bF rfl)] [])) λbC=>gE [(3,bF bC),(8,bF rfl),(13,bF rfl),(18,bF rfl),(23,bF rfl)] []) λaI=>gR [])))
end Go.Proofs.YtnnapanbbbcalaaGreatDoor
namespace Go.Proofs.YtnnapanbbbcalaaGreatDoor
end Go.Proofs.YtnnapanbbbcalaaGreatDoor
namespace Go.Proofs.YtnnapanbbbcalaaGreatDoor
open Go.RowKit
theorem EA(b:amU)(i:Nat):b[i]?=(bL b)[i]?:=by
 unfold bL;rw[ams];by_cases h:i<b.size
 ·rw[getElem?_pos b i h,amr (xs:=b.data) (by exact h)];rfl
 ·rw[getElem?_neg b i h,Array.getElem?_eq_none (xs:=b.data) (by exact Nat.le_of_not_lt h)]
theorem sF(b:amU):b.size=(bL b).length:=by unfold bL;rw[amC];rfl
theorem Mk{i:Nat}(h:i<9223372036854775807):aE ((i:Int)+1)=((i+1:Nat):Int):=by
 unfold aE;rw[IntKind.wrap_i64]<;>omega
def np(c:UInt8):Bool:=decide (97<=c.toNat)&&decide (c.toNat<=122)
def jA(c:UInt8):Bool:=np c||(decide (48<=c.toNat)&&decide (c.toNat<=57))||c.toNat==95
def ui(l:amT UInt8):Bool:=ng.any λw=>bL w==l
def Fu(l:amT UInt8):Bool:=decide (1<=l.length)&&(decide (l.length<=16)&&(!ui l&&((l.take 1).all np&&l.all jA)))
def jX(s:amU):Bool:=Fu (bL s)
theorem R5(c:UInt8):IntKind.i32.wrap (c.toNat:Int)=(c.toNat:Int):=by
 have:=c.toNat_lt;rw[IntKind.wrap_i32]<;>omega
theorem mR{p q:Prop} [Decidable p] [Decidable q](h:p↔q):decide p=decide q:=decide_eq_decide.2 h
theorem gw(a b:Bool):(bif a then some b else some false)=some (a&&b):=by cases a<;>rfl
theorem jM(a b:Bool):(bif a then some true else some b)=some (a||b):=by cases a<;>rfl
theorem XQ(N:Nat)(c:UInt8):BC N (c.toNat:Int)=some (np c):=by
 unfold BC np;rw[gw,al4,mR (q:=97<=c.toNat) (by omega),mR (p:=(c.toNat:Int)<=122) (q:=c.toNat<=122) (by omega)]
theorem afQ(N:Nat)(c:UInt8):J7 N (c.toNat:Int)=some (decide (48<=c.toNat)&&decide (c.toNat<=57)):=by
 unfold J7;rw[gw,al4,mR (q:=48<=c.toNat) (by omega),mR (p:=(c.toNat:Int)<=57) (q:=c.toNat<=57) (by omega)]
theorem qC(n k:Nat):((n:Int)==(k:Int))=(n==k):=by
 rw[Bool.eq_iff_iff,beq_iff_eq,beq_iff_eq];omega
theorem acB(N:Nat)(c:UInt8):Ig N (c.toNat:Int)=some (jA c):=by
 unfold Ig jA;rw[XQ,al4,afQ,al4];have:=qC c.toNat 95;rw[show(((c.toNat:Int)==95))=(c.toNat==95)from this];rw[jM,jM,al4,Bool.or_assoc]
theorem V5(N:Nat)(s:amU)(hs:s.size<9223372036854775807):∀(k i:Nat),i<=s.size->s.size-i<k->D5 N s k (i:Int)=some ((i+(((bL s).drop i).takeWhile jA).length:Nat):Int)
 |0,i,_,hk=>absurd hk (amx _)
 |k+1,i,hi,hk=>by
  rw[D5];by_cases aN:i<s.size
  ·have h1:decide ((i:Int)<(s.size:Int))=true:=amM (by omega);have h2:decide ((0:Int)<=(i:Int))=true:=amM (by omega);rw[h1,h2];simp only[cond_true,amw];have hl:i<(bL s).length:=by rw[<-sF];exact aN
   rw[EA,al9 hl,List.drop_eq_getElem_cons hl,al4,R5,acB,al4,al4];cases hw:jA (bL s)[i]with
   |true=>
    simp only[cond_true];rw[Mk (Nat.lt_trans aN hs),V5 N s hs k (i+1) aN (by omega),List.takeWhile_cons_of_pos hw,al8]
    congr 2;omega
   |false=>
    simp only[cond_false];rw[List.takeWhile_cons_of_neg (by rw[hw];simp)];rfl
  ·have h1:decide ((i:Int)<(s.size:Int))=false:=amN (by omega);rw[h1];simp only[cond_false,al4];rw[List.drop_eq_nil_of_le (by rw[<-sF];omega)];rfl
theorem aiS(N:Nat)(s:amU)(hs:s.size<9223372036854775807)(hN:s.size<N):J9 N s=some ((((bL s).takeWhile jA).length:Nat):Int):=by
 unfold J9;have:=V5 N s hs N 0 (Nat.zero_le _) (by omega);rw[amE,amp]at this;exact this
theorem Xg{α:Type}(p:α->Bool):∀l:amT α,((l.takeWhile p).length==l.length)=l.all p
 |[]=>rfl
 |x::l=>by
  cases h:p x with
  |true=>
   rw[List.takeWhile_cons_of_pos h,amP,h,Bool.true_and,<-Xg p l];simp
  |false=>rw[List.takeWhile_cons_of_neg (by rw[h];simp),amP,h];simp
theorem Wh(N:Nat)(v:amU):∀(l:amT amU)(k:Nat),∃z:Int,Ie N v l k=some z/\decide (z>=0)=l.any λw=>bL w==bL v
 |[],k=>⟨-1,rfl,rfl⟩
 |w::l,k=>by
  rw[Ie,amQ];have hc:(bL v==bL w)=(bL w==bL v):=by rw[Bool.eq_iff_iff,beq_iff_eq,beq_iff_eq];exact eq_comm
  cases h:bL v==bL w with
  |true=>rw[hc]at h;exact⟨k,rfl,by rw[h,Bool.true_or];exact amM (by omega)⟩
  |false=>
   obtain⟨z,h1,h2⟩:=Wh N v l (k+1);rw[hc]at h;exact⟨z,h1,by rw[h,Bool.false_or];exact h2⟩
theorem ZM(N:Nat)(v:amU):J8 N v=some (ui (bL v)):=by
 unfold J8 Qx HF Qi;obtain⟨z,h1,h2⟩:=Wh N v ng 0;rw[al4,h1,al4,al4,h2];rfl
theorem Ki{α:Type}{l:amT α}(h:0<l.length):l.take 1=[l[0]]:=by
 cases l with
 |nil=>cases h
 |cons x l=>rfl
theorem w5:bL (bs [])=[]:=rfl
theorem S6(N:Nat)(s:amU)(hN:16<N):wQ N s=some (jX s):=by
 unfold wQ jX Fu;have hz:=sF s;by_cases h0:(bL s).length=0
 ·have:bL s=[]:=List.length_eq_zero_iff.1 h0;rw[this];rfl
 have cQ:(bL s==bL (bs []))=false:=by
  rw[w5,beq_eq_false_iff_ne];intro h;rw[h]at h0;exact h0 rfl
 rw[cQ,amM (show 1<=(bL s).length by omega),Bool.true_and];simp only[cond_false];by_cases bY:(bL s).length<=16
 ·rw[amM (show(s.size:Int)<=16 by omega),amM bY,Bool.true_and];simp only[cond_true];have hl:0<(bL s).length:=by omega
  rw[EA,al9 hl,al4,R5,XQ,al4,aiS N s (by omega) (by omega),al4,ZM,al4];rw[hz,qC,Xg];have ht:(bL s).take 1=[(bL s)[0]]:=Ki hl;rw[ht,amP,List.all_nil,Bool.and_true,gw,gw,al4]
  congr 1
  cases ui (bL s)<;>cases np (bL s)[0]<;>cases (bL s).all jA<;>rfl
 ·rw[amN (show ¬(s.size:Int)<=16 by omega),amN bY];rfl
theorem abu(N:Nat)(b:Bool):iA N b=some b:=by cases b<;>rfl
theorem ak4(a b:Bool):(bif a then some a else some b)=some (a||b):=by cases a<;>rfl
theorem ail(a b:amT UInt8):(a==b)=(b==a):=by rw[Bool.eq_iff_iff,beq_iff_eq,beq_iff_eq];exact eq_comm
theorem adj(N:Nat)(v:amU):Hl N v=some (ui (bL v)):=by
 simp only[Hl,abu,ak4,ui,ng,amQ,List.any_nil,Bool.or_false,ail (bL v)]
theorem D7(n k:Nat):decide ((n:Int)<(k:Int))= !decide (k<=n):=by
 by_cases h:k<=n
 ·rw[amM h,amN (by omega)];rfl
 ·rw[amN h,amM (by omega)];rfl
theorem sI(n k:Nat):decide ((n:Int)>(k:Int))= !decide (n<=k):=by
 by_cases h:n<=k
 ·rw[amM h,amN (by omega)];rfl
 ·rw[amN h,amM (by omega)];rfl
theorem UE(n k:Nat):decide ((n:Int)>=(k:Int))=decide (k<=n):=mR (by omega)
theorem Bk(n k:Nat):decide ((n:Int)<=(k:Int))=decide (n<=k):=mR (by omega)
theorem akM(n k:Nat):((n:Int) !=(k:Int))= !(n==k):=by unfold bne;rw[qC]
theorem aeM(c:UInt8):(bif (decide ((c.toNat:Int)<97))then(bif (decide ((c.toNat:Int)<48))then some ((c.toNat:Int) !=95)else(bif (decide ((c.toNat:Int)>57))then some ((c.toNat:Int) !=95)else some false))else(bif (decide ((c.toNat:Int)>122))then(bif (decide ((c.toNat:Int)<48))then some ((c.toNat:Int) !=95)else(bif (decide ((c.toNat:Int)>57))then some ((c.toNat:Int) !=95)else some false))else some false))=some (!jA c):=by
 have a1:=D7 c.toNat 97;have a2:=D7 c.toNat 48;have a3:=sI c.toNat 57;have a4:=sI c.toNat 122;have a5:=akM c.toNat 95;simp only[Int.cast_ofNat_Int]at a1 a2 a3 a4 a5;rw[a1,a2,a3,a4,a5];unfold jA np;cases decide (97<=c.toNat)<;>cases decide (48<=c.toNat)<;>cases decide (c.toNat<=57)<;>cases decide (c.toNat<=122)<;>cases (c.toNat==95)<;>rfl
theorem TP(N:Nat)(s:amU)(hs:s.size<9223372036854775807):∀(k i:Nat),i<=s.size->s.size-i<k->zG N s k (i:Int)=some (((bL s).drop i).all jA)
 |0,i,_,hk=>absurd hk (amx _)
 |k+1,i,hi,hk=>by
  rw[zG];by_cases aN:i<s.size
  ·have h1:decide ((i:Int)<(s.size:Int))=true:=amM (by omega);have h2:decide ((0:Int)<=(i:Int))=true:=amM (by omega);rw[h1,h2];simp only[cond_true,amw];have hl:i<(bL s).length:=by rw[<-sF];exact aN
   rw[EA,al9 hl,List.drop_eq_getElem_cons hl,al4,aeM,al4,amP];cases hw:jA (bL s)[i]with
   |true=>
    simp only[Bool.not_true,cond_false,Bool.true_and];rw[Mk (Nat.lt_trans aN hs),TP N s hs k (i+1) aN (by omega)]
   |false=>rfl
  ·have h1:decide ((i:Int)<(s.size:Int))=false:=amN (by omega);rw[h1];simp only[cond_false];rw[List.drop_eq_nil_of_le (by rw[<-sF];omega)];rfl
theorem ac8(N:Nat)(s:amU)(hN:16<N):FH N s=some (jX s):=by
 unfold FH jX Fu;have hz:=sF s;have a1:=D7 s.size 1;have a2:=sI s.size 16;simp only[Int.cast_ofNat_Int]at a1 a2;rw[a1,a2,hz];cases h1:decide (1<=(bL s).length)with
 |false=>rfl
 |true=>
  cases bY:decide ((bL s).length<=16)with
  |false=>rfl
  |true=>
   have pc:=of_decide_eq_true h1;have acr:=of_decide_eq_true bY;have hl:0<(bL s).length:=by omega
   simp only[Bool.not_true,cond_false,Bool.true_and];rw[adj,al4,EA,al9 hl,al4];have b1:=D7 (bL s)[0].toNat 97;have b2:=sI (bL s)[0].toNat 122;simp only[Int.cast_ofNat_Int]at b1 b2;rw[b1,b2,jM,jM,al4,Ki hl];have:=TP N s (by omega) N 0 (Nat.zero_le _) (by omega);rw[amE]at this;rw[show zG N s N 0=_ from this,amP,List.all_nil,Bool.and_true];unfold np;cases ui (bL s)<;>cases decide (97<=(bL s)[0].toNat)<;>cases decide ((bL s)[0].toNat<=122)<;>rfl
theorem ZC(N:Nat)(v:amU):∀(l:amT amU)(k:Nat),GB N v l k=some (l.any λw=>bL w==bL v)
 |[],_=>rfl
 |w::l,k=>by
  rw[GB,amQ,ZC N v l (k+1)];cases bL w==bL v<;>rfl
theorem adt(c:UInt8)(z:Bool):(bif (decide ((c.toNat:Int)>=97))then(bif (decide ((c.toNat:Int)<=122))then some (!true)else(bif z then(bif (decide ((c.toNat:Int)>=48))then(bif (decide ((c.toNat:Int)<=57))then some (!true)else some (!((c.toNat:Int)==95)))else some (!((c.toNat:Int)==95)))else some (!false)))else(bif z then(bif (decide ((c.toNat:Int)>=48))then(bif (decide ((c.toNat:Int)<=57))then some (!true)else some (!((c.toNat:Int)==95)))else some (!((c.toNat:Int)==95)))else some (!false)))=some (!(bif z then jA c else np c)):=by
 have a1:=UE c.toNat 97;have a2:=UE c.toNat 48;have a3:=Bk c.toNat 57;have a4:=Bk c.toNat 122;have a5:=qC c.toNat 95;simp only[Int.cast_ofNat_Int]at a1 a2 a3 a4 a5;rw[a1,a2,a3,a4,a5];unfold jA np;cases decide (97<=c.toNat)<;>cases decide (48<=c.toNat)<;>cases decide (c.toNat<=57)<;>cases decide (c.toNat<=122)<;>cases (c.toNat==95)<;>cases z<;>rfl
theorem T5(N:Nat)(s:amU)(hs:s.size<9223372036854775807):∀(k i:Nat),i<=s.size->s.size-i<k->AD N s k (i:Int)=some (bif decide (i>0)then((bL s).drop i).all jA else((bL s).take 1).all np&&((bL s).drop 1).all jA)
 |0,i,_,hk=>absurd hk (amx _)
 |k+1,i,hi,hk=>by
  rw[AD];by_cases aN:i<s.size
  ·have h1:decide ((i:Int)<(s.size:Int))=true:=amM (by omega);have h2:decide ((0:Int)<=(i:Int))=true:=amM (by omega);rw[h1,h2];simp only[cond_true,amw];have hl:i<(bL s).length:=by rw[<-sF];exact aN
   rw[EA,al9 hl,al4,adt,al4];rw[Mk (Nat.lt_trans aN hs),T5 N s hs k (i+1) aN (by omega),amM (show i+1>0 by omega)];simp only[cond_true];by_cases h0:i=0
   ·subst h0;rw[amN (show ¬((0:Nat):Int)>0 by omega),amN (show ¬0>0 by omega)];simp only[cond_false];rw[Ki hl,amP,List.all_nil,Bool.and_true];cases np (bL s)[0]<;>rfl
   ·rw[amM (show(i:Int)>0 by omega),amM (show i>0 by omega)];simp only[cond_true];rw[List.drop_eq_getElem_cons hl,amP];cases jA (bL s)[i]<;>rfl
  ·have h1:decide ((i:Int)<(s.size:Int))=false:=amN (by omega);rw[h1];simp only[cond_false];have hn:(bL s).drop i=[]:=List.drop_eq_nil_of_le (by rw[<-sF];omega);by_cases h0:i=0
   ·subst h0;rw[amE]at hn;rw[hn];rfl
   ·rw[amM (show i>0 by omega),hn];rfl
theorem Qn(N:Nat)(s:amU)(hN:16<N):zK N s=some (jX s):=by
 unfold zK jX Fu;have hz:=sF s;have a1:=D7 s.size 1;have a2:=sI s.size 16;simp only[Int.cast_ofNat_Int]at a1 a2;rw[a1,a2,hz];cases h1:decide (1<=(bL s).length)with
 |false=>rfl
 |true=>
  cases bY:decide ((bL s).length<=16)with
  |false=>rfl
  |true=>
   have pc:=of_decide_eq_true h1;have acr:=of_decide_eq_true bY;have hl:0<(bL s).length:=by omega
   simp only[Bool.not_true,cond_false,Bool.true_and];have hh:∀l,Py N l s=some (l.any λw=>bL w==bL s):=λl=>ZC N s l 0;unfold Qu;rw[al4,hh,al4,al4];have:=T5 N s (by omega) N 0 (Nat.zero_le _) (by omega);rw[show AD N s N 0=_ from this];show(bif ui (bL s)then some false else some (((bL s).take 1).all np&&((bL s).drop 1).all jA))=_;have hw:(bL s).all jA=(jA (bL s)[0]&&((bL s).drop 1).all jA):=by
    have hd:bL s=(bL s)[0]::(bL s).drop 1:=by
     have:=List.drop_eq_getElem_cons hl
     rwa [amE]at this
    rw[<-amP,<-hd]
   rw[hw,Ki hl,amP,List.all_nil,Bool.and_true];unfold jA;cases ui (bL s)<;>cases np (bL s)[0]<;>simp
def dE(t:aP):Bool:=
 bif t.bu==1||t.bu==3 then t.bG==0&&(t.ck==0&&(t.cx==0&&t.cG==0))
 else t.bu==2&&(decide (2<=t.bG)&&(decide (t.bG<=31)&&(decide (0<=t.ck)&&(decide (t.ck<=30)&&(decide (1<=t.cx)&&(decide (t.cx<=4)&&(t.cG==1||t.cG==2)))))))
theorem ZZ(a:Bool):(bif a then some true else some false)=some a:=by cases a<;>rfl
theorem KC(a b:Int):decide (a<b)= !decide (b<=a):=by
 by_cases h:b<=a
 ·rw[amM h,amN (by omega)];rfl
 ·rw[amN h,amM (by omega)];rfl
theorem Gz(a b:Int):decide (a>b)= !decide (a<=b):=KC b a
theorem mu(a b:Int):decide (a>=b)=decide (b<=a):=rfl
theorem wM(a b:Int):(a !=b)= !(a==b):=rfl
theorem AM(N:Nat)(t:aP):qW N t=some (dE t):=by
 unfold qW dE;simp only[jM,gw,al4,mu];cases (t.bu==1||t.bu==3)<;>rfl
theorem NL(N:Nat)(t:aP)(h:(t.bu==2)=true):ta N t=some (bif (decide (2<=t.bG)&&(decide (t.bG<=31)&&(decide (0<=t.ck)&&(decide (t.ck<=30)&&(decide (1<=t.cx)&&(decide (t.cx<=4)&&(t.cG==1||t.cG==2)))))))then 0 else 10):=by
 unfold ta;simp only[jM,gw,al4,mu,Gz,wM,h,Bool.not_true,Bool.false_or];cases decide (2<=t.bG)<;>cases decide (t.bG<=31)<;>cases decide (0<=t.ck)<;>cases decide (t.ck<=30)<;>cases decide (1<=t.cx)<;>cases decide (t.cx<=4)<;>cases t.cG==1<;>cases t.cG==2<;>rfl
theorem uB(N:Nat)(t:aP):mr N t=some (bif dE t then 0 else 10):=by
 unfold mr Hq dE La;cases h1:t.bu==1 with
 |true=>
  simp only[cond_true,al4,amO,Bool.true_and,Bool.true_or,Bool.and_true];cases (t.bG==0&&(t.ck==0&&(t.cx==0&&t.cG==0)))<;>rfl
 |false=>
  cases h3:t.bu==3 with
  |true=>
   simp only[cond_true,cond_false,al4,amO,Bool.true_and,Bool.or_true,Bool.and_true];cases (t.bG==0&&(t.ck==0&&(t.cx==0&&t.cG==0)))<;>rfl
  |false=>
   cases h2:t.bu==2 with
   |true=>
    rw[NL N t h2];simp only[cond_true,cond_false,al4,Bool.true_and,Bool.or_false];cases (decide (2<=t.bG)&&(decide (t.bG<=31)&&(decide (0<=t.ck)&&(decide (t.ck<=30)&&(decide (1<=t.cx)&&(decide (t.cx<=4)&&(t.cG==1||t.cG==2)))))))<;>rfl
   |false=>rfl
def tT:amV amU->amT dP->Bool
 |_,[]=>true
 |p,m::l=>jX m.bo&&(!(m.eQ.toInt==0)&&((match p with|none=>true|some q=>Op.bytesLess (bL q) (bL m.bo))&&tT (some m.bo) l))
theorem Wd(p:amV amU)(m:dP)(l:amT dP):tT p (m::l)=(jX m.bo&&(!(m.eQ.toInt==0)&&((match p with|none=>true|some q=>Op.bytesLess (bL q) (bL m.bo))&&tT (some m.bo) l))):=by cases p<;>rfl
def j7(x:cn):Bool:=tT none x.xL
def sG(x:cn)(k:Nat):amV amU:=bif k==0 then none else(x.xL[k-1]?).map (·.bo)
theorem agu{k:Nat}(h0:0<k)(h:k<=maxLen):aE ((k:Int)-1)=((k-1:Nat):Int):=by
 unfold aE;have:(k:Int)-1=((k-1:Nat):Int):=by omega
 rw[this];unfold maxLen at h;rw[IntKind.wrap_i64]<;>omega
theorem XM{x:cn}{k:Nat}{m:dP}{l:amT dP}(hd:x.xL.drop k=m::l):sG x (k+1)=some m.bo:=by
 have:=bM hd;unfold sG;simp [this]
theorem Sv{x:cn}{k:Nat}{m:dP}{l:amT dP}(hd:x.xL.drop k=m::l)(hm:x.xL.length<=maxLen):
 (bif (decide ((k:Int)>0))then bif (decide ((0:Int)<=(aE ((k:Int)-(1:Int)))))then
 Option.bind (x.xL[((aE ((k:Int)-(1:Int)))).toNat]?) λv7=>
 some (!(Op.bytesLess (bL v7.bo) (bL m.bo)))
 else none else some false)=some (!(match sG x k with|none=>true|some q=>Op.bytesLess (bL q) (bL m.bo))):=by
 have aN:k<x.xL.length:=(al5.1 (bM hd)).1;by_cases h0:k=0
 ·subst h0;rfl
 ·rw[amM (show(k:Int)>0 by omega),agu (by omega) (by omega),amM (show(0:Int)<=((k-1:Nat):Int) by omega)];simp only[cond_true,amw];have hp:sG x k=(x.xL[k-1]?).map (·.bo):=by
    unfold sG;rw[beq_false_of_ne h0];rfl
  rw[hp,al9 (show k-1<x.xL.length by omega)];rfl
theorem Rr(N:Nat)(hN:16<N)(x:cn)(hm:x.xL.length<=maxLen):∀(l:amT dP)(k:Nat),x.xL.drop k=l->GZ N x l k=some (bif tT (sG x k) l then 0 else 1)
 |[],k,_=>rfl
 |m::l,k,hd=>by
  rw[GZ,ac8 N m.bo hN,al4,Wd,Sv hd hm,Rr N hN x hm l (k+1) (jR hd),XM hd];generalize (match sG x k with|none=>true|some q=>Op.bytesLess (bL q) (bL m.bo))=b;cases jX m.bo<;>cases (m.eQ.toInt==0)<;>cases b<;>cases tT (some m.bo) l<;>rfl
theorem VN(N:Nat)(hN:16<N)(x:cn)(hm:x.xL.length<=maxLen):yv N x=some (bif j7 x then 0 else 1):=Rr N hN x hm x.xL 0 rfl
theorem TN(N:Nat)(hN:16<N)(x:cn)(hm:x.xL.length<=maxLen):∀(l:amT dP)(k:Nat),x.xL.drop k=l->F7 N x l k=some (tT (sG x k) l)
 |[],k,_=>rfl
 |m::l,k,hd=>by
  rw[F7,Qn N m.bo hN,al4,Wd,Sv hd hm,TN N hN x hm l (k+1) (jR hd),XM hd];generalize (match sG x k with|none=>true|some q=>Op.bytesLess (bL q) (bL m.bo))=b;cases jX m.bo<;>cases (m.eQ.toInt==0)<;>cases b<;>cases tT (some m.bo) l<;>rfl
theorem JM(N:Nat)(hN:16<N)(x:cn)(hm:x.xL.length<=maxLen):wz N x=some (j7 x):=TN N hN x hm x.xL 0 rfl
def dx(t:aP)(v:aB):Bool:=
 bif t.bu==2 then v.xD.toInt==1&&(decide (-(2^(t.bG-1).toNat)<=v.xN.toInt)&&decide (v.xN.toInt<2^(t.bG-1).toNat))
 else decide (v.xN.toInt<=2147483647)&&(decide (-2147483647<=v.xN.toInt)&&(decide (1<=v.xD.toInt)&&(decide (v.xD.toInt<=2147483647)&&
  (bif t.bu==3 then v.xD.toInt==1 else Nat.gcd v.xN.toInt.natAbs v.xD.toInt.toNat==1))))
theorem abU:∀n:Fin 30,(decide ((0:Int)<=(IntKind.u64.wrap (aE (((n.val+2:Nat):Int)-(1:Int))))))=true/\(decide ((0:Int)<=(aE (((n.val+2:Nat):Int)-(1:Int)))))=true/\
 (-(Int64.ofInt ((1:Int)*2^(min ((IntKind.u64.wrap (aE (((n.val+2:Nat):Int)-(1:Int))))).toNat (IntKind.bits .i64))))).toInt= -(2^(n.val+1))/\
 ((Int64.ofInt ((1:Int)*2^(min ((IntKind.u64.wrap (aE (((n.val+2:Nat):Int)-(1:Int))))).toNat (IntKind.bits .i64))))-(1:Int64)).toInt=2^(n.val+1)-1/\
 (-(Int64.ofInt ((1:Int)*2^(min ((aE (((n.val+2:Nat):Int)-(1:Int)))).toNat (IntKind.bits .i64))))).toInt= -(2^(n.val+1))/\
 (Int64.ofInt ((1:Int)*2^(min ((aE (((n.val+2:Nat):Int)-(1:Int)))).toNat (IntKind.bits .i64)))).toInt=2^(n.val+1):=by decide+kernel
theorem Ga{b:Int}(h1:2<=b)(h2:b<=31):(decide ((0:Int)<=(IntKind.u64.wrap (aE (b-(1:Int))))))=true/\(decide ((0:Int)<=(aE (b-(1:Int)))))=true/\
 (-(Int64.ofInt ((1:Int)*2^(min ((IntKind.u64.wrap (aE (b-(1:Int))))).toNat (IntKind.bits .i64))))).toInt= -(2^(b-1).toNat)/\
 ((Int64.ofInt ((1:Int)*2^(min ((IntKind.u64.wrap (aE (b-(1:Int))))).toNat (IntKind.bits .i64))))-(1:Int64)).toInt=2^(b-1).toNat-1/\
 (-(Int64.ofInt ((1:Int)*2^(min ((aE (b-(1:Int)))).toNat (IntKind.bits .i64))))).toInt= -(2^(b-1).toNat)/\
 (Int64.ofInt ((1:Int)*2^(min ((aE (b-(1:Int)))).toNat (IntKind.bits .i64)))).toInt=2^(b-1).toNat:=by
 obtain⟨n,rfl⟩:∃n:Nat,b=n:=⟨b.toNat,by omega⟩;have:=abU ⟨n-2,by omega⟩;simp only[show n-2+2=n by omega,show n-2+1=n-1 by omega]at this;rw[show((n:Int)-1).toNat=n-1 by omega];exact this
theorem Io(N:Nat):∀(k a b:Nat),b<k->Ds N k (a:Int) (b:Int)=some ((Nat.gcd a b:Nat):Int)
 |0,a,b,h=>absurd h (amx _)
 |k+1,a,b,h=>by
  rw[Ds];by_cases h0:b=0
  ·subst h0;simp
  ·rw[show(((b:Nat):Int) !=0)=true by rw[bne_iff_ne];omega];simp only[cond_true];rw[<-Int.ofNat_tmod,Io N k b (a%b) (by have:=Nat.mod_lt a (Nat.pos_of_ne_zero h0);omega)];rw[Nat.gcd_comm a b,Nat.gcd_rec b a,Nat.gcd_comm]
theorem Ro(N:Nat):∀(k:Nat)(a b:Int64),0<=a.toInt->0<=b.toInt->b.toInt.toNat<k->∃g:Int64,C8 N k a b=some g/\g.toInt=((Nat.gcd a.toInt.toNat b.toInt.toNat:Nat):Int)
 |0,a,b,_,_,h=>absurd h (amx _)
 |k+1,a,b,ha,hb,h=>by
  rw[C8];by_cases h0:b.toInt=0
  ·rw[h0];refine⟨a,rfl,?_⟩;show a.toInt=((Nat.gcd a.toInt.toNat 0:Nat):Int);rw[Nat.gcd_zero_right];omega
  ·rw[show(b.toInt !=0)=true by rw[bne_iff_ne];exact h0];simp only[cond_true];obtain⟨x,hx⟩:∃x:Nat,a.toInt=x:=⟨a.toInt.toNat,by omega⟩;obtain⟨y,hy⟩:∃y:Nat,b.toInt=y:=⟨b.toInt.toNat,by omega⟩;rw[hx,hy];have hyp:0<y:=by omega
   have hm:(x:Int).tmod (y:Int)=((x%y:Nat):Int):=(Int.ofNat_tmod x y).symm;have aN:=Nat.mod_lt x hyp;have kr:b.toInt<2^63:=Int64.toInt_lt b;have mC:(Int64.ofInt ((x%y:Nat):Int)).toInt=((x%y:Nat):Int):=by
    rw[Int64.toInt_ofInt_of_le]
    ·omega
    ·omega
   rw[hm];obtain⟨g,h1,h2⟩:=Ro N k b (Int64.ofInt ((x%y:Nat):Int)) hb (by rw[mC];omega) (by rw[mC];omega);refine⟨g,h1,?_⟩;rw[h2,mC,hy];simp only[amw];rw[Nat.gcd_comm x y,Nat.gcd_rec y x,Nat.gcd_comm]
theorem lu(z:Int):IntKind.u64.wrap z=z%18446744073709551616:=rfl
theorem CR(N:Nat)(v:Int64):yF N v=some ((v.toInt.natAbs:Nat):Int):=by
 unfold yF;have h1:v.toInt<2^63:=Int64.toInt_lt v;have h2: -2^63<=v.toInt:=Int64.le_toInt v;by_cases h:v.toInt<0
 ·rw[amM h];simp only[cond_true,lu]
  congr 1
  omega
 ·rw[amN h];simp only[cond_false,lu]
  congr 1
  omega
theorem rO(N:Nat)(hN:2147483648<N)(t:aP)(v:aB)(ht:dE t=true):nD N t v=some (dx t v):=by
 unfold nD;rw[uB,ht,al4];unfold dx;cases h2:t.bu==2 with
 |true=>
  simp only[cond_true];show Option.bind (rz N t v) _=_;unfold dE at ht;have hk:t.bu=2:=by simpa using h2
  rw[hk]at ht;have qT:(decide (2<=t.bG)&&(decide (t.bG<=31)&&(decide (0<=t.ck)&&(decide (t.ck<=30)&&(decide (1<=t.cx)&&(decide (t.cx<=4)&&(t.cG==1||t.cG==2)))))))=true:=ht;unfold rz;rw[NL N t h2,qT,al4];simp only[al7,decide_eq_true_eq]at qT;obtain⟨b1,b2,_⟩:=qT;obtain⟨f1,f2,f3,f4,f5,f6⟩:=Ga b1 b2;unfold De Fe x8;rw[gw,al4,al4,mu,amM b1,amM b2];simp only[Bool.and_self,cond_true];rw[f1];simp only[cond_true,al4];rw[f3,f4];rw[mu,gw,mR (p:=v.xN.toInt<=2^(t.bG-1).toNat-1) (q:=v.xN.toInt<2^(t.bG-1).toNat) (by omega)];cases (v.xD.toInt==1)<;>rfl
 |false=>
  simp only[cond_false];show(bif t.bu==3 then _ else _)=_;cases h3:t.bu==3 with
  |true=>
   simp only[cond_true];unfold o0;rw[mu,gw,al4,al4];by_cases hd:v.xD.toInt=1
   ·rw[hd];simp only[amO,cond_true,al4,show decide ((1:Int)<=1)=true from rfl,show decide ((1:Int)<=2147483647)=true from rfl,Bool.and_true];rw[Bool.and_comm]
   ·rw[beq_false_of_ne hd];simp only[cond_false,al4,Bool.and_false]
  |false=>
   simp only[cond_false];unfold j9 Nl;rw[mu,mu,gw,al4,al4,CR,al4];cases pQ:decide (1<=v.xD.toInt)with
   |false=>cases decide (v.xN.toInt<=2147483647)<;>cases decide (-2147483647<=v.xN.toInt)<;>rfl
   |true=>
    cases nv:decide (v.xD.toInt<=2147483647)with
    |false=>cases decide (v.xN.toInt<=2147483647)<;>cases decide (-2147483647<=v.xN.toInt)<;>rfl
    |true=>
     have e1:=of_decide_eq_true pQ;have e2:=of_decide_eq_true nv;have hw:IntKind.u64.wrap v.xD.toInt=((v.xD.toInt.toNat:Nat):Int):=by rw[lu];omega
     simp only[cond_true,Bool.true_and];rw[hw];unfold zS;rw[Io N N v.xN.toInt.natAbs v.xD.toInt.toNat (by omega),al4,show((((Nat.gcd v.xN.toInt.natAbs v.xD.toInt.toNat:Nat):Int))==1)=(Nat.gcd v.xN.toInt.natAbs v.xD.toInt.toNat==1)from qC _ 1,gw,al4];cases decide (v.xN.toInt<=2147483647)<;>cases decide (-2147483647<=v.xN.toInt)<;>rfl
theorem uz(N:Nat)(hN:2147483648<N)(t:aP)(v:aB)(ht:dE t=true):qa N t v=some (dx t v):=by
 unfold qa dx;cases h2:t.bu==2 with
 |true=>
  simp only[cond_true];unfold dE at ht;have hk:t.bu=2:=by simpa using h2
  rw[hk]at ht;have qT:(decide (2<=t.bG)&&(decide (t.bG<=31)&&(decide (0<=t.ck)&&(decide (t.ck<=30)&&(decide (1<=t.cx)&&(decide (t.cx<=4)&&(t.cG==1||t.cG==2)))))))=true:=ht;simp only[al7,decide_eq_true_eq]at qT;obtain⟨b1,b2,_⟩:=qT;obtain⟨f1,f2,f3,f4,f5,f6⟩:=Ga b1 b2;rw[f2];simp only[cond_true];rw[f5,f6,mu,gw,gw,al4]
 |false=>
  simp only[cond_false,Gz,jM,al4];cases wC:decide (v.xN.toInt<=2147483647)with
  |false=>rfl
  |true=>
   cases ku:decide (-2147483647<=v.xN.toInt)with
   |false=>rfl
   |true=>
    cases pQ:decide (1<=v.xD.toInt)with
    |false=>rfl
    |true=>
     cases nv:decide (v.xD.toInt<=2147483647)with
     |false=>rfl
     |true=>
      have n1:=of_decide_eq_true wC;have n2:=of_decide_eq_true ku;have e1:=of_decide_eq_true pQ;have e2:=of_decide_eq_true nv;simp only[Bool.not_true,Bool.or_false,cond_false,Bool.true_and];cases h3:t.bu==3 with
      |true=>rfl
      |false=>
       simp only[cond_false];have rI:(-v.xN).toInt= -v.xN.toInt:=by
        rw[Int64.toInt_neg];rw[Int.bmod_eq_of_le]<;>omega
       have xl:(qo v.xN (-v.xN)).toInt=((v.xN.toInt.natAbs:Nat):Int):=by
        rw[<-SF,rI];split<;>omega
       unfold Pp;obtain⟨g,g1,g2⟩:=Ro N N (qo v.xN (-v.xN)) v.xD (by rw[xl];omega) (by omega) (by omega);rw[g1,al4,g2,xl,amw];rw[show((((Nat.gcd v.xN.toInt.natAbs v.xD.toInt.toNat:Nat):Int))==1)=(Nat.gcd v.xN.toInt.natAbs v.xD.toInt.toNat==1)from qC _ 1]
def rf(n:Int):Bool:=decide (-9223372036854775808<=n)&&decide (n<=9223372036854775807)
theorem nW{n:Int}:rf n=true↔-9223372036854775808<=n/\n<=9223372036854775807:=by
 unfold rf;rw[al7,decide_eq_true_iff,decide_eq_true_iff]
theorem adx(n:Int64):rf n.toInt=true:=by
 rw[nW];have h1:=n.le_toInt;have h2:=n.toInt_lt;omega
def same(a b:amU):Bool:=bL a==bL b
def lt(a b:amU):Bool:=Op.bytesLess (bL a) (bL b)
inductive Er|arg|range
abbrev X(α:Type):=Except Er α
set_option linter.unusedSimpArgs false
def Bb(l:cn):Prop:=l.xL.length<=maxLen
structure Xu(x:cY):Prop where
 mg:Bb x.cm
 at_:∀l∈x.cO,Bb l
structure AF(e:ay):Prop where
 mg:Bb e.cm
 idx:∀x∈e.xIdx,Xu x
 args:e.bD.length<=maxLen
def m8(e:ay):Prop:=∀x∈eO e,AF x
def xa(l:cn):Bool:=l.xK.toInt==0&&l.xL.length==0
def qE(x:cY):Bool:=bif bL x.dA==[]then x.cO.length==0 else xa x.cm
def He(v:aB):Bool:=v.xN.toInt==0&&v.xD.toInt==0
def Gs(t:aP):Bool:=t.bu==0&&(t.bG==0&&(t.ck==0&&(t.cx==0&&t.cG==0)))
def n6(e:ay):Bool:=decide (1<=e.aC)&&(decide (e.aC<=18)&&((e.aC==1||He e.dR)&&((e.aC==1||(e.aC==12||Gs e.aK))&&((e.aC==2||xa e.cm)&&((e.aC==3||(bL e.bo==[]&&e.xIdx.length==0))&&e.xIdx.all qE)))))
def sX(e:ay):Bool:=(!(e.aC==3)||jX e.bo)&&e.xIdx.all λx=>bL x.dA==[]||jX x.dA
def qX(op:Int):Int:=bif op==1||(op==2||op==3)then 0 else bif op==8||(op==12||op==18)then 1 else bif op==11 then 3 else 2
def pA(e:ay):Bool:=(e.bD.length:Int)==qX e.aC&&(decide (e.xIdx.length<=6)&&e.xIdx.all λx=>decide (x.cO.length<=6))
def eo(e:ay):Bool:=decide (13<=e.aC)&&decide (e.aC<=18)
def iW(op:Int)(i:Nat):Bool:=(op==11&&i==0)||(op==16||(op==17||op==18))
def uf(op:Int):Nat->amT ay->Bool
 |_,[]=>true
 |i,a::l=>eo a==iW op i&&uf op (i+1) l
def nG(e:ay):Bool:=(!(e.aC==1||e.aC==12)||dE e.aK)&&uf e.aC 0 e.bD
def uI(e:ay):Bool:=(!(e.aC==1)||dx e.aK e.dR)&&(od e).all j7
def mS(e:ay):Int:=bif n6 e then bif sX e then bif pA e then bif nG e then bif uI e then 0 else 1 else 10 else 11 else 7 else 5
theorem Gx(n:Nat):((n:Int)==0)=(n==0):=qC n 0
theorem Pz(n:Nat):decide ((n:Int)>0)= !(n==0):=by
 by_cases h:n=0
 ·subst h;rfl
 ·rw[amM (show(n:Int)>0 by omega),beq_false_of_ne h];rfl
theorem Tr(N:Nat)(l:cn):Eo N l=some (xa l):=by
 unfold Eo xa;rw[gw,al4,Gx]
theorem akP(N:Nat)(x:cY):G8 N x=some (qE x):=by
 unfold G8 qE;rw[Tr,al4,Gx,w5];cases bL x.dA==[]<;>rfl
theorem Lg{α:Type}(f:α->Bool)(l:amT α):(l.any λx=> !f x)= !l.all f:=by
 induction l with
 |nil=>rfl
 |cons x l ih=>rw[amQ,amP,ih];cases f x<;>rfl
theorem V9(N:Nat):∀(l:amT cY)(k:Nat),∃z:Int,Jm N l k=some z/\decide (z>=0)=l.any λx=> !qE x
 |[],k=>⟨-1,rfl,rfl⟩
 |x::l,k=>by
  rw[Jm,amQ];unfold NJ;rw[akP,al4,al4];cases h: !qE x with
  |true=>exact⟨k,rfl,amM (by omega)⟩
  |false=>exact V9 N l (k+1)
theorem acs(N:Nat)(l:amT cY):Jf N l=some (!l.all qE):=by
 unfold Jf Ly;obtain⟨z,h1,h2⟩:=V9 N l 0;rw[h1,al4,h2,Lg]
theorem Zr(v:aB):((v.xN.toInt==(0:Int64).toInt)&&((v.xD.toInt==(0:Int64).toInt)&&true))=He v:=by rw[Bool.and_true];rfl
theorem Su(t:aP):((t.bu==0)&&((t.bG==0)&&((t.ck==0)&&((t.cx==0)&&((t.cG==0)&&true)))))=Gs t:=by rw[Bool.and_true];rfl
theorem sm(a b:Bool):(bif a then some false else some b)=some (!a&&b):=by cases a<;>rfl
theorem Sl(a b:Bool):(bif a then some b else some true)=some (!a||b):=by cases a<;>rfl
theorem ahT(N:Nat)(e:ay):Gu N e=some (n6 e):=by
 unfold Gu n6;simp only[Pz];simp only[jM,gw,sm,Sl,al4,Gz,KC,Tr,acs,Zr,Su,w5];cases decide (1<=e.aC)<;>cases decide (e.aC<=18)<;>cases e.aC==1<;>cases He e.dR<;>cases e.aC==12<;>cases Gs e.aK<;>cases e.aC==2<;>cases xa e.cm<;>cases e.aC==3<;>cases bL e.bo==[]<;>cases e.xIdx.length==0<;>cases e.xIdx.all qE<;>rfl
theorem YP(N:Nat):∀(l:amT cY)(k:Nat),Gg N l k=some (l.all qE)
 |[],_=>rfl
 |x::l,k=>by
  rw[Gg,amP,YP N l (k+1)];unfold qE xa;simp only[jM,ZZ,gw,al4,Pz,wM,w5];cases bL x.dA==[]<;>cases x.cO.length==0<;>cases x.cm.xK.toInt==0<;>cases x.cm.xL.length==0<;>rfl
theorem akL(N:Nat)(e:ay):Jo N e=some (n6 e):=by
 unfold Jo n6;simp only[Pz];simp only[jM,gw,sm,Sl,al4,Gz,KC,wM,YP,Zr,Su,w5];unfold xa;cases decide (1<=e.aC)<;>cases decide (e.aC<=18)<;>cases e.aC==1<;>cases He e.dR<;>cases e.aC==12<;>cases Gs e.aK<;>cases e.aC==2<;>cases e.cm.xK.toInt==0<;>cases e.cm.xL.length==0<;>cases e.aC==3<;>cases bL e.bo==[]<;>cases e.xIdx.length==0<;>cases e.xIdx.all qE<;>rfl
theorem aiC(N:Nat)(hN:16<N)(x:cY):Hb N x=some (!(bL x.dA==[]||jX x.dA)):=by
 unfold Hb;rw[S6 N _ hN,al4,sm,al4,w5];cases bL x.dA==[]<;>rfl
theorem UN(N:Nat)(hN:16<N):∀(l:amT cY)(k:Nat),∃z:Int,Ho N l k=some z/\decide (z>=0)=l.any λx=> !(bL x.dA==[]||jX x.dA)
 |[],k=>⟨-1,rfl,rfl⟩
 |x::l,k=>by
  rw[Ho,amQ,aiC N hN,al4];cases h: !(bL x.dA==[]||jX x.dA)with
  |true=>exact⟨k,rfl,amM (by omega)⟩
  |false=>exact UN N hN l (k+1)
theorem ahe(N:Nat)(hN:16<N)(e:ay):Gm N e=some (sX e):=by
 unfold Gm sX NY Lj;obtain⟨z,h1,h2⟩:=UN N hN e.xIdx 0;rw[S6 N _ hN,al4,h1];simp only[al4,h2,Lg,gw,sm];cases e.aC==3<;>cases jX e.bo<;>cases (e.xIdx.all λx=>bL x.dA==[]||jX x.dA)<;>rfl
theorem VT(N:Nat)(hN:16<N):∀(l:amT cY)(k:Nat),HN N l k=some (l.all λx=>bL x.dA==[]||jX x.dA)
 |[],_=>rfl
 |x::l,k=>by
  rw[HN,amP,VT N hN l (k+1),Qn N _ hN,al4,sm,al4,sm,w5];cases bL x.dA==[]<;>cases jX x.dA<;>rfl
theorem aee(N:Nat)(hN:16<N)(e:ay):Ic N e=some (sX e):=by
 unfold Ic sX;rw[Qn N _ hN,al4,VT N hN];simp only[al4,gw,sm];cases e.aC==3<;>cases jX e.bo<;>rfl
theorem XX(N:Nat):∀(l:amT cY)(k:Nat),∃z:Int,Gv N l k=some z/\decide (z>=0)=l.any λx=> !decide (x.cO.length<=6)
 |[],k=>⟨-1,rfl,rfl⟩
 |x::l,k=>by
  rw[Gv,amQ];unfold PQ;rw[al4,show decide ((x.cO.length:Int)>6)= !decide (x.cO.length<=6)from sI _ 6];cases h: !decide (x.cO.length<=6)with
  |true=>exact⟨k,rfl,amM (by omega)⟩
  |false=>exact XX N l (k+1)
theorem ahQ(N:Nat)(op:Int):Hu N op=some (qX op):=by
 unfold Hu Fb E3 qX;cases op==1<;>cases op==2<;>cases op==3<;>cases op==8<;>cases op==12<;>cases op==18<;>cases op==11<;>rfl
theorem aj8(N:Nat)(op:Int):GA N op=some (qX op):=by
 unfold GA BW BP qX;cases op==1<;>cases op==2<;>cases op==3<;>cases op==8<;>cases op==12<;>cases op==18<;>cases op==11<;>rfl
theorem ahR(N:Nat)(e:ay):FU N e=some (pA e):=by
 unfold FU pA Ll Ls;obtain⟨z,h1,h2⟩:=XX N e.xIdx 0;rw[ahQ,al4,h1,show decide ((e.xIdx.length:Int)>6)= !decide (e.xIdx.length<=6)from sI _ 6];simp only[al4,h2,Lg,jM,sm,wM];cases (e.bD.length:Int)==qX e.aC<;>cases decide (e.xIdx.length<=6)<;>cases (e.xIdx.all λx=>decide (x.cO.length<=6))<;>rfl
theorem WV(N:Nat):∀(l:amT cY)(k:Nat),FP N l k=some (l.all λx=>decide (x.cO.length<=6))
 |[],_=>rfl
 |x::l,k=>by
  rw[FP,amP,WV N l (k+1),show decide ((x.cO.length:Int)>6)= !decide (x.cO.length<=6)from sI _ 6];cases decide (x.cO.length<=6)<;>rfl
theorem age(N:Nat)(e:ay):Hr N e=some (pA e):=by
 unfold Hr pA;rw[aj8,al4,WV,show decide ((e.xIdx.length:Int)>6)= !decide (e.xIdx.length<=6)from sI _ 6];simp only[al4,jM,sm,wM];cases (e.bD.length:Int)==qX e.aC<;>cases decide (e.xIdx.length<=6)<;>rfl
theorem NC(N:Nat)(e:ay):w7 N e=some (eo e):=by
 unfold w7 eo;rw[gw,al4]
theorem Oj(N:Nat)(e:ay):zg N e=some (eo e):=by
 unfold zg eo;rw[mu,gw,al4]
theorem aer(N:Nat)(op:Int)(i:Nat):FC N op (i:Int)=some (iW op i):=by
 unfold FC EN iW;rw[Gx];cases op==16<;>cases op==17<;>cases op==18<;>cases op==11<;>cases i==0<;>rfl
theorem Z2(N:Nat)(op:Int)(i:Nat):I8 N op (i:Int)=some (iW op i):=by
 unfold I8 iW;rw[Gx];cases op==16<;>cases op==17<;>cases op==18<;>cases op==11<;>cases i==0<;>rfl
theorem Y0(N:Nat)(e:ay):∀(l:amT ay)(i:Nat),J1 N e l i=some (uf e.aC i l)
 |[],_=>rfl
 |a::l,i=>by
  rw[J1,uf,NC,al4,aer,al4,Y0 N e l (i+1)];cases eo a==iW e.aC i<;>rfl
theorem Zf(N:Nat)(e:ay):∀(l:amT ay)(i:Nat),H4 N e l i=some (uf e.aC i l)
 |[],_=>rfl
 |a::l,i=>by
  rw[H4,uf,Oj,al4,Z2,al4,Zf N e l (i+1)];cases eo a==iW e.aC i<;>rfl
theorem afn(b:Bool):((bif b then(0:Int)else 10) !=0)= !b:=by cases b<;>rfl
theorem adP(N:Nat)(e:ay):Hh N e=some (nG e):=by
 unfold Hh nG;rw[uB,al4,Y0];simp only[afn];cases e.aC==1<;>cases e.aC==12<;>cases dE e.aK<;>rfl
theorem ae7(N:Nat)(e:ay):JA N e=some (nG e):=by
 unfold JA nG;rw[AM,al4,Zf];cases e.aC==1<;>cases e.aC==12<;>cases dE e.aK<;>rfl
theorem afV(b:Bool):((bif b then(0:Int)else 1) !=0)= !b:=by cases b<;>rfl
theorem UP(N:Nat)(hN:16<N):∀l:amT cn,(∀x∈l,Bb x)->uv N l=some (bif l.all j7 then 0 else 1)
 |[],_=>rfl
 |x::l,h=>by
  rw[uv,VN N hN x (h x amb),al4,afV,UP N hN l (λy hy=>h y (ame _ hy)),amP];cases j7 x<;>rfl
theorem Y4(N:Nat)(hN:16<N)(c:Bool):∀(l:amT cn)(k:Nat),(∀x∈l,Bb x)->JF N (some c) l k=some (l.all j7&&c)
 |[],_,_=>rfl
 |x::l,k,h=>by
  rw[JF,JM N hN x (h x amb),al4,Y4 N hN c l (k+1) (λy hy=>h y (ame _ hy)),amP];cases j7 x<;>rfl
theorem RL(N:Nat)(hN:16<N):∀(l:amT cY)(k:Nat),(∀x∈l,Xu x)->GL N l k=some ((l.flatMap wU).all j7)
 |[],_,_=>rfl
 |x::l,k,h=>by
  have hx:=h x amb;rw[GL,JM N hN _ hx.mg,al4,RL N hN l (k+1) (λy hy=>h y (ame _ hy)),Y4 N hN _ _ _ hx.at_,List.flatMap_cons,wU,List.cons_append,amP,List.all_append];cases j7 x.cm<;>rfl
theorem acP{e:ay}(h:AF e):∀x∈od e,Bb x:=by
 intro x hx;unfold od at hx;rcases amz.1 hx with rfl|hx
 ·exact h.mg
 ·obtain⟨y,hy,hx⟩:=List.mem_flatMap.1 hx;unfold wU at hx;rcases amz.1 hx with rfl|hx
  ·exact(h.idx y hy).mg
  ·exact(h.idx y hy).at_ x hx
theorem ajW(N:Nat)(hN:2147483648<N)(e:ay)(h:AF e)(ht:nG e=true):JQ N e=some (uI e):=by
 unfold JQ uI od;rw[amP,JM N (by omega) _ h.mg,al4,RL N (by omega) _ _ h.idx];cases h1:e.aC==1 with
 |true=>
  have oM:dE e.aK=true:=by
   unfold nG at ht;rw[h1]at ht;simp only[Bool.true_or,Bool.not_true,Bool.false_or,al7]at ht;exact ht.1
  rw[uz N hN _ _ oM,al4];cases dx e.aK e.dR<;>cases j7 e.cm<;>rfl
 |false=>cases j7 e.cm<;>rfl
theorem alN(N:Nat)(hN:2147483648<N)(e:ay)(h:AF e):Cd N e=some (mS e):=by
 unfold Cd mS;rw[ahT,al4];cases n6 e with
 |false=>rfl
 |true=>
  simp only[cond_true];rw[ahe N (by omega),al4];cases sX e with
  |false=>rfl
  |true=>
   simp only[cond_true];rw[ahR,al4];cases pA e with
   |false=>rfl
   |true=>
    simp only[cond_true];rw[adP,al4];cases ht:nG e with
    |false=>rfl
    |true=>
     simp only[cond_true];have hf:uv N (od e)=_:=UP N (by omega) (od e) (acP h);unfold uI Nx;rw[al4,hf];cases h1:e.aC==1 with
     |true=>
      have oM:dE e.aK=true:=by
       unfold nG at ht;rw[h1]at ht;simp only[Bool.true_or,Bool.not_true,Bool.false_or,al7]at ht;exact ht.1
      rw[rO N hN _ _ oM,al4];cases dx e.aK e.dR<;>cases (od e).all j7<;>rfl
     |false=>cases (od e).all j7<;>rfl
theorem tX{e x:ay}(h:x∈e.bD):SizeOf.sizeOf x<SizeOf.sizeOf e:=by
 have h1:=List.sizeOf_lt_of_mem h;cases e
 simp only[ay.mk.sizeOf_spec]at*;omega
theorem Jr{e x y:ay}(h:x∈e.bD)(hy:y∈eO x):y∈eO e:=by
 have gen:∀l:amT ay,x∈l->y∈lV l:=by
  intro l
  induction l with
  |nil=>intro h;cases h
  |cons z l ih=>
   intro h;rw[DM];rcases amz.1 h with rfl|h
   ·exact List.mem_append_left _ hy
   ·exact List.mem_append_right _ (ih h)
 exact ame _ (gen _ h)
theorem m8.node{e:ay}(h:m8 e):AF e:=h e amb
theorem m8.arg{e x:ay}(h:m8 e)(hx:x∈e.bD):m8 x:=λy hy=>h y (Jr hx hy)
def ln:amT ay->Int
 |[]=>0
 |x::l=>bif mS x !=0 then mS x else ln l
theorem XP:∀a b:amT ay,ln (a++b)=bif ln a !=0 then ln a else ln b
 |[],_=>rfl
 |x::a,b=>by
  rw[List.cons_append,ln,ln,XP a b];cases h:mS x !=0 with
  |true=>simp only[cond_true,h]
  |false=>rfl
theorem Za(N:Nat)(hN:2147483648<N):∀l:amT ay,(∀x∈l,AF x)->vm N l=some (ln l)
 |[],_=>rfl
 |x::l,h=>by
  rw[vm,alN N hN x (h x amb),al4,Za N hN l (λy hy=>h y (ame _ hy)),ln];cases mS x !=0<;>rfl
theorem XS(N:Nat)(rec:ay->amV Int):∀(l:amT ay)(k:Nat),(∀x∈l,rec x=some (ln (eO x)))->HO N rec l k=some (ln (lV l))
 |[],_,_=>by rw[lV];rfl
 |x::l,k,h=>by
  rw[HO,h x amb,al4,XS N rec l (k+1) (λy hy=>h y (ame _ hy)),DM,XP];cases ln (eO x) !=0<;>rfl
theorem Xx(N:Nat)(hN:2147483648<N):∀(d:Nat)(e:ay),SizeOf.sizeOf e<d->m8 e->tA N d e=some (ln (eO e))
 |0,_,h,_=>absurd h (amx _)
 |d+1,e,h,hk=>by
  rw[tA];have hl:=XS N (tA N d) e.bD 0 λx hx=>Xx N hN d x (by have:=tX hx;omega) (hk.arg hx);unfold eO;rw[ln];unfold mS;rw[akL,al4];cases n6 e with
  |false=>rfl
  |true=>
   simp only[cond_true];rw[aee N (by omega),al4];cases sX e with
   |false=>rfl
   |true=>
    simp only[cond_true];rw[age,al4];cases pA e with
    |false=>rfl
    |true=>
     simp only[cond_true];rw[ae7,al4];cases ht:nG e with
     |false=>rfl
     |true=>
      simp only[cond_true];rw[ajW N hN e hk.node ht,al4,hl];cases uI e<;>rfl
def jt:Nat->ay->Nat
 |0,_=>1
 |L+1,e=>e.bD.foldl (λm a=>max m (1+jt L a)) 1
theorem Yl{α:Type}(f:α->Nat)(b:Nat):∀(l:amT α)(m:Nat),m<=b->(∀x∈l,f x<=b)->l.foldl (λm a=>max m (f a)) m<=b
 |[],_,h,_=>h
 |x::l,_,h,hl=>Yl f b l _ (Nat.max_le.2 ⟨h,hl x amb⟩) λy hy=>hl y (ame _ hy)
theorem Mg:∀(L:Nat)(e:ay),jt L e<=L+1
 |0,_=>amg _
 |L+1,e=>Yl (λa=>1+jt L a) (L+2) e.bD 1 (by omega) λx _=>by have:=Mg L x;show 1+jt L x<=L+2;omega
theorem uQ{z:Int}(h1: -9223372036854775808<=z)(h2:z<9223372036854775808):aE z=z:=by
 unfold aE;rw[IntKind.wrap_i64];omega
theorem Tu(a b:Nat):(if((a:Nat):Int)>((b:Nat):Int)then((a:Nat):Int)else(b:Int))=((max b a:Nat):Int):=by
 split<;>omega
theorem SQ(N:Nat)(rec:ay->Int->amV Int)(L:Nat)(hL:L<=100):∀(l:amT ay)(k m:Nat),(∀x∈l,rec x ((L:Int)+1)=some ((jt L x:Nat):Int))->Hj N rec ((L:Int)+1+1) l k (m:Int)=some ((l.foldl (λm a=>max m (1+jt L a)) m:Nat):Int)
 |[],_,_,_=>rfl
 |x::l,k,m,h=>by
  have h1:=Mg L x;rw[Hj,uQ (by omega) (by omega),show(L:Int)+1+1-1=(L:Int)+1 by omega,h x amb,al4];rw[uQ (by omega) (by omega),show(1:Int)+((jt L x:Nat):Int)=((1+jt L x:Nat):Int) by omega,Tu];exact SQ N rec L hL l (k+1) _ λy hy=>h y (ame _ hy)
theorem R9(N:Nat):∀(L d:Nat)(e:ay),L<d->L<=100->qD N d e ((L:Int)+1)=some ((jt L e:Nat):Int)
 |L,0,_,h,_=>absurd h (amx _)
 |0,d+1,e,_,_=>by rw[qD];rfl
 |L+1,d+1,e,h,hL=>by
  rw[qD,amN (by omega)];simp only[cond_false];exact SQ N (qD N d) L (by omega) e.bD 0 1 λx _=>R9 N L d x (by omega) (by omega)
theorem TT(N:Nat)(rec:ay->Int->amV Int)(L:Nat)(hL:L<=100):∀(l:amT ay)(k m:Nat),(∀x∈l,rec x ((L:Int)+1)=some ((jt L x:Nat):Int))->zZ N ((L:Int)+1+1) rec l k (m:Int)=some ((l.foldl (λm a=>max m (1+jt L a)) m:Nat):Int)
 |[],_,_,_=>rfl
 |x::l,k,m,h=>by
  have h1:=Mg L x;rw[zZ,amM (show(L:Int)+1+1>1 by omega)];simp only[cond_true];rw[uQ (by omega) (by omega),show(L:Int)+1+1-1=(L:Int)+1 by omega,h x amb,al4];rw[uQ (by omega) (by omega),show(1:Int)+((jt L x:Nat):Int)=((1+jt L x:Nat):Int) by omega,Tu];exact TT N rec L hL l (k+1) _ λy hy=>h y (ame _ hy)
theorem ah7(N:Nat)(rec:ay->Int->amV Int):∀l:amT ay,zZ N 1 rec l 0 1=some 1
 |[]=>rfl
 |x::l=>by rw[zZ];rfl
theorem Ys(N:Nat):∀(L d:Nat)(e:ay),L<d->L<=100->qH N d e ((L:Int)+1)=some ((jt L e:Nat):Int)
 |L,0,_,h,_=>absurd h (amx _)
 |0,d+1,e,_,_=>by rw[qH];exact ah7 N _ _
 |L+1,d+1,e,h,hL=>by
  rw[qH];exact TT N (qH N d) L (by omega) e.bD 0 1 λx _=>Ys N L d x (by omega) (by omega)
theorem Ud(N:Nat):∀(l:amT ay)(v:Nat),v<=2000->tF N l (v:Int)=some ((min (v+l.length) 2001:Nat):Int)
 |[],v,h=>by rw[tF];congr 2;simp only[amh];omega
 |x::l,v,h=>by
  rw[tF,uQ (by omega) (by omega)];by_cases h2:v+1>2000
  ·rw[amM (by omega)];simp only[cond_true]
   congr 1
   simp only[al8];omega
  ·rw[amN (by omega)];simp only[cond_false];rw[show(v:Int)+1=((v+1:Nat):Int) by omega,Ud N l (v+1) (by omega)]
   congr 3
   simp only[al8];omega
theorem ahf(N:Nat)(e:ay):Dc N e=some ((min (eO e).length 2001:Nat):Int):=by
 unfold Dc Ch;have:=Ud N (eO e) 0 (by omega);rw[amp]at this;exact this
theorem WQ(N:Nat)(rec:ay->Int->amV Int)(m:Nat)(hm:m<=4000):∀(l:amT ay)(k n:Nat),n<=m+1->(∀x∈l,∀q:Nat,q<=m->rec x (q:Int)=some ((min (eO x).length (q+1):Nat):Int))->Fa N (m:Int) rec l k (n:Int)=some ((min (n+(lV l).length) (m+1):Nat):Int)
 |[],k,n,hn,_=>by rw[Fa,lV];congr 2;simp only[amh];omega
 |x::l,k,n,hn,h=>by
  rw[Fa];by_cases h2:n<=m
  ·rw[amM (by omega)];simp only[cond_true];rw[uQ (by omega) (by omega),show(m:Int)-(n:Int)=((m-n:Nat):Int) by omega,h x amb (m-n) (by omega),al4];rw[uQ (by omega) (by omega),show(n:Int)+((min (eO x).length (m-n+1):Nat):Int)=((n+min (eO x).length (m-n+1):Nat):Int) by omega];rw[WQ N rec m hm l (k+1) _ (by omega) λy hy=>h y (ame _ hy),DM,al6]
   congr 2
   omega
  ·rw[amN (by omega)];simp only[cond_false]
   congr 1
   omega
theorem YJ(N:Nat):∀(d:Nat)(e:ay)(m:Nat),SizeOf.sizeOf e<d->m<=4000->sB N d e (m:Int)=some ((min (eO e).length (m+1):Nat):Int)
 |0,_,_,h,_=>absurd h (amx _)
 |d+1,e,m,h,hm=>by
  rw[sB];have:=WQ N (sB N d) m hm e.bD 0 1 (by omega) λx hx q hq=>YJ N d x q (by have:=tX hx;omega) (by omega);rw[show((1:Nat):Int)=1 from rfl]at this;rw[this]
  congr 2
  unfold eO;simp only[al8];omega
def ma(e:ay):Int:=bif decide (40<jt 40 e)then 13 else bif decide (2000<(eO e).length)then 2 else ln (eO e)
theorem Tw(N:Nat)(hN:2147483648<N)(e:ay)(h:m8 e):xw N e=some (ma e):=by
 unfold xw NV Qm ma;have hd:qD N N e 41=_:=R9 N 40 N e (by omega) (by omega);rw[hd,al4,al4,ahf,al4];rw[mR (p:=((jt 40 e:Nat):Int)>40) (q:=40<jt 40 e) (by omega),mR (p:=((min (eO e).length 2001:Nat):Int)>2000) (q:=2000<(eO e).length) (by omega)];cases decide (40<jt 40 e)<;>cases decide (2000<(eO e).length)<;>try rfl
 simp only[cond_false];exact Za N hN (eO e) h
theorem Zq(N:Nat)(hN:2147483648<N)(e:ay)(hs:SizeOf.sizeOf e<N)(h:m8 e):BL N e=some (ma e):=by
 unfold BL NX OU Mp LC LB ma;have hd:qH N N e 41=_:=Ys N 40 N e (by omega) (by omega);have hz:sB N N e 2000=_:=YJ N N e 2000 hs (by omega);rw[hd,al4,al4,hz,al4,al4,Xx N hN N e hs h,al4];rw[mR (p:=((jt 40 e:Nat):Int)>40) (q:=40<jt 40 e) (by omega)];rw[show(if(2001:Int)<((min (eO e).length 2001:Nat):Int)then(2001:Int)else((min (eO e).length 2001:Nat):Int))=((min (eO e).length 2001:Nat):Int) by split<;>omega];rw[mR (p:=((min (eO e).length 2001:Nat):Int)>2000) (q:=2000<(eO e).length) (by omega)];cases decide (40<jt 40 e)<;>cases decide (2000<(eO e).length)<;>rfl
set_option linter.unusedVariables false
section
variable {m:amT (amU×Int)} {S T:amT amU}
theorem acV{a:Int}(h:(a !=0)=false):a=0:=by
 rw[bne_eq_false_iff_eq]at h;exact h
theorem Vp{n:Nat}(h:n<=9223372036854775807):aE (n:Int)=(n:Int):=uQ (by omega) (by omega)
end
set_option maxRecDepth 100000
theorem CC(n:Int):(Int64.ofInt n).toInt=IntKind.i64.wrap n:=by
 have h:=gP n;unfold ar bk aE at h;injection h with h;injection h with h;injection h with _ h;exact h.symm
theorem ajh(a b:Int64):(a+b).toInt=IntKind.i64.wrap (a.toInt+b.toInt):=by
 have h:=nr a b;unfold ar bk aE at h;injection h with h;injection h with h;injection h with _ h;exact h.symm
theorem aaQ(a b:Int64):(a*b).toInt=IntKind.i64.wrap (a.toInt*b.toInt):=by
 have h:=fA a b;unfold ar bk aE at h;injection h with h;injection h with h;injection h with _ h;exact h.symm
theorem XT(a b:Int64):(a-b).toInt=IntKind.i64.wrap (a.toInt-b.toInt):=by
 have h:=kV a b;unfold ar bk aE at h;injection h with h;injection h with h;injection h with _ h;exact h.symm
theorem kL(a:Int64): -9223372036854775808<=a.toInt/\a.toInt<=9223372036854775807:=nW.1 (adx a)
theorem Mm{a b:Int64}(h:a.toInt=b.toInt):a=b:=Int64.toInt_inj.1 h
theorem Mb(x:Int)(h:0<=x/\x<18446744073709551616):IntKind.u64.wrap ((BitVec.ofInt IntKind.u64.bits x&&&BitVec.ofInt IntKind.u64.bits 4294967295).toNat:Int)=x%4294967296:=by
 obtain⟨n,rfl⟩:=Int.eq_ofNat_of_zero_le h.1;have e:(BitVec.ofInt IntKind.u64.bits (n:Int)&&&BitVec.ofInt IntKind.u64.bits 4294967295).toNat=n%4294967296:=by
  show(BitVec.ofInt 64 (n:Int)&&&BitVec.ofInt 64 4294967295).toNat=_;rw[BitVec.toNat_and];have h1:(BitVec.ofInt 64 (n:Int)).toNat=n:=by
   rw[BitVec.toNat_ofInt];omega
  have h2:(BitVec.ofInt 64 (4294967295:Int)).toNat=2^32-1:=by decide
  rw[h1,h2,Nat.and_two_pow_sub_one_eq_mod]
 rw[e,IntKind.wrap_u64];omega
theorem ahZ(x:Int):x.fdiv (2^min (32:Int).toNat IntKind.u64.bits)=x / 4294967296:=by
 show x.fdiv 4294967296=_;rw[Int.fdiv_eq_ediv_of_nonneg _ (by omega)]
theorem aay(a b:Int)(ha:0<=a/\a<18446744073709551616)(hb:0<=b/\b<18446744073709551616):
 let ah:=a / 4294967296
 let al:=a%4294967296
 let bh:=b / 4294967296
 let bl:=b%4294967296
 let W:=IntKind.u64.wrap
 let low:=W (al*bl)
 let vH:=W (W (ah*bl)+low / 4294967296)
 let HA:=W (W (al*bh)+vH%4294967296)
 W (W (W (ah*bh)+vH / 4294967296)+HA / 4294967296)=a*b / 18446744073709551616:=by
 intro ah al bh bl W low vH HA;have h1:0<=ah/\ah<=4294967295:=by omega
 have h2:0<=al/\al<=4294967295:=by omega
 have h3:0<=bh/\bh<=4294967295:=by omega
 have h4:0<=bl/\bl<=4294967295:=by omega
 have pb:∀{x y:Int},(0<=x/\x<=4294967295)->(0<=y/\y<=4294967295)->0<=x*y/\x*y<=18446744065119617025:=λhx hy=>
  ⟨Int.mul_nonneg hx.1 hy.1,Int.le_trans (Int.mul_le_mul hx.2 hy.2 hy.1 (by omega)) (by decide)⟩
 have p1:=pb h1 h3;have p2:=pb h1 h4;have p3:=pb h2 h3;have p4:=pb h2 h4;have e:a*b=18446744073709551616*(ah*bh)+4294967296*(ah*bl)+4294967296*(al*bh)+al*bl:=by
  have ea:a=4294967296*ah+al:=by omega
  have eb:b=4294967296*bh+bl:=by omega
  have:∀x y z w:Int,(4294967296*x+y)*(4294967296*z+w)=18446744073709551616*(x*z)+4294967296*(x*w)+4294967296*(y*z)+y*w:=λx y z w=>by
   rw[Int.add_mul,Int.mul_add,Int.mul_add];rw[show 4294967296*x*(4294967296*z)=18446744073709551616*(x*z)from by
     rw[Int.mul_assoc,Int.mul_left_comm x,<-Int.mul_assoc];rfl]
   rw[Int.mul_assoc 4294967296 x w,Int.mul_left_comm y];omega
  rw[<-this,<-ea,<-eb]
 generalize hP:ah*bh=P at*;generalize hQ:ah*bl=Q at*;generalize hR:al*bh=R at*;generalize hT:al*bl=T at*;have w1:low=T:=by show IntKind.u64.wrap _=_;rw[IntKind.wrap_u64];omega
 have w2:vH=Q+T / 4294967296:=by show IntKind.u64.wrap (IntKind.u64.wrap _+low / _)=_;rw[IntKind.wrap_u64,IntKind.wrap_u64,w1];omega
 have w3:HA=R+vH%4294967296:=by show IntKind.u64.wrap (IntKind.u64.wrap _+vH%_)=_;rw[IntKind.wrap_u64,IntKind.wrap_u64];omega
 show IntKind.u64.wrap (IntKind.u64.wrap (IntKind.u64.wrap P+vH / 4294967296)+HA / 4294967296)=_;rw[IntKind.wrap_u64,IntKind.wrap_u64,IntKind.wrap_u64,e,w3,w2];omega
theorem uH(n:Int):0<=IntKind.u64.wrap n/\IntKind.u64.wrap n<18446744073709551616:=by rw[IntKind.wrap_u64];omega
theorem alh(N:Nat)(a b:Int)(ha:0<=a/\a<18446744073709551616)(hb:0<=b/\b<18446744073709551616):It N a b=some (a*b / 18446744073709551616,a*b%18446744073709551616):=by
 unfold It;simp only[Mb _ ha,Mb _ hb,Mb _ (uH _),ahZ];rw[aay a b ha hb,IntKind.wrap_u64 (a*b)]
theorem PI(N:Nat)(a:Int64):yL N a=some (a.toInt.natAbs:Int):=by
 unfold yL;have:=kL a;rw[IntKind.wrap_u64,IntKind.wrap_u64];by_cases h:a.toInt<0
 ·rw[amM h,cond_true];congr 1;omega
 ·rw[amN h,cond_false];congr 1;omega
theorem Ru(a b:Int):(a.natAbs:Int)*b.natAbs=if(decide (a<0)==decide (b<0))=true then a*b else-(a*b):=by
 by_cases h1:a<0<;>by_cases h2:b<0
 ·rw[show(a.natAbs:Int)= -a by omega,show(b.natAbs:Int)= -b by omega,Int.neg_mul_neg];simp [h1,h2]
 ·rw[show(a.natAbs:Int)= -a by omega,show(b.natAbs:Int)=b by omega,Int.neg_mul];simp [h1,h2]
 ·rw[show(a.natAbs:Int)=a by omega,show(b.natAbs:Int)= -b by omega,Int.mul_neg];simp [h1,h2]
 ·rw[show(a.natAbs:Int)=a by omega,show(b.natAbs:Int)=b by omega];simp [h1,h2]
def rB:amT aV->amU->amV Int64
 |[],_=>none
 |b::r,s=>bif bL b.bo==bL s then some b.dR else rB r s
def qF(env:amT aV):amT dP->Int->amV Int
 |[],a=>some a
 |m::r,a=>match rB env m.bo with
  |none=>none
  |some v=>qF env r (a+m.eQ.toInt*v.toInt)
def dX(l:cn)(env:amT aV):Int64×Int:=bif !j7 l then(0,1)else match qF env l.xL l.xK.toInt with
 |none=>(0,9)
 |some s=>bif rf s then(Int64.ofInt s,0)else(0,3)
def wv(w:jF):Int:=w.kx+w.lv*18446744073709551616+w.nC*340282366920938463463374607431768211456
structure U3(w:jF):Prop where
 h0:0<=w.nC
 h1:w.nC<18446744073709551616
 m0:0<=w.lv
 m1:w.lv<18446744073709551616
 l0:0<=w.kx
 l1:w.kx<18446744073709551616
abbrev kt:Int:=6277101735386680763835789423207666416102355444464034512896
theorem Ol{x:Int}(h0:0<=x)(h1:x<18446744073709551616):IntKind.u64.wrap ((BitVec.ofInt (IntKind.bits .u64) (IntKind.max .u64)^^^BitVec.ofInt (IntKind.bits .u64) x).toNat:Int)=18446744073709551615-x:=by
 obtain⟨n,rfl⟩:=Int.eq_ofNat_of_zero_le h0;have e:(BitVec.ofInt (IntKind.bits .u64) (IntKind.max .u64)^^^BitVec.ofInt (IntKind.bits .u64) (n:Int))= ~~~(BitVec.ofNat 64 n):=by
  show(BitVec.ofInt 64 18446744073709551615^^^BitVec.ofInt 64 (n:Int))=_;rw[show BitVec.ofInt 64 18446744073709551615=BitVec.allOnes 64 by decide,BitVec.allOnes_xor,BitVec.ofInt_natCast]
 have e2:(BitVec.ofInt (IntKind.bits .u64) (IntKind.max .u64)^^^BitVec.ofInt (IntKind.bits .u64) (n:Int)).toNat=2^64-1-n%2^64:=by
  have h:=congrArg BitVec.toNat e;have h2:(~~~(BitVec.ofNat 64 n)).toNat=2^64-1-n%2^64:=by rw[BitVec.toNat_not,BitVec.toNat_ofNat]
  exact h.trans h2
 rw[e2,IntKind.wrap_u64];omega
theorem Hk(N:Nat)(w:jF)(U:U3 w){top hi lo:Int}(t0:0<=top)(t1:top<18446744073709551616)(a0:0<=hi)(a1:hi<18446744073709551616)(b0:0<=lo)(b1:lo<18446744073709551616):
 ∃r:jF,rH N w hi lo top=some (r.nC,r.lv,r.kx)/\U3 r/\∃k:Int,wv r=wv w+(lo+hi*18446744073709551616+top*340282366920938463463374607431768211456)+k*kt:=by
 obtain⟨h0,h1,m0,m1,l0,l1⟩:=U;obtain⟨H,M,L⟩:=w;simp only at h0 h1 m0 m1 l0 l1;have e1:∃c:Int,(c=0\/c=1)/\rH N ⟨H,M,L⟩ hi lo top=xc N ⟨H,M,L⟩ hi top lo c/\IntKind.u64.wrap (L+lo)=L+lo-c*18446744073709551616:=by
  unfold rH;simp only;rw[IntKind.wrap_u64];by_cases hc:(L+lo)%18446744073709551616<lo
  ·rw[amM hc];exact⟨1, .inr rfl,rfl,by omega⟩
  ·rw[amN hc];exact⟨0, .inl rfl,rfl,by omega⟩
 obtain⟨c,hc,e1,f1⟩:=e1;have e2:∃d:Int,(d=0\/d=1)/\xc N ⟨H,M,L⟩ hi top lo c=wi N ⟨H,M,L⟩ hi c top lo d/\IntKind.u64.wrap (M+hi)=M+hi-d*18446744073709551616:=by
  unfold xc;simp only;rw[IntKind.wrap_u64];by_cases hd:(M+hi)%18446744073709551616<hi
  ·rw[amM hd];exact⟨1, .inr rfl,rfl,by omega⟩
  ·rw[amN hd];exact⟨0, .inl rfl,rfl,by omega⟩
 obtain⟨d,hd,e2,f2⟩:=e2;have hx:=uH (M+hi);rw[f2]at hx;have e3:∃e:Int,(e=0\/e=1)/\wi N ⟨H,M,L⟩ hi c top lo d=Dh N ⟨H,M,L⟩ top hi c lo (d+e)/\IntKind.u64.wrap (IntKind.u64.wrap (M+hi)+c)=M+hi+c-(d+e)*18446744073709551616/\d+e<=1:=by
  unfold wi;simp only;rw[f2,IntKind.wrap_u64 (M+hi-d*18446744073709551616+c),IntKind.wrap_u64 (d+1)];by_cases he:(M+hi-d*18446744073709551616+c)%18446744073709551616<M+hi-d*18446744073709551616
  ·rw[amM he];have:d=0:=by omega
   subst this;exact⟨1, .inr rfl,rfl,by omega,by omega⟩
  ·rw[amN he];exact⟨0, .inl rfl,by rw[Int.add_zero];rfl,by omega,by omega⟩
 obtain⟨e,he,e3,f3,f4⟩:=e3;refine⟨⟨IntKind.u64.wrap (H+IntKind.u64.wrap (top+(d+e))),IntKind.u64.wrap (IntKind.u64.wrap (M+hi)+c),IntKind.u64.wrap (L+lo)⟩,by rw[e1,e2,e3];rfl,?_,?_⟩
 ·refine⟨(uH _).1,(uH _).2,(uH _).1,(uH _).2,(uH _).1,(uH _).2⟩
 ·unfold wv;simp only;rw[f1,f3,IntKind.wrap_u64,IntKind.wrap_u64];refine⟨-((H+(top+(d+e))%18446744073709551616)/ 18446744073709551616+(top+(d+e))/ 18446744073709551616),?_⟩;unfold kt;generalize rF:(top+(d+e))/ 18446744073709551616=q1;generalize DJ:(top+(d+e))%18446744073709551616=r1;have g1:top+(d+e)=18446744073709551616*q1+r1:=by omega
  generalize om:(H+r1)/ 18446744073709551616=q2;generalize Cu:(H+r1)%18446744073709551616=r2;have g2:H+r1=18446744073709551616*q2+r2:=by omega
  omega
theorem Vt(N:Nat)(w:jF)(U:U3 w){hi lo:Int}(a0:0<=hi)(a1:hi<18446744073709551616)(b0:0<=lo)(b1:lo<18446744073709551616)(neg:Bool):
 ∃r:jF,AP N hi lo neg w=some (r.nC,r.lv,r.kx)/\U3 r/\∃k:Int,wv r=wv w+(bif neg then-(lo+hi*18446744073709551616)else lo+hi*18446744073709551616)+k*kt:=by
 unfold AP;rw[Ol a0 a1,Ol b0 b1,Ol (Int.le_refl 0) (by decide)];cases neg with
 |false=>
  rw[cond_false,cond_false];obtain⟨r,h1,h2,k,h3⟩:=Hk N w U (top:=0) (by decide) (by decide) a0 a1 b0 b1;exact⟨r,h1,h2,k,by rw[h3];omega⟩
 |true=>
  rw[cond_true,cond_true];simp only[IntKind.wrap_u64];by_cases z1:lo=0
  ·subst z1;rw[show(((18446744073709551615-0+1:Int)%18446744073709551616)==0)=true by decide,cond_true];by_cases z2:hi=0
   ·subst z2;rw[show(((18446744073709551615-0+1:Int)%18446744073709551616)==0)=true by decide,cond_true];obtain⟨r,h1,h2,k,h3⟩:=Hk N w U (top:=(18446744073709551615-0+1)%18446744073709551616) (hi:=(18446744073709551615-0+1)%18446744073709551616) (lo:=(18446744073709551615-0+1)%18446744073709551616) (by decide) (by decide) (by decide) (by decide) (by decide) (by decide);exact⟨r,h1,h2,k,by rw[h3];rfl⟩
   ·rw[show(((18446744073709551615-hi+1:Int)%18446744073709551616)==0)=false by rw[beq_eq_false_iff_ne];omega,cond_false];obtain⟨r,h1,h2,k,h3⟩:=Hk N w U (top:=18446744073709551615-0) (hi:=(18446744073709551615-hi+1)%18446744073709551616) (lo:=(18446744073709551615-0+1)%18446744073709551616) (by decide) (by decide) (by omega) (by omega) (by decide) (by decide);exact⟨r,h1,h2,k+1,by rw[h3];unfold kt;omega⟩
  ·rw[show(((18446744073709551615-lo+1:Int)%18446744073709551616)==0)=false by rw[beq_eq_false_iff_ne];omega,cond_false];obtain⟨r,h1,h2,k,h3⟩:=Hk N w U (top:=18446744073709551615-0) (hi:=18446744073709551615-hi) (lo:=(18446744073709551615-lo+1)%18446744073709551616) (by decide) (by decide) (by omega) (by omega) (by omega) (by omega);exact⟨r,h1,h2,k+1,by rw[h3];unfold kt;omega⟩
theorem agt{a b:Int}(h:∃k:Int,a=b+k*18446744073709551616):Int64.ofInt a=Int64.ofInt b:=by
 obtain⟨k,rfl⟩:=h;apply Int64.toInt_inj.1;rw[Int64.toInt_ofInt,Int64.toInt_ofInt,Int.bmod_def,Int.bmod_def];have:(b+k*18446744073709551616)%18446744073709551616=b%18446744073709551616:=by omega
 simp only[show((2^64:Nat):Int)=18446744073709551616 by decide];rw[this]
theorem aad(N:Nat)(w:jF)(U:U3 w){s:Int}(b1: -3138550867693340381917894711603833208051177722232017256448<=s)(b2:s<3138550867693340381917894711603833208051177722232017256448)(hs:∃k:Int,wv w=s+k*kt):
 Ir N w=some (Int64.ofInt s,rf s):=by
 obtain⟨h0,h1,m0,m1,l0,l1⟩:=U;obtain⟨H,M,L⟩:=w;obtain⟨k,hs⟩:=hs;unfold wv kt at hs;simp only at h0 h1 m0 m1 l0 l1 hs;unfold Ir;simp only;have en:(Int64.ofInt L).toInt=if L<9223372036854775808 then L else L-18446744073709551616:=by
  rw[Int64.toInt_ofInt,Int.bmod_def];simp only[show((2^64:Nat):Int)=18446744073709551616 by decide];split<;>split<;>omega
 have ef:((Int64.ofInt L).toInt.fdiv (2^(min ((63:Int)).toNat (IntKind.bits .i64))))=if L<9223372036854775808 then 0 else-1:=by
  rw[show((2:Int)^(min ((63:Int)).toNat (IntKind.bits .i64)))=9223372036854775808 by decide,Int.fdiv_eq_ediv_of_nonneg _ (by decide),en];split<;>omega
 rw[ef];have eg:∀z:Int,(z=0\/z= -1)->IntKind.u64.wrap (Int64.ofInt z).toInt=if z=0 then 0 else 18446744073709551615:=λz hz=>by
   rcases hz with rfl|rfl<;>decide
 rw[eg _ (by split<;>simp)];have e1:Int64.ofInt L=Int64.ofInt s:=agt ⟨k*340282366920938463463374607431768211456-M-H*18446744073709551616,by omega⟩;rw[e1];have e2:(bif (M==(if(if L<9223372036854775808 then(0:Int)else-1)=0 then(0:Int)else 18446744073709551615))then some (H==(if(if L<9223372036854775808 then(0:Int)else-1)=0 then(0:Int)else 18446744073709551615))else some false)=some (rf s):=by
   by_cases hL:L<9223372036854775808
   ·simp only[hL,if_true];by_cases hM:M=0
    ·rw[show(M==0)=true by rw[beq_iff_eq];exact hM,cond_true];by_cases hH:H=0
     ·rw[show(H==0)=true by rw[beq_iff_eq];exact hH];rw[(nW (n:=s)).2 (by subst hM;subst hH;omega)]
     ·rw[show(H==0)=false by rw[beq_eq_false_iff_ne];exact hH]
      congr 1;symm
      rw[<-Bool.not_eq_true,nW];omega
    ·rw[show(M==0)=false by rw[beq_eq_false_iff_ne];exact hM,cond_false]
     congr 1;symm
     rw[<-Bool.not_eq_true,nW];omega
   ·simp only[hL,if_false];rw[if_neg (by decide)];by_cases hM:M=18446744073709551615
    ·rw[show(M==18446744073709551615)=true by rw[beq_iff_eq];exact hM,cond_true];by_cases hH:H=18446744073709551615
     ·rw[show(H==18446744073709551615)=true by rw[beq_iff_eq];exact hH];rw[(nW (n:=s)).2 (by subst hM;subst hH;omega)]
     ·rw[show(H==18446744073709551615)=false by rw[beq_eq_false_iff_ne];exact hH]
      congr 1;symm
      rw[<-Bool.not_eq_true,nW];omega
    ·rw[show(M==18446744073709551615)=false by rw[beq_eq_false_iff_ne];exact hM,cond_false]
     congr 1;symm
     rw[<-Bool.not_eq_true,nW];omega
 rw[e2,al4]
theorem SB(N:Nat)(m:dP):∀(env:amT aV)(k:Nat),(rB env m.bo=none->AU N m env k=some (-1))/\(∀v,rB env m.bo=some v->∃i b,AU N m env k=some ((k+i:Nat):Int)/\env[i]?=some b/\b.dR=v)
 |[],k=>⟨λ_=>rfl,λv h=>by cases h⟩
 |b::r,k=>by
  obtain⟨h1,h2⟩:=SB N m r (k+1);unfold rB AU Qf;simp only[al4];cases hb:(bL b.bo==bL m.bo)with
  |true=>exact⟨λh=>(by cases h),λv h=>by cases h;exact⟨0,b,rfl,rfl,rfl⟩⟩
  |false=>
   simp only[cond_false];refine⟨h1,λv h=> ?_⟩;obtain⟨i,c,q1,q2,q3⟩:=h2 v h;exact⟨i+1,c,by rw[q1];congr 2;omega,q2,q3⟩
def ze:amV Int->Int64×Int
 |none=>(0,9)
 |some s=>bif rf s then(Int64.ofInt s,0)else(0,3)
theorem Yj(l:cn)(env:amT aV):dX l env=bif !j7 l then(0,1)else ze (qF env l.xL l.xK.toInt):=by
 unfold dX ze;cases qF env l.xL l.xK.toInt<;>rfl
theorem UJ(a b:Int64):(a.toInt*b.toInt).natAbs<=85070591730234615865843651857942052864:=by
 have h1:=kL a;have h2:=kL b;rw[Int.natAbs_mul];exact Nat.mul_le_mul (show a.toInt.natAbs<=9223372036854775808 by omega) (show b.toInt.natAbs<=9223372036854775808 by omega)
theorem SU(N:Nat)(env:amT aV):∀(l:amT dP)(k:Nat)(w:jF)(s:Int),U3 w->(∃k:Int,wv w=s+k*kt)->s.natAbs+l.length*85070591730234615865843651857942052864<=1569275433846670190958947355801916604025588861116008628224->
 Bt N env l k w.nC w.lv w.kx=some (ze (qF env l s))
 |[],k,w,s,U,hk,hb=>by
  unfold Bt qF ze;rw[show(⟨w.nC,w.lv,w.kx⟩:jF)=w from rfl];simp only[amh,Nat.zero_mul,Nat.add_zero]at hb;rw[aad N w U (by omega) (by omega) hk,al4];simp only;cases rf s<;>rfl
 |m::r,k,w,s,U,hk,hb=>by
  unfold Bt qF;simp only;rw[show Pu N env m=AU N m env 0 from rfl];obtain⟨h1,h2⟩:=SB N m env 0;cases hf:rB env m.bo with
  |none=>rw[h1 hf];rfl
  |some v=>
   obtain⟨i,b,q1,q2,q3⟩:=h2 v hf;rw[q1,al4,amp,amN (by omega),cond_false,amM (by omega),cond_true,amw,q2,al4,PI,al4,PI,al4];have ha:=kL m.eQ;have hv:=kL b.dR;rw[alh N _ _ (by omega) (by omega),al4];subst q3;have hu:=UJ m.eQ b.dR;have hm:=Ru m.eQ.toInt b.dR.toInt;have h0:0<=(m.eQ.toInt.natAbs:Int)*b.dR.toInt.natAbs:=Int.mul_nonneg (by omega) (by omega);have hp:(m.eQ.toInt.natAbs:Int)*b.dR.toInt.natAbs<=85070591730234615865843651857942052864:=by
    rw[<-Int.natCast_mul,<-Int.natAbs_mul];omega
   generalize (m.eQ.toInt.natAbs:Int)*b.dR.toInt.natAbs=p at*;obtain⟨w',e1,U',k',e2⟩:=Vt N w U (hi:=p / 18446744073709551616) (lo:=p%18446744073709551616) (by omega) (by omega) (by omega) (by omega) (!((decide (m.eQ.toInt<0))==(decide (b.dR.toInt<0))));rw[show(⟨w.nC,w.lv,w.kx⟩:jF)=w from rfl,e1,al4];simp only;have hpp:p%18446744073709551616+p / 18446744073709551616*18446744073709551616=p:=by omega
   rw[hpp]at e2;have e3:(bif (!((decide (m.eQ.toInt<0))==(decide (b.dR.toInt<0))))then-p else p)=m.eQ.toInt*b.dR.toInt:=by
     rw[hm];cases (decide (m.eQ.toInt<0)==decide (b.dR.toInt<0))with
     |true=>simp
     |false=>simp
   rw[e3]at e2;obtain⟨k0,hk⟩:=hk;refine SU N env r (k+1) w' (s+m.eQ.toInt*b.dR.toInt) U' ⟨k0+k',by rw[e2,hk];unfold kt;omega⟩ ?_;rw[al8]at hb;have:(s+m.eQ.toInt*b.dR.toInt).natAbs<=s.natAbs+(m.eQ.toInt*b.dR.toInt).natAbs:=Int.natAbs_add_le _ _;omega
theorem Mt(N:Nat)(hN:2147483648<N)(l:cn)(env:amT aV)(hl:l.xL.length<=4611686018427387904):tq N l env=some (dX l env):=by
 unfold tq;rw[Yj,VN N (by omega) l (amn hl (by decide)),al4];cases hb:j7 l with
 |false=>rfl
 |true=>
  simp only[Bool.not_true,cond_false];rw[cond_true,show((0:Int) !=0)=false from rfl,cond_false,PI,al4];have hK:=kL l.xK;obtain⟨w',e1,U',k',e2⟩:=Vt N UY ⟨by decide,by decide,by decide,by decide,by decide,by decide⟩ (hi:=0) (lo:=(l.xK.toInt.natAbs:Int)) (by decide) (by decide) (by omega) (by omega) (decide (l.xK.toInt<0));rw[e1,al4];refine SU N env l.xL 0 w' l.xK.toInt U' ⟨k',?_⟩ (by omega);rw[e2];by_cases h:l.xK.toInt<0
  ·rw[amM h,cond_true];show(0:Int)+0*_+0*_+_+_=_;omega
  ·rw[amN h,cond_false];show(0:Int)+0*_+0*_+_+_=_;omega
def dv(w:cl):Int:=w.cr+w.cE*4294967296+w.cX*18446744073709551616+w.cV*79228162514264337593543950336+w.cP*340282366920938463463374607431768211456+w.cJ*1461501637330902918203684832716283019655932542976
structure D6(w:cl):Prop where
 a0:0<=w.cr
 b0:w.cr<4294967296
 a1:0<=w.cE
 b1:w.cE<4294967296
 a2:0<=w.cX
 b2:w.cX<4294967296
 a3:0<=w.cV
 b3:w.cV<4294967296
 a4:0<=w.cP
 b4:w.cP<4294967296
 a5:0<=w.cJ
 b5:w.cJ<4294967296
theorem mc{d n c:Int}(hd0:0<=d)(hd:d<4294967296)(mA:0<=n)(hn:n<18446744073709551616)(vP:0<=c)(hc:c<=1):∃s c' n' e:Int,IntKind.u64.wrap (IntKind.u64.wrap (d+n.tmod 4294967296)+c)=s/\IntKind.u64.wrap (s.tdiv 4294967296)=c'/\IntKind.u64.wrap (n.tdiv 4294967296)=n'/\s.tmod 4294967296=e/\
 0<=c'/\c'<=1/\0<=e/\e<4294967296/\0<=n'/\n'*4294967296<=n/\e+4294967296*(c'+n')=d+n+c:=by
 have t1:n.tmod 4294967296=n%4294967296:=Int.tmod_eq_emod_of_nonneg mA;have t2:n.tdiv 4294967296=n / 4294967296:=Int.tdiv_eq_ediv_of_nonneg mA;have hs:IntKind.u64.wrap (IntKind.u64.wrap (d+n.tmod 4294967296)+c)=d+n%4294967296+c:=by
  rw[t1,IntKind.wrap_u64,IntKind.wrap_u64];omega
 have oh:0<=d+n%4294967296+c:=by omega
 refine⟨d+n%4294967296+c,(d+n%4294967296+c)/ 4294967296,n / 4294967296,(d+n%4294967296+c)%4294967296,hs,?_,?_,Int.tmod_eq_emod_of_nonneg oh,?_⟩
 ·rw[Int.tdiv_eq_ediv_of_nonneg oh,IntKind.wrap_u64];omega
 ·rw[t2,IntKind.wrap_u64];omega
 ·refine⟨?_,?_,?_,?_,?_,?_,?_⟩<;>omega
theorem agS(N:Nat)(w:cl)(W:D6 w){n:Int}(mA:0<=n)(hn:n<18446744073709551616)(hb:dv w+n<kt):∃r,CO N w n=some r/\D6 r/\dv r=dv w+n:=by
 obtain⟨s0,c0,n0,e0,p1,p2,p3,p4,p5,p6,p7,p8,p9,p10,p11⟩:=mc W.a0 W.b0 mA hn (c:=0) (by decide) (by decide);obtain⟨s1,c1,n1,e1,q1,q2,q3,q4,q5,q6,q7,q8,q9,q10,q11⟩:=mc W.a1 W.b1 p9 (by omega) p5 p6;obtain⟨s2,c2,n2,e2,r1,r2,r3,r4,r5,r6,r7,r8,r9,X6,Sg⟩:=mc W.a2 W.b2 q9 (by omega) q5 q6;obtain⟨s3,c3,n3,e3,t1,t2,t3,t4,t5,t6,t7,t8,t9,t10,t11⟩:=mc W.a3 W.b3 r9 (by omega) r5 r6;obtain⟨s4,c4,n4,e4,u1,u2,u3,u4,u5,u6,u7,u8,u9,Wb,RD⟩:=mc W.a4 W.b4 t9 (by omega) t5 t6;obtain⟨s5,c5,n5,e5,v1,v2,v3,v4,v5,v6,v7,v8,v9,v10,v11⟩:=mc W.a5 W.b5 u9 (by omega) u5 u6;refine⟨⟨e0,e1,e2,e3,e4,e5⟩,?_,⟨p7,p8,q7,q8,r7,r8,t7,t8,u7,u8,v7,v8⟩,?_⟩
 ·unfold CO;simp only[al4];simp only[p1,p2,p3,p4,q1,q2,q3,q4,r1,r2,r3,r4,t1,t2,t3,t4,u1,u2,u3,u4,v1,v2,v3,v4]
 ·unfold dv at hb ⊢;unfold kt at hb;simp only;have:c5+n5=0:=by omega
  omega
theorem X3(N:Nat)(w:cl)(W:D6 w){n:Int}(mA:0<=n)(hn:n<18446744073709551616)(hb:dv w+n*4294967296<kt):∃r,zo N w n=some r/\D6 r/\dv r=dv w+n*4294967296:=by
 obtain⟨s1,c1,n1,e1,q1,q2,q3,q4,q5,q6,q7,q8,q9,q10,q11⟩:=mc W.a1 W.b1 mA hn (c:=0) (by decide) (by decide);obtain⟨s2,c2,n2,e2,r1,r2,r3,r4,r5,r6,r7,r8,r9,X6,Sg⟩:=mc W.a2 W.b2 q9 (by omega) q5 q6;obtain⟨s3,c3,n3,e3,t1,t2,t3,t4,t5,t6,t7,t8,t9,t10,t11⟩:=mc W.a3 W.b3 r9 (by omega) r5 r6;obtain⟨s4,c4,n4,e4,u1,u2,u3,u4,u5,u6,u7,u8,u9,Wb,RD⟩:=mc W.a4 W.b4 t9 (by omega) t5 t6;obtain⟨s5,c5,n5,e5,v1,v2,v3,v4,v5,v6,v7,v8,v9,v10,v11⟩:=mc W.a5 W.b5 u9 (by omega) u5 u6;refine⟨⟨w.cr,e1,e2,e3,e4,e5⟩,?_,⟨W.a0,W.b0,q7,q8,r7,r8,t7,t8,u7,u8,v7,v8⟩,?_⟩
 ·unfold zo;simp only[al4];simp only[q1,q2,q3,q4,r1,r2,r3,r4,t1,t2,t3,t4,u1,u2,u3,u4,v1,v2,v3,v4]
 ·have:=W.a0;unfold dv at hb ⊢;unfold kt at hb;simp only;have:c5+n5=0:=by omega
  omega
theorem ajb(N:Nat)(w:cl)(W:D6 w){n:Int}(mA:0<=n)(hn:n<18446744073709551616)(hb:dv w+n*18446744073709551616<kt):∃r,Bv N w n=some r/\D6 r/\dv r=dv w+n*18446744073709551616:=by
 obtain⟨s2,c2,n2,e2,r1,r2,r3,r4,r5,r6,r7,r8,r9,X6,Sg⟩:=mc W.a2 W.b2 mA hn (c:=0) (by decide) (by decide);obtain⟨s3,c3,n3,e3,t1,t2,t3,t4,t5,t6,t7,t8,t9,t10,t11⟩:=mc W.a3 W.b3 r9 (by omega) r5 r6;obtain⟨s4,c4,n4,e4,u1,u2,u3,u4,u5,u6,u7,u8,u9,Wb,RD⟩:=mc W.a4 W.b4 t9 (by omega) t5 t6;obtain⟨s5,c5,n5,e5,v1,v2,v3,v4,v5,v6,v7,v8,v9,v10,v11⟩:=mc W.a5 W.b5 u9 (by omega) u5 u6;refine⟨⟨w.cr,w.cE,e2,e3,e4,e5⟩,?_,⟨W.a0,W.b0,W.a1,W.b1,r7,r8,t7,t8,u7,u8,v7,v8⟩,?_⟩
 ·unfold Bv;simp only[al4];simp only[r1,r2,r3,r4,t1,t2,t3,t4,u1,u2,u3,u4,v1,v2,v3,v4]
 ·have:=W.a0;have:=W.a1;unfold dv at hb ⊢;unfold kt at hb;simp only;have:c5+n5=0:=by omega
  omega
theorem L5(N:Nat)(w:cl)(W:D6 w){a b:Int}(GO:0<=a)(ha:a<18446744073709551616)(nb:0<=b)(hb:b<18446744073709551616)(hB:dv w+a*b<kt):∃r,vw N w a b=some r/\D6 r/\dv r=dv w+a*b:=by
 have YU:a.tmod 4294967296=a%4294967296:=Int.tmod_eq_emod_of_nonneg GO;have Rh:IntKind.u64.wrap (a.tdiv 4294967296)=a / 4294967296:=by rw[Int.tdiv_eq_ediv_of_nonneg GO,IntKind.wrap_u64];omega
 have Us:b.tmod 4294967296=b%4294967296:=Int.tmod_eq_emod_of_nonneg nb;have Ux:IntKind.u64.wrap (b.tdiv 4294967296)=b / 4294967296:=by rw[Int.tdiv_eq_ediv_of_nonneg nb,IntKind.wrap_u64];omega
 have e:a*b=(a%4294967296)*(b%4294967296)+(a%4294967296)*(b / 4294967296)*4294967296+(a / 4294967296)*(b%4294967296)*4294967296+(a / 4294967296)*(b / 4294967296)*18446744073709551616:=by
  have h1:a=a%4294967296+4294967296*(a / 4294967296):=by omega
  have h2:b=b%4294967296+4294967296*(b / 4294967296):=by omega
  generalize a%4294967296=x at*;generalize a / 4294967296=y at*;generalize b%4294967296=z at*;generalize b / 4294967296=u at*;subst h1;subst h2;rw[Int.add_mul,Int.mul_add,Int.mul_add,show x*(4294967296*u)=x*u*4294967296 by rw[Int.mul_left_comm,Int.mul_comm],show 4294967296*y*z=y*z*4294967296 by rw[Int.mul_assoc,Int.mul_comm],show 4294967296*y*(4294967296*u)=y*u*18446744073709551616 by rw[Int.mul_assoc,Int.mul_left_comm y 4294967296 u];omega];omega
 unfold vw;rw[YU,Rh,Us,Ux];have bd:∀x y:Int,0<=x->x<4294967296->0<=y->y<4294967296->0<=x*y/\x*y<18446744073709551616:=λx y h1 h2 h3 h4=>by
  refine⟨Int.mul_nonneg h1 h3,?_⟩;have:x*y<=4294967295*4294967295:=Int.mul_le_mul (by omega) (by omega) h3 (by decide);omega
 obtain⟨f1,f2⟩:=bd (a%4294967296) (b%4294967296) (by omega) (by omega) (by omega) (by omega);obtain⟨f3,f4⟩:=bd (a%4294967296) (b / 4294967296) (by omega) (by omega) (by omega) (by omega);obtain⟨f5,f6⟩:=bd (a / 4294967296) (b%4294967296) (by omega) (by omega) (by omega) (by omega);obtain⟨f7,f8⟩:=bd (a / 4294967296) (b / 4294967296) (by omega) (by omega) (by omega) (by omega);have wr:∀z:Int,0<=z->z<18446744073709551616->IntKind.u64.wrap z=z:=λz h1 h2=>by rw[IntKind.wrap_u64];omega
 rw[wr _ f1 f2,wr _ f3 f4,wr _ f5 f6,wr _ f7 f8];generalize (a%4294967296)*(b%4294967296)=P at*;generalize (a%4294967296)*(b / 4294967296)=Q at*;generalize (a / 4294967296)*(b%4294967296)=R at*;generalize (a / 4294967296)*(b / 4294967296)=T at*;rw[e]at hB ⊢;clear e YU Rh Us Ux;obtain⟨w1,x1,W1,y1⟩:=agS N w W f1 f2 (by omega);rw[x1,al4];obtain⟨w2,x2,W2,y2⟩:=X3 N w1 W1 f3 f4 (by omega);rw[x2,al4];obtain⟨w3,x3,W3,y3⟩:=X3 N w2 W2 f5 f6 (by omega);rw[x3,al4];obtain⟨w4,x4,W4,y4⟩:=ajb N w3 W3 f7 f8 (by omega);rw[x4,al4];exact⟨w4,rfl,W4,by omega⟩
theorem ad3(N:Nat)(a b:cl)(A:D6 a)(B:D6 b):Dt N a b=some (decide (dv a<dv b)):=by
 obtain⟨a0,a1,a2,a3,a4,a5,a6,a7,a8,a9,aa,ab⟩:=A;obtain⟨b0,b1,b2,b3,b4,b5,b6,b7,b8,b9,ba,bb⟩:=B;unfold Dt dv;have bt:∀{x y:Int}{p q:amV Bool},x≠y->(bif (x !=y)then p else q)=p:=λh=>by rw[bne_iff_ne.2 h,cond_true]
 have bf:∀{x y:Int}{p q:amV Bool},x=y->(bif (x !=y)then p else q)=q:=λh=>by subst h;simp
 by_cases h5:a.cJ=b.cJ
 ·rw[bf h5];by_cases h4:a.cP=b.cP
  ·rw[bf h4];by_cases h3:a.cV=b.cV
   ·rw[bf h3];by_cases h2:a.cX=b.cX
    ·rw[bf h2];by_cases h1:a.cE=b.cE
     ·rw[bf h1];by_cases h0:a.cr=b.cr
      ·rw[bf h0];congr 1;symm;exact amN (by omega)
      ·rw[bt h0];congr 1;exact decide_eq_decide.2 (by omega)
     ·rw[bt h1];congr 1;exact decide_eq_decide.2 (by omega)
    ·rw[bt h2];congr 1;exact decide_eq_decide.2 (by omega)
   ·rw[bt h3];congr 1;exact decide_eq_decide.2 (by omega)
  ·rw[bt h4];congr 1;exact decide_eq_decide.2 (by omega)
 ·rw[bt h5];congr 1;exact decide_eq_decide.2 (by omega)
theorem zi{x y c:Int}(hx0:0<=x)(hx:x<4294967296)(W0:0<=y)(hy:y<4294967296)(vP:0<=c)(hc:c<=1):∃c' t e:Int,(c'=0\/c'=1)/\(decide (x<IntKind.u64.wrap (y+c))=true->c'=1/\t=IntKind.u64.wrap (x+4294967296))/\(decide (x<IntKind.u64.wrap (y+c))=false->c'=0/\t=x)/\
 IntKind.u64.wrap (t-IntKind.u64.wrap (y+c))=e/\0<=e/\e<4294967296/\e=x-y-c+4294967296*c':=by
 have h1:IntKind.u64.wrap (y+c)=y+c:=by rw[IntKind.wrap_u64];omega
 have h2:IntKind.u64.wrap (x+4294967296)=x+4294967296:=by rw[IntKind.wrap_u64];omega
 rw[h1,h2];by_cases h:x<y+c
 ·refine⟨1,x+4294967296,x+4294967296-(y+c), .inr rfl,λ_=>⟨rfl,rfl⟩,λhf=> ?_,?_,by omega,by omega,by omega⟩
  ·rw[amM h]at hf;cases hf
  ·rw[IntKind.wrap_u64];omega
 ·refine⟨0,x,x-(y+c), .inl rfl,λhf=> ?_,λ_=>⟨rfl,rfl⟩,?_,by omega,by omega,by omega⟩
  ·rw[amN h]at hf;cases hf
  ·rw[IntKind.wrap_u64];omega
theorem yJ{α:Type}{b:Bool}{c' t:Int}{p:Int}{x:Int}{F:Int->Int->α}(h1:b=true->c'=1/\t=p)(h2:b=false->c'=0/\t=x):(bif b then F 1 p else F 0 x)=F c' t:=by
 cases b with
 |true=>obtain⟨rfl,rfl⟩:=h1 rfl;rfl
 |false=>obtain⟨rfl,rfl⟩:=h2 rfl;rfl
theorem TB(N:Nat)(a b:cl)(A:D6 a)(B:D6 b)(h:dv b<=dv a):∃r,Bc N a b=some r/\D6 r/\dv r=dv a-dv b:=by
 obtain⟨c0,t0,e0,p1,p2,p3,p4,p5,p6,p7⟩:=zi A.a0 A.b0 B.a0 B.b0 (c:=0) (by decide) (by decide);obtain⟨c1,t1,e1,q1,q2,q3,q4,q5,q6,q7⟩:=zi A.a1 A.b1 B.a1 B.b1 (c:=c0) (by omega) (by omega);obtain⟨c2,t2,e2,r1,r2,r3,r4,r5,r6,r7⟩:=zi A.a2 A.b2 B.a2 B.b2 (c:=c1) (by omega) (by omega);obtain⟨c3,t3,e3,s1,s2,s3,s4,s5,s6,s7⟩:=zi A.a3 A.b3 B.a3 B.b3 (c:=c2) (by omega) (by omega);obtain⟨c4,t4,e4,u1,u2,u3,u4,u5,u6,u7⟩:=zi A.a4 A.b4 B.a4 B.b4 (c:=c3) (by omega) (by omega);obtain⟨c5,t5,e5,v1,v2,v3,v4,v5,v6,v7⟩:=zi A.a5 A.b5 B.a5 B.b5 (c:=c4) (by omega) (by omega);refine⟨⟨e0,e1,e2,e3,e4,e5⟩,?_,⟨p5,p6,q5,q6,r5,r6,s5,s6,u5,u6,v5,v6⟩,?_⟩
 ·unfold Bc;rw[yJ (F:=λx y=>A5 N a b x y) p2 p3];unfold A5;rw[yJ (F:=λx y=>yU N a b t0 c0 x y) q2 q3];unfold yU;rw[yJ (F:=λx y=>yP N a b t0 t1 c0 c1 x y) r2 r3];unfold yP;rw[yJ (F:=λx y=>A6 N a b t0 t1 c0 t2 c1 c2 x y) s2 s3];unfold A6;rw[yJ (F:=λx y=>xZ N a b t0 t1 c0 t2 c1 t3 c2 c3 x y) u2 u3];unfold xZ;rw[yJ (F:=λx y=>yS N t0 b t1 c0 t2 c1 t3 c2 t4 c3 c4 x y) v2 v3];unfold yS;rw[p4,q4,r4,s4,u4,v4]
 ·unfold dv at h ⊢;simp only;obtain⟨z0,z1,z2,z3,z4,z5,z6,z7,z8,z9,za,zb⟩:=A;obtain⟨y0,y1,y2,y3,y4,y5,y6,y7,y8,y9,ya,yb⟩:=B;have:c5=0:=by omega
  omega
theorem Xn(N:Nat)(s:amU):∀(env:amT aV)(k:Nat),Cx N s env k=some (match rB env s with|none=>(0,false)|some v=>(v,true))
 |[],k=>rfl
 |b::r,k=>by
  unfold Cx rB;cases hb:(bL b.bo==bL s)with
  |true=>rfl
  |false=>exact Xn N s r (k+1)
theorem AW(N:Nat)(v:Int64):rE N v=some ((v.toInt.natAbs:Nat):Int):=by
 have h1:=kL v;unfold rE;by_cases h:v.toInt<0
 ·rw[amM h,cond_true];have e:(-(v+(1:Int64))).toInt= -(v.toInt+1):=by
    rw[Int64.toInt_neg,Int64.toInt_add,show(1:Int64).toInt=1 from rfl];rw[Int.bmod_eq_of_le (n:=v.toInt+1) (m:=2^64) (by omega) (by omega),Int.bmod_eq_of_le (n:= -(v.toInt+1)) (m:=2^64) (by omega) (by omega)]
  rw[e,IntKind.wrap_u64,IntKind.wrap_u64];exact congrArg some (by omega)
 ·rw[amN h,cond_false,IntKind.wrap_u64];exact congrArg some (by omega)
theorem Q9(w:cl)(W:D6 w)(lim:Int)(h1:0<=lim)(h2:lim<=9223372036854775808):(bif (w.cX !=0)then some true else(bif (w.cV !=0)then some true else(bif (w.cP !=0)then some true else(bif (w.cJ !=0)then some true else some (decide ((IntKind.u64.wrap (w.cr+(IntKind.u64.wrap (w.cE*(4294967296:Int)))))>lim))))))=some (decide (dv w>lim)):=by
 obtain⟨a0,a1,a2,a3,a4,a5,a6,a7,a8,a9,aa,ab⟩:=W;have bt:∀{x:Int}{q:amV Bool},x≠0->(bif (x !=0)then some true else q)=some true:=λh=>by rw[bne_iff_ne.2 h,cond_true]
 have bf:∀{x:Int}{q:amV Bool},x=0->(bif (x !=0)then some true else q)=q:=λh=>by subst h;rfl
 unfold dv;by_cases k2:w.cX=0
 ·rw[bf k2];by_cases k3:w.cV=0
  ·rw[bf k3];by_cases k4:w.cP=0
   ·rw[bf k4];by_cases k5:w.cJ=0
    ·rw[bf k5,IntKind.wrap_u64,IntKind.wrap_u64]
     congr 1
     exact decide_eq_decide.2 (by omega)
    ·rw[bt k5];congr 1;symm;exact amM (by omega)
   ·rw[bt k4];congr 1;symm;exact amM (by omega)
  ·rw[bt k3];congr 1;symm;exact amM (by omega)
 ·rw[bt k2];congr 1;symm;exact amM (by omega)
theorem Re(w:cl)(W:D6 w)(h:dv w<=9223372036854775808):IntKind.u64.wrap (w.cr+(IntKind.u64.wrap (w.cE*(4294967296:Int))))=dv w:=by
 obtain⟨a0,a1,a2,a3,a4,a5,a6,a7,a8,a9,aa,ab⟩:=W;unfold dv at h ⊢;rw[IntKind.wrap_u64,IntKind.wrap_u64];omega
theorem ajE{n:Int}(h0:1<=n)(h1:n<=9223372036854775808):((-(Int64.ofInt (IntKind.u64.wrap (n-(1:Int)))))-(1:Int64))=Int64.ofInt (-n):=by
 rw[show IntKind.u64.wrap (n-1)=n-1 by rw[IntKind.wrap_u64];omega];apply Int64.toInt_inj.1;rw[Int64.toInt_sub,Int64.toInt_neg,show(1:Int64).toInt=1 from rfl,Int64.toInt_ofInt_of_le (by omega) (by omega),Int64.toInt_ofInt_of_le (by omega) (by omega)];rw[Int.bmod_eq_of_le (n:= -(n-1)) (m:=2^64) (by omega) (by omega),Int.bmod_eq_of_le (n:= -(n-1)-1) (m:=2^64) (by omega) (by omega)];omega
theorem FE(N:Nat)(env:amT aV):∀(l:amT dP)(k:Nat)(p q:cl)(s:Int),D6 p->D6 q->dv p-dv q=s->dv p+dv q+(l.length:Int)*85070591730234615865843651857942052864<=1569275433846670190958947355801916604025588861116008628224->
 rm N env l k p.cr p.cE p.cX p.cV p.cP p.cJ q.cr q.cE q.cX q.cV q.cP q.cJ=some (ze (qF env l s))
 |[],k,p,q,s,P,Q,hs,hb=>by
  unfold rm qF ze;rw[show(⟨p.cr,p.cE,p.cX,p.cV,p.cP,p.cJ⟩:cl)=p from rfl,show(⟨q.cr,q.cE,q.cX,q.cV,q.cP,q.cJ⟩:cl)=q from rfl,ad3 N p q P Q,al4];by_cases h:dv p<dv q
  ·rw[amM h,cond_true];obtain⟨r,e1,R,e2⟩:=TB N q p Q P (by omega);rw[e1,al4,Q9 r R _ (by decide) (by decide),al4];by_cases hg:dv r>9223372036854775808
   ·rw[amM hg,cond_true];simp only;rw[show rf s=false by rw[<-Bool.not_eq_true,nW];omega,cond_false]
   ·rw[amN hg,cond_false,Re r R (by omega),ajE (by omega) (by omega)];simp only;rw[(nW (n:=s)).2 (by omega),cond_true,show-dv r=s by omega]
  ·rw[amN h,cond_false];obtain⟨r,e1,R,e2⟩:=TB N p q P Q (by omega);rw[e1,al4,Q9 r R _ (by decide) (by decide),al4];by_cases hg:dv r>9223372036854775807
   ·rw[amM hg,cond_true];simp only;rw[show rf s=false by rw[<-Bool.not_eq_true,nW];omega,cond_false]
   ·rw[amN hg,cond_false,Re r R (by omega)];simp only;have:0<=dv r:=by omega
    rw[(nW (n:=s)).2 (by omega),cond_true,show dv r=s by omega]
 |m::r,k,p,q,s,P,Q,hs,hb=>by
  unfold rm qF;simp only;rw[show Lq N env m.bo=Cx N m.bo env 0 from rfl,Xn,al4];cases hf:rB env m.bo with
  |none=>rfl
  |some v=>
   simp only[cond_true];have ha:=kL m.eQ;have hv:=kL v;have hm:=Ru v.toInt m.eQ.toInt;have hu:=UJ v m.eQ;have h0:0<=(v.toInt.natAbs:Int)*m.eQ.toInt.natAbs:=Int.mul_nonneg (by omega) (by omega);have hp:(v.toInt.natAbs:Int)*m.eQ.toInt.natAbs<=85070591730234615865843651857942052864:=by
    rw[<-Int.natCast_mul,<-Int.natAbs_mul];omega
   have hc:v.toInt*m.eQ.toInt=m.eQ.toInt*v.toInt:=Int.mul_comm _ _;rw[al8]at hb;have hP:0<=dv p:=by obtain⟨a0,a1,a2,a3,a4,a5,a6,a7,a8,a9,aa,ab⟩:=P;unfold dv;omega
   have hQ:0<=dv q:=by obtain⟨a0,a1,a2,a3,a4,a5,a6,a7,a8,a9,aa,ab⟩:=Q;unfold dv;omega
   rw[show(⟨p.cr,p.cE,p.cX,p.cV,p.cP,p.cJ⟩:cl)=p from rfl,show(⟨q.cr,q.cE,q.cX,q.cV,q.cP,q.cJ⟩:cl)=q from rfl];cases yW:(decide (v.toInt<0)==decide (m.eQ.toInt<0))with
   |true=>
    rw[cond_true,AW,al4,AW,al4];rw[yW,if_pos rfl]at hm;obtain⟨w,e1,W,e2⟩:=L5 N p P (a:=(v.toInt.natAbs:Int)) (b:=(m.eQ.toInt.natAbs:Int)) (by omega) (by omega) (by omega) (by omega) (by
      unfold kt;generalize (v.toInt.natAbs:Int)*m.eQ.toInt.natAbs=z at*;have:0<=(r.length:Int)*85070591730234615865843651857942052864:=by omega
      omega)
    rw[e1,al4];refine FE N env r (k+1) w q (s+m.eQ.toInt*v.toInt) W Q ?_ ?_
    ·rw[e2,hm,hc];omega
    ·rw[e2];generalize (v.toInt.natAbs:Int)*m.eQ.toInt.natAbs=z at*;omega
   |false=>
    rw[cond_false,AW,al4,AW,al4];rw[yW,if_neg (by decide)]at hm;obtain⟨w,e1,W,e2⟩:=L5 N q Q (a:=(v.toInt.natAbs:Int)) (b:=(m.eQ.toInt.natAbs:Int)) (by omega) (by omega) (by omega) (by omega) (by
      unfold kt;generalize (v.toInt.natAbs:Int)*m.eQ.toInt.natAbs=z at*;have:0<=(r.length:Int)*85070591730234615865843651857942052864:=by omega
      omega)
    rw[e1,al4];refine FE N env r (k+1) p w (s+m.eQ.toInt*v.toInt) P W ?_ ?_
    ·rw[e2,hm,hc];omega
    ·rw[e2];generalize (v.toInt.natAbs:Int)*m.eQ.toInt.natAbs=z at*;omega
theorem NW(N:Nat)(hN:2147483648<N)(l:cn)(env:amT aV)(hl:l.xL.length<=4611686018427387904):xz N l env=some (dX l env):=by
 unfold xz;rw[Yj,show Gl N l=some (bif j7 l then 0 else 1) by unfold Gl;rw[JM N (by omega) l (amn hl (by decide)),al4];cases j7 l<;>rfl,al4];cases hb:j7 l with
 |false=>rfl
 |true=>
  simp only[Bool.not_true,cond_false];rw[cond_true,show((0:Int) !=0)=false from rfl,cond_false];have hK:=kL l.xK;have Z:D6 wy:=⟨by decide,by decide,by decide,by decide,by decide,by decide,by decide,by decide,by decide,by decide,by decide,by decide⟩;have z0:dv wy=0:=by decide
  obtain⟨w,e1,W,e2⟩:=L5 N wy Z (a:=(l.xK.toInt.natAbs:Int)) (b:=1) (by omega) (by omega) (by decide) (by decide) (by rw[z0];unfold kt;omega);rw[z0]at e2;by_cases h:l.xK.toInt<0
  ·rw[amM h,cond_true,AW,al4,e1,al4];exact FE N env l.xL 0 wy w l.xK.toInt Z W (by rw[z0];omega) (by rw[z0];omega)
  ·rw[amN h,cond_false,AW,al4,e1,al4];exact FE N env l.xL 0 w wy l.xK.toInt W Z (by rw[z0];omega) (by rw[z0];omega)
def nS(wrap:Bool)(h n:Int):Int:=bif wrap then(n+h)%(2*h)-h else max (-h) (min (h-1) n)
theorem ai4(P:Int->Prop)(h:∀k:Fin 30,P (2^(k.val+1))){b:Int}(h1:2<=b)(h2:b<=31):P (2^(b-1).toNat):=by
 have:=h ⟨(b-2).toNat,by omega⟩
 rwa [show(b-2).toNat+1=(b-1).toNat by omega]at this
theorem akE{w:Bool}{h n:Int}(hp:0<h)(h1: -h<=n)(h2:n<=h-1):nS w h n=n:=by
 unfold nS;cases w
 ·simp only[cond_false];omega
 ·simp only[cond_true];rw[Int.emod_eq_of_lt (by omega) (by omega)];omega
theorem aiW{w:Bool}{h n:Int}(hp:0<h): -h<=nS w h n/\nS w h n<=h-1:=by
 unfold nS;cases w
 ·simp only[cond_false];omega
 ·simp only[cond_true];have:=Int.emod_nonneg (n+h) (show 2*h≠0 by omega);have:=Int.emod_lt_of_pos (n+h) (show 0<2*h by omega);omega
theorem Tk{h u n:Int}(hu:u*(2*h)=18446744073709551616)(hu0:0<u)(hh:0<h):
 (((n*u)%18446744073709551616+9223372036854775808)%18446744073709551616-9223372036854775808)/ u=(n+h)%(2*h)-h:=by
 have h2:u*h=9223372036854775808:=by have:u*(2*h)=2*(u*h):=by rw[Int.mul_left_comm]
                                     omega
 rw[Int.emod_add_emod,<-hu];have e:n*u+9223372036854775808=u*(n+h):=by rw[Int.mul_add,h2,Int.mul_comm]
 rw[e,Int.mul_emod_mul_of_pos _ _ hu0,<-h2,<-Int.mul_sub,Int.mul_ediv_cancel_left _ (by omega)]
theorem ae6{n d:Int}(hd:0<d):n.tdiv d=if 0<=n then n / d else-((-n)/ d):=by
 split
 ·exact Int.tdiv_eq_ediv_of_nonneg (by assumption)
 ·have:n= -(-n):=by omega
  conv=>lhs;rw[this]
  rw[Int.neg_tdiv,Int.tdiv_eq_ediv_of_nonneg (by omega)]
theorem acM{m d:Int}(hd:0<d)(hm:0<m):(-m)/ d=if m%d=0 then-(m / d)else-(m / d)-1:=by
 have h1:=Int.mul_ediv_add_emod m d;have h2:=Int.emod_nonneg m (show d≠0 by omega);have h3:=Int.emod_lt_of_pos m hd;split
 ·rename_i h
  exact((Int.ediv_emod_unique hd).2 ⟨(by rw[Int.mul_neg];omega:(0:Int)+d*(-(m / d))= -m),by omega,by omega⟩).1
 ·exact((Int.ediv_emod_unique hd).2 ⟨(by rw[Int.mul_sub,Int.mul_neg];omega:(d-m%d)+d*(-(m / d)-1)= -m),by omega,by omega⟩).1
theorem Vo{n d:Int}(hd:0<d):(bif decide (n.tdiv d*d>n)then n.tdiv d-1 else n.tdiv d)=n / d:=by
 rw[ae6 hd];by_cases h:0<=n
 ·rw[if_pos h,amN (by have:=Int.ediv_mul_le n (show d≠0 by omega);omega)];rfl
 ·rw[if_neg h];obtain⟨m,rfl⟩:∃m,n= -m:=⟨-n,by omega⟩;rw[Int.neg_neg,acM hd (by omega),Int.neg_mul];have h1:=Int.mul_ediv_add_emod m d;have h2:=Int.emod_nonneg m (show d≠0 by omega);rw[Int.mul_comm]at h1;split
  ·rw[amN (by omega)];rfl
  ·rw[amM (by omega)];rfl
theorem TU{n d:Int}(hd:0<d):(bif decide (n.tmod d<0)then n.tdiv d-1 else n.tdiv d)=n / d:=by
 rw[<-Vo hd];have h:n.tmod d=n-n.tdiv d*d:=by have:=Int.mul_tdiv_add_tmod n d;rw[Int.mul_comm]at this;omega
 rw[h]
 congr 1
 exact decide_eq_decide.2 (by omega)
def ml(a b:Int):Int:=bif decide (b<0)then(-a)/(-b)else a / b
theorem akr{a b:Int}(hb:b≠0):(bif a.tmod b !=0&&(decide (a<0) !=decide (b<0))then a.tdiv b-1 else a.tdiv b)=ml a b:=by
 have key:∀a b:Int,0<b->(bif a.tmod b !=0&&(decide (a<0) !=false)then a.tdiv b-1 else a.tdiv b)=a / b:=λa b hb=>by
  rw[<-TU hb]
  congr 1
  have hm:0<=a->0<=a.tmod b:=λh=>Int.tmod_nonneg _ h;have m4:a<0->a.tmod b<=0:=λh=>by
   have:a= -(-a):=by omega
   rw[this,Int.neg_tmod];have:=Int.tmod_nonneg b (show 0<=-a by omega);omega
  by_cases h:a<0
  ·rw[amM h];have:=m4 h;by_cases h0:a.tmod b=0
   ·rw[h0];rfl
   ·rw[amM (by omega),bne_iff_ne.2 h0];rfl
  ·rw[amN h];have:=hm (by omega);rw[amN (show ¬a.tmod b<0 by omega)];cases (a.tmod b !=0)<;>rfl
 unfold ml;by_cases h:b<0
 ·rw[amM h];simp only[cond_true];rw[<-key (-a) (-b) (by omega),Int.neg_tmod,Int.tmod_neg,Int.neg_tdiv_neg]
  congr 1
  have hz:(-(a.tmod b) !=0)=(a.tmod b !=0):=by
   by_cases h0:a.tmod b=0
   ·rw[h0];rfl
   ·rw[bne_iff_ne.2 h0,bne_iff_ne.2 (show-(a.tmod b)≠0 by omega)]
  rw[hz];by_cases h0:a=0
  ·subst h0;simp
  ·by_cases ha:a<0
   ·rw[amM ha,amN (show ¬-a<0 by omega)];rfl
   ·rw[amN ha,amM (show-a<0 by omega)];rfl
 ·rw[amN h];simp only[cond_false];exact key a b (by omega)
def zF(a b:Nat)(neg:Bool)(how:Int):Bool:=(a%b==0||how==3)||((how==1&& !neg)||(how==2&&neg))||(how==4&&(decide (2*(a%b)<b)||(2*(a%b)==b&&a / b%2==0)))
def m5(a b:Nat)(neg:Bool)(how:Int):Nat:=bif zF a b neg how then a / b else a / b+1
def jg(n d:Int)(how:Int):Int:=
 bif n%d==0||how==1 then n / d else bif how==2 then n / d+1 else bif how==3 then(bif decide (n<0)then n / d+1 else n / d)
 else bif decide (n%d>d-n%d)||(n%d==d-n%d&&n / d%2 !=0)then n / d+1 else n / d
theorem alS{a b:Nat}(hb:0<b)(hr:a%b≠0):(-(a:Int))/(b:Int)= -((a / b:Nat):Int)-1/\(-(a:Int))%(b:Int)=(b:Int)-((a%b:Nat):Int):=by
 have h1:a%b<b:=Nat.mod_lt _ hb;have h2:(b:Int)*((a / b:Nat):Int)+((a%b:Nat):Int)=(a:Int):=by rw[<-Int.natCast_mul,<-Int.natCast_add,Nat.div_add_mod]
 refine(Int.ediv_emod_unique (by omega)).2 ⟨?_,by omega,by omega⟩;rw[Int.mul_sub,Int.mul_neg];omega
theorem abk{a b:Nat}(hb:0<b)(hr:a%b=0):(-(a:Int))/(b:Int)= -((a / b:Nat):Int)/\(-(a:Int))%(b:Int)=0:=by
 have h2:(b:Int)*((a / b:Nat):Int)+((a%b:Nat):Int)=(a:Int):=by rw[<-Int.natCast_mul,<-Int.natCast_add,Nat.div_add_mod]
 refine(Int.ediv_emod_unique (by omega)).2 ⟨?_,by omega,by omega⟩;rw[Int.mul_neg];omega
theorem ajO{a b:Nat}(hb:0<b){how:Int}(h0:1<=how)(h3:how<=4):((m5 a b false how:Nat):Int)=jg (a:Int) (b:Int) how:=by
 unfold m5 zF jg;have e1:(a:Int)%(b:Int)=((a%b:Nat):Int):=(Int.natCast_emod a b).symm;have e2:(a:Int)/(b:Int)=((a / b:Nat):Int):=(Int.natCast_ediv a b).symm;rw[e1,e2];have hl:=Nat.mod_lt a hb;generalize a%b=r at*;generalize a / b=q at*;rcases (by omega:how=1\/how=2\/how=3\/how=4)with rfl|rfl|rfl|rfl<;>simp only[cond_eq_ite]<;>simp<;>(repeat' split)<;>omega
theorem ZP{a b:Nat}(hb:0<b)(ha:0<a){how:Int}(h0:1<=how)(h3:how<=4): -((m5 a b true how:Nat):Int)=jg (-(a:Int)) (b:Int) how:=by
 unfold m5 zF jg;have hl:=Nat.mod_lt a hb;by_cases hr:a%b=0
 ·obtain⟨e1,e2⟩:=abk hb hr;rw[e1,e2,hr];rfl
 ·obtain⟨e1,e2⟩:=alS hb hr;rw[e1,e2];generalize a%b=r at*;generalize a / b=q at*;rcases (by omega:how=1\/how=2\/how=3\/how=4)with rfl|rfl|rfl|rfl<;>simp only[cond_eq_ite]<;>simp<;>(repeat' split)<;>omega
def pG(n d how:Int):Int:=bif decide (d<0)then jg (-n) (-d) how else jg n d how
theorem ai7(d how:Int):jg 0 d how=0:=by unfold jg;simp
theorem abE{n d:Int}(hd:d≠0){how:Int}(h0:1<=how)(h3:how<=4):
 (bif decide (n<0) !=decide (d<0)then-((m5 n.natAbs d.natAbs true how:Nat):Int)else((m5 n.natAbs d.natAbs false how:Nat):Int))=pG n d how:=by
 have key:∀n d:Int,0<d->(bif decide (n<0)then-((m5 n.natAbs d.natAbs true how:Nat):Int)else((m5 n.natAbs d.natAbs false how:Nat):Int))=jg n d how:=λn d hd=>by
  by_cases h:n<0
  ·rw[amM h];simp only[cond_true];rw[ZP (by omega) (by omega) h0 h3,show-((n.natAbs:Nat):Int)=n by omega,show((d.natAbs:Nat):Int)=d by omega]
  ·rw[amN h];simp only[cond_false];rw[ajO (by omega) h0 h3,show((n.natAbs:Nat):Int)=n by omega,show((d.natAbs:Nat):Int)=d by omega]
 unfold pG;by_cases h:d<0
 ·rw[amM h];simp only[cond_true];by_cases hn:n=0
  ·subst hn;rw[show(decide ((0:Int)<0) !=true)=true from rfl,Int.neg_zero,ai7];unfold m5 zF;simp
  ·rw[<-key (-n) (-d) (by omega),Int.natAbs_neg,Int.natAbs_neg]
   congr 1
   by_cases ha:n<0
   ·rw[amM ha,amN (show ¬-n<0 by omega)];rfl
   ·rw[amN ha,amM (show-n<0 by omega)];rfl
 ·rw[amN h];simp only[cond_false];rw[<-key n d (by omega)];cases decide (n<0)<;>rfl
theorem I0{n d how B:Int}(hd:0<d)(hB:0<=B)(h1: -B<=n)(h2:n<=B): -B<=jg n d how/\jg n d how<=B+1:=by
 have h3: -B<=n / d:=by
  refine Int.le_ediv_of_mul_le hd ?_;have:B*1<=B*d:=Int.mul_le_mul_of_nonneg_left (by omega) hB;rw[Int.neg_mul];omega
 have h4:n / d<=B:=by
  have:n / d<=n\/n / d<=0:=by
   by_cases h:0<=n
   ·exact .inl (Int.ediv_le_self _ h)
   ·exact .inr (Int.le_of_lt (Int.ediv_neg_of_neg_of_pos (by omega) hd))
  omega
 unfold jg;simp only[cond_eq_ite]
 (repeat' split)<;>omega
theorem abY{n d q rest:Int}(how:Int)(hq:q=n / d)(hr:rest=n-q*d):
 (bif rest==0||how==1 then q else bif how==2 then q+1 else bif how==3 then(bif decide (n<0)then q+1 else q)else bif decide (rest>d-rest)||(rest==d-rest&&q.tmod 2 !=0)then q+1 else q)=jg n d how:=by
 subst hq;have e:rest=n%d:=by rw[hr,Int.emod_def,Int.mul_comm]
 subst e;have h2:((n / d).tmod 2 !=0)=(n / d%2 !=0):=by
  by_cases h:n / d%2=0
  ·rw[h,Int.tmod_eq_zero_of_dvd (Int.dvd_of_emod_eq_zero h)]
  ·rw[bne_iff_ne.2 h,bne_iff_ne.2 λhc=>h (Int.emod_eq_zero_of_dvd (Int.dvd_of_tmod_eq_zero hc))]
 rw[h2];rfl
theorem ab2{n m:Int}{d e:Nat}(hd:0<d)(he:0<e)(h1:Nat.gcd n.natAbs d=1)(h2:Nat.gcd m.natAbs e=1)(h:n*(e:Int)=m*(d:Int)):n=m/\d=e:=by
 have ha:n.natAbs*e=m.natAbs*d:=by
  have:=congrArg Int.natAbs h
  rwa [Int.natAbs_mul,Int.natAbs_mul,Int.natAbs_natCast,Int.natAbs_natCast]at this
 have hde:d∣ e:=by
  have h3:d∣ n.natAbs*e:=by rw[ha];exact Nat.dvd_mul_left _ _
  exact Nat.Coprime.dvd_of_dvd_mul_left (show Nat.Coprime d n.natAbs by rw[Nat.coprime_comm];exact h1) h3
 have hed:e∣ d:=by
  have h3:e∣ m.natAbs*d:=by rw[<-ha];exact Nat.dvd_mul_left _ _
  exact Nat.Coprime.dvd_of_dvd_mul_left (show Nat.Coprime e m.natAbs by rw[Nat.coprime_comm];exact h2) h3
 have e1:d=e:=Nat.dvd_antisymm hde hed;subst e1;refine⟨?_,rfl⟩;exact Int.eq_of_mul_eq_mul_right (by omega) h
theorem adE{n d:Nat}(hd:0<d):Nat.gcd (n / Nat.gcd n d) (d / Nat.gcd n d)=1:=Nat.gcd_div_gcd_div_gcd_of_pos_right hd
def cw(t:aP):Int:=2^(t.bG-1).toNat
def gk(t:aP):Int:=2^t.ck.toNat
def lh(t:aP)(n:Int):aB:=⟨Int64.ofInt (nS (t.cG==2) (cw t) n),1⟩
def lR(n d:Int):Nat:=Nat.gcd n.natAbs d.natAbs
def Dj(n d:Int):Int:=bif decide (n<0) !=decide (d<0)then-((n.natAbs / lR n d:Nat):Int)else((n.natAbs / lR n d:Nat):Int)
def jJ(n d:Int):aB×Int:=
 bif d==0 then(bK,4)else bif decide (2147483647<n.natAbs / lR n d)||decide (2147483647<d.natAbs / lR n d)then(bK,3)
 else(⟨Int64.ofInt (Dj n d),Int64.ofInt ((d.natAbs / lR n d:Nat):Int)⟩,0)
def rK(a b:Int):Int:=bif decide (a<b)then-1 else bif decide (a>b)then 1 else 0
def jT(t:aP)(a b:aB):Int:=
 bif dE t&&(dx t a&&dx t b)then bif t.bu==1 then rK (a.xN.toInt*b.xD.toInt) (b.xN.toInt*a.xD.toInt)else rK a.xN.toInt b.xN.toInt else 0
def Ep(op:Int)(t:aP)(a b:Int):aB×Int:=
 bif op==4 then(lh t (a+b),0)else bif op==5 then(lh t (a-b),0)else bif op==6 then(lh t (jg (a*b) (gk t) t.cx),0)
 else bif op==8 then(lh t (-a),0)else bif b==0 then(bK,4)else(lh t (pG (a*gk t) b t.cx),0)
def tW(op a b:Int):aB×Int:=
 bif op==7&&b==0 then(bK,4)
 else
  let n:=bif op==4 then a+b else bif op==5 then a-b else bif op==6 then a*b else bif op==7 then ml a b else-a
  bif decide (-2147483647<=n)&&decide (n<=2147483647)then(⟨Int64.ofInt n,1⟩,0)else(bK,3)
def xr(op:Int)(a b:aB):aB×Int:=
 bif op==4 then jJ (a.xN.toInt*b.xD.toInt+b.xN.toInt*a.xD.toInt) (a.xD.toInt*b.xD.toInt)
 else bif op==5 then jJ (a.xN.toInt*b.xD.toInt-b.xN.toInt*a.xD.toInt) (a.xD.toInt*b.xD.toInt)
 else bif op==6 then jJ (a.xN.toInt*b.xN.toInt) (a.xD.toInt*b.xD.toInt)
 else bif op==7 then jJ (a.xN.toInt*b.xD.toInt) (a.xD.toInt*b.xN.toInt)
 else(⟨-a.xN,a.xD⟩,0)
def qP(op:Int)(t:aP)(a b:aB):aB×Int:=
 bif decide (op<4)||decide (op>10)then(bK,1)else bif !dE t then(bK,10)
 else bif !dx t a||(!(op==8)&& !dx t b)then(bK,1)
 else bif op==9 then(bif decide (jT t a b>0)then b else a,0)else bif op==10 then(bif decide (jT t a b<0)then b else a,0)
 else bif t.bu==2 then Ep op t a.xN.toInt b.xN.toInt else bif t.bu==3 then tW op a.xN.toInt b.xN.toInt else xr op a b
def mh(t:aP)(v:aB):aB:=bif t.bu==2 then(jJ v.xN.toInt (gk t)).1 else v
def Ba(from_ yQ:aP)(v:aB):aB×Int:=
 bif !dE from_|| !dE yQ then(bK,10)else bif !dx from_ v then(bK,1)
 else
  let x:=mh from_ v
  bif yQ.bu==3 then(⟨Int64.ofInt (x.xN.toInt / x.xD.toInt),1⟩,0)else bif yQ.bu==2 then(lh yQ (jg (x.xN.toInt*gk yQ) x.xD.toInt yQ.cx),0)else(x,0)
structure rT(t:aP):Prop where
 b1:2<=t.bG
 b2:t.bG<=31
 f1:0<=t.ck
 f2:t.ck<=30
 r1:1<=t.cx
 r2:t.cx<=4
 o:t.cG=1\/t.cG=2
theorem kO{t:aP}(h:dE t=true)(hk:t.bu=2):rT t:=by
 unfold dE at h;rw[hk]at h;have h':(decide (2<=t.bG)&&(decide (t.bG<=31)&&(decide (0<=t.ck)&&(decide (t.ck<=30)&&(decide (1<=t.cx)&&(decide (t.cx<=4)&&(t.cG==1||t.cG==2)))))))=true:=h;simp only[al7,decide_eq_true_eq,Bool.or_eq_true,beq_iff_eq]at h';obtain⟨h1,h2,h3,h4,h5,h6,h7⟩:=h';exact⟨h1,h2,h3,h4,h5,h6,h7⟩
theorem kinds{t:aP}(h:dE t=true):t.bu=1\/t.bu=2\/t.bu=3:=by
 unfold dE at h;by_cases h1:t.bu=1
 ·exact .inl h1
 ·by_cases h2:t.bu=2
  ·exact .inr (.inl h2)
  ·by_cases h3:t.bu=3
   ·exact .inr (.inr h3)
   ·simp [h1,h2,h3]at h
theorem HP{t:aP}(f:rT t):2<=cw t/\cw t<=1073741824:=
 ai4 (λx=>2<=x/\x<=1073741824) (by decide) f.b1 f.b2
theorem UO(P:Int->Prop)(h:∀k:Fin 31,P (2^k.val)){b:Int}(h1:0<=b)(h2:b<=30):P (2^b.toNat):=
 h ⟨b.toNat,by omega⟩
theorem EB{t:aP}(f:rT t):1<=gk t/\gk t<=1073741824:=
 UO (λx=>1<=x/\x<=1073741824) (by decide) f.f1 f.f2
structure Fw(t:aP)(v:aB):Prop where
 d:v.xD.toInt=1
 n1: -cw t<=v.xN.toInt
 n2:v.xN.toInt<=cw t-1
theorem lJ{t:aP}{v:aB}(h:dx t v=true)(hk:t.bu=2):Fw t v:=by
 unfold dx at h;rw[hk]at h;have h':(v.xD.toInt==1&&(decide (-(2^(t.bG-1).toNat)<=v.xN.toInt)&&decide (v.xN.toInt<2^(t.bG-1).toNat)))=true:=h;simp only[al7,decide_eq_true_eq,beq_iff_eq]at h';obtain⟨h1,h2,h3⟩:=h';exact⟨h1,h2,by unfold cw;omega⟩
structure gv(v:aB):Prop where
 n1: -2147483647<=v.xN.toInt
 n2:v.xN.toInt<=2147483647
 d1:1<=v.xD.toInt
 d2:v.xD.toInt<=2147483647
 g:Nat.gcd v.xN.toInt.natAbs v.xD.toInt.toNat=1
theorem oJ{t:aP}{v:aB}(h:dx t v=true)(hk:t.bu≠2):gv v:=by
 unfold dx at h;rw[beq_false_of_ne hk]at h;simp only[cond_false,al7,decide_eq_true_eq]at h;obtain⟨h1,h2,h3,h4,h5⟩:=h;refine⟨h2,h1,h3,h4,?_⟩;cases Fm:t.bu==3 with
 |true=>
  rw[Fm]at h5;have h6:v.xD.toInt=1:=by simpa using h5
  rw[h6];exact Nat.gcd_one_right _
 |false=>rw[Fm]at h5;simpa using h5
theorem EW{t:aP}{v:aB}(h:dx t v=true)(hk:t.bu=3):v.xD.toInt=1:=by
 unfold dx at h;rw[hk]at h;have h':(decide (v.xN.toInt<=2147483647)&&(decide (-2147483647<=v.xN.toInt)&&(decide (1<=v.xD.toInt)&&(decide (v.xD.toInt<=2147483647)&&(v.xD.toInt==1)))))=true:=h;simp only[al7,beq_iff_eq]at h';exact h'.2.2.2.2
theorem jf{n:Int}(h1: -9223372036854775808<=n)(h2:n<=9223372036854775807):(Int64.ofInt n).toInt=n:=Int64.toInt_ofInt_of_le (by omega) (by omega)
structure afe(n d:Int)(v:aB):Prop where
 n1: -2147483647<=v.xN.toInt
 n2:v.xN.toInt<=2147483647
 d1:1<=v.xD.toInt
 d2:v.xD.toInt<=2147483647
 g:Nat.gcd v.xN.toInt.natAbs v.xD.toInt.toNat=1
 en:v.xN.toInt=Dj n d
 ed:v.xD.toInt=((d.natAbs / lR n d:Nat):Int)
theorem abx{n d:Int}{v:aB}(h:jJ n d=(v,0)):afe n d v:=by
 unfold jJ at h;by_cases hd:d=0
 ·subst hd;cases h
 ·rw[beq_false_of_ne hd]at h;simp only[cond_false]at h;cases hc:(decide (2147483647<n.natAbs / lR n d)||decide (2147483647<d.natAbs / lR n d))with
  |true=>rw[hc]at h;cases h
  |false=>
   rw[hc]at h;cases h
   rw[amS,decide_eq_false_iff_not,decide_eq_false_iff_not]at hc;have hg:0<lR n d:=Nat.gcd_pos_of_pos_right _ (by omega);have hq:0<d.natAbs / lR n d:=Nat.div_pos (Nat.le_of_dvd (by omega) (Nat.gcd_dvd_right _ _)) hg;have hN:(Dj n d).natAbs=n.natAbs / lR n d:=by
     unfold Dj;cases (decide (n<0) !=decide (d<0))
     ·exact Int.natAbs_natCast _
     ·exact(Int.natAbs_neg _).trans (Int.natAbs_natCast _)
   have e1:=jf (n:=Dj n d) (by omega) (by omega);have e2:=jf (n:=((d.natAbs / lR n d:Nat):Int)) (by omega) (by omega);refine⟨?_,?_,?_,?_,?_,e1,e2⟩
   ·show _<=(Int64.ofInt _).toInt;rw[e1];omega
   ·show(Int64.ofInt _).toInt<=_;rw[e1];omega
   ·show _<=(Int64.ofInt _).toInt;rw[e2];omega
   ·show(Int64.ofInt _).toInt<=_;rw[e2];omega
   ·show Nat.gcd (Int64.ofInt _).toInt.natAbs (Int64.ofInt _).toInt.toNat=1;rw[e1,e2,hN,amw];exact adE (by omega)
theorem Z4{n S:Int}(h1: -1073741824<=n)(h2:n<=1073741824)(s1:1<=S)(s2:S<=1073741824):∃v,jJ n S=(v,0):=by
 unfold jJ;rw[beq_false_of_ne (show S≠0 by omega)];have a1:n.natAbs / lR n S<=n.natAbs:=Nat.div_le_self _ _;have a2:S.natAbs / lR n S<=S.natAbs:=Nat.div_le_self _ _;rw[amN (show ¬2147483647<n.natAbs / lR n S by omega),amN (show ¬2147483647<S.natAbs / lR n S by omega)];exact⟨_,rfl⟩
theorem Fh{a b:aB}(h1:a.xN.toInt=b.xN.toInt)(h2:a.xD.toInt=b.xD.toInt):a=b:=by
 cases a;cases b
 congr 1
 ·exact Int64.toInt_inj.1 h1
 ·exact Int64.toInt_inj.1 h2
theorem Qo{a b:Int}:rK a b=0↔a=b:=by
 unfold rK;simp only[cond_eq_ite,decide_eq_true_eq]
 (repeat' split)<;>omega
theorem abr{t:aP}{a b:aB}(ht:dE t=true)(ha:dx t a=true)(hb:dx t b=true)(h:jT t a b=0):a=b:=by
 unfold jT at h;rw[ht,ha,hb]at h;simp only[Bool.and_self,cond_true]at h;rcases kinds ht with hk|hk|hk
 ·rw[hk]at h;have h':=Qo.1 h;have A:=oJ ha (by omega);have B:=oJ hb (by omega);have e:=ab2 (n:=a.xN.toInt) (m:=b.xN.toInt) (d:=a.xD.toInt.toNat) (e:=b.xD.toInt.toNat) (by have:=A.d1;omega) (by have:=B.d1;omega) A.g B.g (by
    rw[show((b.xD.toInt.toNat:Nat):Int)=b.xD.toInt by have:=B.d1;omega,show((a.xD.toInt.toNat:Nat):Int)=a.xD.toInt by have:=A.d1;omega];exact h')
  exact Fh e.1 (by have:=A.d1;have:=B.d1;omega)
 ·rw[hk]at h;have h':=Qo.1 h;exact Fh h' (by rw[(lJ ha hk).d,(lJ hb hk).d])
 ·rw[hk]at h;have h':=Qo.1 h;exact Fh h' (by rw[EW ha hk,EW hb hk])
theorem XG{t:aP}{v:aB}(ht:dE t=true)(hv:dx t v=true):gv (mh t v):=by
 unfold mh;rcases kinds ht with hk|hk|hk
 ·rw[hk];exact oJ hv (by omega)
 ·rw[hk];have F:=kO ht hk;have A:=lJ hv hk;have hH:=HP F;have hS:=EB F;obtain⟨x,hx⟩:=Z4 (n:=v.xN.toInt) (S:=gk t) (by have:=A.n1;omega) (by have:=A.n2;omega) hS.1 hS.2;have L:=abx hx;show gv (jJ v.xN.toInt (gk t)).1;rw[hx];exact⟨L.n1,L.n2,L.d1,L.d2,L.g⟩
 ·rw[hk];exact oJ hv (by omega)
theorem uL{a b:Int64}(h1: -9223372036854775808<=a.toInt+b.toInt)(h2:a.toInt+b.toInt<=9223372036854775807):(a+b).toInt=a.toInt+b.toInt:=by rw[ajh,IntKind.wrap_i64];omega
theorem pj{a b:Int64}(h1: -9223372036854775808<=a.toInt-b.toInt)(h2:a.toInt-b.toInt<=9223372036854775807):(a-b).toInt=a.toInt-b.toInt:=by rw[XT,IntKind.wrap_i64];omega
theorem qw{a b:Int64}(h1: -9223372036854775808<=a.toInt*b.toInt)(h2:a.toInt*b.toInt<=9223372036854775807):(a*b).toInt=a.toInt*b.toInt:=by rw[aaQ,IntKind.wrap_i64];omega
theorem qf{a:Int64}(h1: -9223372036854775807<=a.toInt):(-a).toInt= -a.toInt:=by
 have:=Int64.toInt_lt a;rw[Int64.toInt_neg,Int.bmod_def];omega
theorem xG{a b A B:Int}(ha: -A<=a)(YH:a<=A)(hb: -B<=b)(gC:b<=B): -(A*B)<=a*b/\a*b<=A*B:=by
 have h1:a.natAbs<=A.natAbs:=by omega
 have h2:b.natAbs<=B.natAbs:=by omega
 have h3:(a*b).natAbs<=(A*B).natAbs:=by rw[Int.natAbs_mul,Int.natAbs_mul];exact Nat.mul_le_mul h1 h2
 have h4:0<=A*B:=Int.mul_nonneg (by omega) (by omega);omega
theorem abZ:∀n:Fin 31,IntKind.u64.wrap (n.val:Int)=(n.val:Int)/\(Int64.ofInt ((1:Int)*2^(min n.val (IntKind.bits .i64)))).toInt=2^n.val/\min n.val (IntKind.bits .i64)=n.val:=by decide+kernel
theorem CL{f:Int}(h1:0<=f)(h2:f<=30):IntKind.u64.wrap f=f/\(Int64.ofInt ((1:Int)*2^(min f.toNat (IntKind.bits .i64)))).toInt=2^f.toNat/\min f.toNat (IntKind.bits .i64)=f.toNat:=by
 obtain⟨n,rfl⟩:∃n:Nat,f=n:=⟨f.toNat,by omega⟩;have:=abZ ⟨n,by omega⟩
 simpa using this
theorem aje:∀n:Fin 30,(decide ((0:Int)<=(IntKind.u64.wrap (aE ((64:Int)-((n.val+2:Nat):Int))))))=true/\min ((IntKind.u64.wrap (aE ((64:Int)-((n.val+2:Nat):Int))))).toNat (IntKind.bits .u64)=62-n.val/\
 min ((IntKind.u64.wrap (aE ((64:Int)-((n.val+2:Nat):Int))))).toNat (IntKind.bits .i64)=62-n.val/\(2:Int)^(62-n.val)*(2*2^(n.val+1))=18446744073709551616/\(0:Int)<2^(62-n.val):=by decide+kernel
theorem akC{b:Int}(h1:2<=b)(h2:b<=31):∃k:Nat,(decide ((0:Int)<=(IntKind.u64.wrap (aE ((64:Int)-b)))))=true/\min ((IntKind.u64.wrap (aE ((64:Int)-b)))).toNat (IntKind.bits .u64)=k/\
 min ((IntKind.u64.wrap (aE ((64:Int)-b)))).toNat (IntKind.bits .i64)=k/\(2:Int)^k*(2*2^(b-1).toNat)=18446744073709551616/\(0:Int)<2^k:=by
 obtain⟨n,rfl⟩:∃n:Nat,b=n:=⟨b.toNat,by omega⟩;have:=aje ⟨n-2,by omega⟩;simp only[show n-2+2=n by omega,show n-2+1=n-1 by omega]at this;rw[show((n:Int)-1).toNat=n-1 by omega];exact⟨_,this⟩
theorem F1(n:Int64):Int64.ofInt n.toInt=n:=Mm (by rw[CC,IntKind.wrap_i64];have:=kL n;omega)
theorem rj{q:Int64}{z:Int}(h:q.toInt=z):q=Int64.ofInt z:=by rw[<-h,F1]
theorem AX(N:Nat){t:aP}(F:rT t)(n:Int64):oF N t n=some (lh t n.toInt):=by
 obtain⟨f1,f2,f3,f4,f5,f6⟩:=Ga F.b1 F.b2;obtain⟨k,u1,u2,u3,u4,u5⟩:=akC F.b1 F.b2;have hH:=HP F;unfold oF Ov De Fe x8;rw[gw,al4,al4,mu,amM F.b1,amM F.b2];simp only[Bool.and_self,cond_true];rw[f1,u1];simp only[cond_true,al4];rw[f3,f4,u2,u3]
 change _=some (⟨Int64.ofInt (nS (t.cG==2) (cw t) n.toInt),1⟩:aB)
 have m9:(-(Int64.ofInt ((1:Int)*2^(min ((IntKind.u64.wrap (aE (t.bG-(1:Int))))).toNat (IntKind.bits .i64)))))=Int64.ofInt (-cw t):=rj f3;have mf:((Int64.ofInt ((1:Int)*2^(min ((IntKind.u64.wrap (aE (t.bG-(1:Int))))).toNat (IntKind.bits .i64))))-(1:Int64))=Int64.ofInt (cw t-1):=rj f4;rw[m9,mf];rw[mu,gw];have hr:(decide (-(2^(t.bG-1).toNat)<=n.toInt)&&decide (n.toInt<=2^(t.bG-1).toNat-1))=(decide (-cw t<=n.toInt)&&decide (n.toInt<=cw t-1)):=rfl;have hm:(t.cG !=1&&t.cG !=2)=false:=by rcases F.o with h|h<;>rw[h]<;>rfl
 rw[hm];simp only[al4,cond_false];rw[gw,hr];by_cases h1: -cw t<=n.toInt
 ·by_cases h2:n.toInt<=cw t-1
  ·rw[amM h1,amM h2,akE (by omega) h1 h2,F1];rfl
  ·rw[amM h1,amN h2];simp only[Bool.and_false,cond_false];rcases F.o with ho|ho
   ·rw[ho,amN (show ¬n.toInt< -2^(t.bG-1).toNat from λh=>by have:n.toInt< -cw t:=h;omega)];simp only[amO,cond_true,al4,cond_false];rw[show((1:Int)==2)=false from rfl];unfold nS;simp only[cond_false];rw[show max (-cw t) (min (cw t-1) n.toInt)=cw t-1 by omega]
   ·rw[ho];show some (⟨Int64.ofInt (((Int64.ofInt _).toInt).fdiv (2^k)),1⟩:aB)=_;rw[CC,IntKind.wrap_i64,lu,lu,Int.fdiv_eq_ediv_of_nonneg _ (by omega),Int.mul_emod,Int.emod_emod,<-Int.mul_emod,Tk u4 u5 (by unfold cw at hH;omega)];rfl
 ·rw[amN h1];simp only[Bool.false_and,cond_false];rcases F.o with ho|ho
  ·have aN:n.toInt< -cw t:=by omega
   rw[ho,amM (show n.toInt< -2^(t.bG-1).toNat from aN)];simp only[amO,cond_true,al4];rw[show((1:Int)==2)=false from rfl];unfold nS;simp only[cond_false];rw[show max (-cw t) (min (cw t-1) n.toInt)= -cw t by omega];rfl
  ·rw[ho];show some (⟨Int64.ofInt (((Int64.ofInt _).toInt).fdiv (2^k)),1⟩:aB)=_;rw[CC,IntKind.wrap_i64,lu,lu,Int.fdiv_eq_ediv_of_nonneg _ (by omega),Int.mul_emod,Int.emod_emod,<-Int.mul_emod,Tk u4 u5 (by unfold cw at hH;omega)];rfl
theorem af0(N:Nat)(hN:2147483648<N){t:aP}(v:aB)(ht:dE t=true)(hk:t.bu=2):rz N t v=some (dx t v):=by
 have h:=rO N hN t v ht;unfold nD at h;rw[uB,ht,al4,hk]at h;have h':Option.bind (rz N t v) (λx=>some x)=some (dx t v):=h;cases hx:rz N t v with
 |none=>rw[hx]at h';cases h'
 |some b=>rw[hx]at h';exact h'
def tU:aP:=⟨1,0,0,0,0⟩
theorem L2:dE tU=true:=rfl
theorem oy(N:Nat)(hN:2147483648<N)(v:aB):j9 N v=some (dx tU v):=by
 have h:=rO N hN tU v L2;unfold nD at h;rw[uB,L2,al4]at h;have h':Option.bind (j9 N v) (λx=>some x)=some (dx tU v):=h;cases hx:j9 N v with
 |none=>rw[hx]at h';cases h'
 |some b=>rw[hx]at h';exact h'
theorem gv.ok{v:aB}(h:gv v):dx tU v=true:=by
 unfold dx;show(decide (v.xN.toInt<=2147483647)&&(decide (-2147483647<=v.xN.toInt)&&(decide (1<=v.xD.toInt)&&(decide (v.xD.toInt<=2147483647)&&(Nat.gcd v.xN.toInt.natAbs v.xD.toInt.toNat==1)))))=true;rw[amM h.n2,amM h.n1,amM h.d1,amM h.d2,h.g];rfl
theorem Zy(N:Nat)(hN:2147483648<N){t:aP}(ht:dE t=true)(hk:t.bu=2):∀(l:amT aB)(k:Nat),(∀v∈l,dx t v=true)->Jj N t l k=some 0
 |[],_,_=>rfl
 |v::l,k,h=>by
  rw[Jj,af0 N hN v ht hk,h v amb];exact Zy N hN ht hk l (k+1) λx hx=>h x (ame _ hx)
theorem WW(N:Nat){t:aP}(ht:dE t=true)(hk:t.bu=2):ta N t=some 0:=by
 have F:=kO ht hk;have ho:(t.cG==1||t.cG==2)=true:=by rcases F.o with h|h<;>rw[h]<;>rfl
 rw[NL N t (by rw[hk];rfl),amM F.b1,amM F.b2,amM F.f1,amM F.f2,amM F.r1,amM F.r2,ho];rfl
theorem Xw(N:Nat)(hN:2147483648<N){t:aP}(ht:dE t=true)(hk:t.bu=2){l:amT aB}(h:∀v∈l,dx t v=true):qV N t l=some 0:=by
 unfold qV;rw[WW N ht hk,al4];exact Zy N hN ht hk l 0 h
theorem ag5{a b:Nat}(hb:0<b)(ha:a<=9223372036854775808)(kr:b<=9223372036854775808)(neg:Bool)(how:Int):rk (a:Int) (b:Int) neg how=((m5 a b neg how:Nat):Int):=by
 have hq:a / b<=a:=Nat.div_le_self _ _;have hr:a%b<b:=Nat.mod_lt _ hb;have e1:IntKind.u64.wrap ((a:Int).tdiv (b:Int))=((a / b:Nat):Int):=by rw[<-Int.ofNat_tdiv,lu];generalize a / b=q at*;omega
 have e2:(a:Int).tmod (b:Int)=((a%b:Nat):Int):=(Int.ofNat_tmod a b).symm;have e3:IntKind.u64.wrap (2*((a%b:Nat):Int))=((2*(a%b):Nat):Int):=by rw[lu];generalize a%b=q at*;omega
 have e4:IntKind.u64.wrap (((a / b:Nat):Int)+1)=((a / b+1:Nat):Int):=by rw[lu];generalize a / b=q at*;omega
 have e5:((a / b:Nat):Int).tmod 2=((a / b%2:Nat):Int):=(Int.ofNat_tmod (a / b) 2).symm;unfold rk ij m5 zF;simp only[e1,e2,e3,e4,e5];have c1:(((a%b:Nat):Int)==0)=(a%b==0):=qC _ 0;have c2:decide (((2*(a%b):Nat):Int)<(b:Int))=decide (2*(a%b)<b):=mR (by omega);have c3:(((2*(a%b):Nat):Int)==(b:Int))=(2*(a%b)==b):=qC _ _;have c4:(((a / b%2:Nat):Int)==0)=(a / b%2==0):=qC _ 0;rw[c1,c2,c3,c4];generalize ((a%b==0||how==3)||((how==1&& !neg)||(how==2&&neg))||(how==4&&(decide (2*(a%b)<b)||(2*(a%b)==b&&a / b%2==0))))=z;cases z<;>rfl
theorem T1(N:Nat)(v:Int64):C6 N v=some ((v.toInt.natAbs:Nat):Int):=by
 unfold C6;have:=kL v;by_cases h:v.toInt<0
 ·rw[amM h];simp only[cond_true,lu]
  congr 1
  omega
 ·rw[amN h];simp only[cond_false,lu]
  congr 1
  omega
theorem aj5{a b:Nat}(neg:Bool)(how:Int):m5 a b neg how<=a+1:=by
 have hq:a / b<=a:=Nat.div_le_self _ _;unfold m5;cases zF a b neg how
 ·simp only[cond_false];omega
 ·simp only[cond_true];omega
theorem PS(N:Nat)(n d:Int64){how:Int}(h1:1<=how)(h4:how<=4)(b1: -4611686018427387904<=n.toInt)(b2:n.toInt<=4611686018427387904):
 Bf N n d how=some (bif d.toInt==0 then(0,4)else(Int64.ofInt (pG n.toInt d.toInt how),0)):=by
 unfold Bf BE;rw[mu,gw,amM h1,amM h4];simp only[Bool.and_self,al4,cond_true];by_cases hd:d.toInt=0
 ·rw[hd];rfl
 ·have qm:=kL d;rw[beq_false_of_ne hd];simp only[cond_false];rw[T1,T1];unfold KE;simp only[al4];rw[show(((d.toInt.natAbs:Nat):Int) !=0)=true by rw[bne_iff_ne];omega];simp only[cond_true,al4];rw[ag5 (by omega) (by omega) (by omega)];have key:=abE (n:=n.toInt) (d:=d.toInt) hd h1 h4;have hb:=aj5 (a:=n.toInt.natAbs) (b:=d.toInt.natAbs);cases hs:(decide (n.toInt<0)==decide (d.toInt<0))with
  |true=>
   have cM:(decide (n.toInt<0) !=decide (d.toInt<0))=false:=by unfold bne;rw[hs];rfl
   rw[cM]at key;simp only[cond_false]at key;have:=hb false how;simp only[Bool.not_true,cond_true];rw[mu,amN (show ¬(9223372036854775808:Int)<=((m5 n.toInt.natAbs d.toInt.natAbs false how:Nat):Int) by omega)];simp only[cond_false];rw[key]
  |false=>
   have cM:(decide (n.toInt<0) !=decide (d.toInt<0))=true:=by unfold bne;rw[hs];rfl
   rw[cM]at key;simp only[cond_true]at key;have:=hb true how;simp only[Bool.not_false,cond_false];rw[<-key]
   congr 2
   refine Mm ?_;rw[CC,CC,lu,IntKind.wrap_i64,IntKind.wrap_i64];omega
theorem pf{t:aP}(F:rT t){v:aB}(V:Fw t v): -1073741824<=v.xN.toInt/\v.xN.toInt<=1073741824:=by
 have:=HP F;have:=V.n1;have:=V.n2;omega
structure Fx(N:Nat)(t:aP)(a b:aB):Prop where
 hN:2147483648<N
 ht:dE t=true
 hk:t.bu=2
 ha:dx t a=true
 hb:dx t b=true
theorem Fx.fO{N:Nat}{t:aP}{a b:aB}(h:Fx N t a b):qV N t [a,b]=some 0:=Xw N h.hN h.ht h.hk λv hv=>by
 simp only[amz,amL,or_false]at hv;rcases hv with rfl|rfl
 ·exact h.ha
 ·exact h.hb
theorem aaU{N:Nat}{t:aP}{a:aB}(h:Fx N t a a):CS N t a=some (lh t (-a.xN.toInt),0):=by
 have B:=pf (kO h.ht h.hk) (lJ h.ha h.hk);unfold CS Nr Qj;rw[h.fO];show Option.bind (Option.bind (oF N t (-a.xN)) (λv6=>some (v6,0))) _=_;rw[AX N (kO h.ht h.hk),qf (by omega)];rfl
theorem ahA{N:Nat}{t:aP}{a b:aB}(h:Fx N t a b):Ca N t a b=some (lh t (a.xN.toInt+b.xN.toInt),0):=by
 have B:=pf (kO h.ht h.hk) (lJ h.ha h.hk);have C:=pf (kO h.ht h.hk) (lJ h.hb h.hk);unfold Ca LG NU;rw[h.fO];show Option.bind (Option.bind (oF N t (a.xN+b.xN)) (λv6=>some (v6,0))) _=_;rw[AX N (kO h.ht h.hk),uL (by omega) (by omega)];rfl
theorem ahK{N:Nat}{t:aP}{a b:aB}(h:Fx N t a b):Dr N t a b=some (lh t (a.xN.toInt-b.xN.toInt),0):=by
 have B:=pf (kO h.ht h.hk) (lJ h.ha h.hk);have C:=pf (kO h.ht h.hk) (lJ h.hb h.hk);unfold Dr On OL;rw[h.fO];show Option.bind (Option.bind (oF N t (a.xN-b.xN)) (λv6=>some (v6,0))) _=_;rw[AX N (kO h.ht h.hk),pj (by omega) (by omega)];rfl
theorem xy{n d how:Int}(hd:0<d)(h1: -4611686018427387904<=n)(h2:n<=4611686018427387904):(Int64.ofInt (jg n d how)).toInt=jg n d how:=by
 have:=I0 (how:=how) hd (B:=4611686018427387904) (by decide) h1 h2;exact jf (by omega) (by omega)
theorem aiT{n d how:Int}(hd:d≠0)(h1: -4611686018427387904<=n)(h2:n<=4611686018427387904):(Int64.ofInt (pG n d how)).toInt=pG n d how:=by
 unfold pG;by_cases h:d<0
 ·rw[amM h];exact xy (by omega) (by omega) (by omega)
 ·rw[amN h];exact xy (by omega) h1 h2
theorem Wa{n d how:Int}(hd:0<d):pG n d how=jg n d how:=by unfold pG;rw[amN (show ¬d<0 by omega)];rfl
theorem agQ{N:Nat}{t:aP}{a b:aB}(h:Fx N t a b):E6 N t a b=some (lh t (jg (a.xN.toInt*b.xN.toInt) (gk t) t.cx),0):=by
 have F:=kO h.ht h.hk;have B:=pf F (lJ h.ha h.hk);have C:=pf F (lJ h.hb h.hk);have M:=xG B.1 B.2 C.1 C.2;have S:=EB F;obtain⟨s1,s2,s3⟩:=CL F.f1 F.f2;unfold E6 Kl KW;have e:=qw (a:=a.xN) (b:=b.xN) (by omega) (by omega);have xp:(Int64.ofInt ((1:Int)*2^(min (t.ck).toNat (IntKind.bits .i64)))).toInt=gk t:=s2;rw[h.fO,amM F.f1,PS N _ _ F.r1 F.r2 (by rw[e];omega) (by rw[e];omega),xp,e,beq_false_of_ne (show gk t≠0 by omega)];simp only[al4,cond_true,cond_false,bne_self_eq_false];rw[AX N F,Wa (by omega),xy (by omega) (by omega) (by omega)];rfl
theorem Y9{n:Int64}{f:Int}(h1:0<=f)(h2:f<=30)(b1: -4294967296<=n.toInt)(b2:n.toInt<=4294967296):
 (Int64.ofInt (n.toInt*2^(min f.toNat (IntKind.bits .i64)))).toInt=n.toInt*2^f.toNat/\-4611686018427387904<=n.toInt*2^f.toNat/\n.toInt*2^f.toNat<=4611686018427387904:=by
 obtain⟨s1,s2,s3⟩:=CL h1 h2;have S:=UO (λx=>1<=x/\x<=1073741824) (by decide) h1 h2;have M:=xG b1 b2 (show-1073741824<=2^f.toNat by omega) S.2;rw[s3];exact⟨jf (by omega) (by omega),by omega,by omega⟩
theorem aih{N:Nat}{t:aP}{a b:aB}(h:Fx N t a b):BJ N t a b=some (bif b.xN.toInt==0 then(bK,4)else(lh t (pG (a.xN.toInt*gk t) b.xN.toInt t.cx),0)):=by
 have F:=kO h.ht h.hk;have B:=pf F (lJ h.ha h.hk);obtain⟨e,e1,e2⟩:=Y9 (n:=a.xN) F.f1 F.f2 (by omega) (by omega);unfold BJ Pb O4;rw[h.fO,amM F.f1,PS N _ _ F.r1 F.r2 (by rw[e];omega) (by rw[e];omega),e];by_cases hb:b.xN.toInt=0
 ·rw[hb];rfl
 ·rw[beq_false_of_ne hb];simp only[al4,cond_true,cond_false,bne_self_eq_false];rw[AX N F,aiT hb e1 e2];rfl
theorem yx(N:Nat)(hN:9223372036854775808<N)(n d:Int64):sU N n d=some (jJ n.toInt d.toInt):=by
 unfold sU jJ;have hn:=kL n;have hdd:=kL d;by_cases hd:d.toInt=0
 ·rw[hd];rfl
 ·rw[beq_false_of_ne hd];simp only[cond_false];rw[CR,CR];unfold zS;simp only[al4];rw[Io N N _ _ (by omega)];simp only[al4];have hg:0<Nat.gcd n.toInt.natAbs d.toInt.natAbs:=Nat.gcd_pos_of_pos_right _ (by omega);rw[show(((Nat.gcd n.toInt.natAbs d.toInt.natAbs:Nat):Int) !=0)=true by rw[bne_iff_ne];omega]
  change _=some (bif decide (2147483647<n.toInt.natAbs / Nat.gcd n.toInt.natAbs d.toInt.natAbs)||decide (2147483647<d.toInt.natAbs / Nat.gcd n.toInt.natAbs d.toInt.natAbs)then(bK,3)else(⟨Int64.ofInt (bif decide (n.toInt<0) !=decide (d.toInt<0)then-((n.toInt.natAbs / Nat.gcd n.toInt.natAbs d.toInt.natAbs:Nat):Int)else((n.toInt.natAbs / Nat.gcd n.toInt.natAbs d.toInt.natAbs:Nat):Int)),Int64.ofInt ((d.toInt.natAbs / Nat.gcd n.toInt.natAbs d.toInt.natAbs:Nat):Int)⟩,0))
  generalize hgg:Nat.gcd n.toInt.natAbs d.toInt.natAbs=g at*;have a1:n.toInt.natAbs / g<=n.toInt.natAbs:=Nat.div_le_self _ _;have a2:d.toInt.natAbs / g<=d.toInt.natAbs:=Nat.div_le_self _ _;have e1:IntKind.u64.wrap ((n.toInt.natAbs:Int).tdiv (g:Int))=((n.toInt.natAbs / g:Nat):Int):=by rw[<-Int.ofNat_tdiv,lu];generalize n.toInt.natAbs / g=q at*;omega
  have e2:IntKind.u64.wrap ((d.toInt.natAbs:Int).tdiv (g:Int))=((d.toInt.natAbs / g:Nat):Int):=by rw[<-Int.ofNat_tdiv,lu];generalize d.toInt.natAbs / g=q at*;omega
  simp only[cond_true];rw[e1,e2,jM,al4,mR (p:=((n.toInt.natAbs / g:Nat):Int)>2147483647) (q:=2147483647<n.toInt.natAbs / g) (by omega),mR (p:=((d.toInt.natAbs / g:Nat):Int)>2147483647) (q:=2147483647<d.toInt.natAbs / g) (by omega)];cases hc:(decide (2147483647<n.toInt.natAbs / g)||decide (2147483647<d.toInt.natAbs / g))with
  |true=>rfl
  |false=>
   rw[amS,decide_eq_false_iff_not,decide_eq_false_iff_not]at hc;unfold bne;cases (decide (n.toInt<0)==decide (d.toInt<0))with
   |true=>rfl
   |false=>
    simp only[cond_false,Bool.not_false,cond_true];clear e1 e2;generalize n.toInt.natAbs / g=p at*;generalize d.toInt.natAbs / g=q at*
    congr 3
    refine Mm ?_;rw[qf (by rw[jf]<;>omega),jf (by omega) (by omega),jf (by omega) (by omega)]
theorem DX{a b:Int}(ha: -2147483647<=a)(YH:a<=2147483647)(hb: -2147483647<=b)(gC:b<=2147483647): -4611686014132420609<=a*b/\a*b<=4611686014132420609:=by
 have:=xG ha YH hb gC;omega
theorem gv.d0{v:aB}(h:gv v): -2147483647<=v.xD.toInt:=by have:=h.d1;omega
theorem ji{a b:Int64}(h1: -2147483647<=a.toInt)(h2:a.toInt<=2147483647)(h3: -2147483647<=b.toInt)(h4:b.toInt<=2147483647):(a*b).toInt=a.toInt*b.toInt:=by
 have:=DX h1 h2 h3 h4;exact qw (by omega) (by omega)
theorem TM{a b:aB}(A:gv a)(B:gv b):(a.xN*b.xD+b.xN*a.xD).toInt=a.xN.toInt*b.xD.toInt+b.xN.toInt*a.xD.toInt:=by
 have p:=DX A.n1 A.n2 B.d0 B.d2;have q:=DX B.n1 B.n2 A.d0 A.d2;rw[uL]<;>rw[ji A.n1 A.n2 B.d0 B.d2,ji B.n1 B.n2 A.d0 A.d2]<;>omega
theorem XE{a b:aB}(A:gv a)(B:gv b):(a.xN*b.xD-b.xN*a.xD).toInt=a.xN.toInt*b.xD.toInt-b.xN.toInt*a.xD.toInt:=by
 have p:=DX A.n1 A.n2 B.d0 B.d2;have q:=DX B.n1 B.n2 A.d0 A.d2;rw[pj]<;>rw[ji A.n1 A.n2 B.d0 B.d2,ji B.n1 B.n2 A.d0 A.d2]<;>omega
theorem ab9{N:Nat}(hN:9223372036854775808<N){a b:aB}(A:gv a)(B:gv b):BU N a b=some (jJ (a.xN.toInt*b.xD.toInt+b.xN.toInt*a.xD.toInt) (a.xD.toInt*b.xD.toInt)):=by
 unfold BU;rw[oy N (by omega),oy N (by omega),A.ok,B.ok,yx N hN,TM A B,ji A.d0 A.d2 B.d0 B.d2];rfl
theorem aiu{N:Nat}(hN:9223372036854775808<N){a b:aB}(A:gv a)(B:gv b):E0 N a b=some (jJ (a.xN.toInt*b.xD.toInt-b.xN.toInt*a.xD.toInt) (a.xD.toInt*b.xD.toInt)):=by
 unfold E0;rw[oy N (by omega),oy N (by omega),A.ok,B.ok,yx N hN,XE A B,ji A.d0 A.d2 B.d0 B.d2];rfl
theorem aa7{N:Nat}(hN:9223372036854775808<N){a b:aB}(A:gv a)(B:gv b):Eg N a b=some (jJ (a.xN.toInt*b.xN.toInt) (a.xD.toInt*b.xD.toInt)):=by
 unfold Eg;rw[oy N (by omega),oy N (by omega),A.ok,B.ok,yx N hN,ji A.n1 A.n2 B.n1 B.n2,ji A.d0 A.d2 B.d0 B.d2];rfl
theorem aiG{N:Nat}(hN:9223372036854775808<N){a b:aB}(A:gv a)(B:gv b):DS N a b=some (jJ (a.xN.toInt*b.xD.toInt) (a.xD.toInt*b.xN.toInt)):=by
 unfold DS;rw[oy N (by omega),oy N (by omega),A.ok,B.ok,yx N hN,ji A.n1 A.n2 B.d0 B.d2,ji A.d0 A.d2 B.n1 B.n2];rfl
theorem agx(N:Nat)(n:Int64):o0 N n=some (decide (-2147483647<=n.toInt)&&decide (n.toInt<=2147483647)):=by
 unfold o0;rw[mu,gw];rfl
theorem KL{a b:Int}: -(a.natAbs:Int)<=a.tdiv b/\a.tdiv b<=(a.natAbs:Int):=by
 have h:(a.tdiv b).natAbs<=a.natAbs:=by rw[Int.natAbs_tdiv];exact Nat.div_le_self _ _
 omega
theorem N6{a b:Int}(hb:b≠0): -(a.natAbs:Int)<=a.tmod b/\a.tmod b<=(a.natAbs:Int):=by
 have h:(a.tmod b).natAbs<=a.natAbs:=by rw[Int.natAbs_tmod];exact Nat.mod_le _ _
 omega
theorem abq(N:Nat)(op:Int)(a b:Int64)(h1: -2147483647<=a.toInt)(h2:a.toInt<=2147483647)(h3: -2147483647<=b.toInt)(h4:b.toInt<=2147483647)(ho:op=4\/op=5\/op=6\/op=7):
 Eh N op a b=some (tW op a.toInt b.toInt):=by
 have eA:=uL (a:=a) (b:=b) (by omega) (by omega);have eS:=pj (a:=a) (b:=b) (by omega) (by omega);have eM:=ji h1 h2 h3 h4;have fin:∀(z:Int64)(n:Int),z.toInt=n->((o0 N z).bind λv=>bif v then some ((⟨z,(1:Int64)⟩:aB),(0:Int))else some (bK,(3:Int)))=some (bif decide (-2147483647<=n)&&decide (n<=2147483647)then(⟨Int64.ofInt n,1⟩,0)else(bK,3)):=λz n hz=>by
  subst hz;rw[agx,al4,F1];cases (decide (-2147483647<=z.toInt)&&decide (z.toInt<=2147483647))<;>rfl
 unfold Eh tW;rcases ho with rfl|rfl|rfl|rfl
 ·exact fin _ _ eA
 ·exact fin _ _ eS
 ·exact fin _ _ eM
 ·show(bif b.toInt==0 then some (bK,(4:Int))else _)=some (bif true&&b.toInt==0 then(bK,4)else bif decide (-2147483647<=ml a.toInt b.toInt)&&decide (ml a.toInt b.toInt<=2147483647)then(⟨Int64.ofInt (ml a.toInt b.toInt),1⟩,0)else(bK,3));by_cases hb:b.toInt=0
  ·rw[hb];rfl
  ·have t1:=KL (a:=a.toInt) (b:=b.toInt);have t2:=N6 (a:=a.toInt) hb;have q1:(Int64.ofInt (a.toInt.tmod b.toInt)).toInt=a.toInt.tmod b.toInt:=jf (by omega) (by omega);have q2:(Int64.ofInt (a.toInt.tdiv b.toInt)).toInt=a.toInt.tdiv b.toInt:=jf (by omega) (by omega);have q3:((Int64.ofInt (a.toInt.tdiv b.toInt))-(1:Int64)).toInt=a.toInt.tdiv b.toInt-1:=by
    rw[pj]<;>rw[q2,show(1:Int64).toInt=1 from rfl]<;>omega
   have key:=akr (a:=a.toInt) hb;rw[beq_false_of_ne hb,bne_iff_ne.2 hb,q1];simp only[cond_false,cond_true,Bool.and_false];rw[gw,al4];have hx:(!(decide (a.toInt<0)==decide (b.toInt<0)))=(decide (a.toInt<0) !=decide (b.toInt<0)):=rfl;rw[hx];cases hz:(a.toInt.tmod b.toInt !=0&&(decide (a.toInt<0) !=decide (b.toInt<0)))with
   |true=>rw[hz]at key;exact fin _ _ (q3.trans key)
   |false=>rw[hz]at key;exact fin _ _ (q2.trans key)
theorem acv(N:Nat)(a b:Int64):yr N a b=some (rK a.toInt b.toInt):=by
 unfold yr rK;cases decide (a.toInt<b.toInt)
 ·cases decide (a.toInt>b.toInt)<;>rfl
 ·rfl
theorem Wc(N:Nat)(hN:2147483648<N)(t:aP)(a b:aB)(ht:dE t=true):DB N t a b=some (jT t a b):=by
 unfold DB jT;rw[rO N hN t a ht,rO N hN t b ht,ht];cases ha:dx t a with
 |false=>rfl
 |true=>
  cases hb:dx t b with
  |false=>rfl
  |true=>
   simp only[al4,cond_true,Bool.not_true,cond_false,Bool.and_self];cases hk:t.bu==1 with
   |true=>
    have ic:t.bu=1:=by simpa using hk
    have A:=oJ ha (by omega);have B:=oJ hb (by omega);simp only[cond_true];unfold LD;rw[oy N hN,oy N hN,A.ok,B.ok,acv,ji A.n1 A.n2 B.d0 B.d2,ji B.n1 B.n2 A.d0 A.d2];rfl
   |false=>
    simp only[cond_false];unfold rK;cases decide (a.xN.toInt<b.xN.toInt)
    ·cases decide (a.xN.toInt>b.xN.toInt)<;>rfl
    ·rfl
theorem aim(N:Nat)(hN:9223372036854775808<N){op:Int}{t:aP}{a b:aB}(ht:dE t=true)(ha:dx t a=true)(hb:dx t b=true)(ho:op=4\/op=5\/op=6\/op=7):
 IG N op t a b=some (bif t.bu==2 then Ep op t a.xN.toInt b.xN.toInt else bif t.bu==3 then tW op a.xN.toInt b.xN.toInt else xr op a b):=by
 unfold IG;rcases kinds ht with hk|hk|hk
 ·have A:=oJ ha (by omega);have B:=oJ hb (by omega);rw[hk];rcases ho with rfl|rfl|rfl|rfl
  ·show Option.bind (BU N a b) _=_;rw[ab9 hN A B];rfl
  ·show Option.bind (E0 N a b) _=_;rw[aiu hN A B];rfl
  ·show Option.bind (Eg N a b) _=_;rw[aa7 hN A B];rfl
  ·show Option.bind (DS N a b) _=_;rw[aiG hN A B];rfl
 ·have X:Fx N t a b:=⟨by omega,ht,hk,ha,hb⟩;rw[hk];rcases ho with rfl|rfl|rfl|rfl
  ·show Option.bind (Ca N t a b) _=_;rw[ahA X];rfl
  ·show Option.bind (Dr N t a b) _=_;rw[ahK X];rfl
  ·show Option.bind (E6 N t a b) _=_;rw[agQ X];rfl
  ·show Option.bind (BJ N t a b) _=_;rw[aih X];rfl
 ·have A:=oJ ha (by omega);have B:=oJ hb (by omega);rw[hk];show Option.bind (Eh N op a.xN b.xN) _=_;rw[abq N op _ _ A.n1 A.n2 B.n1 B.n2 ho];rfl
theorem ak9(N:Nat)(hN:2147483648<N){t:aP}{a:aB}(ht:dE t=true)(ha:dx t a=true)(b:Int):HS N t a=some (bif t.bu==2 then Ep 8 t a.xN.toInt b else bif t.bu==3 then tW 8 a.xN.toInt b else xr 8 a a):=by
 unfold HS;rcases kinds ht with hk|hk|hk
 ·rw[hk];rfl
 ·rw[hk];show Option.bind (CS N t a) _=_;rw[aaU ⟨hN,ht,hk,ha,ha⟩];rfl
 ·have A:=oJ ha (by omega);have D:=EW ha hk;have e:(-a.xN).toInt= -a.xN.toInt:=qf (by have:=A.n1;omega);rw[hk];unfold tW;rw[show((8:Int)==7&&b==0)=false from rfl,show((8:Int)==4)=false from rfl,show((8:Int)==5)=false from rfl,show((8:Int)==6)=false from rfl,show((8:Int)==7)=false from rfl,show((3:Int)==2)=false from rfl,show((3:Int)==3)=true from rfl];simp only[cond_false,cond_true];rw[amM (show-2147483647<=-a.xN.toInt by have:=A.n2;omega),amM (show-a.xN.toInt<=2147483647 by have:=A.n1;omega)];simp only[Bool.and_self,cond_true]
  congr 2
  exact Fh (by rw[e];exact(jf (by have:=A.n2;omega) (by have:=A.n1;omega)).symm) D
theorem T8(N:Nat)(hN:2147483648<N){t:aP}{a b:aB}(ht:dE t=true)(op:Int):Bh N t a b op true=some (bif op==9 then(bif decide (jT t a b>0)then b else a)else(bif decide (jT t a b<0)then b else a),0):=by
 unfold Bh;rw[Wc N hN t a b ht];simp only[cond_true,al4];generalize jT t a b=c;cases h9:op==9 with
 |true=>
  by_cases hc:c>0
  ·rw[amM hc,bne_iff_ne.2 (show c≠0 by omega)];rfl
  ·rw[amN hc];rfl
 |false=>
  by_cases hc:c<0
  ·rw[amM hc,amN (show ¬c>0 by omega),bne_iff_ne.2 (show c≠0 by omega)];rfl
  ·rw[amN hc];by_cases h0:c>0
   ·rw[amM h0];rfl
   ·obtain rfl:c=0:=by omega
    rfl
theorem aaj(a b c:aB):xr 8 a b=xr 8 a c:=by
 unfold xr;rw[show((8:Int)==4)=false from rfl,show((8:Int)==5)=false from rfl,show((8:Int)==6)=false from rfl,show((8:Int)==7)=false from rfl];simp only[cond_false]
theorem Yg(N:Nat)(hN:9223372036854775808<N)(op:Int)(t:aP)(a b:aB):An N op t a b=some (qP op t a b):=by
 have kJ:2147483648<N:=Nat.lt_trans (by decide) hN;unfold An qP;rw[jM,al4,uB,al4];by_cases h4:op<4
 ·rw[amM h4];rfl
 by_cases aW:op<=10
 ·rw[amN h4,amN (show ¬op>10 by omega)];simp only[Bool.or_self,cond_false];cases ht:dE t with
  |false=>rfl
  |true=>
   simp only[cond_true,Bool.not_true,cond_false,bne_self_eq_false];rw[rO N kJ t a ht,rO N kJ t b ht];cases ha:dx t a with
   |false=>rfl
   |true=>
    simp only[al4,cond_true,Bool.not_true,Bool.false_or];rw[wM,gw,al4];by_cases h8:op=8
    ·subst h8;rw[ak9 N kJ ht ha b.xN.toInt,aaj a a b];rfl
    ·rw[beq_false_of_ne h8];simp only[Bool.not_false,Bool.true_and,cond_false];cases hb:dx t b with
     |false=>rfl
     |true=>
      simp only[Bool.not_true,cond_false];by_cases h9:op=9
      ·subst h9;rw[show((9:Int)==9)=true from rfl,T8 N kJ ht];rfl
      ·rw[beq_false_of_ne h9];simp only[cond_false];by_cases h1:op=10
       ·subst h1;rw[show((10:Int)==10)=true from rfl,T8 N kJ ht];rfl
       ·rw[beq_false_of_ne h1];unfold Bh;simp only[cond_false];rw[aim N hN ht ha hb (by omega)];rfl
 ·rw[amM (show op>10 by omega),Bool.or_true];rfl
theorem afg(N:Nat)(hN:9223372036854775808<N){t:aP}{v:aB}(ht:dE t=true)(hv:dx t v=true):Jq N t v=some (mh t v):=by
 unfold Jq mh;cases hk:t.bu==2 with
 |false=>rfl
 |true=>
  have ic:t.bu=2:=by simpa using hk
  have F:=kO ht ic;obtain⟨s1,s2,s3⟩:=CL F.f1 F.f2;have xp:(Int64.ofInt ((1:Int)*2^(min (t.ck).toNat (IntKind.bits .i64)))).toInt=gk t:=s2;simp only[cond_true];unfold K8;rw[Xw N (by omega) ht ic (l:=[v]) (by intro x hx;simp only[amz,amL,or_false]at hx;subst hx;exact hv),amM F.f1,yx N hN,xp];rfl
theorem aiX(N:Nat)(hN:2147483648<N){v:aB}(V:gv v):Ec N v=some (Int64.ofInt (v.xN.toInt / v.xD.toInt)):=by
 unfold Ec Iw;have hd:=V.d1;have t1:=KL (a:=v.xN.toInt) (b:=v.xD.toInt);have t2:=N6 (a:=v.xN.toInt) (show v.xD.toInt≠0 by omega);have n1:=V.n1;have n2:=V.n2;rw[oy N hN,V.ok,bne_iff_ne.2 (show v.xD.toInt≠0 by omega),jf (by omega) (by omega)];simp only[al4,cond_true];have key:=TU (n:=v.xN.toInt) (d:=v.xD.toInt) (by omega);have q2:(Int64.ofInt (v.xN.toInt.tdiv v.xD.toInt)).toInt=v.xN.toInt.tdiv v.xD.toInt:=jf (by omega) (by omega);cases hz:decide (v.xN.toInt.tmod v.xD.toInt<0)with
 |true=>
  rw[hz]at key;simp only[cond_true]at key ⊢;rw[<-key]
  congr 1
  refine rj ?_;rw[pj]<;>rw[q2,show(1:Int64).toInt=1 from rfl]<;>omega
 |false=>
  rw[hz]at key;simp only[cond_false]at key ⊢;rw[<-key]
theorem acD(N:Nat)(hN:2147483648<N){t:aP}{v:aB}(ht:dE t=true)(hk:t.bu=2)(V:gv v):EJ N t v=some (lh t (jg (v.xN.toInt*gk t) v.xD.toInt t.cx),0):=by
 have F:=kO ht hk;obtain⟨s1,s2,s3⟩:=CL F.f1 F.f2;have n1:=V.n1;have n2:=V.n2;have d1:=V.d1;obtain⟨e,e1,e2⟩:=Y9 (n:=v.xN) F.f1 F.f2 (by omega) (by omega);unfold EJ Kp BE;rw[WW N ht hk,oy N hN,V.ok,s1,mu,gw,amM F.r1,amM F.r2,amM F.f1,amN (show ¬t.ck<0 by have:=F.f1;omega),amN (show ¬t.ck>30 by have:=F.f2;omega)];simp only[al4,bne_self_eq_false,cond_false,cond_true,Bool.and_self,Bool.not_true];rw[PS N _ _ F.r1 F.r2 (by rw[e];omega) (by rw[e];omega),e,beq_false_of_ne (show v.xD.toInt≠0 by omega)];simp only[al4,cond_false,bne_self_eq_false];rw[AX N F,Wa (by omega),xy (by omega) e1 e2];rfl
theorem alE(N:Nat)(hN:9223372036854775808<N)(t u:aP)(v:aB):Gi N t u v=some (Ba t u v):=by
 unfold Gi Ba;rw[uB,uB];cases ht:dE t with
 |false=>rfl
 |true=>
  cases hu:dE u with
  |false=>rfl
  |true=>
   simp only[al4,cond_true,bne_self_eq_false,cond_false,Bool.not_true,Bool.or_self];rw[rO N (by omega) t v ht];cases hv:dx t v with
   |false=>rfl
   |true=>
    simp only[al4,cond_true,Bool.not_true,cond_false];have V:=XG ht hv;rw[afg N hN ht hv,al4];rcases kinds hu with hk|hk|hk
    ·rw[hk];rfl
    ·rw[hk];show Option.bind (EJ N u (mh t v)) _=_;rw[acD N (by omega) hu hk V];rfl
    ·rw[hk];show Option.bind (Ec N (mh t v)) _=_;rw[aiX N (by omega) V];rfl
end Go.Proofs.YtnnapanbbbcalaaGreatDoor
