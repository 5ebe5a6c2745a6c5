/-
  Part 11 of the proof: PE1, PE2, PE3.
-/
import Derived.Test.YtpeecnpmcbnahaaGreatDoorPr10
namespace Go.Proofs.YtpeecnpmcbnahaaGreatDoor
open Go.RowKit
set_option maxRecDepth 100000
set_option maxHeartbeats 0
set_option linter.unusedVariables false
theorem zD{α β γ:Type}{a:Option α}{b:α->Option β}{f:α->β->Option γ}{r:γ}(h:Option.bind a (λx=>Option.bind (b x) (f x))=some r):∃x,a=some x/\∃y,b x=some y/\f x y=some r:=have⟨x,p,h⟩:=ck h;have⟨y,q,h⟩:=ck h;⟨x,p,y,q,h⟩
def fz(v:aV)(r:an3 AV):an3 AV:=(.d (.sl (dQ v.bn)))::(.d (.sl (oe v.dS)))::(.d (.sl (kG v.aW)))::(.d (.sl (jc v.aN)))::(.d (.sl (dQ v.du)))::r
def I3(N:Nat):an3 bj->Nat->an5 Bool
 |[],_=>
  some false
 |v4::v5,v2=>
  bif (decide ((v4.xL.length:Int)>20))then
   some true
  else
   (I3 N v5 (v2+1))
def SL(N:Nat)(v1:an3 bj):an5 Bool:=
 I3 N v1 0
def xr(N:Nat)(v2:Int)(sX:ar->Int->an5 Int):an3 ar->Nat->Int->an5 Int
 |[],_,v12=>
  some v12
 |v10::v11,v8,v12=>
  bif (decide (v12<=v2))then
   Option.bind (sX v10 (aP (v2-v12))) λaH=>
   (λb2_0=>xr N v2 sX v11 (v8+1) b2_0) (aP (v12+aH))
  else
   some v12
def JP(N:Nat)(kO:Int->an5 Int)(v2:Int):an3 bj->Nat->Int->an5 Int
 |[],_,bY=>
  kO bY
 |bB::cz,aQ,bY=>
  bif (decide (bY<=v2))then
   (λpC=>JP N kO v2 cz (aQ+1) pC) (aP (bY+(bB.xL.length:Int)))
  else
   kO bY
def Bx(N:Nat)(v2:Int)(sX:ar->Int->an5 Int):an3 ar->Nat->Int->an5 Int
 |[],_,e7=>
  some e7
 |v21::gJ,cx,e7=>
  bif (decide (e7<=v2))then
   Option.bind (sX v21 (aP (v2-e7))) λv24=>
   (λwy=>Bx N v2 sX gJ (cx+1) wy) (aP (e7+v24))
  else
   some e7
def A9(N:Nat)(v2:Int)(sX:ar->Int->an5 Int)(v1:ar):an3 cC->Nat->Int->an5 Int
 |[],_,v7=>
  xr N v2 sX v1.bM 0 v7
 |v5::v6,v3,v7=>
  bif (decide (v7<=v2))then
   JP N (λcd=>A9 N v2 sX v1 v6 (v3+1) cd) v2 v5.cM 0 (aP ((aP (v7+(v5.bq.xL.length:Int)))+(v5.cM.length:Int)))
  else
   Bx N v2 sX v1.bM 0 v7
def EJ(N:Nat):Nat->ar->Int->an5 Int
 |0,_,_=>none
 |d+1,v1,v2=>
  A9 N v2 (EJ N d) v1 v1.xIdx 0 (aP ((aP ((1:Int)+(v1.bq.xL.length:Int)))+(v1.xIdx.length:Int)))
def Tw(N:Nat)(v1:ar)(v2:Int):an5 Int:=EJ N N v1 v2
def Kz(N:Nat)(aQ:bx)(YH:an5 Bool):Nat->Int->an5 Bool
 |0,_=>none
 |bY+1,cx=>
  bif (decide (cx<(aP ((aQ.aU.length:Int)+(aQ.bV.length:Int)))))then
   bif (Nat.ble ((0+aQ.aU.length)*48) 140737488355328)then
   bif (Nat.ble ((aQ.aU.length+aQ.bV.length)*48) 140737488355328)then
   bif (decide ((0:Int)<=cx))then
   Option.bind ((aQ.aU++aQ.bV)[(cx).toNat]?) λv20=>
   bif (decide ((v20.dH.xL.length:Int)>20))then
    some true
   else
    (λwy=>Kz N aQ YH bY wy) (aP (cx+(1:Int)))
   else none
   else none
   else none
  else
   YH
def I1(N:Nat)(v2:Int):an3 bx->Nat->an5 Bool
 |[],_=>
  some false
 |aQ::bA,v12=>
  Option.bind (bif (decide ((aQ.aU.length:Int)>12))then some true else(bif (decide ((aQ.bV.length:Int)>12))then some true else (Tw N aQ.bO v2).bind λbB=>
  some (decide (bB>v2)))) λcz=>
  bif cz then
   some true
  else
   Kz N aQ (I1 N v2 bA (v12+1)) N (0:Int)
def HS(N:Nat)(v2:Int)(v1:aV):an3 eH->Nat->an5 Bool
 |[],_=>
  I1 N v2 v1.aN 0
 |v10::v11,v8=>
  Option.bind (bif (decide ((v10.aU.length:Int)>12))then some true else (SL N v10.aU).bind λv21=>
  some v21) λgJ=>
  bif gJ then
   some true
  else
   (HS N v2 v1 v11 (v8+1))
def Kt(N:Nat)(v2:Int)(v1:aV):an3 gL->Nat->an5 Bool
 |[],_=>
  HS N v2 v1 v1.aW 0
 |v6::v7,v4=>
  bif (decide ((v6.bq.xL.length:Int)>20))then
   some true
  else
   (Kt N v2 v1 v7 (v4+1))
def HO(N:Nat)(v1:aV)(v2:Int):an5 Bool:=
 Option.bind (bif (decide ((v1.bn.length:Int)>12))then some true else(bif (decide ((v1.dS.length:Int)>12))then some true else(bif (decide ((v1.aW.length:Int)>12))then some true else(bif (decide ((v1.aN.length:Int)>12))then some true else some (decide ((v1.du.length:Int)>12)))))) λv3=>
 bif v3 then
  some true
 else
  Kt N v2 v1 v1.dS 0
def Kj(N:Nat)(v1:aV):an5 Bool:=
 Option.bind (bif (decide ((if(v1.du.length:Int)>(if(v1.aN.length:Int)>(if(v1.aW.length:Int)>(v1.bn.length:Int)then(v1.aW.length:Int)else(v1.bn.length:Int))then(v1.aN.length:Int)else(if(v1.aW.length:Int)>(v1.bn.length:Int)then(v1.aW.length:Int)else(v1.bn.length:Int)))then(v1.du.length:Int)else(if(v1.aN.length:Int)>(if(v1.aW.length:Int)>(v1.bn.length:Int)then(v1.aW.length:Int)else(v1.bn.length:Int))then(v1.aN.length:Int)else(if(v1.aW.length:Int)>(v1.bn.length:Int)then(v1.aW.length:Int)else(v1.bn.length:Int))))<=64))then some (decide ((v1.dS.length:Int)<=256))else some false) λv2=>
 some v2
theorem abP{N v1}:KO 87 [(fg v1)] aK (Kj N v1):=
 fw Tryz.func87 (gA [[]] (gG (λv2=>[(2,(aK v2))]) (λ_=>[.cells (fg v1).cells]) (dO (7,oL v1.bn kR) (dO (16,oL v1.aW Aa) (dO (25,oL v1.aN xq) (dO (34,oL v1.du kR) (aE (λJ=>gE [(14,bT J)] [(52,oL v1.dS Jp)]) λJ=>gE [(14,bF J)] []))))) λv2=>gR []))
def DB(N:Nat)(v1:Int):an5 Bool:=
 Option.bind (bif (decide (v1>=97))then some (decide (v1<=122))else some false) λv2=>
 some v2
theorem Yf{N v1}:KO 213 [(.d (.v (.int .i32 v1)))] aK (DB N v1):=
 fw Tryz.func213 (gA [[]] (gG (λv2=>[(2,(aK v2))]) (λ_=>[]) (aE (λJ=>gE [(2,bT J)] []) λJ=>gE [(2,bF J)] []) λv2=>gR []))
def KU(N:Nat)(v1:Int):an5 Bool:=
 Option.bind (bif (decide (v1>=48))then some (decide (v1<=57))else some false) λv2=>
 some v2
theorem akZ{N v1}:KO 260 [(.d (.v (.int .i32 v1)))] aK (KU N v1):=
 fw Tryz.func260 (gA [[]] (gG (λv2=>[(2,(aK v2))]) (λ_=>[]) (aE (λJ=>gE [(2,bT J)] []) λJ=>gE [(2,bF J)] []) λv2=>gR []))
def KV(N:Nat)(v1:Int):an5 Bool:=
 (DB N v1).bind λv2=>
 Option.bind (bif v2 then some true else (KU N v1).bind λv3=>
 (bif v3 then some true else some (v1==95))) λv4=>
 some v4
theorem ahb{N v1}:KO 215 [(.d (.v (.int .i32 v1)))] aK (KV N v1):=
 fw Tryz.func215 (gA [[]] (az λv2 J=>gG (λv4=>[(2,(aK v4))]) (λ_=>[]) (dO (4,cK Yf J) (aE (λh2=>gE [(2,bT h2),(6,bT rfl)] []) λh2=>az λv3 h3=>eK (2,bF h2) (dO (13,cK akZ h3) (aE (λh4=>gE [(6,bT h4)] []) λh4=>gE [(6,bF h4)] [])))) λv4=>gR []))
def Fu(N:Nat)(v1:an4):Nat->Int->an5 Int
 |0,_=>none
 |v2+1,v3=>
  Option.bind (bif (decide (v3<(v1.size:Int)))then bif (decide ((0:Int)<=v3))then
  Option.bind (v1[(v3).toNat]?) λv4=>
  Option.bind (KV N (IntKind.i32.wrap (v4.toNat:Int))) λv5=>
  some v5
  else none else some false) λv6=>
  bif v6 then
   (λcd=>Fu N v1 v2 cd) (aP (v3+(1:Int)))
  else
   some v3
def GX(N:Nat)(v1:an4):an5 Int:=
 Fu N v1 N (0:Int)
theorem aeI{N v1}:KP 214 [(dk v1),(.fn 215 [])] [] aq (λ_=>[]) (GX N v1):=
 fh 0 Tryz.func214 (Vp 1 [[],[]] [0,1,5] 0 (λ(v3:Int)=>⟨21,[(0,(dk v1)),(1,(.fn 215 [])),(5,(aq v3))],[]⟩) (Fu N v1) (λv2 v3 f1 aX=>gG (λv6=>[(17,(aK v6))]) (λ_=>[]) (aE (λJ=>dN λh3=>az λv4 h2=>az λv5 h4=>gE [(4,bT J)] [(25,⟨_,_, .ch (i:=v3) (of_decide_eq_true h3) h2⟩),(31,cK ahb h4)]) λJ=>gE [(4,bF J)] []) λv6=>aE (λh6=>Qj aX (aP (v3+(1:Int))) [[t0 h6],[]]) λh6=>gH [[f0 h6],[]]))
def Mn(N:Nat):an5 (an3 an4):=some nG
theorem akL{N r}(U:Mn N=some r):fP Tryz.prog 261 [] (·=(.d (.sl (dQ r)))):=by
 cases U;exact ahS
def JV(N:Nat)(v2:an4):an3 an4->Nat->an5 Int
 |[],_=>
  some (-1:Int)
 |v5::v6,v3=>
  bif (bL v2==bL v5)then
   some (v3:Int)
  else
   (JV N v2 v6 (v3+1))
def Gy(N:Nat)(v1:an3 an4)(v2:an4):an5 Int:=
 JV N v2 v1 0
theorem al2{N v1 v2}:KO 148 [(.d (.sl (dQ v1))),(dk v2)] aq (Gy N v1 v2):=
 fw Tryz.func148 (gA [[],[(4,oL v1 kR)]] (gT sD 0 v1 λh2=>hJ 1 [] [0,1,7,8] 0 (λv3=>⟨19,[(0,(.d (.sl (dQ v1)))),(1,(dk v2)),(7,(aq (v1.length:Int))),(8,(aq (v3:Int)))],[]⟩) (λv3 h3 f1=>gR [[],[f0 (da h3)],[]]) (λv3 v5 v6 h3 f1 aX=>gA [[],[t0 (db h3)],[],[(10,oE (su (cE h3)))]] (bZ λh4=>gb aX () [[f0 h4],[(2,oq (cY h3 rfl h2))]] h3))))
def yR(N:Nat)(v1:an3 an4)(v2:an4):an5 Bool:=
 (Gy N v1 v2).bind λv3=>
 some (decide (v3>=0))
theorem Ux{N v1 v2}:KO 92 [(.d (.sl (dQ v1))),(dk v2)] aK (yR N v1 v2):=
 fw Tryz.func92 (az λv3 J=>gR [[],[(7,cK al2 J)]])
def IS(N:Nat)(v1:an4):an5 Bool:=
 (Mn N).bind λv2=>
 (yR N v2 v1).bind λv3=>
 some v3
theorem aih{N v1}:KO 216 [(dk v1)] aK (IS N v1):=
 fw Tryz.func216 (az λv2 J=>az λv3 h2=>gR [[],[(1,cL (akL J)),(7,cK Ux h2)]])
def vA(N:Nat)(v1:an4):an5 Bool:=
 Option.bind (bif (bL v1==bL (bs []))then some false else(bif (decide ((v1.size:Int)<=16))then Option.bind (v1[0]?) λv2=>
 Option.bind (DB N (IntKind.i32.wrap (v2.toNat:Int))) λv3=>
 (bif v3 then (GX N v1).bind λv4=>
 (bif (v4==(v1.size:Int))then (IS N v1).bind λv5=>
 some (!v5)else some false)else some false)else some false)) λv6=>
 some v6
theorem Jo{N v1}:KO 140 [(dk v1)] aK (vA N v1):=
 fw Tryz.func140 (gA [[]] (gG (λv6=>[(2,(aK v6))]) (λ_=>[]) (aE (λJ=>gE [(2,bF (dK J)),(7,bF rfl),(13,bF rfl),(20,bF rfl)] []) λJ=>eK (2,bT (eD J)) (aE (λh2=>az λv2 h3=>az λv3 h4=>eK (7,bT h2) (dO (28,⟨_,_, .ch (i:=0) (by decide) h3⟩) (dO (34,cK Yf h4) (aE (λh5=>az λv4 h6=>eK (13,bT h5) (dO (46,oQ [(dk v1),(.fn 215 [])] [] [] (aeI _ h6)) (aE (λh7=>az λv5 h8=>gE [(20,bT h7)] [(67,cK aih h8)]) λh7=>gE [(20,bF h7)] []))) λh5=>gE [(13,bF h5),(20,bF rfl)] [])))) λh2=>gE [(7,bF h2),(13,bF rfl),(20,bF rfl)] [])) λv6=>gR []))
def Ah(N:Nat)(v1:an4)(v2:Int)(v3:aV)(v4:an3 (an4×Int)):an5 (Int×(an3 (an4×Int))):=
 (vA N v1).bind λv5=>
 bif v5 then
  bif ((ga v4 v1 0) !=0)then
   some ((8:Int),v4)
  else
   bif (Nat.blt v4.length 9223372036854775807)then
   some ((0:Int),((v1,v2)::v4))
   else none
 else
  some ((7:Int),v4)
theorem P7{N v1 v2 v3 v4}:KP 88 [(.ptr 0 0),(dk v1),(aq v2)] [.cells (fz v3 [(.mp 1)]), .map (fa v4)] (λr=>aq r.1) (λr=>[.cells (fz v3 [(.mp 1)]), .map (fa r.2)]) (Ah N v1 v2 v3 v4):=
 fh 2 Tryz.func88 (az λv5 J=>gA [[],[(4,cK Jo J)]] (aE (λh2=>gA [[f0 (dK h2)],[(17,⟨_,_, .eq (BS false v4 v1)⟩)]] (aE (λh3=>gH [[t0 h3],[]]) λh3=>dN λh4=>gH [[f0 h3],[(19,⟨_,_, .sd (o:= .none) (Pj h4)⟩)],[]])) λh2=>gH [[t0 (eD h2)],[]]))
def iG(N:Nat)(v2:Bool):an5 Bool:=
 bif v2 then
  some true
 else
  some false
def Gd(N:Nat)(v1:an4):an5 Bool:=
 bif (bL v1==bL (bs [115,105,122,101]))then
  iG N (bL v1==bL (bs [115,105,122,101]))
 else
  bif (bL v1==bL (bs [119,104,101,114,101]))then
   iG N (bL v1==bL (bs [119,104,101,114,101]))
  else
   bif (bL v1==bL (bs [105,110]))then
    iG N (bL v1==bL (bs [105,110]))
   else
    bif (bL v1==bL (bs [100,101,102]))then
     iG N (bL v1==bL (bs [100,101,102]))
    else
     bif (bL v1==bL (bs [111,117,116]))then
      iG N (bL v1==bL (bs [111,117,116]))
     else
      bif (bL v1==bL (bs [115,117,109]))then
       iG N (bL v1==bL (bs [115,117,109]))
      else
       bif (bL v1==bL (bs [112,114,111,100]))then
        iG N (bL v1==bL (bs [112,114,111,100]))
       else
        bif (bL v1==bL (bs [109,105,110]))then
         iG N (bL v1==bL (bs [109,105,110]))
        else
         bif (bL v1==bL (bs [109,97,120]))then
          iG N (bL v1==bL (bs [109,97,120]))
         else
          bif (bL v1==bL (bs [115,99,97,110]))then
           iG N (bL v1==bL (bs [115,99,97,110]))
          else
           bif (bL v1==bL (bs [111,118,101,114]))then
            iG N (bL v1==bL (bs [111,118,101,114]))
           else
            bif (bL v1==bL (bs [105,102]))then
             iG N (bL v1==bL (bs [105,102]))
            else
             bif (bL v1==bL (bs [99,97,115,116]))then
              iG N (bL v1==bL (bs [99,97,115,116]))
             else
              bif (bL v1==bL (bs [102,114,97,99]))then
               iG N (bL v1==bL (bs [102,114,97,99]))
              else
               bif (bL v1==bL (bs [105,110,116]))then
                iG N (bL v1==bL (bs [105,110,116]))
               else
                bif (bL v1==bL (bs [102,105,120]))then
                 iG N (bL v1==bL (bs [102,105,120]))
                else
                 bif (bL v1==bL (bs [99,101,105,108]))then
                  iG N (bL v1==bL (bs [99,101,105,108]))
                 else
                  bif (bL v1==bL (bs [102,108,111,111,114]))then
                   iG N (bL v1==bL (bs [102,108,111,111,114]))
                  else
                   bif (bL v1==bL (bs [122,101,114,111]))then
                    iG N (bL v1==bL (bs [122,101,114,111]))
                   else
                    bif (bL v1==bL (bs [101,118,101,110]))then
                     iG N (bL v1==bL (bs [101,118,101,110]))
                    else
                     bif (bL v1==bL (bs [115,97,116]))then
                      iG N (bL v1==bL (bs [115,97,116]))
                     else
                      iG N (bL v1==bL (bs [119,114,97,112]))
theorem agR{N v1}:KO 226 [(dk v1)] aK (Gd N v1):=
 fw Tryz.func226 (mM 1 [[],[],[]] [4] 0 (λ(v2:Bool)=>⟨27,[(4,(aK v2))],[]⟩) (iG N) (λf1 aX=>aE (λh2=>gm aX (bL v1==bL (bs [115,105,122,101])) [[t0 h2]]) λh2=>gA [[f0 h2],[]] (aE (λh3=>gm aX (bL v1==bL (bs [119,104,101,114,101])) [[t0 h3]]) λh3=>gA [[f0 h3],[]] (aE (λh4=>gm aX (bL v1==bL (bs [105,110])) [[t0 h4]]) λh4=>gA [[f0 h4],[]] (aE (λh5=>gm aX (bL v1==bL (bs [100,101,102])) [[t0 h5]]) λh5=>gA [[f0 h5],[]] (aE (λh6=>gm aX (bL v1==bL (bs [111,117,116])) [[t0 h6]]) λh6=>gA [[f0 h6],[]] (aE (λh7=>gm aX (bL v1==bL (bs [115,117,109])) [[t0 h7]]) λh7=>gA [[f0 h7],[]] (aE (λh8=>gm aX (bL v1==bL (bs [112,114,111,100])) [[t0 h8]]) λh8=>gA [[f0 h8],[]] (aE (λh9=>gm aX (bL v1==bL (bs [109,105,110])) [[t0 h9]]) λh9=>gA [[f0 h9],[]] (aE (λbE=>gm aX (bL v1==bL (bs [109,97,120])) [[t0 bE]]) λbE=>gA [[f0 bE],[]] (aE (λbD=>gm aX (bL v1==bL (bs [115,99,97,110])) [[t0 bD]]) λbD=>gA [[f0 bD],[]] (aE (λcl=>gm aX (bL v1==bL (bs [111,118,101,114])) [[t0 cl]]) λcl=>gA [[f0 cl],[]] (aE (λcX=>gm aX (bL v1==bL (bs [105,102])) [[t0 cX]]) λcX=>gA [[f0 cX],[]] (aE (λcP=>gm aX (bL v1==bL (bs [99,97,115,116])) [[t0 cP]]) λcP=>gA [[f0 cP],[]] (aE (λdm=>gm aX (bL v1==bL (bs [102,114,97,99])) [[t0 dm]]) λdm=>gA [[f0 dm],[]] (aE (λdd=>gm aX (bL v1==bL (bs [105,110,116])) [[t0 dd]]) λdd=>gA [[f0 dd],[]] (aE (λeY=>gm aX (bL v1==bL (bs [102,105,120])) [[t0 eY]]) λeY=>gA [[f0 eY],[]] (aE (λfU=>gm aX (bL v1==bL (bs [99,101,105,108])) [[t0 fU]]) λfU=>gA [[f0 fU],[]] (aE (λgY=>gm aX (bL v1==bL (bs [102,108,111,111,114])) [[t0 gY]]) λgY=>gA [[f0 gY],[]] (aE (λgD=>gm aX (bL v1==bL (bs [122,101,114,111])) [[t0 gD]]) λgD=>gA [[f0 gD],[]] (aE (λlu=>gm aX (bL v1==bL (bs [101,118,101,110])) [[t0 lu]]) λlu=>gA [[f0 lu],[]] (aE (λm4=>gm aX (bL v1==bL (bs [115,97,116])) [[t0 m4]]) λm4=>gm aX (bL v1==bL (bs [119,114,97,112])) [[f0 m4],[]]))))))))))))))))))))) (λv2=>bZ λJ=>gR [[f0 J],[]]))
def zZ(N:Nat)(v1:an4):Nat->Int->an5 Bool
 |0,_=>none
 |v5+1,v6=>
  bif (decide (v6<(v1.size:Int)))then
   bif (decide ((0:Int)<=v6))then
   Option.bind (v1[(v6).toNat]?) λv7=>
   Option.bind (bif (decide ((v7.toNat:Int)<97))then(bif (decide ((v7.toNat:Int)<48))then some ((v7.toNat:Int) !=95)else(bif (decide ((v7.toNat:Int)>57))then some ((v7.toNat:Int) !=95)else some false))else(bif (decide ((v7.toNat:Int)>122))then(bif (decide ((v7.toNat:Int)<48))then some ((v7.toNat:Int) !=95)else(bif (decide ((v7.toNat:Int)>57))then some ((v7.toNat:Int) !=95)else some false))else some false)) λv8=>
   bif v8 then
    some false
   else
    (λcd=>zZ N v1 v5 cd) (aP (v6+(1:Int)))
   else none
  else
   some true
def IK(N:Nat)(v1:an4):an5 Bool:=
 Option.bind (bif (decide ((v1.size:Int)<1))then some true else(bif (decide ((v1.size:Int)>16))then some true else (Gd N v1).bind λv2=>
 (bif v2 then some true else Option.bind (v1[0]?) λv3=>
 (bif (decide ((v3.toNat:Int)<97))then some true else some (decide ((v3.toNat:Int)>122)))))) λv4=>
 bif v4 then
  some false
 else
  zZ N v1 N (0:Int)
theorem acX{N v1}:KO 169 [(dk v1)] aK (IK N v1):=
 fw Tryz.func169 (gA [[]] (gG (λv4=>[(26,(aK v4))]) (λ_=>[]) (aE (λJ=>gE [(3,bT J),(8,bT rfl),(12,bT rfl),(17,bT rfl)] []) λJ=>eK (3,bF J) (aE (λh2=>gE [(8,bT h2),(12,bT rfl),(17,bT rfl)] []) λh2=>az λv2 h3=>eK (8,bF h2) (dO (31,cK agR h3) (aE (λh4=>gE [(12,bT h4),(17,bT rfl)] []) λh4=>az λv3 h5=>eK (12,bF h4) (dO (43,⟨_,_, .ch (i:=0) (by decide) h5⟩) (aE (λh6=>gE [(17,bT h6)] []) λh6=>gE [(17,bF h6)] [(58,⟨_,_, .ch (i:=0) (by decide) h5⟩)])))))) λv4=>bZ λh8=>Vp 1 [[f0 h8],[]] [0,28,29] 0 (λ(v6:Int)=>⟨54,[(0,(dk v1)),(28,(aq (v1.size:Int))),(29,(aq v6))],[]⟩) (zZ N v1) (λv5 v6 f1 aX=>gA [[]] (tQ λh9=>dN λbD=>az λv7 bE=>gA [[t0 h9],[],[(7,⟨_,_, .ch (i:=v6) (of_decide_eq_true bD) bE⟩)]] (gG (λv8=>[(52,(aK v8))]) (λ_=>[]) (aE (λcl=>eK (2,bT cl) (eK (6,bT rfl) (aE (λcX=>gE [(9,bT cX),(14,bT rfl)] [(37,bT cX)]) λcX=>eK (9,bF cX) (dO (37,bF cX) (aE (λcP=>gE [(14,bT cP)] []) λcP=>gE [(14,bF cP)] []))))) λcl=>eK (2,bF cl) (aE (λdm=>eK (6,bT dm) (aE (λdd=>gE [(9,bT dd),(14,bT rfl)] [(37,bT dd)]) λdd=>eK (9,bF dd) (dO (37,bF dd) (aE (λeY=>gE [(14,bT eY)] []) λeY=>gE [(14,bF eY)] [])))) λdm=>gE [(6,bF dm),(9,uN),(14,bF rfl)] [])) λv8=>bZ λgY=>Qj aX (aP (v6+(1:Int))) [[f0 gY],[]])))))
def G8(N:Nat)(v1:bj):an3 c8->Nat->an5 Int
 |[],_=>
  some (0:Int)
 |v4::v5,v2=>
  (IK N v4.au).bind λv6=>
  Option.bind (bif v6 then(bif (v4.eF.toInt==0)then some true else(bif (decide ((v2:Int)>0))then bif (decide ((0:Int)<=(aP ((v2:Int)-(1:Int)))))then
  Option.bind (v1.xL[((aP ((v2:Int)-(1:Int)))).toNat]?) λv7=>
  some (!(Op.bytesLess (bL v7.au) (bL v4.au)))
  else none else some false))else some true) λv8=>
  bif v8 then
   some (1:Int)
  else
   (G8 N v1 v5 (v2+1))
def zV(N:Nat)(v1:bj):an5 Int:=
 G8 N v1 v1.xL 0
theorem GF{N v1}:KO 109 [(dZ v1)] aq (zV N v1):=
 fw Tryz.func109 (gA [[],[(7,oL v1.xL uU)]] (gT HX 6 v1.xL λh2=>hJ 1 [] [1,6,7,8] 1 (λv2=>⟨39,[(1,(.ptr 0 0)),(6,(.d (.sl (gr v1.xL)))),(7,(aq (v1.xL.length:Int))),(8,(aq (v2:Int)))],[.cells (dZ v1).cells]⟩) (λv2 h3 f1=>gR [[],[f0 (da h3)],[]]) (λv2 v4 v5 h3 f1 aX=>gA [[],[t0 (db h3)],[(4,oE (Ed (cE h3)))]] (az λv6 h4=>gG (λv8=>[(37,(aK v8))]) (λ_=>[.cells (dZ v1).cells, .cells (rQ v4).cells]) (dO (7,cK acX h4) (aE (λh5=>eK (4,bF (dK h5)) (aE (λh6=>gE [(9,bT h6),(12,uN)] []) λh6=>eK (9,bF h6) (aE (λh7=>dN λh9=>az λv7 h8=>gE [(12,bT h7)] [(52,⟨_,_, .el (xs:=gr v1.xL) (i:=(aP ((v2:Int)-(1:Int)))) (of_decide_eq_true h9) (Ed h8)⟩),(70,bT h7)]) λh7=>gE [(12,bF h7)] [(70,bF h7)]))) λh5=>gE [(4,bT (eD h5)),(9,bT rfl),(12,uN)] [])) λv8=>bZ λbD=>gb aX () [[f0 bD],[(2,oq (cY h3 rfl h2))]] h3))))
def PC(N:Nat)(v1:gL):an5 Int:=
 (zV N v1.bq).bind λv2=>
 some v2
theorem acF{N v1}:KO 141 [(vu v1)] aq (PC N v1):=
 fw Tryz.func141 (az λv2 J=>gR [[],[(7,cK GF J)]])
def G5(N:Nat)(v3:an3 (an4×Int)):an3 c8->Nat->an5 Int
 |[],_=>
  some (0:Int)
 |v7::v8,v5=>
  bif ((ga v3 v7.au 0) !=1)then
   some (9:Int)
  else
   (G5 N v3 v8 (v5+1))
def yD(N:Nat)(v1:bj)(v2:aV)(v3:an3 (an4×Int)):an5 Int:=
 (zV N v1).bind λv4=>
 bif (v4 !=0)then
  some (1:Int)
 else
  G5 N v3 v1.xL 0
theorem NK{N v1 v2 v3}:KP 142 [(.ptr 0 0),(dZ v1)] [.cells (fz v2 [(.mp 1)]), .map (fa v3)] aq (λ_=>[.cells (fz v2 [(.mp 1)]), .map (fa v3)]) (yD N v1 v2 v3):=
 fh 2 Tryz.func142 (az λv4 J=>gA [[],[(4,cK GF J)]] (aE (λh2=>gH [[t0 h2],[]]) λh2=>gA [[f0 h2],[(7,oL v1.xL uU)]] (gT HX 11 v1.xL λh4=>hJ 1 [] [0,11,12,13] 3 (λv5=>⟨26,[(0,(.ptr 0 0)),(11,(.d (.sl (gr v1.xL)))),(12,(aq (v1.xL.length:Int))),(13,(aq (v5:Int)))],[.cells (fz v2 [(.mp 1)]), .map (fa v3), .cells (dZ v1).cells]⟩) (λv5 h5 f1=>gH [[],[f0 (da h5)],[]]) (λv5 v7 v8 h5 f1 aX=>gA [[],[t0 (db h5)],[(1,oE (Ed (cE h5)))],[(20,⟨_,_, .eq (BS false v3 v7.au)⟩)]] (aE (λh6=>gH [[t0 h6],[]]) λh6=>gb aX () [[f0 h6],[(2,oq (cY h5 rfl h4))]] h5)))))
def IA(N:Nat)(v1:gL)(v2:aV)(v3:an3 (an4×Int)):an5 Int:=
 (PC N v1).bind λv4=>
 bif (v4 !=0)then
  some (1:Int)
 else
  (yD N v1.bq v2 v3).bind λv5=>
  some v5
theorem ac5{N v1 v2 v3}:KP 89 [(.ptr 0 0),(vu v1)] [.cells (fz v2 [(.mp 1)]), .map (fa v3)] aq (λ_=>[.cells (fz v2 [(.mp 1)]), .map (fa v3)]) (IA N v1 v2 v3):=
 fh 2 Tryz.func89 (az λv4 J=>gA [[],[(4,cK acF J)]] (aE (λh2=>gH [[t0 h2],[]]) λh2=>az λv5 h3=>gH [[f0 h2],[(10,oQ [(.ptr 0 0),(dZ v1.bq)] [.cells (fz v2 [(.mp 1)]), .map (fa v3), .cells (vu v1).cells] [0,1] (NK _ h3))]]))
def M9(N:Nat)(v1:aF):an5 Bool:=
 some ((v1.bk==v1.bk)&&((v1.bX==0)&&((v1.bS==0)&&((v1.ct==0)&&((v1.cu==0)&&true)))))
theorem ahY{N v1}:KO 178 [(cr v1)] aK (M9 N v1):=
 fw Tryz.func178 (gR [[],[]])
def ur(N:Nat)(v1:aF):an5 Int:=
 Option.bind (bif (decide (v1.ct>=1))then(bif (decide (v1.ct<=4))then(bif (v1.cu==1)then some true else some (v1.cu==2))else some false)else some false) λv2=>
 Option.bind (bif (v1.bk !=2)then some true else(bif (decide (v1.bX<2))then some true else(bif (decide (v1.bX>31))then some true else(bif (decide (v1.bS<0))then some true else(bif (decide (v1.bS>30))then some true else some (!v2)))))) λv3=>
 bif v3 then
  some (10:Int)
 else
  some (0:Int)
theorem GH{N v1}:KO 179 [(cr v1)] aq (ur N v1):=
 fw Tryz.func179 (gA [[]] (gG (λv2=>[(3,(aK v2))]) (λ_=>[.cells (cr v1).cells]) (aE (λJ=>eK (3,bT J) (aE (λh2=>eK (8,bT h2) (aE (λh3=>gE [(12,bT h3)] [(49,bT h3)]) λh3=>gE [(12,bF h3)] [(49,bF h3)])) λh2=>gE [(8,bF h2),(12,uN)] [])) λJ=>gE [(3,bF J),(8,bF rfl),(12,uN)] []) λv2=>gG (λv3=>[(48,(aK v3))]) (λ_=>[.cells (cr v1).cells]) (aE (λh5=>gE [(3,bT h5),(8,bT rfl),(13,bT rfl),(18,bT rfl),(23,bT rfl)] []) λh5=>eK (3,bF h5) (aE (λh6=>gE [(8,bT h6),(13,bT rfl),(18,bT rfl),(23,bT rfl)] []) λh6=>eK (8,bF h6) (aE (λh7=>gE [(13,bT h7),(18,bT rfl),(23,bT rfl)] []) λh7=>eK (13,bF h7) (aE (λh8=>gE [(18,bT h8),(23,bT rfl)] []) λh8=>eK (18,bF h8) (aE (λh9=>gE [(23,bT h9)] []) λh9=>gE [(23,bF h9)] []))))) λv3=>bZ λbD=>gR [[f0 bD],[]]))
def GI(N:Nat)(v1:aF)(v2:Bool):an5 Int:=
 bif v2 then
  (M9 N v1).bind λv3=>
  bif v3 then
   some (0:Int)
  else
   some (10:Int)
 else
  bif (v1.bk==2)then
   (ur N v1).bind λv4=>
   bif (v4==0)then
    some (0:Int)
   else
    some (10:Int)
  else
   some (10:Int)
def l4(N:Nat)(v1:aF):an5 Int:=
 bif (v1.bk==1)then
  GI N v1 (v1.bk==1)
 else
  GI N v1 (v1.bk==3)
theorem oy{N v1}:KO 116 [(cr v1)] aq (l4 N v1):=
 fw Tryz.func116 (mM 1 [[],[],[]] [1,4,5] 1 (λ(v2:Bool)=>⟨15,[(1,(.ptr 0 0)),(4,(aq v1.bk)),(5,(aK v2))],[.cells (cr v1).cells]⟩) (GI N v1) (λf1 aX=>aE (λh7=>gm aX (v1.bk==1) [[t0 h7]]) λh7=>gm aX (v1.bk==3) [[f0 h7],[]]) (λv2=>aE (λJ=>az λv3 h2=>gA [[t0 J],[(4,cK ahY h2)]] (bZ λh3=>gR [[f0 h3],[]])) λJ=>gA [[f0 J],[]] (tQ λh4=>az λv4 h5=>gA [[t0 h4],[(4,cK GH h5)]] (bZ λh6=>gR [[f0 h6],[]]))))
def EM(N:Nat):an3 Int->Nat->Int->an5 Int
 |[],_,v7=>
  some v7
 |v5::v6,v3,v7=>
  (λb2_0=>EM N v6 (v3+1) b2_0) (if v5>v7 then v5 else v7)
def Pw(N:Nat)(v1:an3 Int):an5 Int:=
 Option.bind (v1[0]?) λv2=>
 EM N (v1.drop 1) 1 v2
def Ck(N:Nat)(v1:an3 Int):an5 Int:=
 bif (decide ((v1.length:Int)<1))then
  none
 else
  Pw N v1
theorem acP{N v1 r}(U:Ck N v1=some r):KF 217 [(.d (.sl (bu v1)))] (aq r):=by
 rw[Ck]at U;refine Nj Tryz.func217 ?_;refine wj0 bW r 1 [[],[(4,oL v1 dInts_len)]] [0] 0 ⟨25,[(0,(.d (.sl (bu v1))))],[]⟩ (Pw N v1) ?_ ?_
 ·intro f1 aX;apply bc U<;>intro h5 U
  ·cases U
  exact l9 bW aX () [[(0,bF h5)]] U
 intro U;rw[Pw]at U;obtain⟨v2,J,U⟩:=ck U;refine je bW [[(4,oE (k:=0) (ko J))],[]] ?_;refine JE oF 0 v1 λh3=> ?_;refine P8 bW 2 [] [0,3,4] 0 (λ((v3,v4,v7):Nat×(an3 Int)×Int)=>⟨25,[(0,(.d (.sl (bu v1)))),(3,(aq v7)),(4,(aq (v3:Int)))],[]⟩) (λ((v3,v4,v7):Nat×(an3 Int)×Int)=>v1.drop v3=v4/\EM N v4 v3 v7=some r) (λ((v3,v4,v7):Nat×(an3 Int)×Int)=>v4.length) (1,(v1.drop 1),v2) ⟨rfl,U⟩ ?_;rintro⟨v3,v4,v7⟩ ⟨h4,U⟩ f2 gw;cases v4 with
 |nil=>
  rw[EM]at U;cases U;exact wr bW [[(7,oL v1 dInts_len)],[(0,bF (da h4))],[]]
 |cons v5 v6=>
  rw[EM]at U;exact MG bW gw (v3+1,v6,(if v5>v7 then v5 else v7)) [[(7,oL v1 dInts_len)],[(0,bT (db h4))],[(10,oE (ko (cE h4)))],[(5,oq (cY h4 rfl h3))]] ⟨mB h4,U⟩
def vt(N:Nat)(v1:aF)(v2:an3 Int):an5 Int:=
 (l4 N v1).bind λv3=>
 bif (v3 !=0)then
  some (10:Int)
 else
  (Ck N v2).bind λv4=>
  bif (decide (v4>6))then
   some (11:Int)
  else
   some (0:Int)
theorem aai{N v1 v2}:KO 143 [(cr v1),(.d (.sl (bu v2)))] aq (vt N v1 v2):=
 fw Tryz.func143 (az λv3 J=>gA [[],[(4,cK oy J)]] (bZ λh2=>az λv4 h3=>gA [[f0 h2],[(4,cL (acP h3))]] (bZ λh4=>gR [[f0 h4],[]])))
def H0(N:Nat)(v4:Int×(an3 (an4×Int)))(v2:aV):an3 bj->Nat->an5 (Int×(an3 (an4×Int)))
 |[],_=>
  some ((0:Int),v4.2)
 |v8::v9,v6=>
  (yD N v8 v2 v4.2).bind λv10=>
  bif (v10 !=0)then
   some (v10,v4.2)
  else
   (H0 N v4 v2 v9 (v6+1))
def Jj(N:Nat)(v1:eH)(v2:aV)(v3:an3 (an4×Int)):an5 (Int×(an3 (an4×Int))):=
 Option.bind (Ah N v1.au (2:Int) v2 v3) λv4=>
 bif (v4.1 !=0)then
  some (v4.1,v4.2)
 else
  Option.bind (vt N v1.aB ([(v1.aU.length:Int)])) λv5=>
  bif (v5 !=0)then
   some (v5,v4.2)
  else
   H0 N v4 v2 v1.aU 0
def xt(v2:aV)(l:an3 ao):an3 ao:= .cells (fz v2 [(.mp 1)])::l
theorem alf{N v1 v2 v3}:KP 90 [(.ptr 0 0),(pJ v1)] [.cells (fz v2 [(.mp 1)]), .map (fa v3)] (λr=>aq r.1) (λr=>[.cells (fz v2 [(.mp 1)]), .map (fa r.2)]) (Jj N v1 v2 v3):=
 fh 2 Tryz.func90 (az λv4 J=>gA [[],[(10,oR [(.ptr 0 0),(dk v1.au),(aq (2:Int))] (xt v2 [.map (fa v3), .cells (pJ v1).cells]) [0,1] (P7 _ J))],[]] (aE (λh2=>gH [[t0 h2],[]]) λh2=>az λv5 h3=>gA [[f0 h2],[(13,oL v1.aU lY),(19,cK aai h3)],[]] (aE (λh4=>gH [[t0 h4],[]]) λh4=>gA [[f0 h4],[(7,oL v1.aU lY)]] (gT tF 28 v1.aU λh6=>hJ 1 [] [0,28,29,30] 3 (λv6=>⟨41,[(0,(.ptr 0 0)),(28,(.d (.sl (gC v1.aU)))),(29,(aq (v1.aU.length:Int))),(30,(aq (v6:Int)))],(xt v2 [.map (fa v4.2), .cells (pJ v1).cells])⟩) (λv6 h7 f1=>gH [[],[f0 (da h7)],[]]) (λv6 v8 v9 h7 f1 aX=>az λv10 h8=>gA [[],[t0 (db h7)],[(1,oE (yd (cE h7)))],[(7,oQ [(.ptr 0 0),(dZ v8)] (xt v2 [.map (fa v4.2), .cells (pJ v1).cells, .cells (dZ v8).cells]) [0,1] (NK _ h8))],[]] (aE (λh9=>gH [[t0 h9],[]]) λh9=>gb aX () [[f0 h9],[(2,oq (cY h7 rfl h6))]] h7))))))
def Mi(N:Nat)(v1:Int):an5 Unit:=bif decide ((0:Int)<=v1)&&Nat.ble (v1.toNat*48) 140737488355328 then some ()else none
theorem ae7{N v1 r}(U:Mi N v1=some r):cF Tryz.prog 262 [.d (.v (.slice none 0 0)),(aq v1)] [] λr1 J=>r1= .own 0 []/\J=[.front 63 3 0]:=by
 obtain⟨hb,_⟩:=dT U;rw[ang]at hb;have e:Int.ofNat v1.toNat=v1:=Int.toNat_of_nonneg (of_decide_eq_true hb.1);have h:=aip hb.2;rw[e]at h;exact h
def xp(N:Nat):an3 (an3 dh)->Nat->(an3 dh)->an5 ((an3 dh))
 |[],_,v12=>
  some v12
 |v10::v11,v8,v12=>
  bif (Nat.ble ((v12.length+v10.length)*48) 140737488355328)then
  (λb2_0=>xp N v11 (v8+1) b2_0) (v12++v10)
  else none
def uq(N:Nat)(v1:an3 (an3 dh)):an3 (an3 dh)->Nat->Int->an5 ((an3 dh))
 |[],_,v6=>
  (Mi N v6).bind λv7=>
  xp N v1 0 []
 |v4::v5,v2,v6=>
  bif (decide ((aP (v6+(v4.length:Int)))<0))then
   none
  else
   (λcd=>uq N v1 v5 (v2+1) cd) (aP (v6+(v4.length:Int)))
def zX(N:Nat)(v1:an3 (an3 dh)):an5 ((an3 dh)):=
 uq N v1 v1 0 (0:Int)
theorem Xx{N v1 r}(U:zX N v1=some r):KF 218 [(.d (.sl (oB v1)))] (.d (.sl (iV r))):=by
 rw[zX]at U;refine Nj Tryz.func218 ?_;refine je bW [[],[],[(4,oL v1 Re)]] ?_;refine JE VS 0 v1 λh2=> ?_;refine Og bW 1 [] [0,3,9,10,11] 0 v1 (λv2(v6:Int)=>⟨36,[(0,(.d (.sl (oB v1)))),(3,(aq v6)),(9,(.d (.sl (oB v1)))),(10,(aq (v1.length:Int))),(11,(aq (v2:Int)))],[]⟩) (uq N v1) (0:Int) U ?_ ?_
 ·intro v2 v6 h3 U f1;rw[uq]at U;obtain⟨v7,h4,U⟩:=ck U;refine je bW [[],[(0,bF (da h3))],[(4,⟨_,_, .jP (ae7 h4)⟩)],[(4,oL v1 Re)]] ?_;refine JE VS 0 v1 λh6=> ?_;refine Og bW 2 [] [6,25,26,27] 1 v1 (λv8(v12:an3 dh)=>⟨36,[(6,(.own 0 (iV v12))),(25,(.d (.sl (oB v1)))),(26,(aq (v1.length:Int))),(27,(aq (v8:Int)))],[.front 63 3 v12.length]⟩) (xp N) [] U ?_ ?_
  ·intro v8 v12 h7 U f2;rw[xp]at U;cases U;exact wr bW [[],[(0,bF (da h7))],[]]
  intro v8 v10 v11 v12 h7 U f2 gw;rw[xp]at U;obtain⟨h8,U⟩:=uJ U;exact wb bW gw (v12++v10) [[],[(0,bT (db h7))],[(1,oE (Ya (cE h7)))],[(7,oA Ag v12 v10 h8)],[(2,oq (cY h7 rfl h6))]] h7 U
 intro v2 v4 v5 v6 h3 U f1 aX;rw[uq]at U;refine je bW [[],[(0,bT (db h3))],[(1,oE (Ya (cE h3)))],[(7,oL v4 nB)],[]] ?_;apply bc U<;>intro h9 U
 ·cases U
 exact wb bW aX (aP (v6+(v4.length:Int))) [[(0,bF h9)],[(2,oq (cY h3 rfl h2))]] h3 U
def Kf(N:Nat)(v3:an3 (an4×Int))(v2:aV):an3 dh->Nat->(an3 (an4×Bool))->an5 Int
 |[],_,_=>
  some (0:Int)
 |v7::v8,v5,v9=>
  (vA N v7.au).bind λv10=>
  bif v10 then
   Option.bind (bif (ga v9 v7.au false)then some true else some ((ga v3 v7.au 0)==1)) λv11=>
   bif v11 then
    some (8:Int)
   else
    bif (Nat.blt v9.length 9223372036854775807)then
    (yD N v7.dH v2 v3).bind λv12=>
    bif (v12 !=0)then
     some v12
    else
     (λcd=>Kf N v3 v2 v8 (v5+1) cd) ((v7.au,true)::v9)
    else none
  else
   some (7:Int)
def Ii(N:Nat)(v1:bx)(v2:aV)(v3:an3 (an4×Int)):an5 Int:=
 Option.bind (zX N ([v1.aU,v1.bV])) λv4=>
 Kf N v3 v2 v4 0 []
def ql(v2:aV)(v3:an3 (an4×Int))(v1:bx)(l:an3 ao):an3 ao:= .cells (fz v2 [(.mp 1)]):: .map (fa v3):: .cells (gg v1).cells::l
theorem abJ{N v1 v2 v3}:KP 144 [(.ptr 0 0),(gg v1)] [.cells (fz v2 [(.mp 1)]), .map (fa v3)] aq (λ_=>[.cells (fz v2 [(.mp 1)]), .map (fa v3)]) (Ii N v1 v2 v3):=
 fh 2 Tryz.func144 (az λv4 J=>gA [[],[],[(16,cL (Xx J)),(19,oL v4 nB)]] (gT Ag 15 v4 λh3=>jo 1 [] [0,5,15,16,17] 4 (λv5(v9:an3 (an4×Bool))=>⟨52,[(0,(.ptr 0 0)),(5,(.mp 3)),(15,(.d (.sl (iV v4)))),(16,(aq (v4.length:Int))),(17,(aq (v5:Int)))],(ql v2 v3 v1 [.map (zR v9)])⟩) (λv5 v9 h4 f1=>gH [[],[f0 (da h4)],[]]) (λv5 v7 v8 v9 h4 f1 aX=>az λv10 h5=>gA [[],[t0 (db h4)],[(1,oE (EO (cE h4)))],[(7,cK Jo h5)]] (aE (λh6=>gA [[f0 (dK h6)]] (gG (λv11=>[(26,(aK v11))]) (λ_=>(ql v2 v3 v1 [.map (zR v9), .cells (aab v7).cells])) (dO (11,⟨_,_, .eq (aeM false v9 v7.au)⟩) (aE (λh7=>gE [(4,bT h7)] []) λh7=>gE [(4,bF h7)] [(35,⟨_,_, .eq (BS false v3 v7.au)⟩)])) λv11=>aE (λh9=>gH [[t0 h9],[]]) λh9=>dN λbE=>az λv12 bD=>gA [[f0 h9],[(10,⟨_,_, .sd (o:= .none) (ahE bE)⟩)],[(10,oQ [(.ptr 0 0),(dZ v7.dH)] (ql v2 v3 v1 [.map (zR ((v7.au,true)::v9)), .cells (aab v7).cells]) [0,1] (NK _ bD))],[]] (aE (λcl=>gH [[t0 cl],[]]) λcl=>gb aX ((v7.au,true)::v9) [[f0 cl],[(2,oq (cY h4 rfl h3))]] h4))) λh6=>gH [[t0 (eD h6)],[]]))))
def Bl(N:Nat)(v1:bx)(v2:Bool):an5 Int:=
 bif v2 then
  bif ((v1.bV.length:Int)==0)then
   some (11:Int)
  else
   some (0:Int)
 else
  bif (v1.c9==5)then
   Option.bind (bif (decide ((v1.bV.length:Int)>0))then some true else some ((v1.aU.length:Int)==0)) λv3=>
   bif v3 then
    some (11:Int)
   else
    some (0:Int)
  else
   some (1:Int)
def KI(N:Nat)(v1:bx):an5 Int:=
 bif (v1.c9==0)then
  bif (decide ((v1.bV.length:Int)>0))then
   some (11:Int)
  else
   some (0:Int)
 else
  bif (v1.c9==1)then
   Bl N v1 (v1.c9==1)
  else
   bif (v1.c9==2)then
    Bl N v1 (v1.c9==2)
   else
    bif (v1.c9==3)then
     Bl N v1 (v1.c9==3)
    else
     Bl N v1 (v1.c9==4)
theorem ag7{N v1}:KO 145 [(gg v1)] aq (KI N v1):=
 fw Tryz.func145 (gA [[],[],[]] (aE (λJ=>gA [[t0 J],[(7,oL v1.bV nB)]] (bZ λh2=>gR [[f0 h2],[]])) λJ=>mM 1 [[f0 J],[]] [1,4,11] 1 (λ(v2:Bool)=>⟨32,[(1,(.ptr 0 0)),(4,(aq v1.c9)),(11,(aK v2))],[.cells (gg v1).cells]⟩) (Bl N v1) (λf1 aX=>aE (λh9=>gm aX (v1.c9==1) [[t0 h9]]) λh9=>gA [[f0 h9],[]] (aE (λbE=>gm aX (v1.c9==2) [[t0 bE]]) λbE=>gA [[f0 bE],[]] (aE (λbD=>gm aX (v1.c9==3) [[t0 bD]]) λbD=>gm aX (v1.c9==4) [[f0 bD],[]]))) (λv2=>aE (λh3=>gA [[t0 h3],[(7,oL v1.bV nB)]] (bZ λh4=>gR [[f0 h4],[]])) λh3=>gA [[f0 h3],[]] (tQ λh5=>gA [[t0 h5]] (gG (λv3=>[(31,(aK v3))]) (λ_=>[.cells (gg v1).cells]) (dO (7,oL v1.bV nB) (aE (λh6=>gE [(4,bT h6)] []) λh6=>gE [(4,bF h6)] [(22,oL v1.aU nB)])) λv3=>bZ λh8=>gR [[f0 h8],[]])))))
def D8(N:Nat):an3 dh->Nat->(an3 an4)->an5 ((an3 an4))
 |[],_,v7=>
  some v7
 |v5::v6,v3,v7=>
  bif (Nat.ble ((v7.length+1)*16) 140737488355328)then
  (λcd=>D8 N v6 (v3+1) cd) (v7++[v5.au])
  else none
def Kn(N:Nat)(v1:bx):an5 ((an3 an4)):=
 Option.bind (zX N ([v1.aU,v1.bV])) λv2=>
 D8 N v2 0 []
theorem afE{N v1}:KO 147 [(gg v1)] (λr=> .d (.sl (dQ r))) (Kn N v1):=
 fw Tryz.func147 (az λv2 J=>gA [[],[],[(16,cL (Xx J)),(19,oL v2 nB)]] (li (λ_=>(tC 3 9 1 [] (.inr (by kernel_rfl)) ·)) (gT Ag 11 v2 λh3=>jo 1 [] [3,11,12,13] 2 (λv3(v7:an3 an4)=>⟨24,[(3,(.own 1 (dQ v7))),(11,(.d (.sl (iV v2)))),(12,(aq (v2.length:Int))),(13,(aq (v3:Int)))],[.cells (gg v1).cells, .front 9 1 v7.length]⟩) (λv3 v7 h4 f1=>gR [[],[f0 (da h4)],[]]) (λv3 v5 v6 v7 h4 f1 aX=>dN λh5=>gb aX (v7++[v5.au]) [[],[t0 (db h4)],[(1,oE (EO (cE h4)))],[(13,oA sD v7 ([v5.au]) h5)],[(2,oq (cY h4 rfl h3))]] h4))))
def F9(N:Nat)(SS:ar->Int->an5 Int)(v2:Int):an3 ar->Nat->Int->an5 Int
 |[],_,v7=>
  some v7
 |v5::v6,v3,v7=>
  Option.bind (SS v5 (aP (v2-(1:Int)))) λv8=>
  (λcd=>F9 N SS v2 v6 (v3+1) cd) (if(aP ((1:Int)+v8))>v7 then(aP ((1:Int)+v8))else v7)
def qE(N:Nat):Nat->ar->Int->an5 Int
 |0,_,_=>none
 |d+1,v1,v2=>
  bif (decide (v2<=1))then
   some v2
  else
   F9 N (qE N d) v2 v1.bM 0 (1:Int)
def MX(N:Nat)(v1:ar)(v2:Int):an5 Int:=qE N N v1 v2
theorem af1(N:Nat):∀d:Nat,(∀{v1:ar}{v2:Int},KO 100 [(aM v1),(aq v2)] aq (qE N d v1 v2)):=by
 intro d
 induction d with
 |zero=>intro v1 v2 r U;rw[qE]at U;cases U
 |succ d ih=>
  have adO:= @ih;intro v1 v2;rw[qE];exact fw Tryz.func100 (gA [[],[]] (bZ λJ=>gA [[(0,bF J)],[],[(7,oL v1.bM vY)]] (gT Lx 12 v1.bM λh3=>jo 1 [] [1,5,12,13,14] 1 (λv3(v7:Int)=>⟨27,[(1,(aq v2)),(5,(aq v7)),(12,(.d (.sl (iO v1.bM)))),(13,(aq (v1.bM.length:Int))),(14,(aq (v3:Int)))],[.cells (aM v1).cells]⟩) (λv3 v7 h4 f1=>gR [[],[(0,bF (da h4))],[]]) (λv3 v5 v6 v7 h4 f1 aX=>az λv8 h5=>gb aX (if(aP ((1:Int)+v8))>v7 then(aP ((1:Int)+v8))else v7) [[],[(0,bT (db h4))],[(1,oE (n6 (cE h4)))],[(13,cK adO h5)],[(2,oq (cY h4 rfl h3))]] h4))))
theorem aet{N v1 v2}:KO 100 [(aM v1),(aq v2)] aq (MX N v1 v2):=(af1 N N)
def PM(N:Nat)(v1:ar):an5 Int:=
 Option.bind (MX N v1 (41:Int)) λv2=>
 some v2
theorem al5{N v1}:KO 59 [(aM v1)] aq (PM N v1):=
 fw Tryz.func59 (az λv2 J=>gR [[],[(4,cK aet J)]])
def AW(N:Nat)(v1:ar):an5 ar:=some v1
theorem Qu{N v1 r}(U:AW N v1=some r):fP Tryz.prog 61 [(aM v1)] (·=(.fn 101 [(.bg [fc r] 0 0)])):=by
 cases U;exact aen v1
def tc(N:Nat):an3 ar->Int->an5 Int
 |[],v3=>
  some v3
 |_::v5,v3=>
  bif (decide ((aP (v3+(1:Int)))>2000))then
   some (aP (v3+(1:Int)))
  else
   (λcd=>tc N v5 cd) (aP (v3+(1:Int)))
def DM(N:Nat)(v1:ar):an5 Int:=
 (AW N v1).bind λv2=>
 tc N (dB v2) (0:Int)
def qt(v1:ar)(v3:Int)(l:an3 ao):an3 ao:= .cells (aM v1).cells:: .cells [(aq (aP (v3+(1:Int))))]::l
def FA(v1:ar)(v3:Int)(l:an3 ao):an3 ao:= .cells (aM v1).cells:: .cells [(aq v3)]::l
def Rf(v1:ar)(l:an3 ao):an3 ao:= .cells (aM v1).cells:: .cells [(aq (0:Int))]::l
theorem ajP{N v1 r}(U:DM N v1=some r):KF 60 [(aM v1)] (aq r):=by
 rw[DM]at U;refine qj Tryz.func60 rfl (by kernel_rfl) ?_;refine gq [0] 0 (anp _) (s':=⟨12,[(0,(aM v1))],[]⟩) (by kernel_rfl) ?_;refine aA ?_;refine rg [] [(1,(.ptr 0 0))] [.cells (aM v1).cells] (by kernel_rfl) ?_;refine aA ?_;refine rg [] [(3,(.ptr 1 0))] (Rf v1 []) (by kernel_rfl) ?_;refine aA ?_;refine aA ?_;obtain⟨v2,J,U⟩:=ck U;refine rg [(4,cL (Qu J))] [(5,(.fn 101 [(.bg [fc v2] 0 0)]))] (Rf v1 []) (by kernel_rfl) ?_;refine fV ?_;refine gq [3,5] 2 (anm rfl) (s':=⟨12,[(3,(.ptr 1 0)),(5,(.fn 101 [(.bg [fc v2] 0 0)]))],(Rf v1 [])⟩) (by kernel_rfl) ?_;refine xc (m:=2) (enc:=aM) (xs:=(dB v2)) (by kernel_rfl) (MC v2) (λ(v3:Int)=>(FA v1 v3 [])) (λ(v3:Int) l=>tc N l v3=some r) (0:Int) (by kernel_rfl) U (by rintro v3;rfl) (by rintro v3;kernel_rfl) (by kernel_rfl) rfl ?_ ?_
 ·rintro v3 v4 v5 U h2 cn cp
  try dsimp only at U
  rw[tc]at U;refine gq [3] 3 (anp _) (s':=⟨12,[(3,(.ptr 1 0))],(FA v1 v3 [.lp .ready 6 cn cp (dc 12 [(3,(.ptr 1 0)),(5,(.fn 101 [(.bg [fc v2] 0 0)]))])])⟩) (by kernel_rfl) ?_;refine dt ?_;refine bC ?_;refine⟨(FA v1 v3 []),[],rfl,(by kernel_rfl),?_⟩;refine gq [3] 3 (anm rfl) (s':=⟨12,[(3,(.ptr 1 0))],(FA v1 v3 [.lp .busy 6 cn cp (dc 12 [(3,(.ptr 1 0)),(5,(.fn 101 [(.bg [fc v2] 0 0)]))])])⟩) (by kernel_rfl) ?_;refine fV ?_;refine aA ?_;refine rg [] [] (qt v1 v3 [.lp .busy 6 cn cp (dc 12 [(3,(.ptr 1 0)),(5,(.fn 101 [(.bg [fc v2] 0 0)]))])]) (by kernel_rfl) ?_;refine aA ?_;refine rg [] [(10,(aK (decide ((aP (v3+(1:Int)))>2000))))] (qt v1 v3 [.lp .busy 6 cn cp (dc 12 [(3,(.ptr 1 0)),(5,(.fn 101 [(.bg [fc v2] 0 0)]))])]) (by kernel_rfl) ?_;rcases dU (decide ((aP (v3+(1:Int)))>2000))with h3|h3
  ·replace U:=(dj h3).symm.trans U;refine eE (t:=(decide ((aP (v3+(1:Int)))>2000))) (by kernel_rfl) h3 ?_;refine nT (ajD rfl ?_);refine aj5 (qt v1 v3 []) rfl (by kernel_rfl) (by kernel_rfl) ?_;refine(qm rfl ?_);refine bC ?_;refine aA ?_;refine rg [] [(2,(aq (aP (v3+(1:Int)))))] (qt v1 v3 [.gone]) (by kernel_rfl) ?_;refine cQ ?_;have hr:=anx U;subst hr;exact gk (by kernel_rfl)
  replace U:=(dV h3).symm.trans U;refine ee (t:=(decide ((aP (v3+(1:Int)))>2000))) (by kernel_rfl) h3 ?_;refine dt ?_;refine iM ?_;refine ye (qt v1 v3 []) rfl (by kernel_rfl) (by kernel_rfl) ?_;exact⟨(aP (v3+(1:Int))),(by kernel_rfl),U⟩
 rintro v3 U
 try dsimp only at U
 rw[tc]at U;refine iM ?_;refine bC ?_;refine aA ?_;refine rg [] [(2,(aq v3))] (FA v1 v3 [.gone]) (by kernel_rfl) ?_;refine cQ ?_;have hr:=anx U;subst hr;exact gk (by kernel_rfl)
def Cq(N:Nat)(v1:bj):an5 Bool:=
 Option.bind (bif (v1.xK.toInt==0)then some ((v1.xL.length:Int)==0)else some false) λv2=>
 some v2
theorem Sw{N v1}:KO 157 [(dZ v1)] aK (Cq N v1):=
 fw Tryz.func157 (gA [[]] (gG (λv2=>[(2,(aK v2))]) (λ_=>[.cells (dZ v1).cells]) (aE (λJ=>gE [(3,bT J)] [(19,oL v1.xL uU)]) λJ=>gE [(3,bF J)] []) λv2=>gR []))
def Ia(N:Nat)(v1:cC):an5 Bool:=
 bif (bL v1.cG==bL (bs []))then
  some ((v1.cM.length:Int)==0)
 else
  (Cq N v1.bq).bind λv2=>
  some v2
theorem aj2{N v1}:KO 160 [(aIndex v1)] aK (Ia N v1):=
 fw Tryz.func160 (gA [[],[]] (aE (λJ=>gR [[t0 J],[(7,oL v1.cM lY)]]) λJ=>az λv2 h2=>gR [[f0 J],[(7,cK Sw h2)]]))
def Rg(N:Nat)(v1:cC):an5 Bool:=
 (Ia N v1).bind λv2=>
 some (!v2)
theorem ajq{N v1}:KO 159 [(aIndex v1)] aK (Rg N v1):=
 fw Tryz.func159 (az λv2 J=>gR [[],[(4,cK aj2 J)]])
def JI(N:Nat):an3 cC->Nat->an5 Int
 |[],_=>
  some (-1:Int)
 |v4::v5,v2=>
  (Rg N v4).bind λv6=>
  bif v6 then
   some (v2:Int)
  else
   (JI N v5 (v2+1))
def QF(N:Nat)(v1:an3 cC):an5 Int:=
 JI N v1 0
theorem aim{N v1}:KP 220 [(.d (.sl (eO v1))),(.fn 159 [])] [] aq (λ_=>[]) (QF N v1):=
 fh 0 Tryz.func220 (gA [[],[(4,oL v1 lZ)]] (gT Gl 0 v1 λh2=>hJ 1 [] [0,1,7,8] 0 (λv2=>⟨19,[(0,(.d (.sl (eO v1)))),(1,(.fn 159 [])),(7,(aq (v1.length:Int))),(8,(aq (v2:Int)))],[]⟩) (λv2 h3 f1=>gH [[],[f0 (da h3)],[]]) (λv2 v4 v5 h3 f1 aX=>az λv6 h4=>gA [[],[t0 (db h3)],[],[(10,oE (vw (cE h3))),(16,cK ajq h4)]] (aE (λh5=>gH [[t0 h5],[]]) λh5=>gb aX () [[f0 h5],[(2,oq (cY h3 rfl h2))]] h3))))
def I2(N:Nat)(v1:an3 cC):an5 Bool:=
 (QF N v1).bind λv2=>
 some (decide (v2>=0))
theorem aeF{N v1}:KP 158 [(.d (.sl (eO v1))),(.fn 159 [])] [] aK (λ_=>[]) (I2 N v1):=
 fh 0 Tryz.func158 (az λv2 J=>gH [[],[(7,oQ [(.d (.sl (eO v1))),(.fn 159 [])] [] [] (aim _ J))]])
def GP(N:Nat)(v1:ar):an5 Bool:=
 Option.bind (bif (v1.ay==1)then some true else some (v1.ay==12)) λv2=>
 Option.bind (bif (decide (v1.ay<1))then some true else some (decide (v1.ay>18))) λv3=>
 bif v3 then
  some false
 else
  Option.bind (bif (v1.ay==1)then some false else some (!((v1.dF.xN.toInt==(0:Int64).toInt)&&((v1.dF.xD.toInt==(0:Int64).toInt)&&true)))) λv4=>
  bif v4 then
   some false
  else
   Option.bind (bif v2 then some false else some (!((v1.aB.bk==0)&&((v1.aB.bX==0)&&((v1.aB.bS==0)&&((v1.aB.ct==0)&&((v1.aB.cu==0)&&true))))))) λv5=>
   bif v5 then
    some false
   else
    Option.bind (bif (v1.ay==2)then some false else (Cq N v1.bq).bind λv6=>
    some (!v6)) λv7=>
    bif v7 then
     some false
    else
     Option.bind (bif (v1.ay==3)then some false else(bif (bL v1.au==bL (bs []))then some (decide ((v1.xIdx.length:Int)>0))else some true)) λv8=>
     bif v8 then
      some false
     else
      (I2 N v1.xIdx).bind λv9=>
      some (!v9)
def xy(v1:ar)(l:an3 ao):an3 ao:= .cells (aM v1).cells::l
theorem alW{N v1}:KO 103 [(aM v1)] aK (GP N v1):=
 fw Tryz.func103 (gA [[]] (gG (λv2=>[(3,(aK (v1.ay==1))),(4,(aK v2))]) (λ_=>(xy v1 [])) (aE (λJ=>gE [(6,bT J)] []) λJ=>gE [(6,bF J)] []) λv2=>gA [[]] (gG (λv3=>[(24,(aK v3))]) (λ_=>(xy v1 [])) (aE (λh3=>gE [(3,bT h3)] []) λh3=>gE [(3,bF h3)] []) λv3=>bZ λh5=>gA [[f0 h5]] (gG (λv4=>[(33,(aK v4))]) (λ_=>(xy v1 [])) (aE (λh6=>gE [(2,bF (dK h6))] []) λh6=>gE [(2,bT (eD h6))] []) λv4=>bZ λh8=>gA [[f0 h8]] (gG (λv5=>[(42,(aK v5))]) (λ_=>(xy v1 [])) (aE (λh9=>gE [(2,bF (dK h9))] []) λh9=>gE [(2,bT (eD h9))] []) λv5=>bZ λbD=>gA [[f0 bD]] (gG (λv7=>[(51,(aK v7))]) (λ_=>(xy v1 [])) (aE (λcl=>gE [(2,bF (dK cl))] []) λcl=>az λv6 cX=>gE [(2,bT (eD cl))] [(16,cK Sw cX)]) λv7=>bZ λdm=>gA [[f0 dm]] (gG (λv8=>[(60,(aK v8))]) (λ_=>(xy v1 [])) (aE (λdd=>gE [(2,bF (dK dd)),(6,uN)] []) λdd=>eK (2,bT (eD dd)) (aE (λeY=>gE [(6,bF (dK eY))] [(28,oL v1.xIdx lZ),(34,bF (dK eY))]) λeY=>gE [(6,bT (eD eY))] [(34,bT (eD eY))])) λv8=>bZ λgY=>az λv9 gD=>gR [[f0 gY],[(7,oQ [(.d (.sl (eO v1.xIdx))),(.fn 159 [])] (xy v1 []) [] (aeF _ gD))]])))))))
def Hd(N:Nat)(v1:cC):an5 Bool:=
 Option.bind (bif (bL v1.cG==bL (bs []))then some false else (vA N v1.cG).bind λv2=>
 some (!v2)) λv3=>
 some v3
theorem abZ{N v1}:KO 161 [(aIndex v1)] aK (Hd N v1):=
 fw Tryz.func161 (gA [[]] (gG (λv3=>[(2,(aK v3))]) (λ_=>[.cells (aIndex v1).cells]) (aE (λJ=>gE [(3,bF (dK J))] []) λJ=>az λv2 h2=>gE [(3,bT (eD J))] [(19,cK Jo h2)]) λv3=>gR []))
def Gt(N:Nat):an3 cC->Nat->an5 Int
 |[],_=>
  some (-1:Int)
 |v4::v5,v2=>
  (Hd N v4).bind λv6=>
  bif v6 then
   some (v2:Int)
  else
   (Gt N v5 (v2+1))
def O5(N:Nat)(v1:an3 cC):an5 Int:=
 Gt N v1 0
theorem ajK{N v1}:KP 220 [(.d (.sl (eO v1))),(.fn 161 [])] [] aq (λ_=>[]) (O5 N v1):=
 fh 0 Tryz.func220 (gA [[],[(4,oL v1 lZ)]] (gT Gl 0 v1 λh2=>hJ 1 [] [0,1,7,8] 0 (λv2=>⟨19,[(0,(.d (.sl (eO v1)))),(1,(.fn 161 [])),(7,(aq (v1.length:Int))),(8,(aq (v2:Int)))],[]⟩) (λv2 h3 f1=>gH [[],[f0 (da h3)],[]]) (λv2 v4 v5 h3 f1 aX=>az λv6 h4=>gA [[],[t0 (db h3)],[],[(10,oE (vw (cE h3))),(16,cK abZ h4)]] (aE (λh5=>gH [[t0 h5],[]]) λh5=>gb aX () [[f0 h5],[(2,oq (cY h3 rfl h2))]] h3))))
def O0(N:Nat)(v1:an3 cC):an5 Bool:=
 (O5 N v1).bind λv2=>
 some (decide (v2>=0))
theorem adE{N v1}:KP 158 [(.d (.sl (eO v1))),(.fn 161 [])] [] aK (λ_=>[]) (O0 N v1):=
 fh 0 Tryz.func158 (az λv2 J=>gH [[],[(7,oQ [(.d (.sl (eO v1))),(.fn 161 [])] [] [] (ajK _ J))]])
def IG(N:Nat)(v1:ar):an5 Bool:=
 Option.bind (bif (v1.ay==3)then (vA N v1.au).bind λv2=>
 some (!v2)else some false) λv3=>
 bif v3 then
  some false
 else
  (O0 N v1.xIdx).bind λv4=>
  some (!v4)
theorem agD{N v1}:KO 104 [(aM v1)] aK (IG N v1):=
 fw Tryz.func104 (gA [[]] (gG (λv3=>[(11,(aK v3))]) (λ_=>[.cells (aM v1).cells]) (aE (λJ=>az λv2 h2=>gE [(3,bT J)] [(19,cK Jo h2)]) λJ=>gE [(3,bF J)] []) λv3=>bZ λh4=>az λv4 h5=>gR [[f0 h4],[(7,oQ [(.d (.sl (eO v1.xIdx))),(.fn 161 [])] [.cells (aM v1).cells] [] (adE _ h5))]]))
def Fc(N:Nat)(v1:Int)(v3:Bool):an5 Int:=
 bif v3 then
  some (1:Int)
 else
  bif (v1==11)then
   some (3:Int)
  else
   some (2:Int)
def Eo(N:Nat)(v1:Int)(v2:Bool):an5 Int:=
 bif v2 then
  some (0:Int)
 else
  bif (v1==8)then
   Fc N v1 (v1==8)
  else
   bif (v1==12)then
    Fc N v1 (v1==12)
   else
    Fc N v1 (v1==18)
def F6(N:Nat)(v1:Int):an5 Int:=
 bif (v1==1)then
  Eo N v1 (v1==1)
 else
  bif (v1==2)then
   Eo N v1 (v1==2)
  else
   Eo N v1 (v1==3)
theorem agi{N v1}:KO 162 [(aq v1)] aq (F6 N v1):=
 fw Tryz.func162 (mM 1 [[],[],[]] [3,4] 0 (λ(v2:Bool)=>⟨14,[(3,(aq v1)),(4,(aK v2))],[]⟩) (Eo N v1) (λf1 aX=>aE (λh6=>gm aX (v1==1) [[t0 h6]]) λh6=>gA [[f0 h6],[]] (aE (λh7=>gm aX (v1==2) [[t0 h7]]) λh7=>gm aX (v1==3) [[f0 h7],[]])) (λv2=>bZ λJ=>mM 2 [[f0 J],[]] [3,8] 0 (λ(v3:Bool)=>⟨14,[(3,(aq v1)),(8,(aK v3))],[]⟩) (Fc N v1) (λf2 gw=>aE (λh4=>gm gw (v1==8) [[t0 h4]]) λh4=>gA [[f0 h4],[]] (aE (λh5=>gm gw (v1==12) [[t0 h5]]) λh5=>gm gw (v1==18) [[f0 h5],[]])) (λv3=>lx λ_=>bZ λh3=>gR [[f0 h3],[]])))
def MU(N:Nat)(v1:cC):an5 Bool:=
 some (decide ((v1.cM.length:Int)>6))
theorem afd{N v1}:KO 163 [(aIndex v1)] aK (MU N v1):=
 fw Tryz.func163 (gR [[],[(7,oL v1.cM lY)]])
def J6(N:Nat):an3 cC->Nat->an5 Int
 |[],_=>
  some (-1:Int)
 |v4::v5,v2=>
  (MU N v4).bind λv6=>
  bif v6 then
   some (v2:Int)
  else
   (J6 N v5 (v2+1))
def RF(N:Nat)(v1:an3 cC):an5 Int:=
 J6 N v1 0
theorem agh{N v1}:KP 220 [(.d (.sl (eO v1))),(.fn 163 [])] [] aq (λ_=>[]) (RF N v1):=
 fh 0 Tryz.func220 (gA [[],[(4,oL v1 lZ)]] (gT Gl 0 v1 λh2=>hJ 1 [] [0,1,7,8] 0 (λv2=>⟨19,[(0,(.d (.sl (eO v1)))),(1,(.fn 163 [])),(7,(aq (v1.length:Int))),(8,(aq (v2:Int)))],[]⟩) (λv2 h3 f1=>gH [[],[f0 (da h3)],[]]) (λv2 v4 v5 h3 f1 aX=>az λv6 h4=>gA [[],[t0 (db h3)],[],[(10,oE (vw (cE h3))),(16,cK afd h4)]] (aE (λh5=>gH [[t0 h5],[]]) λh5=>gb aX () [[f0 h5],[(2,oq (cY h3 rfl h2))]] h3))))
def Qb(N:Nat)(v1:an3 cC):an5 Bool:=
 (RF N v1).bind λv2=>
 some (decide (v2>=0))
theorem ahU{N v1}:KP 158 [(.d (.sl (eO v1))),(.fn 163 [])] [] aK (λ_=>[]) (Qb N v1):=
 fh 0 Tryz.func158 (az λv2 J=>gH [[],[(7,oQ [(.d (.sl (eO v1))),(.fn 163 [])] [] [] (agh _ J))]])
def Jm(N:Nat)(v1:ar):an5 Bool:=
 (F6 N v1.ay).bind λv2=>
 Option.bind (bif ((v1.bM.length:Int) !=v2)then some true else some (decide ((v1.xIdx.length:Int)>6))) λv3=>
 bif v3 then
  some false
 else
  (Qb N v1.xIdx).bind λv4=>
  some (!v4)
theorem ajg{N v1}:KO 105 [(aM v1)] aK (Jm N v1):=
 fw Tryz.func105 (gA [[]] (az λv2 J=>gG (λv3=>[(15,(aK v3))]) (λ_=>[.cells (aM v1).cells]) (dO (7,oL v1.bM vY) (dO (16,cK agi J) (aE (λh2=>gE [(7,bT h2)] []) λh2=>gE [(7,bF h2)] [(31,oL v1.xIdx lZ)]))) λv3=>bZ λh4=>az λv4 h5=>gR [[f0 h4],[(7,oQ [(.d (.sl (eO v1.xIdx))),(.fn 163 [])] [.cells (aM v1).cells] [] (ahU _ h5))]]))
def zL(N:Nat)(v1:ar):an5 Bool:=
 Option.bind (bif (decide ((13:Int)<=v1.ay))then some (decide (v1.ay<=18))else some false) λv2=>
 some v2
theorem Q5{N v1}:KO 40 [(aM v1)] aK (zL N v1):=
 fw Tryz.func40 (gA [[]] (gG (λv2=>[(2,(aK v2))]) (λ_=>[.cells (aM v1).cells]) (aE (λJ=>gE [(3,bT J)] []) λJ=>gE [(3,bF J)] []) λv2=>gR []))
def DJ(N:Nat)(v1:Int)(v2:Int)(v3:Bool):an5 Bool:=
 bif v3 then
  some true
 else
  Option.bind (bif (v1==11)then some (v2==0)else some false) λv4=>
  some v4
def Hc(N:Nat)(v1:Int)(v2:Int):an5 Bool:=
 bif (v1==16)then
  DJ N v1 v2 (v1==16)
 else
  bif (v1==17)then
   DJ N v1 v2 (v1==17)
  else
   DJ N v1 v2 (v1==18)
theorem aiF{N v1 v2}:KO 164 [(aq v1),(aq v2)] aK (Hc N v1 v2):=
 fw Tryz.func164 (mM 1 [[],[],[]] [0,1,6] 0 (λ(v3:Bool)=>⟨16,[(0,(aq v1)),(1,(aq v2)),(6,(aK v3))],[]⟩) (DJ N v1 v2) (λf1 aX=>aE (λh4=>gm aX (v1==16) [[t0 h4]]) λh4=>gA [[f0 h4],[]] (aE (λh5=>gm aX (v1==17) [[t0 h5]]) λh5=>gm aX (v1==18) [[f0 h5],[]])) (λv3=>bZ λJ=>gA [[f0 J]] (gG (λv4=>[(4,(aK v4))]) (λ_=>[]) (aE (λh2=>gE [(2,bT h2)] []) λh2=>gE [(2,bF h2)] []) λv4=>gR [])))
def HI(N:Nat)(v1:ar):an3 ar->Nat->an5 Bool
 |[],_=>
  some true
 |v7::v8,v5=>
  (zL N v7).bind λv9=>
  Option.bind (Hc N v1.ay (v5:Int)) λv10=>
  bif (v9==v10)then
   (HI N v1 v8 (v5+1))
  else
   some false
def K9(N:Nat)(v1:ar):an5 Bool:=
 Option.bind (bif (v1.ay==1)then (l4 N v1.aB).bind λv2=>
 some (v2 !=0)else(bif (v1.ay==12)then (l4 N v1.aB).bind λv3=>
 some (v3 !=0)else some false)) λv4=>
 bif v4 then
  some false
 else
  HI N v1 v1.bM 0
theorem ajb{N v1}:KO 106 [(aM v1)] aK (K9 N v1):=
 fw Tryz.func106 (gA [[]] (gG (λv4=>[(18,(aK v4))]) (λ_=>[.cells (aM v1).cells]) (aE (λJ=>az λv2 h2=>gE [(3,bT J),(8,bT rfl)] [(34,cK oy h2)]) λJ=>eK (3,bF J) (aE (λh3=>az λv3 h4=>gE [(8,bT h3)] [(34,cK oy h4)]) λh3=>gE [(8,bF h3)] [])) λv4=>bZ λh6=>gA [[f0 h6],[(7,oL v1.bM vY)]] (gT Lx 20 v1.bM λh8=>hJ 1 [] [1,20,21,22] 1 (λv5=>⟨35,[(1,(.ptr 0 0)),(20,(.d (.sl (iO v1.bM)))),(21,(aq (v1.bM.length:Int))),(22,(aq (v5:Int)))],[.cells (aM v1).cells]⟩) (λv5 h9 f1=>gR [[],[f0 (da h9)],[]]) (λv5 v7 v8 h9 f1 aX=>az λv9 bE=>az λv10 bD=>gA [[],[t0 (db h9)],[(4,oE (n6 (cE h9)))],[(4,cK Q5 bE),(16,cK aiF bD)]] (lU λcl=>gb aX () [[f0 (dK cl)],[(2,oq (cY h9 rfl h8))]] h9)))))
def yO(N:Nat)(v1:Int):an5 Bool:=
 Option.bind (bif (decide (v1>=2))then some (decide (v1<=31))else some false) λv2=>
 some v2
theorem Mk{N v1}:KO 266 [(aq v1)] aK (yO N v1):=
 fw Tryz.func266 (gA [[]] (gG (λv2=>[(2,(aK v2))]) (λ_=>[]) (aE (λJ=>gE [(2,bT J)] []) λJ=>gE [(2,bF J)] []) λv2=>gR []))
def DU(N:Nat)(v1:Int):an5 Int64:=
 (yO N v1).bind λv2=>
 bif v2 then
  bif (decide ((0:Int)<=(IntKind.u64.wrap (aP (v1-(1:Int))))))then
  some (-(Int64.ofInt ((1:Int)*2^(min ((IntKind.u64.wrap (aP (v1-(1:Int))))).toNat (IntKind.bits .i64)))))
  else none
 else
  some (0:Int64)
theorem Td{N v1}:KO 221 [(aq v1)] bz (DU N v1):=
 fw Tryz.func221 (az λv2 J=>gA [[],[(4,cK Mk J)]] (lU λh2=>dN λh3=>gR [[f0 (dK h2)],[(10,⟨_,_, .nn (b:=(IntKind.u64.wrap (aP (v1-(1:Int))))) (of_decide_eq_true h3)⟩),(11,⟨_,_, .eq (kC ((1:Int)*2^(min ((IntKind.u64.wrap (aP (v1-(1:Int))))).toNat (IntKind.bits .i64))))⟩),(14,⟨_,_, .eq (Hn (Int64.ofInt ((1:Int)*2^(min ((IntKind.u64.wrap (aP (v1-(1:Int))))).toNat (IntKind.bits .i64)))))⟩)]]))
def D4(N:Nat)(v1:Int):an5 Int64:=
 (yO N v1).bind λv2=>
 bif v2 then
  bif (decide ((0:Int)<=(IntKind.u64.wrap (aP (v1-(1:Int))))))then
  some ((Int64.ofInt ((1:Int)*2^(min ((IntKind.u64.wrap (aP (v1-(1:Int))))).toNat (IntKind.bits .i64))))-(1:Int64))
  else none
 else
  some (0:Int64)
theorem VY{N v1}:KO 222 [(aq v1)] bz (D4 N v1):=
 fw Tryz.func222 (az λv2 J=>gA [[],[(4,cK Mk J)]] (lU λh2=>dN λh3=>gR [[f0 (dK h2)],[(10,⟨_,_, .nn (b:=(IntKind.u64.wrap (aP (v1-(1:Int))))) (of_decide_eq_true h3)⟩),(11,⟨_,_, .eq (kC ((1:Int)*2^(min ((IntKind.u64.wrap (aP (v1-(1:Int))))).toNat (IntKind.bits .i64))))⟩),(14,⟨_,_, .eq (xx (Int64.ofInt ((1:Int)*2^(min ((IntKind.u64.wrap (aP (v1-(1:Int))))).toNat (IntKind.bits .i64)))) (1:Int64))⟩)]]))
def rC(N:Nat)(v1:aF)(v2:ax):an5 Bool:=
 (ur N v1).bind λv3=>
 Option.bind (bif (v3==0)then(bif (v2.xD.toInt==1)then (DU N v1.bX).bind λv4=>
 (bif (decide (v2.xN.toInt>=v4.toInt))then (D4 N v1.bX).bind λv5=>
 some (decide (v2.xN.toInt<=v5.toInt))else some false)else some false)else some false) λv6=>
 some v6
theorem LW{N v1 v2}:KO 165 [(cr v1),(bp v2)] aK (rC N v1 v2):=
 fw Tryz.func165 (gA [[]] (az λv3 J=>gG (λv6=>[(4,(aK v6))]) (λ_=>[.cells (cr v1).cells, .cells (bp v2).cells]) (dO (4,cK GH J) (aE (λh2=>eK (3,bT h2) (aE (λh3=>az λv4 h4=>eK (8,bT h3) (dO (40,cK Td h4) (aE (λh5=>az λv5 h6=>gE [(16,bT h5)] [(64,cK VY h6)]) λh5=>gE [(16,bF h5)] []))) λh3=>gE [(8,bF h3),(16,bF rfl)] [])) λh2=>gE [(3,bF h2),(8,bF rfl),(16,bF rfl)] [])) λv6=>gR []))
def pN(N:Nat)(v1:Int64):an5 Bool:=
 Option.bind (bif (decide (v1.toInt>=(-2147483647:Int)))then some (decide (v1.toInt<=2147483647))else some false) λv2=>
 some v2
theorem AP{N v1}:KO 166 [(bz v1)] aK (pN N v1):=
 fw Tryz.func166 (gA [[]] (gG (λv2=>[(2,(aK v2))]) (λ_=>[]) (aE (λJ=>gE [(2,bT J)] []) λJ=>gE [(2,bF J)] []) λv2=>gR []))
def RG(N:Nat)(v1:Int64):an5 Bool:=
 Option.bind (bif (decide (v1.toInt>=(-2147483647:Int)))then some (decide (v1.toInt<=2147483647))else some false) λv2=>
 some v2
theorem amL{N v1}:KO 223 [(bz v1)] aK (RG N v1):=
 fw Tryz.func223 (gA [[]] (gG (λv2=>[(2,(aK v2))]) (λ_=>[]) (aE (λJ=>gE [(2,bT J)] []) λJ=>gE [(2,bF J)] []) λv2=>gR []))
def zx(N:Nat)(v1:Int64):an5 Int:=
 bif (decide (v1.toInt<0))then
  some (IntKind.u64.wrap (0-(IntKind.u64.wrap v1.toInt)))
 else
  some (IntKind.u64.wrap v1.toInt)
theorem MV{N v1}:KO 225 [(bz v1)] (λr=> .d (.v (.int .u64 r))) (zx N v1):=
 fw Tryz.func225 (gA [[],[]] (bZ λJ=>gR [[f0 J],[]]))
def Ee(N:Nat):Nat->Int->Int->an5 Int
 |0,_,_=>none
 |v3+1,v4,v5=>
  bif (v5 !=0)then
   (λcd fi=>Ee N v3 cd fi) v5 ((v4).tmod v5)
  else
   some v4
def CL(N:Nat)(v1:Int)(v2:Int):an5 Int:=
 Ee N N v1 v2
theorem R5{N v1 v2}:KO 224 [(.d (.v (.int .u64 v1))),(.d (.v (.int .u64 v2)))] (λr=> .d (.v (.int .u64 r))) (CL N v1 v2):=
 fw Tryz.func224 (gf2 1 [[]] [0,1] 0 (λ(v4:Int)(v5:Int)=>⟨12,[(0,(.d (.v (.int .u64 v4)))),(1,(.d (.v (.int .u64 v5))))],[]⟩) (Ee N) (λv3 v4 v5 f1 aX=>gA [[]] (tQ λJ=>Qj aX (v5,((v4).tmod v5)) [[t0 J],[(10,⟨_,_, .nz (b:=v5) (bne_iff_ne.1 J)⟩)]])))
def kE(N:Nat)(v1:ax):an5 Bool:=
 Option.bind (bif (decide (v1.xD.toInt>=1))then(bif (decide (v1.xD.toInt<=2147483647))then (RG N v1.xN).bind λv2=>
 (bif v2 then (zx N v1.xN).bind λv3=>
 Option.bind (CL N v3 (IntKind.u64.wrap v1.xD.toInt)) λv4=>
 some (v4==1)else some false)else some false)else some false) λv5=>
 some v5
theorem mO{N v1}:KO 167 [(bp v1)] aK (kE N v1):=
 fw Tryz.func167 (gA [[]] (gG (λv5=>[(2,(aK v5))]) (λ_=>[.cells (bp v1).cells]) (aE (λJ=>eK (3,bT J) (aE (λh2=>az λv2 h3=>eK (8,bT h2) (dO (34,cK amL h3) (aE (λh4=>az λv3 h5=>az λv4 h6=>gE [(13,bT h4)] [(49,cK MV h5),(61,cK R5 h6)]) λh4=>gE [(13,bF h4)] []))) λh2=>gE [(8,bF h2),(13,bF rfl)] [])) λJ=>gE [(3,bF J),(8,bF rfl),(13,bF rfl)] []) λv5=>gR []))
def lX(N:Nat)(v1:aF)(v2:ax):an5 Bool:=
 (l4 N v1).bind λv3=>
 bif (v3 !=0)then
  some false
 else
  bif (v1.bk==2)then
   (rC N v1 v2).bind λv4=>
   some v4
  else
   bif (v1.bk==3)then
    Option.bind (bif (v2.xD.toInt==1)then (pN N v2.xN).bind λv5=>
    some v5 else some false) λv6=>
    some v6
   else
    (kE N v2).bind λv7=>
    some v7
theorem tT{N v1 v2}:KO 107 [(cr v1),(bp v2)] aK (lX N v1 v2):=
 fw Tryz.func107 (az λv3 J=>gA [[],[(4,cK oy J)]] (bZ λh2=>gA [[f0 h2],[],[]] (aE (λh3=>az λv4 h4=>gR [[t0 h3],[(7,cK LW h4)]]) λh3=>gA [[f0 h3],[]] (aE (λh5=>gA [[t0 h5]] (gG (λv6=>[(4,(aK v6))]) (λ_=>[.cells (cr v1).cells, .cells (bp v2).cells]) (aE (λh6=>az λv5 h7=>gE [(3,bT h6)] [(19,cK AP h7)]) λh6=>gE [(3,bF h6)] []) λv6=>gR [])) λh5=>az λv7 h9=>gR [[f0 h5],[(4,cK mO h9)]]))))
def OH(N:Nat)(v1:ar):an5 ar:=some v1
theorem agT{N v1 r}(U:OH N v1=some r):fP Tryz.prog 108 [(aM v1)] (·=(.fn 168 [(.bg [fc r] 0 0)])):=by
 cases U;exact ah2 v1
def dG:aF:=⟨(0:Int),(0:Int),(0:Int),(0:Int),(0:Int)⟩
def aaJ:jL:=⟨(0:Int),(0:Int),(0:Int)⟩
def mE:aR:=⟨dG,[],[]⟩
def wG:an3 AV:=[(aq (0:Int)),(aq (0:Int)),(aq (0:Int)),(aq (0:Int)),(aq (0:Int))]
def Wo:an3 AV:=[(aq (0:Int)),(aq (0:Int)),(aq (0:Int)),(aq (0:Int)),(aq (0:Int)),(.d (.v (.slice none 0 0))),(.d (.v (.slice none 0 0)))]
def tb(N:Nat):an3 bj->an5 Int
 |[]=>
  some (0:Int)
 |v9::v10=>
  (zV N v9).bind λv11=>
  bif (v11 !=0)then
   some (1:Int)
  else
   (tb N v10)
def E3(N:Nat)(v1:ar):an5 Int:=
 (GP N v1).bind λv2=>
 bif v2 then
  (IG N v1).bind λv3=>
  bif v3 then
   (Jm N v1).bind λv4=>
   bif v4 then
    (K9 N v1).bind λv5=>
    bif v5 then
     Option.bind (bif (v1.ay==1)then (lX N v1.aB v1.dF).bind λv6=>
     some (!v6)else some false) λv7=>
     bif v7 then
      some (1:Int)
     else
      (OH N v1).bind λv8=>
      tb N (ov v8)
    else
     some (10:Int)
   else
    some (11:Int)
  else
   some (7:Int)
 else
  some (5:Int)
def lO(v1:ar)(l:an3 ao):an3 ao:= .cells (aM v1).cells:: .cells [(aq (0:Int))]::l
def wE(v1:ar)(l:an3 ao):an3 ao:= .cells (aM v1).cells::l
theorem amB{N v1 r}(U:E3 N v1=some r):KF 62 [(aM v1)] (aq r):=by
 rw[E3]at U;refine qj Tryz.func62 rfl (by kernel_rfl) ?_;refine gq [0] 0 (anp _) (s':=⟨38,[(0,(aM v1))],[]⟩) (by kernel_rfl) ?_;refine aA ?_;refine rg [] [(1,(.ptr 0 0)),(2,(.ptr 1 0))] (lO v1 []) (by kernel_rfl) ?_;refine aA ?_;refine fV ?_;refine aA ?_;obtain⟨v2,J,U⟩:=ck U;refine rg [(4,cK alW J)] [(4,(aK (!v2)))] (lO v1 []) (by kernel_rfl) ?_;rcases dU v2 with h2|h2
 ·replace U:=(dj h2).symm.trans U;refine ee (t:=(!v2)) (by kernel_rfl) (dK h2) ?_;refine aA ?_;obtain⟨v3,h3,U⟩:=ck U;refine rg [(4,cK agD h3)] [(8,(aK (!v3)))] (lO v1 []) (by kernel_rfl) ?_;rcases dU v3 with h4|h4
  ·replace U:=(dj h4).symm.trans U;refine ee (t:=(!v3)) (by kernel_rfl) (dK h4) ?_;refine aA ?_;obtain⟨v4,h5,U⟩:=ck U;refine rg [(4,cK ajg h5)] [(12,(aK (!v4)))] (lO v1 []) (by kernel_rfl) ?_;rcases dU v4 with h6|h6
   ·replace U:=(dj h6).symm.trans U;refine ee (t:=(!v4)) (by kernel_rfl) (dK h6) ?_;refine aA ?_;obtain⟨v5,h7,U⟩:=ck U;refine rg [(4,cK ajb h7)] [(16,(aK (!v5)))] (lO v1 []) (by kernel_rfl) ?_;rcases dU v5 with h8|h8
    ·replace U:=(dj h8).symm.trans U;refine ee (t:=(!v5)) (by kernel_rfl) (dK h8) ?_;refine aA ?_;obtain⟨v7,bD,U⟩:=ck U;refine yI [(20,(aK v7))] (lO v1 []) ?_ ?_
     ·rcases dU (v1.ay==1)with h9|h9
      ·replace bD:=(dj h9).symm.trans bD;obtain⟨v6,bE,bD⟩:=ck bD;have he:=anx bD;subst he;exact⟨[(12,bT h9),(15,bT h9),(18,bT h9),(21,bT h9),(24,bT h9),(25,cK tT bE),(27,bT h9),(31,bT h9)],by kernel_rfl⟩
      replace bD:=(dV h9).symm.trans bD;have he:=anx bD;subst he;exact⟨[(12,bF h9),(15,bF h9),(18,bF h9),(21,bF h9),(24,bF h9),(27,bF h9),(31,bF h9)],by kernel_rfl⟩
     rcases dU v7 with cl|cl
     ·replace U:=(dj cl).symm.trans U;refine eE (t:=v7) (by kernel_rfl) cl ?_;refine aA ?_;refine rg [] [] (wE v1 [.cells [(aq (1:Int))]]) (by kernel_rfl) ?_;refine cQ (fe (cZ ?_));have hr:=anx U;subst hr;exact gk (by kernel_rfl)
     replace U:=(dV cl).symm.trans U;refine ee (t:=v7) (by kernel_rfl) cl ?_;refine dt ?_;refine iM ?_;refine bC ?_;refine aA ?_;refine aA ?_;obtain⟨v8,cX,U⟩:=ck U;refine rg [(4,cL (agT cX))] [(33,(.fn 168 [(.bg [fc v8] 0 0)]))] (lO v1 []) (by kernel_rfl) ?_;refine fV ?_;refine gq [2,33] 2 (anm rfl) (s':=⟨38,[(2,(.ptr 1 0)),(33,(.fn 168 [(.bg [fc v8] 0 0)]))],(lO v1 [])⟩) (by kernel_rfl) ?_;refine xc (m:=2) (enc:=dZ) (xs:=(ov v8)) (by kernel_rfl) (alS v8) (λ(_:Unit)=>(lO v1 [])) (λ(_:Unit) l=>tb N l=some r) () (by kernel_rfl) U (by rintro _;rfl) (by rintro _;kernel_rfl) (by kernel_rfl) rfl ?_ ?_
     ·rintro _ v9 v10 U cP cn cp
      try dsimp only at U
      rw[tb]at U;refine gq [2,34] 3 (anp _) (s':=⟨38,[(2,(.ptr 1 0)),(34,(dZ v9))],(lO v1 [.lp .ready 34 cn cp (dc 38 [(2,(.ptr 1 0)),(33,(.fn 168 [(.bg [fc v8] 0 0)]))])])⟩) (by kernel_rfl) ?_;refine re [] [(3,(.ptr 3 0))] (lO v1 [.lp .ready 34 cn cp (dc 38 [(2,(.ptr 1 0)),(33,(.fn 168 [(.bg [fc v8] 0 0)]))]), .cells (dZ v9).cells]) (by kernel_rfl) ?_;refine bC ?_;refine⟨(lO v1 []),[.cells (dZ v9).cells],rfl,(by kernel_rfl),?_⟩;refine gq [2,3] 4 (anm rfl) (s':=⟨38,[(2,(.ptr 1 0)),(3,(.ptr 3 0))],(lO v1 [.lp .busy 34 cn cp (dc 38 [(2,(.ptr 1 0)),(33,(.fn 168 [(.bg [fc v8] 0 0)]))]), .cells (dZ v9).cells])⟩) (by kernel_rfl) ?_;refine fV ?_;refine aA ?_;obtain⟨v11,dm,U⟩:=ck U;refine rg [(4,cK GF dm)] [(37,(aK (v11 !=0)))] (lO v1 [.lp .busy 34 cn cp (dc 38 [(2,(.ptr 1 0)),(33,(.fn 168 [(.bg [fc v8] 0 0)]))]), .cells (dZ v9).cells]) (by kernel_rfl) ?_;rcases dU (v11 !=0)with dd|dd
      ·replace U:=(dj dd).symm.trans U;refine eE (t:=(v11 !=0)) (by kernel_rfl) dd ?_;refine aA ?_;refine rg [] [] (wE v1 [.cells [(aq (1:Int))], .lp .busy 34 cn cp (dc 38 [(2,(.ptr 1 0)),(33,(.fn 168 [(.bg [fc v8] 0 0)]))]), .cells (dZ v9).cells]) (by kernel_rfl) ?_;refine cQ (fe ?_);refine DK (wE v1 [.cells [(aq (1:Int))]]) rfl (by kernel_rfl) (by kernel_rfl) ?_;refine(fe (cZ ?_));have hr:=anx U;subst hr;exact gk (by kernel_rfl)
      replace U:=(dV dd).symm.trans U;refine ee (t:=(v11 !=0)) (by kernel_rfl) dd ?_;refine dt ?_;refine iM ?_;refine ye (lO v1 []) rfl (by kernel_rfl) (by kernel_rfl) ?_;exact⟨(),(by kernel_rfl),U⟩
     rintro _ U
     try dsimp only at U
     rw[tb]at U;refine iM ?_;refine bC ?_;refine aA ?_;refine rg [] [] (lO v1 [.gone]) (by kernel_rfl) ?_;refine cQ ?_;have hr:=anx U;subst hr;exact gk (by kernel_rfl)
    replace U:=(dV h8).symm.trans U;refine eE (t:=(!v5)) (by kernel_rfl) (eD h8) ?_;refine aA ?_;refine rg [] [] (wE v1 [.cells [(aq (10:Int))]]) (by kernel_rfl) ?_;refine cQ (fe (cZ ?_));have hr:=anx U;subst hr;exact gk (by kernel_rfl)
   replace U:=(dV h6).symm.trans U;refine eE (t:=(!v4)) (by kernel_rfl) (eD h6) ?_;refine aA ?_;refine rg [] [] (wE v1 [.cells [(aq (11:Int))]]) (by kernel_rfl) ?_;refine cQ (fe (cZ ?_));have hr:=anx U;subst hr;exact gk (by kernel_rfl)
  replace U:=(dV h4).symm.trans U;refine eE (t:=(!v3)) (by kernel_rfl) (eD h4) ?_;refine aA ?_;refine rg [] [] (wE v1 [.cells [(aq (7:Int))]]) (by kernel_rfl) ?_;refine cQ (fe (cZ ?_));have hr:=anx U;subst hr;exact gk (by kernel_rfl)
 replace U:=(dV h2).symm.trans U;refine eE (t:=(!v2)) (by kernel_rfl) (eD h2) ?_;refine aA ?_;refine rg [] [] (wE v1 [.cells [(aq (5:Int))]]) (by kernel_rfl) ?_;refine cQ (fe (cZ ?_));have hr:=anx U;subst hr;exact gk (by kernel_rfl)
def vX(N:Nat):an3 ar->an5 Int
 |[]=>
  some (0:Int)
 |v5::v6=>
  (E3 N v5).bind λv7=>
  bif (v7 !=0)then
   some v7
  else
   (vX N v6)
def Br(N:Nat)(v1:ar):an5 Int:=
 (PM N v1).bind λv2=>
 bif (decide (v2>40))then
  some (13:Int)
 else
  (DM N v1).bind λv3=>
  bif (decide (v3>2000))then
   some (2:Int)
  else
   (AW N v1).bind λv4=>
   vX N (dB v4)
def nX(v1:ar)(l:an3 ao):an3 ao:= .cells (aM v1).cells:: .cells [(aq (0:Int))]::l
def LZ(v1:ar)(cn:Code)(cp:Code)(v4:ar)(v5:ar)(l:an3 ao):an3 ao:=nX v1 (.lp .busy 13 cn cp (dc 19 [(2,(.ptr 1 0)),(12,(.fn 101 [(.bg [fc v4] 0 0)]))]):: .cells (aM v5).cells::l)
def EU(v1:ar)(l:an3 ao):an3 ao:= .cells (aM v1).cells::l
theorem TJ{N v1 r}(U:Br N v1=some r):KF 39 [(aM v1)] (aq r):=by
 rw[Br]at U;refine qj Tryz.func39 rfl (by kernel_rfl) ?_;refine gq [0] 0 (anp _) (s':=⟨19,[(0,(aM v1))],[]⟩) (by kernel_rfl) ?_;refine aA ?_;refine rg [] [(1,(.ptr 0 0)),(2,(.ptr 1 0))] (nX v1 []) (by kernel_rfl) ?_;refine aA ?_;refine aA ?_;obtain⟨v2,J,U⟩:=ck U;refine rg [(4,cK al5 J)] [(7,(aK (decide (v2>40))))] (nX v1 []) (by kernel_rfl) ?_;rcases dU (decide (v2>40))with h2|h2
 ·replace U:=(dj h2).symm.trans U;refine eE (t:=(decide (v2>40))) (by kernel_rfl) h2 ?_;refine aA ?_;refine rg [] [] (EU v1 [.cells [(aq (13:Int))]]) (by kernel_rfl) ?_;refine cQ (cZ ?_);have hr:=anx U;subst hr;exact gk (by kernel_rfl)
 replace U:=(dV h2).symm.trans U;refine ee (t:=(decide (v2>40))) (by kernel_rfl) h2 ?_;refine dt ?_;refine bC ?_;refine aA ?_;refine aA ?_;obtain⟨v3,h3,U⟩:=ck U;refine rg [(4,cL (ajP h3))] [(10,(aK (decide (v3>2000))))] (nX v1 []) (by kernel_rfl) ?_;rcases dU (decide (v3>2000))with h4|h4
 ·replace U:=(dj h4).symm.trans U;refine eE (t:=(decide (v3>2000))) (by kernel_rfl) h4 ?_;refine aA ?_;refine rg [] [] (EU v1 [.cells [(aq (2:Int))]]) (by kernel_rfl) ?_;refine cQ (cZ ?_);have hr:=anx U;subst hr;exact gk (by kernel_rfl)
 replace U:=(dV h4).symm.trans U;refine ee (t:=(decide (v3>2000))) (by kernel_rfl) h4 ?_;refine dt ?_;refine bC ?_;refine aA ?_;refine aA ?_;obtain⟨v4,h5,U⟩:=ck U;refine rg [(4,cL (Qu h5))] [(12,(.fn 101 [(.bg [fc v4] 0 0)]))] (nX v1 []) (by kernel_rfl) ?_;refine fV ?_;refine gq [2,12] 2 (anm rfl) (s':=⟨19,[(2,(.ptr 1 0)),(12,(.fn 101 [(.bg [fc v4] 0 0)]))],(nX v1 [])⟩) (by kernel_rfl) ?_;refine xc (m:=2) (enc:=aM) (xs:=(dB v4)) (by kernel_rfl) (MC v4) (λ(_:Unit)=>(nX v1 [])) (λ(_:Unit) l=>vX N l=some r) () (by kernel_rfl) U (by rintro _;rfl) (by rintro _;kernel_rfl) (by kernel_rfl) rfl ?_ ?_
 ·rintro _ v5 v6 U h6 cn cp
  try dsimp only at U
  rw[vX]at U;refine gq [2,13] 3 (anp _) (s':=⟨19,[(2,(.ptr 1 0)),(13,(aM v5))],(nX v1 [.lp .ready 13 cn cp (dc 19 [(2,(.ptr 1 0)),(12,(.fn 101 [(.bg [fc v4] 0 0)]))])])⟩) (by kernel_rfl) ?_;refine re [] [(3,(.ptr 3 0))] (nX v1 [.lp .ready 13 cn cp (dc 19 [(2,(.ptr 1 0)),(12,(.fn 101 [(.bg [fc v4] 0 0)]))]), .cells (aM v5).cells]) (by kernel_rfl) ?_;refine bC ?_;refine⟨(nX v1 []),(EU v5 []),rfl,(by kernel_rfl),?_⟩;refine gq [2,3] 4 (anm rfl) (s':=⟨19,[(2,(.ptr 1 0)),(3,(.ptr 3 0))],(LZ v1 cn cp v4 v5 [])⟩) (by kernel_rfl) ?_;refine fV ?_;refine aA ?_;obtain⟨v7,h7,U⟩:=ck U;refine rg [(4,cL (amB h7))] [(4,(aq v7))] (LZ v1 cn cp v4 v5 []) (by kernel_rfl) ?_;refine aA ?_;refine rg [] [(17,(aK (v7 !=0)))] (LZ v1 cn cp v4 v5 []) (by kernel_rfl) ?_;rcases dU (v7 !=0)with h8|h8
  ·replace U:=(dj h8).symm.trans U;refine eE (t:=(v7 !=0)) (by kernel_rfl) h8 ?_;refine aA ?_;refine rg [] [] (EU v1 [.cells [(aq v7)], .lp .busy 13 cn cp (dc 19 [(2,(.ptr 1 0)),(12,(.fn 101 [(.bg [fc v4] 0 0)]))]), .cells (aM v5).cells]) (by kernel_rfl) ?_;refine cQ (fe ?_);refine DK (EU v1 [.cells [(aq v7)]]) rfl (by kernel_rfl) (by kernel_rfl) ?_;refine(fe (cZ ?_));have hr:=anx U;subst hr;exact gk (by kernel_rfl)
  replace U:=(dV h8).symm.trans U;refine ee (t:=(v7 !=0)) (by kernel_rfl) h8 ?_;refine dt ?_;refine iM ?_;refine ye (nX v1 []) rfl (by kernel_rfl) (by kernel_rfl) ?_;exact⟨(),(by kernel_rfl),U⟩
 rintro _ U
 try dsimp only at U
 rw[vX]at U;refine iM ?_;refine bC ?_;refine aA ?_;refine rg [] [] (nX v1 [.gone]) (by kernel_rfl) ?_;refine cQ ?_;have hr:=anx U;subst hr;exact gk (by kernel_rfl)
def G4(N:Nat)(v3:an3 (an4×Int)):an3 c8->Nat->an5 Int
 |[],_=>
  some (0:Int)
 |v6::v7,v4=>
  bif ((ga v3 v6.au 0)==0)then
   some (9:Int)
  else
   (G4 N v3 v7 (v4+1))
def ET(N:Nat)(v1:bj)(v2:aV)(v3:an3 (an4×Int)):an5 Int:=
 G4 N v3 v1.xL 0
theorem Mx{N v1 v2 v3}:KP 264 [(.ptr 0 0),(dZ v1)] [.cells (fz v2 [(.mp 1)]), .map (fa v3)] aq (λ_=>[.cells (fz v2 [(.mp 1)]), .map (fa v3)]) (ET N v1 v2 v3):=
 fh 2 Tryz.func264 (gA [[],[(7,oL v1.xL uU)]] (gT HX 8 v1.xL λh2=>hJ 1 [] [0,8,9,10] 3 (λv4=>⟨23,[(0,(.ptr 0 0)),(8,(.d (.sl (gr v1.xL)))),(9,(aq (v1.xL.length:Int))),(10,(aq (v4:Int)))],[.cells (fz v2 [(.mp 1)]), .map (fa v3), .cells (dZ v1).cells]⟩) (λv4 h3 f1=>gH [[],[f0 (da h3)],[]]) (λv4 v6 v7 h3 f1 aX=>gA [[],[t0 (db h3)],[(1,oE (Ed (cE h3)))],[(20,⟨_,_, .eq (BS false v3 v6.au)⟩)]] (aE (λh4=>gH [[t0 h4],[]]) λh4=>gb aX () [[f0 h4],[(2,oq (cY h3 rfl h2))]] h3))))
def NN(N:Nat)(v1:an3 c8):an5 (an3 c8):=bif Nat.ble (v1.length*24) 140737488355328 then some v1 else none
theorem afW{N v1 r}(U:NN N v1=some r):fP Tryz.prog 151 [(.d (.sl (gr v1)))] (·=(.d (.sl (gr r)))):=by
 obtain⟨hb,rfl⟩:=dT U;have hc:=mL hb (by decide);exact ahv Yq (by rw[uU];exact hc.1) (by rw[uU];exact hc.2)
def CM(N:Nat)(v1:bj):an5 bj:=
 (NN N v1.xL).bind λv2=>
 some (⟨v1.xK,v2⟩:bj)
theorem aa7{N v1}:KO 98 [(dZ v1)] dZ (CM N v1):=
 fw Tryz.func98 (az λv2 J=>gR [[],[(13,cL (afW J))]])
def CX(N:Nat):an3 bj->Nat->(an3 bj)->an5 ((an3 bj))
 |[],_,v6=>
  some v6
 |v4::v5,v2,v6=>
  (CM N v4).bind λv7=>
  bif (Nat.ble ((v6.length+1)*32) 140737488355328)then
  (λcd=>CX N v5 (v2+1) cd) (v6++[v7])
  else none
def Jk(N:Nat)(v1:an3 bj):an5 ((an3 bj)):=
 CX N v1 0 []
theorem amu{N v1}:KO 96 [(.d (.sl (gC v1)))] (λr=> .d (.sl (gC r))) (Jk N v1):=
 fw Tryz.func96 (gA [[],[],[(4,oL v1 lY)]] (li (λ_=>(tC 3 53 2 [] (.inr (by kernel_rfl)) ·)) (gT tF 0 v1 λh2=>jo 1 [] [3,6,7,8] 1 (λv2(v6:an3 bj)=>⟨19,[(3,(.own 0 (gC v6))),(6,(.d (.sl (gC v1)))),(7,(aq (v1.length:Int))),(8,(aq (v2:Int)))],[.front 53 2 v6.length]⟩) (λv2 v6 h3 f1=>gR [[],[f0 (da h3)],[]]) (λv2 v4 v5 v6 h3 f1 aX=>az λv7 h4=>dN λh5=>gb aX (v6++[v7]) [[],[t0 (db h3)],[(1,oE (yd (cE h3)))],[(7,cK aa7 h4),(13,oA tF v6 ([v7]) h5)],[(2,oq (cY h3 rfl h2))]] h3))))
def RA(N:Nat)(v1:bx)(v2:an4):an5 Bool:=
 some (bL v1.au==bL v2)
theorem akz{N v1 v2}:KP 150 [(gg v1),(.ptr 0 0)] [.cells [(dk v2)]] aK (λ_=>[.cells [(dk v2)]]) (RA N v1 v2):=
 fh 1 Tryz.func150 (gH [[],[]])
def Hq(N:Nat)(v2:an4):an3 bx->Nat->an5 Int
 |[],_=>
  some (-1:Int)
 |v5::v6,v3=>
  (RA N v5 v2).bind λv7=>
  bif v7 then
   some (v3:Int)
  else
   (Hq N v2 v6 (v3+1))
def OO(N:Nat)(v1:an3 bx)(v2:an4):an5 Int:=
 Hq N v2 v1 0
theorem ah8{N v1 v2}:KP 149 [(.d (.sl (jc v1))),(.fn 150 [(.ptr 0 0)])] [.cells [(dk v2)]] aq (λ_=>[.cells [(dk v2)]]) (OO N v1 v2):=
 fh 1 Tryz.func149 (gA [[],[(4,oL v1 xq)]] (gT NG 0 v1 λh2=>hJ 1 [] [0,1,7,8] 1 (λv3=>⟨19,[(0,(.d (.sl (jc v1)))),(1,(.fn 150 [(.ptr 0 0)])),(7,(aq (v1.length:Int))),(8,(aq (v3:Int)))],[.cells [(dk v2)]]⟩) (λv3 h3 f1=>gH [[],[f0 (da h3)],[]]) (λv3 v5 v6 h3 f1 aX=>az λv7 h4=>gA [[],[t0 (db h3)],[],[(10,oE (Bf (cE h3))),(16,oQ [(gg v5),(.ptr 0 0)] [.cells [(dk v2)]] [0] (akz _ h4))]] (aE (λh5=>gH [[t0 h5],[]]) λh5=>gb aX () [[f0 h5],[(2,oq (cY h3 rfl h2))]] h3))))
def KG(N:Nat)(v1:aV)(v2:an4):an5 Int:=
 (OO N v1.aN v2).bind λv3=>
 some v3
theorem ai4{N v1 v2}:KO 97 [(fg v1),(dk v2)] aq (KG N v1 v2):=
 fw Tryz.func97 (az λv3 J=>gR [[],[(10,oQ [(.d (.sl (jc v1.aN))),(.fn 150 [(.ptr 1 0)])] [.cells (fg v1).cells, .cells [(dk v2)]] [1] (ah8 _ J))]])
def CI(N:Nat)(v8:bx):an3 dh->Nat->(an3 bj)->an5 (aF×(an3 bj)×Bool)
 |[],_,aH=>
  some (v8.aB,aH,true)
 |v11::v12,v9,aH=>
  (CM N v11.dH).bind λaQ=>
  bif (Nat.ble ((aH.length+1)*32) 140737488355328)then
  (λb2_0=>CI N v8 v12 (v9+1) b2_0) (aH++[aQ])
  else none
def Ft(N:Nat)(v1:aV)(v2:an4):an3 eH->Nat->an5 (aF×(an3 bj)×Bool)
 |[],_=>
  (KG N v1 v2).bind λv7=>
  bif (decide (v7>=0))then
   bif (decide ((0:Int)<=v7))then
   Option.bind (v1.aN[(v7).toNat]?) λv8=>
   CI N v8 v8.aU 0 []
   else none
  else
   some (dG,[],false)
 |v5::v6,v3=>
  bif (bL v5.au==bL v2)then
   (Jk N v5.aU).bind λbA=>
   some (v5.aB,bA,true)
  else
   (Ft N v1 v2 v6 (v3+1))
def Cv(N:Nat)(v1:aV)(v2:an4):an5 (aF×(an3 bj)×Bool):=
 Ft N v1 v2 v1.aW 0
theorem Of{N v1 v2}:KO 55 [(fg v1),(dk v2)] (λr=> .aZ [(cr r.1),(.d (.sl (gC r.2.1))),(aK r.2.2)]) (Cv N v1 v2):=
 fw Tryz.func55 (gA [[],[(7,oL v1.aW Aa)]] (gT aaV 14 v1.aW λh2=>hJ 1 [] [1,2,4,14,15,16] 2 (λv3=>⟨61,[(1,(dk v2)),(2,(.ptr 0 0)),(4,(.ptr 1 0)),(14,(.d (.sl (kG v1.aW)))),(15,(aq (v1.aW.length:Int))),(16,(aq (v3:Int)))],[.cells (fg v1).cells, .cells wG]⟩) (λv3 h3 f1=>az λv7 h4=>gA [[],[f0 (da h3)],[(7,cK ai4 h4)],[]] (tQ λh5=>dN λh7=>az λv8 h6=>gA [[t0 h5],[],[(10,⟨_,_, .el (xs:=jc v1.aN) (i:=v7) (of_decide_eq_true h7) (Bf h6)⟩),(19,oL v8.aU nB)]] (li (λ_=>(tC 10 53 2 [] (.inr (by kernel_rfl)) ·)) (gT Ag 40 v8.aU λh9=>jo 2 [] [2,4,9,10,40,41,42] 3 (λv9(aH:an3 bj)=>⟨61,[(2,(.ptr 0 0)),(4,(.ptr 1 0)),(9,(aq v7)),(10,(.own 2 (gC aH))),(40,(.d (.sl (iV v8.aU)))),(41,(aq (v8.aU.length:Int))),(42,(aq (v9:Int)))],[.cells (fg v1).cells, .cells wG, .front 53 2 aH.length]⟩) (λv9 aH bE f2=>gR [[],[f0 (da bE)],[(10,⟨_,_, .el (xs:=jc v1.aN) (i:=v7) (of_decide_eq_true h7) (Bf h6)⟩)]]) (λv9 v11 v12 aH bE f2 gw=>az λaQ bD=>dN λcl=>gb gw (aH++[aQ]) [[],[t0 (db bE)],[(1,oE (EO (cE bE)))],[(10,cK aa7 bD),(16,oA tF aH ([aQ]) cl)],[(2,oq (cY bE rfl h9))]] bE))))) (λv3 v5 v6 h3 f1 aX=>gA [[],[t0 (db h3)],[(1,oE (Qw (cE h3)))],[]] (aE (λcX=>az λbA cP=>gR [[t0 cX],[(13,cK amu cP)]]) λcX=>gb aX () [[f0 cX],[(2,oq (cY h3 rfl h2))]] h3))))
def FQ(N:Nat)(v2:aV)(v3:an3 (an4×Int)):an3 bj->Nat->an5 Int
 |[],_=>
  some (0:Int)
 |v8::v9,v6=>
  (ET N v8 v2 v3).bind λv10=>
  bif (v10 !=0)then
   some v10
  else
   (FQ N v2 v3 v9 (v6+1))
def Hh(N:Nat)(v1:cC)(v2:aV)(v3:an3 (an4×Int)):an5 Int:=
 bif (bL v1.cG==bL (bs []))then
  (ET N v1.bq v2 v3).bind λv4=>
  some v4
 else
  (Cv N v2 v1.cG).bind λv5=>
  bif v5.2.2 then
   bif (v5.1.bk !=3)then
    some (10:Int)
   else
    bif ((v1.cM.length:Int) !=(v5.2.1.length:Int))then
     some (11:Int)
    else
     FQ N v2 v3 v1.cM 0
  else
   some (9:Int)
def IC(v2:aV)(v3:an3 (an4×Int))(v1:cC)(l:an3 ao):an3 ao:= .cells (fz v2 [(.mp 1)]):: .map (fa v3):: .cells (aIndex v1).cells::l
theorem agv{N v1 v2 v3}:KP 291 [(.ptr 0 0),(aIndex v1)] [.cells (fz v2 [(.mp 1)]), .map (fa v3)] aq (λ_=>[.cells (fz v2 [(.mp 1)]), .map (fa v3)]) (Hh N v1 v2 v3):=
 fh 2 Tryz.func291 (gA [[],[]] (aE (λJ=>az λv4 h2=>gH [[t0 J],[(10,oQ [(.ptr 0 0),(dZ v1.bq)] (IC v2 v3 v1 []) [0,1] (Mx _ h2))]]) λJ=>az λv5 h3=>gA [[f0 J],[(19,cK Of h3)],[]] (aE (λh4=>gA [[f0 (dK h4)],[]] (aE (λh5=>gH [[t0 h5],[]]) λh5=>gA [[f0 h5],[(7,oL v1.cM lY),(13,oL v5.2.1 lY)]] (aE (λh6=>gH [[t0 h6],[]]) λh6=>gA [[f0 h6],[(7,oL v1.cM lY)]] (gT tF 44 v1.cM λh8=>hJ 1 [] [0,44,45,46] 4 (λv6=>⟨57,[(0,(.ptr 0 0)),(44,(.d (.sl (gC v1.cM)))),(45,(aq (v1.cM.length:Int))),(46,(aq (v6:Int)))],(IC v2 v3 v1 [.cells (cr v5.1).cells])⟩) (λv6 h9 f1=>gH [[],[f0 (da h9)],[]]) (λv6 v8 v9 h9 f1 aX=>az λv10 bE=>gA [[],[t0 (db h9)],[(1,oE (yd (cE h9)))],[(7,oQ [(.ptr 0 0),(dZ v8)] (IC v2 v3 v1 [.cells (cr v5.1).cells, .cells (dZ v8).cells]) [0,1] (Mx _ bE))],[]] (aE (λbD=>gH [[t0 bD],[]]) λbD=>gb aX () [[f0 bD],[(2,oq (cY h9 rfl h8))]] h9)))))) λh4=>gH [[t0 (eD h4)],[]])))
def Kk(N:Nat)(v4:aF×(an3 bj)×Bool)(v2:aV)(v3:an3 (an4×Int)):an3 cC->Nat->an5 (aF×Int)
 |[],_=>
  some (v4.1,(0:Int))
 |v7::v8,v5=>
  (Hh N v7 v2 v3).bind λv9=>
  bif (v9 !=0)then
   some (dG,v9)
  else
   (Kk N v4 v2 v3 v8 (v5+1))
def Ir(N:Nat)(v1:ar)(v2:aV)(v3:an3 (an4×Int)):an5 (aF×Int):=
 (Cv N v2 v1.au).bind λv4=>
 bif v4.2.2 then
  bif ((v1.xIdx.length:Int) !=(v4.2.1.length:Int))then
   some (dG,(11:Int))
  else
   Kk N v4 v2 v3 v1.xIdx 0
 else
  some (dG,(9:Int))
theorem adw{N v1 v2 v3}:KP 265 [(.ptr 0 0),(aM v1)] [.cells (fz v2 [(.mp 1)]), .map (fa v3)] (λr=> .aZ [(cr r.1),(aq r.2)]) (λ_=>[.cells (fz v2 [(.mp 1)]), .map (fa v3)]) (Ir N v1 v2 v3):=
 fh 2 Tryz.func265 (az λv4 J=>gA [[],[(19,cK Of J)],[]] (aE (λh2=>gA [[f0 (dK h2)],[(7,oL v1.xIdx lZ),(13,oL v4.2.1 lY)]] (aE (λh3=>gH [[t0 h3],[]]) λh3=>gA [[f0 h3],[(7,oL v1.xIdx lZ)]] (gT Gl 34 v1.xIdx λh5=>hJ 1 [] [0,4,6,34,35,36] 5 (λv5=>⟨49,[(0,(.ptr 0 0)),(4,(.ptr 3 0)),(6,(.ptr 4 0)),(34,(.d (.sl (eO v1.xIdx)))),(35,(aq (v1.xIdx.length:Int))),(36,(aq (v5:Int)))],[.cells (fz v2 [(.mp 1)]), .map (fa v3), .cells (aM v1).cells, .cells wG, .cells (cr v4.1).cells]⟩) (λv5 h6 f1=>gH [[],[f0 (da h6)],[]]) (λv5 v7 v8 h6 f1 aX=>az λv9 h7=>gA [[],[t0 (db h6)],[(1,oE (vw (cE h6)))],[(7,oQ [(.ptr 0 0),(aIndex v7)] [.cells (fz v2 [(.mp 1)]), .map (fa v3), .cells (aM v1).cells, .cells wG, .cells (cr v4.1).cells, .cells (aIndex v7).cells] [0,1] (agv _ h7))],[]] (aE (λh8=>gH [[t0 h8],[]]) λh8=>gb aX () [[f0 h8],[(2,oq (cY h6 rfl h5))]] h6))))) λh2=>gH [[t0 (eD h2)],[]]))
def BP(N:Nat)(v1:aF)(v2:aF):an5 Int:=
 bif ((v1.bk==v2.bk)&&((v1.bX==v2.bX)&&((v1.bS==v2.bS)&&((v1.ct==v2.ct)&&((v1.cu==v2.cu)&&true)))))then
  some (0:Int)
 else
  some (10:Int)
theorem Lo{N v1 v2}:KO 263 [(cr v1),(cr v2)] aq (BP N v1 v2):=
 fw Tryz.func263 (gA [[],[]] (rk λJ=>gR [[t0 (eD J)],[]]))
def Fe(N:Nat)(v8:an3 aF)(cz:Bool):an5 (aF×Int):=
 bif cz then
  Option.bind (v8[0]?) λbY=>
  Option.bind (v8[1]?) λcx=>
  (BP N bY cx).bind λv20=>
  some (dG,v20)
 else
  Option.bind (v8[0]?) λv21=>
  Option.bind (v8[1]?) λgJ=>
  (BP N v21 gJ).bind λe7=>
  some (v21,e7)
def Cg(N:Nat)(v1:ar)(v8:an3 aF)(bB:Bool):an5 (aF×Int):=
 bif bB then
  some (dG,(0:Int))
 else
  bif (v1.ay==13)then
   Fe N v8 (v1.ay==13)
  else
   bif (v1.ay==14)then
    Fe N v8 (v1.ay==14)
   else
    Fe N v8 (v1.ay==15)
def Is(N:Nat)(v1:ar)(v2:aV)(v3:an3 (an4×Int))(v8:an3 aF)(v9:Bool):an5 (aF×Int):=
 bif v9 then
  some (v1.aB,(0:Int))
 else
  bif (v1.ay==2)then
   (ET N v1.bq v2 v3).bind λv10=>
   some ((⟨(3:Int),(0:Int),(0:Int),(0:Int),(0:Int)⟩:aF),v10)
  else
   bif (v1.ay==3)then
    (Ir N v1 v2 v3).bind λv11=>
    some (v11.1,v11.2)
   else
    bif (v1.ay==8)then
     Option.bind (v8[0]?) λv12=>
     some (v12,(0:Int))
    else
     bif (v1.ay==11)then
      Option.bind (v8[1]?) λaH=>
      Option.bind (v8[2]?) λaQ=>
      (BP N aH aQ).bind λbA=>
      some (aH,bA)
     else
      bif (v1.ay==16)then
       Cg N v1 v8 (v1.ay==16)
      else
       bif (v1.ay==17)then
        Cg N v1 v8 (v1.ay==17)
       else
        Cg N v1 v8 (v1.ay==18)
def vr(N:Nat)(v1:ar)(v2:aV)(v3:an3 (an4×Int))(Z5:ar->aV->(an3 (an4×Int))->an5 (aF×Int)):an3 ar->Nat->(an3 aF)->an5 (aF×Int)
 |[],_,v8=>
  bif (v1.ay==1)then
   Is N v1 v2 v3 v8 (v1.ay==1)
  else
   Is N v1 v2 v3 v8 (v1.ay==12)
 |v6::v7,v4,v8=>
  (Z5 v6 v2 v3).bind λv24=>
  bif (v24.2 !=0)then
   some (dG,v24.2)
  else
   bif (Nat.ble ((v8.length+1)*40) 140737488355328)then
   (λcd=>vr N v1 v2 v3 Z5 v7 (v4+1) cd) (v8++[v24.1])
   else none
def xC(N:Nat):Nat->ar->aV->(an3 (an4×Int))->an5 (aF×Int)
 |0,_,_,_=>none
 |d+1,v1,v2,v3=>
  vr N v1 v2 v3 (xC N d) v1.bM 0 []
def Ow(N:Nat)(v1:ar)(v2:aV)(v3:an3 (an4×Int)):an5 (aF×Int):=xC N N v1 v2 v3
def xY(v2:aV)(v3:an3 (an4×Int))(v1:ar)(v8:an3 aF)(l:an3 ao):an3 ao:= .cells (fz v2 [(.mp 1)]):: .map (fa v3):: .cells (aM v1).cells:: .cells wG:: .front 34 5 v8.length::l
theorem aj8(N:Nat):∀d:Nat,(∀{v1:ar}{v2:aV}{v3:an3 (an4×Int)},KP 219 [(.ptr 0 0),(aM v1)] [.cells (fz v2 [(.mp 1)]), .map (fa v3)] (λr=> .aZ [(cr r.1),(aq r.2)]) (λ_=>[.cells (fz v2 [(.mp 1)]), .map (fa v3)]) (xC N d v1 v2 v3)):=by
 intro d
 induction d with
 |zero=>intro v1 v2 v3 r U;rw[xC]at U;cases U
 |succ d ih=>
  have ad1:= @ih;intro v1 v2 v3;rw[xC];exact fh 2 Tryz.func219 (gA [[],[],[(7,oL v1.bM vY)]] (li (λ_=>(tC 6 34 5 [] (.inr (by kernel_rfl)) ·)) (gT Lx 13 v1.bM λh2=>jo 1 [] [0,3,4,6,13,14,15] 5 (λv4(v8:an3 aF)=>⟨102,[(0,(.ptr 0 0)),(3,(.ptr 2 0)),(4,(.ptr 3 0)),(6,(.own 4 (ou v8))),(13,(.d (.sl (iO v1.bM)))),(14,(aq (v1.bM.length:Int))),(15,(aq (v4:Int)))],(xY v2 v3 v1 v8 [])⟩) (λv4 v8 h3 f1=>mM 2 [[],[(0,bF (da h3))],[],[],[]] [0,3,4,6,11,35,36] 5 (λ(v9:Bool)=>⟨102,[(0,(.ptr 0 0)),(3,(.ptr 2 0)),(4,(.ptr 3 0)),(6,(.own 4 (ou v8))),(11,(.fn 263 [])),(35,(aq v1.ay)),(36,(aK v9))],(xY v2 v3 v1 v8 [])⟩) (Is N v1 v2 v3 v8) (λf2 gw=>aE (λiw=>gm gw (v1.ay==1) [[(0,bT iw)]]) λiw=>gm gw (v1.ay==12) [[(0,bF iw)],[]]) (λv9=>aE (λh4=>gH [[(0,bT h4)],[]]) λh4=>gA [[(0,bF h4)],[]] (aE (λh5=>az λv10 h6=>gH [[(0,bT h5)],[(13,oQ [(.ptr 0 0),(dZ v1.bq)] (xY v2 v3 v1 v8 []) [0,1] (Mx _ h6))]]) λh5=>gA [[(0,bF h5)],[]] (aE (λh7=>az λv11 h8=>gH [[(0,bT h7)],[(7,oQ [(.ptr 0 0),(aM v1)] (xY v2 v3 v1 v8 []) [0,1] (adw _ h8))]]) λh7=>gA [[(0,bF h7)],[]] (aE (λh9=>az λv12 bE=>gH [[(0,bT h9)],[(4,oE (k:=0) (rS bE))]]) λh9=>gA [[(0,bF h9)],[]] (aE (λbD=>az λaH cl=>az λaQ cX=>az λbA cP=>gH [[(0,bT bD)],[(4,oE (k:=1) (rS cl)),(16,oE (k:=1) (rS cl)),(25,oE (k:=2) (rS cX)),(31,cK Lo cP)]]) λbD=>mM 3 [[(0,bF bD)],[]] [4,6,11,35,73] 5 (λ(bB:Bool)=>⟨102,[(4,(.ptr 3 0)),(6,(.own 4 (ou v8))),(11,(.fn 263 [])),(35,(aq v1.ay)),(73,(aK bB))],(xY v2 v3 v1 v8 [])⟩) (Cg N v1 v8) (λf3 qL=>aE (λsf=>gm qL (v1.ay==16) [[(0,bT sf)]]) λsf=>gA [[(0,bF sf)],[]] (aE (λoO=>gm qL (v1.ay==17) [[(0,bT oO)]]) λoO=>gm qL (v1.ay==18) [[(0,bF oO)],[]])) (λbB=>aE (λdm=>gH [[(0,bT dm)],[]]) λdm=>mM 4 [[(0,bF dm)],[]] [4,6,11,78] 5 (λ(cz:Bool)=>⟨102,[(4,(.ptr 3 0)),(6,(.own 4 (ou v8))),(11,(.fn 263 [])),(78,(aK cz))],(xY v2 v3 v1 v8 [])⟩) (Fe N v8) (λf4 qO=>aE (λir=>gm qO (v1.ay==13) [[(0,bT ir)]]) λir=>gA [[(0,bF ir)],[]] (aE (λgZ=>gm qO (v1.ay==14) [[(0,bT gZ)]]) λgZ=>gm qO (v1.ay==15) [[(0,bF gZ)],[]])) (λcz=>aE (λdd=>az λbY eY=>az λcx fU=>az λv20 gY=>gH [[(0,bT dd)],[(10,oE (k:=0) (rS eY)),(19,oE (k:=1) (rS fU)),(25,cK Lo gY)]]) λdd=>az λv21 gD=>az λgJ lu=>az λe7 m4=>gH [[(0,bF dd)],[(4,oE (k:=0) (rS gD)),(16,oE (k:=0) (rS gD)),(25,oE (k:=1) (rS lu)),(31,cK Lo m4)]])))))))) (λv4 v6 v7 v8 h3 f1 aX=>az λv24 sa=>gA [[],[(0,bT (db h3))],[(1,oE (n6 (cE h3)))],[(7,oQ [(.ptr 0 0),(aM v6)] (xY v2 v3 v1 v8 [.cells (aM v6).cells]) [0,1] (ad1 _ sa))],[]] (aE (λud=>gH [[(0,bT ud)],[]]) λud=>dN λvW=>gb aX (v8++[v24.1]) [[(0,bF ud)],[(10,oA afF v8 ([v24.1]) vW)],[(2,oq (cY h3 rfl h2))]] h3)))))
theorem ahg{N v1 v2 v3}:KP 219 [(.ptr 0 0),(aM v1)] [.cells (fz v2 [(.mp 1)]), .map (fa v3)] (λr=> .aZ [(cr r.1),(aq r.2)]) (λ_=>[.cells (fz v2 [(.mp 1)]), .map (fa v3)]) (Ow N v1 v2 v3):=(aj8 N N)
def vy(N:Nat)(v3:ar)(v1:aV):an3 an4->Nat->(an3 (an4×Int))->an5 (aF×Int)
 |[],_,bA=>
  (Ow N v3 v1 bA).bind λbB=>
  bif (bB.2 !=0)then
   some (dG,bB.2)
  else
   some (bB.1,(0:Int))
 |aH::aQ,v11,bA=>
  bif (Nat.blt bA.length 9223372036854775807)then
  (λb2_0=>vy N v3 v1 aQ (v11+1) b2_0) ((aH,(3:Int))::bA)
  else none
def KZ(N:Nat)(v3:ar)(v1:aV)(v2:an3 an4):an3 an4->Nat->(an3 (an4×Int))->an5 (aF×Int)
 |[],_,v10=>
  vy N v3 v1 v2 0 v10
 |v8::v9,v6,v10=>
  bif (Nat.blt v10.length 9223372036854775807)then
  (λcd=>KZ N v3 v1 v2 v9 (v6+1) cd) ((v8,(1:Int))::v10)
  else none
def GS(N:Nat)(v1:aV)(v2:an3 an4)(v3:ar):an5 (aF×Int):=
 (Br N v3).bind λv4=>
 bif (v4 !=0)then
  some (dG,v4)
 else
  (zL N v3).bind λv5=>
  bif v5 then
   some (dG,(10:Int))
  else
   KZ N v3 v1 v2 v1.bn 0 []
def PF(v1:aV)(v3:ar)(v10:an3 (an4×Int))(l:an3 ao):an3 ao:= .cells (fg v1).cells:: .cells (aM v3).cells:: .cells wG:: .map (fa v10):: .cells (fz v1 [(.mp 3)])::l
theorem aiu{N v1 v2 v3}:KO 146 [(fg v1),(.d (.sl (dQ v2))),(aM v3)] (λr=> .aZ [(cr r.1),(aq r.2)]) (GS N v1 v2 v3):=
 fw Tryz.func146 (az λv4 J=>gA [[],[(4,cL (TJ J))],[]] (bZ λh2=>az λv5 h3=>gA [[f0 h2],[(4,cK Q5 h3)]] (bZ λh4=>gA [[f0 h4],[],[(7,oL v1.bn kR)]] (gT sD 30 v1.bn λh6=>jo 1 [] [1,5,6,9,30,31,32] 5 (λv6(v10:an3 (an4×Int))=>⟨65,[(1,(.d (.sl (dQ v2)))),(5,(.ptr 1 0)),(6,(.ptr 2 0)),(9,(.ptr 4 0)),(30,(.d (.sl (dQ v1.bn)))),(31,(aq (v1.bn.length:Int))),(32,(aq (v6:Int)))],(PF v1 v3 v10 [])⟩) (λv6 v10 h7 f1=>gA [[],[f0 (da h7)],[(4,oL v2 kR)]] (gT sD 1 v2 λh9=>jo 2 [] [5,6,9,42,43,44] 5 (λv11(bA:an3 (an4×Int))=>⟨65,[(5,(.ptr 1 0)),(6,(.ptr 2 0)),(9,(.ptr 4 0)),(42,(.d (.sl (dQ v2)))),(43,(aq (v2.length:Int))),(44,(aq (v11:Int)))],(PF v1 v3 bA [])⟩) (λv11 bA bE f2=>az λbB bD=>gA [[],[f0 (da bE)],[(7,oQ [(.ptr 4 0),(aM v3)] (PF v1 v3 bA []) [4,3] (ahg _ bD))],[]] (bZ λcl=>gR [[f0 cl],[]])) (λv11 aH aQ bA bE f2 gw=>dN λcX=>gb gw ((aH,(3:Int))::bA) [[],[t0 (db bE)],[(1,oE (su (cE bE)))],[(16,⟨_,_, .sd (o:= .none) (Pj cX)⟩)],[(2,oq (cY bE rfl h9))]] bE))) (λv6 v8 v9 v10 h7 f1 aX=>dN λcP=>gb aX ((v8,(1:Int))::v10) [[],[t0 (db h7)],[(1,oE (su (cE h7)))],[(16,⟨_,_, .sd (o:= .none) (Pj cP)⟩)],[(2,oq (cY h7 rfl h6))]] h7)))))
def HU(N:Nat)(v1:Int)(v2:aV)(v3:an3 (an4×Int)):an5 (Int×(an3 (an4×Int))):=
 bif (decide ((0:Int)<=v1))then
 Option.bind (v2.aN[(v1).toNat]?) λv4=>
 Option.bind (Ah N v4.au (2:Int) v2 v3) λv5=>
 bif (v5.1 !=0)then
  some (v5.1,v5.2)
 else
  Option.bind (vt N v4.aB ([(v4.aU.length:Int),(v4.bV.length:Int)])) λv6=>
  bif (v6 !=0)then
   some (v6,v5.2)
  else
   (Ii N v4 v2 v5.2).bind λv7=>
   bif (v7 !=0)then
    some (v7,v5.2)
   else
    (KI N v4).bind λv8=>
    bif (v8 !=0)then
     some (v8,v5.2)
    else
     bif (decide ((v1).toNat<=v2.aN.length))then
     (Kn N v4).bind λv9=>
     Option.bind (GS N (⟨v2.bn,v2.dS,v2.aW,((v2.aN.take (v1).toNat).drop 0),v2.du⟩:aV) v9 v4.bO) λv10=>
     bif (v10.2 !=0)then
      some (v10.2,v5.2)
     else
      bif ((v10.1.bk==v4.aB.bk)&&((v10.1.bX==v4.aB.bX)&&((v10.1.bS==v4.aB.bS)&&((v10.1.ct==v4.aB.ct)&&((v10.1.cu==v4.aB.cu)&&true)))))then
       some ((0:Int),v5.2)
      else
       some ((10:Int),v5.2)
     else none
 else none
theorem aj3{N v1 v2 v3}:KP 91 [(.ptr 0 0),(aq v1)] [.cells (fz v2 [(.mp 1)]), .map (fa v3)] (λr=>aq r.1) (λr=>[.cells (fz v2 [(.mp 1)]), .map (fa r.2)]) (HU N v1 v2 v3):=
 fh 2 Tryz.func91 (dN λh2=>az λv4 J=>az λv5 h3=>gA [[],[(19,⟨_,_, .el (xs:=jc v2.aN) (i:=v1) (of_decide_eq_true h2) (Bf J)⟩)],[(10,oR [(.ptr 0 0),(dk v4.au),(aq (2:Int))] [.cells (fz v2 [(.mp 1)]), .map (fa v3), .cells (gg v4).cells] [0,1] (P7 _ h3))],[]] (aE (λh4=>gH [[t0 h4],[]]) λh4=>az λv6 h5=>gA [[f0 h4],[(13,oL v4.aU nB),(22,oL v4.bV nB),(28,cK aai h5)],[]] (aE (λh6=>gH [[t0 h6],[]]) λh6=>az λv7 h7=>gA [[f0 h6],[(7,oQ [(.ptr 0 0),(gg v4)] [.cells (fz v2 [(.mp 1)]), .map (fa v5.2), .cells (gg v4).cells] [0,1] (abJ _ h7))],[]] (aE (λh8=>gH [[t0 h8],[]]) λh8=>az λv8 h9=>gA [[f0 h8],[(4,cK ag7 h9)],[]] (aE (λbE=>gH [[t0 bE],[]]) λbE=>dN λbD=>az λv9 cl=>az λv10 cX=>gA [[f0 bE],[],[(19,⟨_,_, .sub (xs:=jc v2.aN) (lo:=0) (hi:=v1) (by decide) (Nat.zero_le _) (of_decide_eq_true h2) (by rw[xq];exact(of_decide_eq_true bD)) Ze al4⟩)],[(7,cK afE cl),(16,cK aiu cX)],[]] (aE (λcP=>gH [[t0 cP],[]]) λcP=>gA [[f0 cP],[]] (aE (λdm=>gH [[f0 (dK dm)],[]]) λdm=>gH [[t0 (eD dm)],[]])))))))
def EX(N:Nat)(e7:an3 (an4×Int))(v1:aV):an3 an4->Nat->Int->an5 (Int×Int)
 |[],_,_=>
  some ((0:Int),(0:Int))
 |fO::kH,v24,v28=>
  bif ((ga e7 fO 0) !=2)then
   some (v28,(9:Int))
  else
   bif (decide (((v24:Int)).toNat<=v1.du.length))then
   Option.bind (yR N ((v1.du.take ((v24:Int)).toNat).drop 0) fO) λrL=>
   bif rL then
    some (v28,(8:Int))
   else
    (λakR=>EX N e7 v1 kH (v24+1) akR) (aP (v28+(1:Int)))
   else none
def zi(N:Nat)(v1:aV):an3 bx->Nat->Int->(an3 (an4×Int))->an5 (Int×Int)
 |[],_,gJ,e7=>
  EX N e7 v1 v1.du 0 gJ
 |_::v21,bY,gJ,e7=>
  Option.bind (HU N (bY:Int) v1 e7) λv30=>
  bif (v30.1 !=0)then
   some (gJ,v30.1)
  else
   (λwy ahf=>zi N v1 v21 (bY+1) wy ahf) (aP (gJ+(1:Int))) v30.2
def AT(N:Nat)(v1:aV):an3 eH->Nat->Int->(an3 (an4×Int))->an5 (Int×Int)
 |[],_,bB,cz=>
  zi N v1 v1.aN 0 bB cz
 |aQ::bA,v12,bB,cz=>
  (Jj N aQ v1 cz).bind λv31=>
  bif (v31.1 !=0)then
   some (bB,v31.1)
  else
   (λpC vM=>AT N v1 bA (v12+1) pC vM) (aP (bB+(1:Int))) v31.2
def Eg(N:Nat)(v1:aV)(v7:an3 (an4×Int)):an3 gL->Nat->an5 (Int×Int)
 |[],_=>
  AT N v1 v1.aW 0 (2:Int) v7
 |v10::v11,v8=>
  (IA N v10 v1 v7).bind λEp=>
  bif (Ep !=0)then
   some ((1:Int),Ep)
  else
   (Eg N v1 v7 v11 (v8+1))
def Gw(N:Nat)(v1:aV):an3 an4->Nat->(an3 (an4×Int))->an5 (Int×Int)
 |[],_,v7=>
  Eg N v1 v7 v1.dS 0
 |v5::v6,v3,v7=>
  Option.bind (Ah N v5 (1:Int) v1 v7) λmZ=>
  bif (mZ.1 !=0)then
   some ((0:Int),mZ.1)
  else
   (λcd=>Gw N v1 v6 (v3+1) cd) mZ.2
def Hf(N:Nat)(v1:aV):an5 (Int×Int):=
 (Kj N v1).bind λv2=>
 bif v2 then
  Gw N v1 v1.bn 0 []
 else
  some ((0:Int),(2:Int))
def sK(v1:aV)(v7:an3 (an4×Int))(l:an3 ao):an3 ao:= .cells (fg v1).cells:: .map (fa v7):: .cells (fz v1 [(.mp 1)])::l
theorem aij{N v1}:KO 53 [(fg v1)] (λr=> .aZ [(aq r.1),(aq r.2)]) (Hf N v1):=
 fw Tryz.func53 (az λv2 J=>gA [[],[(4,cK abP J)]] (lU λh2=>gA [[f0 (dK h2)],[],[(7,oL v1.bn kR)]] (gT sD 27 v1.bn λh4=>jo 1 [] [1,4,27,28,29] 3 (λv3(v7:an3 (an4×Int))=>⟨115,[(1,(.ptr 0 0)),(4,(.ptr 2 0)),(27,(.d (.sl (dQ v1.bn)))),(28,(aq (v1.bn.length:Int))),(29,(aq (v3:Int)))],(sK v1 v7 [])⟩) (λv3 v7 h5 f1=>gA [[],[f0 (da h5)],[(7,oL v1.dS Jp)]] (gT Z0 41 v1.dS λh7=>hJ 2 [] [1,4,41,42,43] 3 (λv8=>⟨115,[(1,(.ptr 0 0)),(4,(.ptr 2 0)),(41,(.d (.sl (oe v1.dS)))),(42,(aq (v1.dS.length:Int))),(43,(aq (v8:Int)))],(sK v1 v7 [])⟩) (λv8 h8 f2=>gA [[],[f0 (da h8)],[],[(7,oL v1.aW Aa)]] (gT aaV 55 v1.aW λbE=>Oz 3 [] [1,4,11,55,56,57] 3 (λv12(bB:Int)(cz:an3 (an4×Int))=>⟨115,[(1,(.ptr 0 0)),(4,(.ptr 2 0)),(11,(aq bB)),(55,(.d (.sl (kG v1.aW)))),(56,(aq (v1.aW.length:Int))),(57,(aq (v12:Int)))],(sK v1 cz [])⟩) (λv12 bB cz bD f3=>gA [[],[f0 (da bD)],[(7,oL v1.aN xq)]] (gB NG 0 3 v1.aN λcX=>Oz 4 [] [1,4,11,73,74] 3 (λbY(gJ:Int)(e7:an3 (an4×Int))=>⟨115,[(1,(.ptr 0 0)),(4,(.ptr 2 0)),(11,(aq gJ)),(73,(aq (v1.aN.length:Int))),(74,(aq (bY:Int)))],(sK v1 e7 [])⟩) (λbY gJ e7 cP f4=>gA [[],[f0 (da cP)],[(7,oL v1.du kR)]] (gT sD 88 v1.du λdd=>jo 5 [] [1,4,11,88,89,90] 3 (λv24(v28:Int)=>⟨115,[(1,(.ptr 0 0)),(4,(.ptr 2 0)),(11,(aq v28)),(88,(.d (.sl (dQ v1.du)))),(89,(aq (v1.du.length:Int))),(90,(aq (v24:Int)))],(sK v1 e7 [])⟩) (λv24 v28 eY f5=>gR [[],[f0 (da eY)],[]]) (λv24 fO kH v28 eY f5 hf5=>gA [[],[t0 (db eY)],[(4,oE (su (cE eY)))],[(17,⟨_,_, .eq (BS false e7 fO)⟩)]] (bZ λfU=>dN λgY=>az λrL gD=>gA [[f0 fU],[(10,⟨_,_, .sub (xs:=dQ v1.du) (lo:=0) (hi:=(v24:Int)) (by decide) (Nat.zero_le _) (of_decide_eq_true (anW (Int.natCast_nonneg _))) (by rw[kR];exact(of_decide_eq_true gY)) Ik aid⟩),(16,cK Ux gD)]] (bZ λlu=>gb hf5 (aP (v28+(1:Int))) [[f0 lu],[],[(2,oq (cY eY rfl dd))]] eY))))) (λbY v20 v21 gJ e7 cP f4 qO=>az λv30 m4=>gA [[],[t0 (db cP)],[],[(7,oR [(.ptr 2 0),(aq (bY:Int))] (sK v1 e7 []) [2,1] (aj3 _ m4))],[]] (bZ λir=>gb qO ((aP (gJ+(1:Int))),v30.2) [[f0 ir],[],[(2,oq (cY cP rfl cX))]] cP)))) (λv12 aQ bA bB cz bD f3 qL=>az λv31 gZ=>gA [[],[t0 (db bD)],[(1,oE (Qw (cE bD)))],[(7,oR [(.ptr 2 0),(pJ aQ)] (sK v1 cz [.cells (pJ aQ).cells]) [2,1] (alf _ gZ))],[]] (bZ λsf=>gb qL ((aP (bB+(1:Int))),v31.2) [[f0 sf],[],[(2,oq (cY bD rfl bE))]] bD)))) (λv8 v10 v11 h8 f2 gw=>az λEp oO=>gA [[],[t0 (db h8)],[(1,oE (Zt (cE h8)))],[(7,oQ [(.ptr 2 0),(vu v10)] (sK v1 v7 [.cells (vu v10).cells]) [2,1] (ac5 _ oO))],[]] (bZ λiw=>gb gw () [[f0 iw],[(2,oq (cY h8 rfl h7))]] h8)))) (λv3 v5 v6 v7 h5 f1 aX=>az λmZ sa=>gA [[],[t0 (db h5)],[(1,oE (su (cE h5)))],[(7,oR [(.ptr 2 0),(dk v5),(aq (1:Int))] (sK v1 v7 []) [2,1] (P7 _ sa))],[]] (bZ λud=>gb aX mZ.2 [[f0 ud],[(2,oq (cY h5 rfl h4))]] h5)))))
def Nh(N:Nat)(v1:aL)(v2:an4):an5 Bool:=
 some (bL v1.au==bL v2)
theorem alb{N v1 v2}:KP 94 [(JF v1),(.ptr 0 0)] [.cells [(dk v2)]] aK (λ_=>[.cells [(dk v2)]]) (Nh N v1 v2):=
 fh 1 Tryz.func94 (gH [[],[]])
def CD(N:Nat)(v2:an4):an3 aL->Nat->an5 Int
 |[],_=>
  some (-1:Int)
 |v5::v6,v3=>
  (Nh N v5 v2).bind λv7=>
  bif v7 then
   some (v3:Int)
  else
   (CD N v2 v6 (v3+1))
def Rt(N:Nat)(v1:an3 aL)(v2:an4):an5 Int:=
 CD N v2 v1 0
theorem akN{N v1 v2}:KP 93 [(.d (.sl (aT v1))),(.fn 94 [(.ptr 0 0)])] [.cells [(dk v2)]] aq (λ_=>[.cells [(dk v2)]]) (Rt N v1 v2):=
 fh 1 Tryz.func93 (gA [[],[(4,oL v1 GK)]] (gT JA 0 v1 λh2=>hJ 1 [] [0,1,7,8] 1 (λv3=>⟨19,[(0,(.d (.sl (aT v1)))),(1,(.fn 94 [(.ptr 0 0)])),(7,(aq (v1.length:Int))),(8,(aq (v3:Int)))],[.cells [(dk v2)]]⟩) (λv3 h3 f1=>gH [[],[f0 (da h3)],[]]) (λv3 v5 v6 h3 f1 aX=>az λv7 h4=>gA [[],[t0 (db h3)],[],[(10,oE (FE (cE h3))),(16,oQ [(JF v5),(.ptr 0 0)] [.cells [(dk v2)]] [0] (alb _ h4))]] (aE (λh5=>gH [[t0 h5],[]]) λh5=>gb aX () [[f0 h5],[(2,oq (cY h3 rfl h2))]] h3))))
def Bw(N:Nat)(v1:Int64):an5 Int:=
 bif (decide (v1.toInt<0))then
  some (IntKind.u64.wrap (0-(IntKind.u64.wrap v1.toInt)))
 else
  some (IntKind.u64.wrap v1.toInt)
theorem NS{N v1}:KO 153 [(bz v1)] (λr=> .d (.v (.int .u64 r))) (Bw N v1):=
 fw Tryz.func153 (gA [[],[]] (bZ λJ=>gR [[f0 J],[]]))
def Eu(N:Nat)(v4:jL)(v7:Int)(v5:Int)(v8:Int)(v6:Int)(v10:Int):an5 (Int×Int×Int):=
 some ((IntKind.u64.wrap (v4.nF+(IntKind.u64.wrap (v7+v10)))),(IntKind.u64.wrap ((IntKind.u64.wrap (v4.ln+v5))+v8)),(IntKind.u64.wrap (v4.j6+v6)))
def xP(N:Nat)(v4:jL)(v5:Int)(v8:Int)(v7:Int)(v6:Int)(v9:Int):an5 (Int×Int×Int):=
 bif (decide ((IntKind.u64.wrap ((IntKind.u64.wrap (v4.ln+v5))+v8))<(IntKind.u64.wrap (v4.ln+v5))))then
  Eu N v4 v7 v5 v8 v6 (IntKind.u64.wrap (v9+(1:Int)))
 else
  Eu N v4 v7 v5 v8 v6 v9
def xQ(N:Nat)(v4:jL)(v5:Int)(v7:Int)(v6:Int)(v8:Int):an5 (Int×Int×Int):=
 bif (decide ((IntKind.u64.wrap (v4.ln+v5))<v5))then
  xP N v4 v5 v8 v7 v6 (1:Int)
 else
  xP N v4 v5 v8 v7 v6 (0:Int)
def rP(N:Nat)(v4:jL)(v5:Int)(v6:Int)(v7:Int):an5 (Int×Int×Int):=
 bif (decide ((IntKind.u64.wrap (v4.j6+v6))<v6))then
  xQ N v4 v5 v7 v6 (1:Int)
 else
  xQ N v4 v5 v7 v6 (0:Int)
def A8(N:Nat)(v1:Int)(v2:Int)(v3:Bool)(v4:jL):an5 (Int×Int×Int):=
 bif v3 then
  bif ((IntKind.u64.wrap ((IntKind.u64.wrap ((BitVec.ofInt (IntKind.bits .u64) (IntKind.max .u64)^^^BitVec.ofInt (IntKind.bits .u64) v2).toNat:Int))+(1:Int)))==0)then
   bif ((IntKind.u64.wrap ((IntKind.u64.wrap ((BitVec.ofInt (IntKind.bits .u64) (IntKind.max .u64)^^^BitVec.ofInt (IntKind.bits .u64) v1).toNat:Int))+(1:Int)))==0)then
    rP N v4 (IntKind.u64.wrap ((IntKind.u64.wrap ((BitVec.ofInt (IntKind.bits .u64) (IntKind.max .u64)^^^BitVec.ofInt (IntKind.bits .u64) v1).toNat:Int))+(1:Int))) (IntKind.u64.wrap ((IntKind.u64.wrap ((BitVec.ofInt (IntKind.bits .u64) (IntKind.max .u64)^^^BitVec.ofInt (IntKind.bits .u64) v2).toNat:Int))+(1:Int))) (IntKind.u64.wrap ((IntKind.u64.wrap ((BitVec.ofInt (IntKind.bits .u64) (IntKind.max .u64)^^^BitVec.ofInt (IntKind.bits .u64) (0:Int)).toNat:Int))+(1:Int)))
   else
    rP N v4 (IntKind.u64.wrap ((IntKind.u64.wrap ((BitVec.ofInt (IntKind.bits .u64) (IntKind.max .u64)^^^BitVec.ofInt (IntKind.bits .u64) v1).toNat:Int))+(1:Int))) (IntKind.u64.wrap ((IntKind.u64.wrap ((BitVec.ofInt (IntKind.bits .u64) (IntKind.max .u64)^^^BitVec.ofInt (IntKind.bits .u64) v2).toNat:Int))+(1:Int))) (IntKind.u64.wrap ((BitVec.ofInt (IntKind.bits .u64) (IntKind.max .u64)^^^BitVec.ofInt (IntKind.bits .u64) (0:Int)).toNat:Int))
  else
   rP N v4 (IntKind.u64.wrap ((BitVec.ofInt (IntKind.bits .u64) (IntKind.max .u64)^^^BitVec.ofInt (IntKind.bits .u64) v1).toNat:Int)) (IntKind.u64.wrap ((IntKind.u64.wrap ((BitVec.ofInt (IntKind.bits .u64) (IntKind.max .u64)^^^BitVec.ofInt (IntKind.bits .u64) v2).toNat:Int))+(1:Int))) (IntKind.u64.wrap ((BitVec.ofInt (IntKind.bits .u64) (IntKind.max .u64)^^^BitVec.ofInt (IntKind.bits .u64) (0:Int)).toNat:Int))
 else
  rP N v4 v1 v2 (0:Int)
def RV(v4:jL)(v6:Int)(l:an3 ao):an3 ao:= .cells [(.d (.v (.int .u64 v4.nF))),(.d (.v (.int .u64 v4.ln))),(.d (.v (.int .u64 (IntKind.u64.wrap (v4.j6+v6)))))]::l
theorem Xt{N v1 v2 v3 v4 r}(U:A8 N v1 v2 v3 v4=some r):KH 152 [(.ptr 0 0),(.d (.v (.int .u64 v1))),(.d (.v (.int .u64 v2))),(aK v3)] ([.cells (Ej v4).cells]) (.aZ []) ([.cells [(.d (.v (.int .u64 r.1))),(.d (.v (.int .u64 r.2.1))),(.d (.v (.int .u64 r.2.2)))]]):=by
 rw[A8]at U;refine BZ 1 Tryz.func152 ?_;refine Lr bW 1 [[],[]] [0,1,2,8] 1 (λ((v5,v6,v7):Int×Int×Int)=>⟨76,[(0,(.ptr 0 0)),(1,(.d (.v (.int .u64 v5)))),(2,(.d (.v (.int .u64 v6)))),(8,(.d (.v (.int .u64 v7))))],[.cells (Ej v4).cells]⟩) (λ((v5,v6,v7):Int×Int×Int)=>rP N v4 v5 v6 v7=some r) ?_ ?_
 ·intro f1 aX;apply bc U<;>intro h4 U
  ·refine je bW [[(0,bT h4)],[],[],[]] ?_;apply bc U<;>intro h5 U
   ·refine je bW [[(0,bT h5)],[],[]] ?_;apply bc U<;>intro h6 U
    ·exact l9 bW aX ((IntKind.u64.wrap ((IntKind.u64.wrap ((BitVec.ofInt (IntKind.bits .u64) (IntKind.max .u64)^^^BitVec.ofInt (IntKind.bits .u64) v1).toNat:Int))+(1:Int))),(IntKind.u64.wrap ((IntKind.u64.wrap ((BitVec.ofInt (IntKind.bits .u64) (IntKind.max .u64)^^^BitVec.ofInt (IntKind.bits .u64) v2).toNat:Int))+(1:Int))),(IntKind.u64.wrap ((IntKind.u64.wrap ((BitVec.ofInt (IntKind.bits .u64) (IntKind.max .u64)^^^BitVec.ofInt (IntKind.bits .u64) (0:Int)).toNat:Int))+(1:Int)))) [[(0,bT h6)],[]] U
    exact l9 bW aX ((IntKind.u64.wrap ((IntKind.u64.wrap ((BitVec.ofInt (IntKind.bits .u64) (IntKind.max .u64)^^^BitVec.ofInt (IntKind.bits .u64) v1).toNat:Int))+(1:Int))),(IntKind.u64.wrap ((IntKind.u64.wrap ((BitVec.ofInt (IntKind.bits .u64) (IntKind.max .u64)^^^BitVec.ofInt (IntKind.bits .u64) v2).toNat:Int))+(1:Int))),(IntKind.u64.wrap ((BitVec.ofInt (IntKind.bits .u64) (IntKind.max .u64)^^^BitVec.ofInt (IntKind.bits .u64) (0:Int)).toNat:Int))) [[(0,bF h6)]] U
   exact l9 bW aX ((IntKind.u64.wrap ((BitVec.ofInt (IntKind.bits .u64) (IntKind.max .u64)^^^BitVec.ofInt (IntKind.bits .u64) v1).toNat:Int)),(IntKind.u64.wrap ((IntKind.u64.wrap ((BitVec.ofInt (IntKind.bits .u64) (IntKind.max .u64)^^^BitVec.ofInt (IntKind.bits .u64) v2).toNat:Int))+(1:Int))),(IntKind.u64.wrap ((BitVec.ofInt (IntKind.bits .u64) (IntKind.max .u64)^^^BitVec.ofInt (IntKind.bits .u64) (0:Int)).toNat:Int))) [[(0,bF h5)]] U
  exact l9 bW aX (v1,v2,(0:Int)) [[(0,bF h4)]] U
 rintro⟨v5,v6,v7⟩ U
 try dsimp only at U
 rw[rP]at U;refine Dm bW r 2 [[],[],[]] [0,1,8,9] 1 (λ(v8:Int)=>⟨76,[(0,(.ptr 0 0)),(1,(.d (.v (.int .u64 v5)))),(8,(.d (.v (.int .u64 v7)))),(9,(.d (.v (.int .u64 v8))))],(RV v4 v6 [])⟩) (xQ N v4 v5 v7 v6) ?_ ?_
 ·intro f2 gw;apply bc U<;>intro h3 U
  ·exact l9 bW gw (1:Int) [[(0,bT h3)],[]] U
  exact l9 bW gw (0:Int) [[(0,bF h3)]] U
 intro v8 U;rw[xQ]at U;refine Dm bW r 3 [[],[],[]] [0,8,9,10,11] 1 (λ(v9:Int)=>⟨76,[(0,(.ptr 0 0)),(8,(.d (.v (.int .u64 v7)))),(9,(.d (.v (.int .u64 v8)))),(10,(.d (.v (.int .u64 (IntKind.u64.wrap (v4.ln+v5)))))),(11,(.d (.v (.int .u64 v9))))],(RV v4 v6 [])⟩) (xP N v4 v5 v8 v7 v6) ?_ ?_
 ·intro f3 qL;apply bc U<;>intro h2 U
  ·exact l9 bW qL (1:Int) [[(0,bT h2)],[]] U
  exact l9 bW qL (0:Int) [[(0,bF h2)]] U
 intro v9 U;rw[xP]at U;refine Dm bW r 4 [[],[]] [0,8,11] 1 (λ(v10:Int)=>⟨76,[(0,(.ptr 0 0)),(8,(.d (.v (.int .u64 v7)))),(11,(.d (.v (.int .u64 v10))))],[.cells [(.d (.v (.int .u64 v4.nF))),(.d (.v (.int .u64 (IntKind.u64.wrap ((IntKind.u64.wrap (v4.ln+v5))+v8))))),(.d (.v (.int .u64 (IntKind.u64.wrap (v4.j6+v6)))))]]⟩) (Eu N v4 v7 v5 v8 v6) ?_ ?_
 ·intro f4 qO;apply bc U<;>intro J U
  ·exact l9 bW qO (IntKind.u64.wrap (v9+(1:Int))) [[(0,bT J)],[]] U
  exact l9 bW qO v9 [[(0,bF J)]] U
 intro v10 U;rw[Eu]at U;cases U;exact m5 bW [[]]
def NZ(N:Nat)(v1:aL)(v2:c8):an5 Bool:=
 some (bL v1.au==bL v2.au)
theorem acj{N v1 v2}:KP 154 [(JF v1),(.ptr 0 0)] [.cells (rQ v2).cells] aK (λ_=>[.cells (rQ v2).cells]) (NZ N v1 v2):=
 fh 1 Tryz.func154 (gH [[],[]])
def AY(N:Nat)(v2:c8):an3 aL->Nat->an5 Int
 |[],_=>
  some (-1:Int)
 |v5::v6,v3=>
  (NZ N v5 v2).bind λv7=>
  bif v7 then
   some (v3:Int)
  else
   (AY N v2 v6 (v3+1))
def Qe(N:Nat)(v1:an3 aL)(v2:c8):an5 Int:=
 AY N v2 v1 0
theorem ahx{N v1 v2}:KP 93 [(.d (.sl (aT v1))),(.fn 154 [(.ptr 0 0)])] [.cells (rQ v2).cells] aq (λ_=>[.cells (rQ v2).cells]) (Qe N v1 v2):=
 fh 1 Tryz.func93 (gA [[],[(4,oL v1 GK)]] (gT JA 0 v1 λh2=>hJ 1 [] [0,1,7,8] 1 (λv3=>⟨19,[(0,(.d (.sl (aT v1)))),(1,(.fn 154 [(.ptr 0 0)])),(7,(aq (v1.length:Int))),(8,(aq (v3:Int)))],[.cells (rQ v2).cells]⟩) (λv3 h3 f1=>gH [[],[f0 (da h3)],[]]) (λv3 v5 v6 h3 f1 aX=>az λv7 h4=>gA [[],[t0 (db h3)],[],[(10,oE (FE (cE h3))),(16,oQ [(JF v5),(.ptr 0 0)] [.cells (rQ v2).cells] [0] (acj _ h4))]] (aE (λh5=>gH [[t0 h5],[]]) λh5=>gb aX () [[f0 h5],[(2,oq (cY h3 rfl h2))]] h3))))
def J4(N:Nat)(v1:Int)(v2:Int):an5 (Int×Int):=
 some ((IntKind.u64.wrap ((IntKind.u64.wrap ((IntKind.u64.wrap (((v1).fdiv (2^(min ((32:Int)).toNat (IntKind.bits .u64))))*((v2).fdiv (2^(min ((32:Int)).toNat (IntKind.bits .u64))))))+(((IntKind.u64.wrap ((IntKind.u64.wrap (((v1).fdiv (2^(min ((32:Int)).toNat (IntKind.bits .u64))))*(IntKind.u64.wrap ((BitVec.ofInt (IntKind.bits .u64) v2&&&BitVec.ofInt (IntKind.bits .u64) (4294967295:Int)).toNat:Int))))+(((IntKind.u64.wrap ((IntKind.u64.wrap ((BitVec.ofInt (IntKind.bits .u64) v1&&&BitVec.ofInt (IntKind.bits .u64) (4294967295:Int)).toNat:Int))*(IntKind.u64.wrap ((BitVec.ofInt (IntKind.bits .u64) v2&&&BitVec.ofInt (IntKind.bits .u64) (4294967295:Int)).toNat:Int))))).fdiv (2^(min ((32:Int)).toNat (IntKind.bits .u64))))))).fdiv (2^(min ((32:Int)).toNat (IntKind.bits .u64))))))+(((IntKind.u64.wrap ((IntKind.u64.wrap ((IntKind.u64.wrap ((BitVec.ofInt (IntKind.bits .u64) v1&&&BitVec.ofInt (IntKind.bits .u64) (4294967295:Int)).toNat:Int))*((v2).fdiv (2^(min ((32:Int)).toNat (IntKind.bits .u64))))))+(IntKind.u64.wrap ((BitVec.ofInt (IntKind.bits .u64) (IntKind.u64.wrap ((IntKind.u64.wrap (((v1).fdiv (2^(min ((32:Int)).toNat (IntKind.bits .u64))))*(IntKind.u64.wrap ((BitVec.ofInt (IntKind.bits .u64) v2&&&BitVec.ofInt (IntKind.bits .u64) (4294967295:Int)).toNat:Int))))+(((IntKind.u64.wrap ((IntKind.u64.wrap ((BitVec.ofInt (IntKind.bits .u64) v1&&&BitVec.ofInt (IntKind.bits .u64) (4294967295:Int)).toNat:Int))*(IntKind.u64.wrap ((BitVec.ofInt (IntKind.bits .u64) v2&&&BitVec.ofInt (IntKind.bits .u64) (4294967295:Int)).toNat:Int))))).fdiv (2^(min ((32:Int)).toNat (IntKind.bits .u64))))))&&&BitVec.ofInt (IntKind.bits .u64) (4294967295:Int)).toNat:Int))))).fdiv (2^(min ((32:Int)).toNat (IntKind.bits .u64)))))),(IntKind.u64.wrap (v1*v2)))
theorem amn{N v1 v2}:KO 155 [(.d (.v (.int .u64 v1))),(.d (.v (.int .u64 v2)))] (λr=> .aZ [(.d (.v (.int .u64 r.1))),(.d (.v (.int .u64 r.2)))]) (J4 N v1 v2):=
 fw Tryz.func155 (gR [[],[],[(4,⟨_,_, .nn (b:=32) (by decide)⟩),(19,⟨_,_, .nn (b:=32) (by decide)⟩)],[(10,⟨_,_, .nn (b:=32) (by decide)⟩)],[(4,⟨_,_, .nn (b:=32) (by decide)⟩),(10,⟨_,_, .nn (b:=32) (by decide)⟩),(19,⟨_,_, .nn (b:=32) (by decide)⟩),(28,⟨_,_, .nn (b:=32) (by decide)⟩)]])
def KM(N:Nat)(v1:jL):an5 (Int64×Bool):=
 Option.bind (bif (v1.ln==(IntKind.u64.wrap (Int64.ofInt (((Int64.ofInt v1.j6).toInt).fdiv (2^(min ((63:Int)).toNat (IntKind.bits .i64))))).toInt))then some (v1.nF==(IntKind.u64.wrap (Int64.ofInt (((Int64.ofInt v1.j6).toInt).fdiv (2^(min ((63:Int)).toNat (IntKind.bits .i64))))).toInt))else some false) λv2=>
 some ((Int64.ofInt v1.j6),v2)
theorem af0{N v1}:KP 156 [(.ptr 0 0)] [.cells (Ej v1).cells] (λr=> .aZ [(bz r.1),(aK r.2)]) (λ_=>[.cells (Ej v1).cells]) (KM N v1):=
 fh 1 Tryz.func156 (gA [[],[(14,⟨_,_, .eq (kC v1.j6)⟩)],[(4,⟨_,_, .nn (b:=63) (by decide)⟩),(5,⟨_,_, .eq (Xd (Int64.ofInt v1.j6) (min ((63:Int)).toNat (IntKind.bits .i64)))⟩)]] (gG (λv2=>[(2,(bz (Int64.ofInt v1.j6))),(3,(aK v2))]) (λ_=>[.cells (Ej v1).cells]) (aE (λJ=>gE [(7,bT J)] []) λJ=>gE [(7,bF J)] []) λv2=>gH []))
def CZ(N:Nat)(v2:an3 aL):an3 c8->Nat->Int->Int->Int->an5 (Int64×Int)
 |[],_,v10,v11,v12=>
  Option.bind (KM N (⟨v10,v11,v12⟩:jL)) λaH=>
  bif aH.2 then
   some (aH.1,(0:Int))
  else
   some ((0:Int64),(3:Int))
 |v8::v9,v6,v10,v11,v12=>
  (Qe N v2 v8).bind λaQ=>
  bif (decide (aQ<0))then
   some ((0:Int64),(9:Int))
  else
   bif (decide ((0:Int)<=aQ))then
   Option.bind (v2[(aQ).toNat]?) λbA=>
   (Bw N v8.eF).bind λbB=>
   (Bw N bA.dF).bind λcz=>
   (J4 N bB cz).bind λbY=>
   Option.bind (A8 N bY.1 bY.2 (!((decide (v8.eF.toInt<0))==(decide (bA.dF.toInt<0)))) (⟨v10,v11,v12⟩:jL)) λcx=>
   (λcd fi xe=>CZ N v2 v9 (v6+1) cd fi xe) cx.1 cx.2.1 cx.2.2
   else none
def tO(N:Nat)(v1:bj)(v2:an3 aL):an5 (Int64×Int):=
 (zV N v1).bind λv3=>
 bif (v3 !=0)then
  some ((0:Int64),(1:Int))
 else
  (Bw N v1.xK).bind λv4=>
  Option.bind (A8 N (0:Int) v4 (decide (v1.xK.toInt<0)) aaJ) λv5=>
  CZ N v2 v1.xL 0 v5.1 v5.2.1 v5.2.2
def Jb(v1:bj)(v10:Int)(v11:Int)(v12:Int)(l:an3 ao):an3 ao:= .cells (dZ v1).cells:: .cells [(.d (.v (.int .u64 v10))),(.d (.v (.int .u64 v11))),(.d (.v (.int .u64 v12)))]::l
theorem Dy{N v1 v2}:KO 99 [(dZ v1),(.d (.sl (aT v2)))] (λr=> .aZ [(bz r.1),(aq r.2)]) (tO N v1 v2):=
 fw Tryz.func99 (az λv3 J=>gA [[],[(4,cK GF J)]] (lx λ_=>az λv4 h3=>az λv5 h4=>li (λ_=>(A7 bW [(7,cK NS h3),(19,oR [(.ptr 1 0),(.d (.v (.int .u64 (0:Int)))),(.d (.v (.int .u64 v4))),(aK (decide (v1.xK.toInt<0)))] [.cells (dZ v1).cells, .cells [(.d (.v (.int .u64 (0:Int)))),(.d (.v (.int .u64 (0:Int)))),(.d (.v (.int .u64 (0:Int))))]] [1] (Xt h4))] [] [.cells (dZ v1).cells, .cells [(.d (.v (.int .u64 v5.1))),(.d (.v (.int .u64 v5.2.1))),(.d (.v (.int .u64 v5.2.2)))]] ·)) (gA [[(7,oL v1.xL uU)]] (gT HX 26 v1.xL λh6=>gl3 1 [] [1,6,26,27,28] 2 (λv6(v10:Int)(v11:Int)(v12:Int)=>⟨68,[(1,(.d (.sl (aT v2)))),(6,(.ptr 1 0)),(26,(.d (.sl (gr v1.xL)))),(27,(aq (v1.xL.length:Int))),(28,(aq (v6:Int)))],(Jb v1 v10 v11 v12 [])⟩) (λv6 v10 v11 v12 h7 f1=>az λaH h8=>gA [[],[f0 (da h7)],[(1,oQ [(.ptr 1 0)] (Jb v1 v10 v11 v12 []) [1] (af0 _ h8))],[]] (rk λh9=>gR [[t0 (eD h9)],[]])) (λv6 v8 v9 v10 v11 v12 h7 f1 aX=>az λaQ bE=>gA [[],[t0 (db h7)],[(1,oE (Ed (cE h7)))],[(7,oQ [(.d (.sl (aT v2))),(.fn 154 [(.ptr 2 0)])] (Jb v1 v10 v11 v12 [.cells (rQ v8).cells]) [2] (ahx _ bE))],[]] (bZ λbD=>dN λcX=>az λbA cl=>az λbB cP=>az λcz dm=>az λbY dd=>az λcx eY=>gb aX (cx.1,cx.2.1,cx.2.2) [[f0 bD],[(7,⟨_,_, .el (xs:=aT v2) (i:=aQ) (of_decide_eq_true cX) (FE cl)⟩)],[(7,cK NS cP),(13,cK NS dm),(16,cK amn dd)],[(25,oR [(.ptr 1 0),(.d (.v (.int .u64 bY.1))),(.d (.v (.int .u64 bY.2))),(aK (!((decide (v8.eF.toInt<0))==(decide (bA.dF.toInt<0)))))] (Jb v1 v10 v11 v12 [.cells (rQ v8).cells]) [1] (Xt eY))],[(2,oq (cY h7 rfl h6))]] h7))))))
def JM(N:Nat)(v1:gL)(v2:an3 aL):an5 (Bool×Int):=
 (tO N v1.bq v2).bind λv3=>
 bif (v3.2 !=0)then
  some (false,v3.2)
 else
  Option.bind (bif (v3.1.toInt==0)then some true else(bif (decide (v3.1.toInt>0))then some (!v1.DW)else some false)) λv4=>
  some (v4,(0:Int))
theorem akH{N v1 v2}:KO 95 [(vu v1),(.d (.sl (aT v2)))] (λr=> .aZ [(aK r.1),(aq r.2)]) (JM N v1 v2):=
 fw Tryz.func95 (az λv3 J=>gA [[],[(10,cK Dy J)],[]] (bZ λh2=>gA [[f0 h2]] (gG (λv4=>[(4,(aK v4)),(5,(aq (0:Int)))]) (λ_=>[.cells (vu v1).cells]) (aE (λh3=>gE [(2,bT h3),(5,uN)] []) λh3=>eK (2,bF h3) (aE (λh4=>gE [(5,bT h4)] [(28,bT h4)]) λh4=>gE [(5,bF h4)] [(28,bF h4)])) λv4=>gR [])))
def Iz(N:Nat)(v2:an3 aL):an3 gL->Nat->an5 Int
 |[],_=>
  some (0:Int)
 |v9::v10,v7=>
  (JM N v9 v2).bind λv11=>
  bif (v11.2 !=0)then
   some v11.2
  else
   bif v11.1 then
    (Iz N v2 v10 (v7+1))
   else
    some (16:Int)
def Jh(N:Nat)(v2:an3 aL)(v1:aV):an3 an4->Nat->an5 Int
 |[],_=>
  Iz N v2 v1.dS 0
 |v5::v6,v3=>
  (Rt N v2 v5).bind λv12=>
  Option.bind (bif (decide (v12<0))then some true else bif (decide ((0:Int)<=v12))then
  Option.bind (v2[(v12).toNat]?) λaH=>
  (bif (decide (aH.dF.toInt<1))then some true else some (decide (aH.dF.toInt>4096)))
  else none) λaQ=>
  bif aQ then
   some (15:Int)
  else
   (Jh N v2 v1 v6 (v3+1))
def FZ(N:Nat)(v1:aV)(v2:an3 aL):an5 Int:=
 bif ((v2.length:Int) !=(v1.bn.length:Int))then
  some (15:Int)
 else
  Jh N v2 v1 v1.bn 0
theorem afw{N v1 v2}:KO 54 [(fg v1),(.d (.sl (aT v2)))] aq (FZ N v1 v2):=
 fw Tryz.func54 (gA [[],[(4,oL v2 GK),(13,oL v1.bn kR)]] (bZ λJ=>gA [[f0 J],[(7,oL v1.bn kR)]] (gT sD 19 v1.bn λh3=>hJ 1 [] [1,2,19,20,21] 1 (λv3=>⟨66,[(1,(.d (.sl (aT v2)))),(2,(.ptr 0 0)),(19,(.d (.sl (dQ v1.bn)))),(20,(aq (v1.bn.length:Int))),(21,(aq (v3:Int)))],[.cells (fg v1).cells]⟩) (λv3 h4 f1=>gA [[],[f0 (da h4)],[(7,oL v1.dS Jp)]] (gT Z0 48 v1.dS λh6=>hJ 2 [] [1,48,49,50] 1 (λv7=>⟨66,[(1,(.d (.sl (aT v2)))),(48,(.d (.sl (oe v1.dS)))),(49,(aq (v1.dS.length:Int))),(50,(aq (v7:Int)))],[.cells (fg v1).cells]⟩) (λv7 h7 f2=>gR [[],[f0 (da h7)],[]]) (λv7 v9 v10 h7 f2 gw=>az λv11 h8=>gA [[],[t0 (db h7)],[(1,oE (Zt (cE h7)))],[(7,cK akH h8)],[]] (lx λ_=>lU λbE=>gb gw () [[f0 (dK bE)],[(2,oq (cY h7 rfl h6))]] h7)))) (λv3 v5 v6 h4 f1 aX=>az λv12 bD=>gA [[],[t0 (db h4)],[(1,oE (su (cE h4)))],[(7,oQ [(.d (.sl (aT v2))),(.fn 94 [(.ptr 1 0)])] [.cells (fg v1).cells, .cells [(dk v5)]] [1] (akN _ bD))]] (gG (λaQ=>[(45,(aK aQ))]) (λ_=>[.cells (fg v1).cells, .cells [(dk v5)]]) (aE (λcl=>gE [(2,bT cl),(10,bT rfl)] []) λcl=>dN λcP=>az λaH cX=>eK (2,bF cl) (dO (16,⟨_,_, .el (xs:=aT v2) (i:=v12) (of_decide_eq_true cP) (FE cX)⟩) (aE (λdm=>gE [(10,bT dm)] []) λdm=>gE [(10,bF dm)] [(40,⟨_,_, .el (xs:=aT v2) (i:=v12) (of_decide_eq_true cP) (FE cX)⟩)]))) λaQ=>bZ λeY=>gb aX () [[f0 eY],[(2,oq (cY h4 rfl h3))]] h4)))))
def C7(N:Nat)(v1:aV)(v2:an3 aL):an5 Int:=
 (Hf N v1).bind λv3=>
 bif (v3.2 !=0)then
  some v3.2
 else
  (FZ N v1 v2).bind λv4=>
  some v4
theorem agk{N v1 v2}:KO 30 [(fg v1),(.d (.sl (aT v2)))] aq (C7 N v1 v2):=
 fw Tryz.func30 (az λv3 J=>gA [[],[(4,cK aij J)],[]] (bZ λh2=>az λv4 h3=>gR [[f0 h2],[(7,cK afw h3)]]))
def Kg(N:Nat)(v2:an3 aL):an3 bj->Nat->(an3 Int)->an5 ((an3 Int)×Int)
 |[],_,v7=>
  some (v7,(0:Int))
 |v5::v6,v3,v7=>
  (tO N v5 v2).bind λv8=>
  bif (v8.2 !=0)then
   some ([],v8.2)
  else
   Option.bind (bif (decide (v8.1.toInt<1))then some true else some (decide (v8.1.toInt>4096))) λv9=>
   bif v9 then
    some ([],(15:Int))
   else
    bif (Nat.ble ((v7.length+1)*8) 140737488355328)then
    (λcd=>Kg N v2 v6 (v3+1) cd) (v7++[v8.1.toInt])
    else none
def Cd(N:Nat)(v1:an3 bj)(v2:an3 aL):an5 ((an3 Int)×Int):=
 Kg N v2 v1 0 []
theorem U9{N v1 v2}:KO 56 [(.d (.sl (gC v1))),(.d (.sl (aT v2)))] (λr=> .aZ [(.d (.sl (bu r.1))),(aq r.2)]) (Cd N v1 v2):=
 fw Tryz.func56 (gA [[],[],[(4,oL v1 lY)]] (li (λ_=>(tC 6 3 1 [] (.inr (by kernel_rfl)) ·)) (gT tF 0 v1 λh2=>jo 1 [] [1,6,11,12,13] 1 (λv3(v7:an3 Int)=>⟨38,[(1,(.d (.sl (aT v2)))),(6,(.own 0 (bu v7))),(11,(.d (.sl (gC v1)))),(12,(aq (v1.length:Int))),(13,(aq (v3:Int)))],[.front 3 1 v7.length]⟩) (λv3 v7 h3 f1=>gR [[],[f0 (da h3)],[]]) (λv3 v5 v6 v7 h3 f1 aX=>az λv8 h4=>gA [[],[t0 (db h3)],[(1,oE (yd (cE h3)))],[(7,cK Dy h4)],[]] (bZ λh5=>gA [[f0 h5]] (gG (λv9=>[(31,(aK v9))]) (λ_=>[.front 3 1 v7.length, .cells (dZ v5).cells]) (aE (λh6=>gE [(2,bT h6)] []) λh6=>gE [(2,bF h6)] []) λv9=>bZ λh8=>dN λh9=>gb aX (v7++[v8.1.toInt]) [[f0 h8],[(10,oA oF v7 ([v8.1.toInt]) h9)],[(2,oq (cY h3 rfl h2))]] h3))))))
def CV(N:Nat)(v2:Int):an3 Int->Nat->Int->an5 Int
 |[],_,v7=>
  some v7
 |v5::v6,v3,v7=>
  bif (decide ((aP (v7*v5))>v2))then
   some (aP (v2+(1:Int)))
  else
   (λcd=>CV N v2 v6 (v3+1) cd) (aP (v7*v5))
def Mh(N:Nat)(v1:an3 Int)(v2:Int):an5 Int:=
 CV N v2 v1 0 (1:Int)
theorem akI{N v1 v2}:KO 57 [(.d (.sl (bu v1))),(aq v2)] aq (Mh N v1 v2):=
 fw Tryz.func57 (gA [[],[],[(4,oL v1 dInts_len)]] (gT oF 0 v1 λh2=>jo 1 [] [1,5,8,9,10] 0 (λv3(v7:Int)=>⟨24,[(1,(aq v2)),(5,(aq v7)),(8,(.d (.sl (bu v1)))),(9,(aq (v1.length:Int))),(10,(aq (v3:Int)))],[]⟩) (λv3 v7 h3 f1=>gR [[],[f0 (da h3)],[]]) (λv3 v5 v6 v7 h3 f1 aX=>gA [[],[t0 (db h3)],[(1,oE (ko (cE h3)))],[],[]] (bZ λh4=>gb aX (aP (v7*v5)) [[f0 h4],[(2,oq (cY h3 rfl h2))]] h3))))
def yS(N:Nat)(v1:aV)(v2:an3 aL)(v3:an4):an5 ((an3 Int)×aF×Int):=
 (Cv N v1 v3).bind λv4=>
 bif v4.2.2 then
  (Cd N v4.2.1 v2).bind λv5=>
  bif (v5.2 !=0)then
   some ([],v4.1,v5.2)
  else
   Option.bind (Mh N v5.1 (4096:Int)) λv6=>
   bif (decide (v6>4096))then
    some ([],v4.1,(15:Int))
   else
    some (v5.1,v4.1,(0:Int))
 else
  some ([],v4.1,(9:Int))
theorem Ru{N v1 v2 v3}:KO 31 [(fg v1),(.d (.sl (aT v2))),(dk v3)] (λr=> .aZ [(.d (.sl (bu r.1))),(cr r.2.1),(aq r.2.2)]) (yS N v1 v2 v3):=
 fw Tryz.func31 (az λv4 J=>gA [[],[(7,cK Of J)],[]] (lU λh2=>az λv5 h3=>gA [[f0 (dK h2)],[(7,cK U9 h3)],[]] (bZ λh4=>az λv6 h5=>gA [[f0 h4],[(4,cK akI h5)]] (bZ λh6=>gR [[f0 h6],[]]))))
def LY(N:Nat)(v1:aJ)(v2:an4):an5 Bool:=
 some (bL v1.au==bL v2)
theorem ab4{N v1 v2}:KP 46 [(VV v1),(.ptr 0 0)] [.cells [(dk v2)]] aK (λ_=>[.cells [(dk v2)]]) (LY N v1 v2):=
 fh 1 Tryz.func46 (gH [[],[]])
def Bq(N:Nat)(v2:an4):an3 aJ->Nat->an5 Int
 |[],_=>
  some (-1:Int)
 |v5::v6,v3=>
  (LY N v5 v2).bind λv7=>
  bif v7 then
   some (v3:Int)
  else
   (Bq N v2 v6 (v3+1))
def Py(N:Nat)(v1:an3 aJ)(v2:an4):an5 Int:=
 Bq N v2 v1 0
theorem abB{N v1 v2}:KP 45 [(.d (.sl (aY v1))),(.fn 46 [(.ptr 0 0)])] [.cells [(dk v2)]] aq (λ_=>[.cells [(dk v2)]]) (Py N v1 v2):=
 fh 1 Tryz.func45 (gA [[],[(4,oL v1 FG)]] (gT Gz 0 v1 λh2=>hJ 1 [] [0,1,7,8] 1 (λv3=>⟨19,[(0,(.d (.sl (aY v1)))),(1,(.fn 46 [(.ptr 0 0)])),(7,(aq (v1.length:Int))),(8,(aq (v3:Int)))],[.cells [(dk v2)]]⟩) (λv3 h3 f1=>gH [[],[f0 (da h3)],[]]) (λv3 v5 v6 h3 f1 aX=>az λv7 h4=>gA [[],[t0 (db h3)],[],[(10,oE (wB (cE h3))),(16,oQ [(VV v5),(.ptr 0 0)] [.cells [(dk v2)]] [0] (ab4 _ h4))]] (aE (λh5=>gH [[t0 h5],[]]) λh5=>gb aX () [[f0 h5],[(2,oq (cY h3 rfl h2))]] h3))))
def uy(N:Nat)(v1:an3 aJ)(v2:an4):an5 (aR×Bool):=
 (Py N v1 v2).bind λv3=>
 bif (decide (v3<0))then
  some (mE,false)
 else
  bif (decide ((0:Int)<=v3))then
  Option.bind (v1[(v3).toNat]?) λv4=>
  some (v4.dY,true)
  else none
theorem II{N v1 v2}:KO 27 [(.d (.sl (aY v1))),(dk v2)] (λr=> .aZ [(jF r.1),(aK r.2)]) (uy N v1 v2):=
 fw Tryz.func27 (az λv3 J=>gA [[],[(7,oQ [(.d (.sl (aY v1))),(.fn 46 [(.ptr 0 0)])] [.cells [(dk v2)], .cells Wo] [0] (abB _ J))],[]] (bZ λh2=>dN λh4=>az λv4 h3=>gR [[f0 h2],[(7,⟨_,_, .el (xs:=aY v1) (i:=v3) (of_decide_eq_true h4) (wB h3)⟩)]]))
def AH(N:Nat):an3 Int->Nat->Int->an5 Int
 |[],_,_=>
  some (0:Int)
 |v8::v9,v6,v10=>
  bif (v10 !=0)then
  bif (decide (v8>(IntKind.i64.wrap (((4096:Int)).tdiv v10))))then
   some (2:Int)
  else
   (λb2_0=>AH N v9 (v6+1) b2_0) (aP (v10*v8))
  else none
def GC(N:Nat)(v1:an3 Int):an3 Int->Nat->an5 Int
 |[],_=>
  AH N v1 0 (1:Int)
 |v4::v5,v2=>
  bif (decide (v4<1))then
   some (1:Int)
  else
   (GC N v1 v5 (v2+1))
def Dj(N:Nat)(v1:an3 Int):an5 Int:=
 bif (decide ((v1.length:Int)>6))then
  some (2:Int)
 else
  GC N v1 v1 0
theorem T3{N v1}:KO 117 [(.d (.sl (bu v1)))] aq (Dj N v1):=
 fw Tryz.func117 (gA [[],[(4,oL v1 dInts_len)]] (bZ λJ=>gA [[f0 J],[(4,oL v1 dInts_len)]] (gT oF 0 v1 λh3=>hJ 1 [] [0,11,12,13] 0 (λv2=>⟨34,[(0,(.d (.sl (bu v1)))),(11,(.d (.sl (bu v1)))),(12,(aq (v1.length:Int))),(13,(aq (v2:Int)))],[]⟩) (λv2 h4 f1=>gA [[],[f0 (da h4)],[],[(4,oL v1 dInts_len)]] (gT oF 0 v1 λh6=>jo 2 [] [5,20,21,22] 0 (λv6(v10:Int)=>⟨34,[(5,(aq v10)),(20,(.d (.sl (bu v1)))),(21,(aq (v1.length:Int))),(22,(aq (v6:Int)))],[]⟩) (λv6 v10 h7 f2=>gR [[],[f0 (da h7)],[]]) (λv6 v8 v9 v10 h7 f2 gw=>dN λh8=>gA [[],[t0 (db h7)],[(1,oE (ko (cE h7)))],[(7,⟨_,_, .nz (b:=v10) (bne_iff_ne.1 h8)⟩)]] (bZ λh9=>gb gw (aP (v10*v8)) [[f0 h9],[],[(2,oq (cY h7 rfl h6))]] h7)))) (λv2 v4 v5 h4 f1 aX=>gA [[],[t0 (db h4)],[(1,oE (ko (cE h4)))],[]] (bZ λbE=>gb aX () [[f0 bE],[(2,oq (cY h4 rfl h3))]] h4)))))
def I5(N:Nat):an3 Int->Nat->Int->an5 Int
 |[],_,v7=>
  some v7
 |v5::v6,v3,v7=>
  (λcd=>I5 N v6 (v3+1) cd) (aP (v7*v5))
def ID(N:Nat)(v1:an3 Int):an5 Int:=
 (Dj N v1).bind λv2=>
 bif (v2 !=0)then
  some (0:Int)
 else
  I5 N v1 0 (1:Int)
theorem ad7{N v1}:KO 118 [(.d (.sl (bu v1)))] aq (ID N v1):=
 fw Tryz.func118 (az λv2 J=>gA [[],[(4,cK T3 J)]] (bZ λh2=>gA [[f0 h2],[],[(4,oL v1 dInts_len)]] (gT oF 0 v1 λh4=>jo 1 [] [3,9,10,11] 0 (λv3(v7:Int)=>⟨20,[(3,(aq v7)),(9,(.d (.sl (bu v1)))),(10,(aq (v1.length:Int))),(11,(aq (v3:Int)))],[]⟩) (λv3 v7 h5 f1=>gR [[],[f0 (da h5)],[]]) (λv3 v5 v6 v7 h5 f1 aX=>gb aX (aP (v7*v5)) [[],[t0 (db h5)],[(1,oE (ko (cE h5)))],[],[(2,oq (cY h5 rfl h4))]] h5))))
def GO(N:Nat)(v1:aR):an3 ax->Nat->an5 Int
 |[],_=>
  some (0:Int)
 |v7::v8,v5=>
  (lX N v1.aB v7).bind λv9=>
  bif v9 then
   (GO N v1 v8 (v5+1))
  else
   some (1:Int)
def DA(N:Nat)(v1:aR):an5 Int:=
 (l4 N v1.aB).bind λv2=>
 bif (v2 !=0)then
  some v2
 else
  (Dj N v1.aU).bind λv3=>
  bif (v3 !=0)then
   some v3
  else
   (ID N v1.aU).bind λv4=>
   bif ((v1.dJ.length:Int) !=v4)then
    some (1:Int)
   else
    GO N v1 v1.dJ 0
theorem WM{N v1}:KO 69 [(jF v1)] aq (DA N v1):=
 fw Tryz.func69 (az λv2 J=>gA [[],[(7,cK oy J)],[]] (bZ λh2=>az λv3 h3=>gA [[f0 h2],[(7,cK T3 h3)],[]] (bZ λh4=>az λv4 h5=>gA [[f0 h4],[(7,oL v1.dJ iD),(16,cK ad7 h5)]] (bZ λh6=>gA [[f0 h6],[(7,oL v1.dJ iD)]] (gT yY 27 v1.dJ λh8=>hJ 1 [] [1,27,28,29] 1 (λv5=>⟨39,[(1,(.ptr 0 0)),(27,(.d (.sl (dy v1.dJ)))),(28,(aq (v1.dJ.length:Int))),(29,(aq (v5:Int)))],[.cells (jF v1).cells]⟩) (λv5 h9 f1=>gR [[],[f0 (da h9)],[]]) (λv5 v7 v8 h9 f1 aX=>az λv9 bE=>gA [[],[t0 (db h9)],[(1,oE (mP (cE h9)))],[(10,cK tT bE)]] (lU λbD=>gb aX () [[f0 (dK bD)],[(2,oq (cY h9 rfl h8))]] h9)))))))
def Hy(N:Nat)(v2:an3 Int):an3 Int->Nat->an5 Bool
 |[],_=>
  some true
 |v5::v6,v3=>
  Option.bind (v2[((v3:Int)).toNat]?) λv7=>
  bif (v5 !=v7)then
   some false
  else
   (Hy N v2 v6 (v3+1))
def JJ(N:Nat)(v1:an3 Int)(v2:an3 Int):an5 Bool:=
 bif ((v1.length:Int) !=(v2.length:Int))then
  some false
 else
  Hy N v2 v1 0
theorem akX{N v1 v2}:KO 119 [(.d (.sl (bu v1))),(.d (.sl (bu v2)))] aK (JJ N v1 v2):=
 fw Tryz.func119 (gA [[],[(4,oL v1 dInts_len),(10,oL v2 dInts_len)]] (bZ λJ=>gA [[f0 J],[(4,oL v1 dInts_len)]] (gT oF 0 v1 λh3=>hJ 1 [] [0,1,12,13] 0 (λv3=>⟨26,[(0,(.d (.sl (bu v1)))),(1,(.d (.sl (bu v2)))),(12,(aq (v1.length:Int))),(13,(aq (v3:Int)))],[]⟩) (λv3 h4 f1=>gR [[],[f0 (da h4)],[]]) (λv3 v5 v6 h4 f1 aX=>az λv7 h5=>gA [[],[t0 (db h4)],[],[(7,oE (ko (cE h4))),(19,oE (ko h5))]] (bZ λh7=>gb aX () [[f0 h7],[(2,oq (cY h4 rfl h3))]] h4)))))
def ED(N:Nat)(v1:an3 aJ)(v2:an4)(v3:aF)(v4:an3 Int):an5 Int:=
 (uy N v1 v2).bind λv5=>
 bif v5.2 then
  (DA N v5.1).bind λv6=>
  bif (v6 !=0)then
   some (1:Int)
  else
   bif ((v5.1.aB.bk==v3.bk)&&((v5.1.aB.bX==v3.bX)&&((v5.1.aB.bS==v3.bS)&&((v5.1.aB.ct==v3.ct)&&((v5.1.aB.cu==v3.cu)&&true)))))then
    (JJ N v5.1.aU v4).bind λv7=>
    bif v7 then
     some (0:Int)
    else
     some (15:Int)
   else
    some (10:Int)
 else
  some (9:Int)
theorem Yw{N v1 v2 v3 v4}:KO 70 [(.d (.sl (aY v1))),(dk v2),(cr v3),(.d (.sl (bu v4)))] aq (ED N v1 v2 v3 v4):=
 fw Tryz.func70 (az λv5 J=>gA [[],[(7,cK II J)],[]] (lU λh2=>az λv6 h3=>gA [[f0 (dK h2)],[(4,cK WM h3)]] (lx λ_=>lU λh5=>az λv7 h6=>gA [[f0 (dK h5)],[(10,cK akX h6)]] (rk λh7=>gR [[t0 (eD h7)],[]]))))
def Ns(N:Nat)(v1:an3 Int):an5 (an3 Int):=bif Nat.ble (v1.length*8) 140737488355328 then some v1 else none
theorem ahZ{N v1 r}(U:Ns N v1=some r):fP Tryz.prog 47 [(.d (.sl (bu v1)))] (·=(.d (.sl (bu r)))):=by
 obtain⟨hb,rfl⟩:=dT U;have hc:=mL hb (by decide);exact afO Cs (by rw[dInts_len];exact hc.1) (by rw[dInts_len];exact hc.2)
def OU(N:Nat)(v1:an3 ax):an5 (an3 ax):=bif Nat.ble (v1.length*16) 140737488355328 then some v1 else none
theorem amQ{N v1 r}(U:OU N v1=some r):fP Tryz.prog 48 [(.d (.sl (dy v1)))] (·=(.d (.sl (dy r)))):=by
 obtain⟨hb,rfl⟩:=dT U;have hc:=mL hb (by decide);exact ak7 Mf (by rw[iD];exact hc.1) (by rw[iD];exact hc.2)
def Ff(N:Nat)(v1:aR):an5 aR:=
 (Ns N v1.aU).bind λv2=>
 (OU N v1.dJ).bind λv3=>
 some (⟨v1.aB,v2,v3⟩:aR)
theorem aa5{N v1}:KO 28 [(jF v1)] jF (Ff N v1):=
 fw Tryz.func28 (gA [[]] (az λv2 J=>az λv3 h2=>li (λ_=>(amb 1 bW [] [.cells (jF v1).cells, .cells [(aq v1.aB.bk),(aq v1.aB.bX),(aq v1.aB.bS),(aq v1.aB.ct),(aq v1.aB.cu),(.d (.sl (bu v2))),(.d (.sl (dy v3)))]] ⟨[(13,cL (ahZ J)),(22,cL (amQ h2))],by kernel_rfl⟩ ·)) (gR [])))
def cB:ax:=⟨(0:Int64),(0:Int64)⟩
def yv:eV:=⟨cB,dG⟩
def dn:an3 AV:=[(bz (0:Int64)),(bz (0:Int64)),(aq (0:Int)),(aq (0:Int)),(aq (0:Int)),(aq (0:Int)),(aq (0:Int))]
def iH:an3 AV:=[(bz (0:Int64)),(bz (0:Int64))]
def Af(N:Nat)(v3:an3 aJ)(v6:eH)(v8:an3 aJ)(kO:(an3 aJ)->an5 ((an3 aJ)×Int))(v10:Int):an5 ((an3 aJ)×Int):=
 bif (v10 !=0)then
  some ([],v10)
 else
  (uy N v3 v6.au).bind λv11=>
  (Ff N v11.1).bind λv12=>
  bif (Nat.ble ((v8.length+1)*104) 140737488355328)then
  kO (v8++[(⟨v6.au,v12⟩:aJ)])
  else none
def qv(N:Nat)(v1:aV)(v2:an3 aL)(v3:an3 aJ):an3 eH->Nat->(an3 aJ)->an5 ((an3 aJ)×Int)
 |[],_,v8=>
  some (v8,(0:Int))
 |v6::v7,v4,v8=>
  (yS N v1 v2 v6.au).bind λv9=>
  bif (v9.2.2==0)then
   (ED N v3 v6.au v9.2.1 v9.1).bind λaH=>
   Af N v3 v6 v8 (λcd=>qv N v1 v2 v3 v7 (v4+1) cd) aH
  else
   Af N v3 v6 v8 (λcd=>qv N v1 v2 v3 v7 (v4+1) cd) v9.2.2
def Gc(N:Nat)(v1:aV)(v2:an3 aL)(v3:an3 aJ):an5 ((an3 aJ)×Int):=
 qv N v1 v2 v3 v1.aW 0 []
def tZ(v1:aV)(v8:an3 aJ)(v6:eH)(v9:(an3 Int)×aF×Int)(l:an3 ao):an3 ao:= .cells (fg v1).cells:: .front 40 8 v8.length:: .cells (pJ v6).cells:: .cells (cr v9.2.1).cells::l
def A5(v1:aV)(v8:an3 aJ)(l:an3 ao):an3 ao:= .cells (fg v1).cells:: .front 40 8 v8.length::l
def CH(v1:aV)(l:an3 ao):an3 ao:= .cells (fg v1).cells::l
theorem aej{N v1 v2 v3 r}(U:Gc N v1 v2 v3=some r):KH 43 [(fg v1),(.d (.sl (aT v2))),(.d (.sl (aY v3)))] [] (.aZ [(.own 0 (aY r.1)),(aq r.2)]) ([.front 40 8 r.1.length]):=by
 rw[Gc]at U;refine Ez 1 Tryz.func43 rfl (by kernel_rfl) (anm rfl) ?_;refine mG (s':=⟨60,[(0,(fg v1)),(1,(.d (.sl (aT v2)))),(2,(.d (.sl (aY v3))))],[]⟩) (by kernel_rfl) ?_;refine aA ?_;refine rg [] [(3,(.ptr 0 0))] (CH v1 []) (by kernel_rfl) ?_;refine aA ?_;refine rg [] [(8,(.d (.v (.slice none 0 0))))] (CH v1 []) (by kernel_rfl) ?_;refine aA ?_;refine aA ?_;refine rg [(7,oL v1.aW Aa)] [(17,(.d (.sl (kG v1.aW)))),(18,(aq (v1.aW.length:Int))),(19,(aq (0:Int)))] (CH v1 []) (by kernel_rfl) ?_;refine fV ?_;refine Li 8 40 8 [] (.inr ⟨rfl,rfl⟩) ?_;refine xV 17 (kG v1.aW) (by kernel_rfl) λJ=> ?_;have h2:=EK Aa J;refine OW [1,2,3,8,17,18,19] 2 (λ((v4,v5,v8):Nat×(an3 eH)×(an3 aJ))=>⟨60,[(1,(.d (.sl (aT v2)))),(2,(.d (.sl (aY v3)))),(3,(.ptr 0 0)),(8,(.own 1 (aY v8))),(17,(.d (.sl (kG v1.aW)))),(18,(aq (v1.aW.length:Int))),(19,(aq (v4:Int)))],(A5 v1 v8 [])⟩) (λ((v4,v5,v8):Nat×(an3 eH)×(an3 aJ))=>v1.aW.drop v4=v5/\qv N v1 v2 v3 v5 v4 v8=some r) (λ((v4,v5,v8):Nat×(an3 eH)×(an3 aJ))=>v5.length) (0,v1.aW,[]) (anm rfl) (by kernel_rfl) ⟨rfl,U⟩ ?_;rintro⟨v4,v5,v8⟩ ⟨h3,U⟩;cases v5 with
 |nil=>
  rw[qv]at U;refine aA ?_;refine rg [] [(20,(aK (decide ((v4:Int)<(v1.aW.length:Int)))))] (A5 v1 v8 []) (by kernel_rfl) ?_;refine aA ?_;refine ee (t:=(decide ((v4:Int)<(v1.aW.length:Int)))) (by kernel_rfl) (da h3) ?_;refine nT (kZ (kZ (qm rfl ?_)));refine bC ?_;refine aA ?_;refine rg [] [(6,(.own 1 (aY v8))),(7,(aq (0:Int)))] (A5 v1 v8 []) (by kernel_rfl) ?_;refine gq [6,7] 2 (anm rfl) (s':=⟨60,[(6,(.own 1 (aY v8))),(7,(aq (0:Int)))],(A5 v1 v8 [])⟩) (by kernel_rfl) ?_;refine T7 (Va (i:=1) (j:=0) (anm rfl) (anm rfl) (anm rfl) (anm rfl)) ?_;refine mG (s':=⟨60,[(6,(.own 0 (aY v8))),(7,(aq (0:Int)))],[.front 40 8 v8.length, .cells (fg v1).cells]⟩) (by kernel_rfl) ?_;refine gq [6,7] 1 (anm rfl) (s':=⟨60,[(6,(.own 0 (aY v8))),(7,(aq (0:Int)))],[.front 40 8 v8.length]⟩) (by kernel_rfl) ?_;refine cQ ?_;have hr:=anx U;subst hr;exact uW (eI trivial jK) (by kernel_rfl)
 |cons v6 v7=>
  rw[qv]at U;refine aA ?_;refine rg [] [(20,(aK (decide ((v4:Int)<(v1.aW.length:Int)))))] (A5 v1 v8 []) (by kernel_rfl) ?_;refine aA ?_;refine eE (t:=(decide ((v4:Int)<(v1.aW.length:Int)))) (by kernel_rfl) (db h3) ?_;refine dt ?_;refine bC ?_;refine aA ?_;refine fV ?_;refine aA ?_;refine rg [(1,oE (Qw (cE h3)))] [(10,(.ptr 2 0))] (A5 v1 v8 [.cells (pJ v6).cells]) (by kernel_rfl) ?_;refine aA ?_;obtain⟨v9,h4,U⟩:=ck U;refine rg [(13,cK Ru h4)] [(12,(.ptr 3 0)),(11,(.d (.sl (bu v9.1)))),(13,(aq v9.2.2))] (tZ v1 v8 v6 v9 []) (by kernel_rfl) ?_;refine aA ?_;refine aA ?_;refine rg [] [(33,(aK (v9.2.2==0)))] (tZ v1 v8 v6 v9 []) (by kernel_rfl) ?_;refine EB [1,2,3,8,10,13,17,18,19] 4 (λ(v10:Int)=>⟨60,[(1,(.d (.sl (aT v2)))),(2,(.d (.sl (aY v3)))),(3,(.ptr 0 0)),(8,(.own 1 (aY v8))),(10,(.ptr 2 0)),(13,(aq v10)),(17,(.d (.sl (kG v1.aW)))),(18,(aq (v1.aW.length:Int))),(19,(aq (v4:Int)))],(tZ v1 v8 v6 v9 [])⟩) (λ(v10:Int)=>Af N v3 v6 v8 (λcd=>qv N v1 v2 v3 v7 (v4+1) cd) v10=some r) (anm rfl) ?_ ?_
  ·rcases dU (v9.2.2==0)with h9|h9
   ·replace U:=(dj h9).symm.trans U;refine eE (t:=(v9.2.2==0)) (by kernel_rfl) h9 ?_;obtain⟨aH,bE,U⟩:=ck U;refine re [(16,cK Yw bE)] [(13,(aq aH)),(39,(aq aH)),(38,(.d (.sl (bu v9.1)))),(37,(cr v9.2.1)),(36,(dk v6.au)),(35,(.ptr 2 0)),(34,(.d (.sl (aY v3))))] (tZ v1 v8 v6 v9 []) (by kernel_rfl) ?_;refine bC ?_;exact⟨aH,by kernel_rfl,U⟩
   replace U:=(dV h9).symm.trans U;refine ee (t:=(v9.2.2==0)) (by kernel_rfl) h9 ?_;refine dt ?_;refine bC ?_;exact⟨v9.2.2,by kernel_rfl,U⟩
  rintro v10 U
  try dsimp only at U
  rw[Af]at U;refine aA ?_;refine aA ?_;refine rg [] [(41,(aK (v10 !=0)))] (tZ v1 v8 v6 v9 []) (by kernel_rfl) ?_;rcases dU (v10 !=0)with h5|h5
  ·replace U:=(dj h5).symm.trans U;refine eE (t:=(v10 !=0)) (by kernel_rfl) h5 ?_;refine aA ?_;refine rg [] [(6,(.d (.v (.slice none 0 0)))),(7,(aq v10))] (tZ v1 v8 v6 v9 []) (by kernel_rfl) ?_;refine Li 6 40 8 [] (.inr ⟨rfl,rfl⟩) ?_;refine gq [6,7] 5 (anm rfl) (s':=⟨60,[(6,(.own 4 (aY []))),(7,(aq v10))],(tZ v1 v8 v6 v9 [.front 40 8 0])⟩) (by kernel_rfl) ?_;refine T7 (Va (i:=4) (j:=0) (anm rfl) (anm rfl) (anm rfl) (anm rfl)) ?_;refine mG (s':=⟨60,[(6,(.own 0 (aY []))),(7,(aq v10))],[.front 40 8 0, .front 40 8 v8.length, .cells (pJ v6).cells, .cells (cr v9.2.1).cells, .cells (fg v1).cells]⟩) (by kernel_rfl) ?_;refine gq [6,7] 1 (anm rfl) (s':=⟨60,[(6,(.own 0 (aY []))),(7,(aq v10))],[.front 40 8 0]⟩) (by kernel_rfl) ?_;refine cQ (cZ (fe (cZ (cZ (fe (cZ ?_))))));have hr:=anx U;subst hr;exact uW (eI trivial jK) (by kernel_rfl)
  replace U:=(dV h5).symm.trans U;refine ee (t:=(v10 !=0)) (by kernel_rfl) h5 ?_;refine dt ?_;refine bC ?_;refine aA ?_;obtain⟨v11,h6,U⟩:=ck U;refine rg [(10,cK II h6)] [(14,(.ptr 4 0))] (tZ v1 v8 v6 v9 [.cells (jF v11.1).cells]) (by kernel_rfl) ?_;obtain⟨v12,h7,U⟩:=ck U;have h8:=nc U;replace U:=(dj h8).symm.trans U;refine UG bW (by kernel_rfl) [(13,cK aa5 h7),(22,oA Gz v8 ([(⟨v6.au,v12⟩:aJ)]) h8)] [(8,(.own 1 (aY (v8++[(⟨v6.au,v12⟩:aJ)])))),(57,(.own 1 (aY (v8++[(⟨v6.au,v12⟩:aJ)])))),(56,(.full (aY [(⟨v6.au,v12⟩:aJ)]))),(55,(.agg [(dk v6.au),(aq v12.aB.bk),(aq v12.aB.bX),(aq v12.aB.bS),(aq v12.aB.ct),(aq v12.aB.cu),(.d (.sl (bu v12.aU))),(.d (.sl (dy v12.dJ)))])),(54,(jF v12)),(53,(jF v11.1)),(52,(dk v6.au)),(51,(.ptr 2 0)),(50,(.own 1 (aY v8)))] (CH v1 [.front 40 8 (v8++[(⟨v6.au,v12⟩:aJ)]).length, .cells (pJ v6).cells, .cells (cr v9.2.1).cells, .cells (jF v11.1).cells]) (by kernel_rfl) ?_;refine iM ?_;refine bC ?_;refine re [(2,oq (cY h3 rfl h2))] [(19,(aq ((v4+1:Nat):Int))),(58,(aq ((v4+1:Nat):Int)))] (CH v1 [.front 40 8 (v8++[(⟨v6.au,v12⟩:aJ)]).length, .cells (pJ v6).cells, .cells (cr v9.2.1).cells, .cells (jF v11.1).cells]) (by kernel_rfl) ?_
  refine bC ?_;exact⟨(v4+1,v7,(v8++[(⟨v6.au,v12⟩:aJ)])),by kernel_rfl,⟨mB h3,U⟩,an1 _⟩
def Cx(N:Nat):an3 dh->Nat->(an3 bj)->an5 ((an3 bj))
 |[],_,v6=>
  some v6
 |v4::v5,v2,v6=>
  bif (Nat.ble ((v6.length+1)*32) 140737488355328)then
  (λcd=>Cx N v5 (v2+1) cd) (v6++[v4.dH])
  else none
def OE(N:Nat)(v1:an3 dh):an5 ((an3 bj)):=
 Cx N v1 0 []
theorem amO{N v1}:KO 71 [(.d (.sl (iV v1)))] (λr=> .d (.sl (gC r))) (OE N v1):=
 fw Tryz.func71 (gA [[],[],[(4,oL v1 nB)]] (li (λ_=>(tC 3 53 2 [] (.inr (by kernel_rfl)) ·)) (gT Ag 0 v1 λh2=>jo 1 [] [3,6,7,8] 1 (λv2(v6:an3 bj)=>⟨19,[(3,(.own 0 (gC v6))),(6,(.d (.sl (iV v1)))),(7,(aq (v1.length:Int))),(8,(aq (v2:Int)))],[.front 53 2 v6.length]⟩) (λv2 v6 h3 f1=>gR [[],[f0 (da h3)],[]]) (λv2 v4 v5 v6 h3 f1 aX=>dN λh4=>gb aX (v6++[v4.dH]) [[],[t0 (db h3)],[(1,oE (EO (cE h3)))],[(13,oA tF v6 ([v4.dH]) h4)],[(2,oq (cY h3 rfl h2))]] h3))))
def MJ(N:Nat)(v1:an3 Int):an5 (an3 Int):=bif Nat.ble (v1.length*8) 140737488355328 then some v1 else none
theorem TK{N v1 r}(U:MJ N v1=some r):cF Tryz.prog 47 [(.d (.sl (bu v1)))] [] λr1 J=>r1=(.vec 0 0 r.length r.length 1)/\J=[.vec 3 1 (bU (r.map eu))]:=by
 obtain⟨hb,rfl⟩:=dT U;have hc:=mL hb (by decide);have J:=aef (xs:=bu v1) Cs (by rw[dInts_len];exact hc.1) (by rw[dInts_len];exact hc.2);have h2:bU (v1.map eu)=bU (bu v1):=by rw[od]
 have h3:=dInts_len (l:=v1);rw[h3]at J;rw[h2];exact J
def ua(N:Nat)(v1:Nat)(v3:an3 Int)(v2:Int):Nat->Int->Int->an5 Int
 |0,_,_=>none
 |v4+1,v5,v6=>
  bif (decide (v6<(v1:Int)))then
   bif (decide ((0:Int)<=v6))then
   Option.bind (v3[(v6).toNat]?) λv7=>
   bif (decide ((aP (v5*v7))>v2))then
    some (aP (v2+(1:Int)))
   else
    (λcd fi=>ua N v1 v3 v2 v4 cd fi) (aP (v5*v7)) (aP (v6+(1:Int)))
   else none
  else
   some v5
def BU(N:Nat)(v1:Nat)(v2:Int)(v3:an3 Int):an5 Int:=
 bif (Nat.beq v3.length v1)then
 ua N v1 v3 v2 N (1:Int) (0:Int)
 else none
def oI(v3:an3 Int)(l:an3 ao):an3 ao:= .vec 3 1 (bU (v3.map eu))::l
theorem SB{N v1 v2 v3 r}(U:BU N v1 v2 v3=some r):KH 57 [(.vec 0 0 v1 v1 1),(aq v2)] ([.vec 3 1 (bU (v3.map eu))]) (aq r) ([.vec 3 1 (bU (v3.map eu))]):=by
 rw[BU]at U;refine Ez 1 Tryz.func57 rfl (by kernel_rfl) (anm rfl) ?_;refine mG (s':=⟨24,[(0,(.vec 0 0 v1 v1 1)),(1,(aq v2))],(oI v3 [])⟩) (by kernel_rfl) ?_;refine aA ?_;refine rg [] [] (oI v3 []) (by kernel_rfl) ?_;refine aA ?_;refine rg [] [(5,(aq (1:Int)))] (oI v3 []) (by kernel_rfl) ?_;refine aA ?_;refine aA ?_;have J:=nc U;replace U:=(dj J).symm.trans U;refine rg [(4,⟨_,_, .pr .no (zj (f:=eu) (ans J))⟩)] [(8,(.vec 0 0 v1 v1 1)),(9,(aq (v1:Int))),(10,(aq (0:Int)))] (oI v3 []) (by kernel_rfl) ?_;refine fV ?_;refine L7 [1,5,8,9,10] 1 [] [] (λ((v4,v5,v6):Nat×Int×Int)=>⟨24,[(1,(aq v2)),(5,(aq v5)),(8,(.vec 0 0 v1 v1 1)),(9,(aq (v1:Int))),(10,(aq v6))],(oI v3 [])⟩) (λ((v4,v5,v6):Nat×Int×Int)=>ua N v1 v3 v2 v4 v5 v6=some r) (λ((v4,v5,v6):Nat×Int×Int)=>v4) (N,(1:Int),(0:Int)) (anm rfl) ⟨(lN (xs:=(v3.map eu)) jK),by kernel_rfl⟩ U ?_;rintro⟨v4,v5,v6⟩ U
 try dsimp only at U
 cases v4 with
 |zero=>
  rw[ua]at U;cases U
 |succ v4=>
  rw[ua]at U;refine aA ?_;refine rg [] [(11,(aK (decide (v6<(v1:Int)))))] (oI v3 []) (by kernel_rfl) ?_;refine aA ?_;rcases dU (decide (v6<(v1:Int)))with h2|h2
  ·replace U:=(dj h2).symm.trans U;refine eE (t:=(decide (v6<(v1:Int)))) (by kernel_rfl) h2 ?_;refine dt ?_;refine bC ?_;refine aA ?_;refine fV ?_;refine aA ?_;have h3:=nc U;replace U:=(dj h3).symm.trans U;obtain⟨v7,h4,U⟩:=ck U;refine rg [(1,⟨_,_, .pr (.ix ((v6).toNat)) (SC (zj (f:=eu) (ans J)) (of_decide_eq_true h3) (of_decide_eq_true h2) rfl)⟩),(4,⟨_,_, .pr (.el ((eu v7).map AV.d)) (akt (f:=eu) (ans J) h4)⟩)] [(7,(aq v7))] (oI v3 []) (by kernel_rfl) ?_;refine aA ?_;refine rg [] [(5,(aq (aP (v5*v7))))] (oI v3 []) (by kernel_rfl) ?_;refine aA ?_;refine rg [] [(19,(aK (decide ((aP (v5*v7))>v2))))] (oI v3 []) (by kernel_rfl) ?_;rcases dU (decide ((aP (v5*v7))>v2))with h5|h5
   ·replace U:=(dj h5).symm.trans U;refine eE (t:=(decide ((aP (v5*v7))>v2))) (by kernel_rfl) h5 ?_;refine aA ?_;refine rg [] [(4,(aq (aP (v2+(1:Int)))))] (oI v3 []) (by kernel_rfl) ?_;refine cQ (fe (cZ (cZ (fe (cZ ?_)))));have hr:=anx U;subst hr;exact uW (lN (xs:=(v3.map eu)) jK) (by kernel_rfl)
   replace U:=(dV h5).symm.trans U;refine ee (t:=(decide ((aP (v5*v7))>v2))) (by kernel_rfl) h5 ?_;refine dt ?_;refine iM ?_;refine bC ?_;refine re [] [(10,(aq (aP (v6+(1:Int))))),(22,(aq (aP (v6+(1:Int)))))] (oI v3 []) (by kernel_rfl) ?_;refine bC ?_;exact⟨(v4,(aP (v5*v7)),(aP (v6+(1:Int)))),⟨(lN (xs:=(v3.map eu)) jK),by kernel_rfl⟩,U,an1 _⟩
  replace U:=(dV h2).symm.trans U;refine ee (t:=(decide (v6<(v1:Int)))) (by kernel_rfl) h2 ?_;refine nT (kZ (kZ (qm rfl ?_)));refine bC ?_;refine aA ?_;refine rg [] [(4,(aq v5))] (oI v3 []) (by kernel_rfl) ?_;refine cQ ?_;have hr:=anx U;subst hr;exact uW (lN (xs:=(v3.map eu)) jK) (by kernel_rfl)
def NI(N:Nat)(v1:an3 an4)(v3:Nat):an5 (an3 an4):=bif Nat.beq v1.length v3&&Nat.blt v3 4611686018427387904 then some (jE v1)else none
theorem aiv{N v1 v3 r}(U:NI N v1 v3=some r):cF Tryz.prog 180 [(.vec 0 0 v3 v3 1)] [.vec 9 1 (bU (v1.map iv))] λr1 J=>r1=(.d (.sl (dQ r)))/\J=[.gone]:=by
 obtain⟨hb,rfl⟩:=dT U;rw[ang]at hb;exact aiW (ans hb.1) (anm hb.2)
def sC(N:Nat)(kO:Nat->(an3 an4)->an5 ((an3 an4))):an3 cC->Nat->Nat->(an3 an4)->an5 ((an3 an4))
 |[],_,aQ,bA=>
  kO aQ bA
 |v12::aH,v10,aQ,bA=>
  bif (bL v12.cG==bL (bs []))then
   (λpC vM=>sC N kO aH (v10+1) pC vM) aQ bA
  else
   bif (Nat.beq bA.length aQ)then
   bif (Nat.ble ((aQ+1)*16) 140737488355328)then
   (λpC vM=>sC N kO aH (v10+1) pC vM) (aQ+1) (bA++[v12.cG])
   else none
   else none
def Aw(N:Nat)(kO:Nat->(an3 an4)->an5 ((an3 an4)))(v5:ar)(v8:Nat)(v9:an3 an4):an5 ((an3 an4)):=
 sC N kO v5.xIdx 0 v8 v9
def nE(N:Nat):an3 ar->Nat->(an3 an4)->an5 ((an3 an4))
 |[],v3,v4=>
  (NI N v4 v3).bind λv7=>
  some v7
 |v5::v6,v3,v4=>
  bif (v5.ay==3)then
   bif (Nat.beq v4.length v3)then
   bif (Nat.ble ((v3+1)*16) 140737488355328)then
   Aw N (λcd fi=>nE N v6 cd fi) v5 (v3+1) (v4++[v5.au])
   else none
   else none
  else
   Aw N (λcd fi=>nE N v6 cd fi) v5 v3 v4
def FD(N:Nat)(v1:ar):an5 ((an3 an4)):=
 (AW N v1).bind λv2=>
 nE N (dB v2) 0 []
def nW(v1:ar)(v3:Nat)(v4:an3 an4)(cn:Code)(cp:Code)(v2:ar)(v5:ar)(l:an3 ao):an3 ao:= .cells (aM v1).cells:: .cells [(.vec 2 0 v3 v3 1)]:: .vec 9 1 (bU (v4.map iv)):: .lp .busy 9 cn cp (dc 36 [(3,(.ptr 1 0)),(8,(.fn 101 [(.bg [fc v2] 0 0)]))]):: .cells (aM v5).cells::l
def yk(v1:ar)(v3:Nat)(v4:an3 an4)(l:an3 ao):an3 ao:= .cells (aM v1).cells:: .cells [(.vec 2 0 v3 v3 1)]:: .vec 9 1 (bU (v4.map iv))::l
def X3(v1:ar)(aQ:Nat)(bA:an3 an4)(v12:cC)(cn:Code)(cp:Code)(v2:ar)(v5:ar)(l:an3 ao):an3 ao:= .cells (aM v1).cells:: .cells [(.vec 2 0 (aQ+1) (aQ+1) 1)]:: .vec 9 1 (bU ((bA++[v12.cG]).map iv)):: .lp .busy 9 cn cp (dc 36 [(3,(.ptr 1 0)),(8,(.fn 101 [(.bg [fc v2] 0 0)]))]):: .cells (aM v5).cells:: .cells (aIndex v12).cells::l
def wT(v1:ar)(l:an3 ao):an3 ao:= .cells (aM v1).cells::l
theorem aeH{N v1 r}(U:FD N v1=some r):KF 120 [(aM v1)] (.d (.sl (dQ r))):=by
 rw[FD]at U;refine qj Tryz.func120 rfl (by kernel_rfl) ?_;refine gq [0] 0 (anp _) (s':=⟨36,[(0,(aM v1))],[]⟩) (by kernel_rfl) ?_;refine aA ?_;refine rg [] [(1,(.ptr 0 0))] (wT v1 []) (by kernel_rfl) ?_;refine aA ?_;refine rg [] [(3,(.ptr 1 0))] (wT v1 [.cells [(.d (.v (.slice none 0 0)))]]) (by kernel_rfl) ?_;refine aA ?_;refine aA ?_;obtain⟨v2,J,U⟩:=ck U;refine rg [(4,cL (Qu J))] [(8,(.fn 101 [(.bg [fc v2] 0 0)]))] (wT v1 [.cells [(.d (.v (.slice none 0 0)))]]) (by kernel_rfl) ?_;refine fV ?_;refine acC 1 0 9 1 rfl rfl ?_;refine Lc [3,8] 3 [] [] (anm rfl) (s':=⟨36,[(3,(.ptr 1 0)),(8,(.fn 101 [(.bg [fc v2] 0 0)]))],(wT v1 [.cells [(.vec 2 0 0 0 1)], .vec 9 1 (bU (([]:an3 an4).map iv))])⟩) ⟨(eI trivial (eI trivial (lN (xs:=(([]:an3 an4).map iv)) jK))),by kernel_rfl⟩ ?_;refine xc (m:=3) (enc:=aM) (xs:=(dB v2)) (by kernel_rfl) (MC v2) (λ((v3,v4):Nat×(an3 an4))=>(yk v1 v3 v4 [])) (λ((v3,v4):Nat×(an3 an4)) l=>nE N l v3 v4=some r) (0,[]) (by kernel_rfl) U (by rintro⟨v3,v4⟩;rfl) (by rintro⟨v3,v4⟩;exact(zT (by kernel_rfl) (zT (by kernel_rfl) (zT ZP VC)))) (by kernel_rfl) rfl ?_ ?_
 ·rintro⟨v3,v4⟩ v5 v6 U h2 cn cp
  try dsimp only at U
  rw[nE]at U;refine Lc [3,9] 4 [] [] (anp _) (s':=⟨36,[(3,(.ptr 1 0)),(9,(aM v5))],(yk v1 v3 v4 [.lp .ready 9 cn cp (dc 36 [(3,(.ptr 1 0)),(8,(.fn 101 [(.bg [fc v2] 0 0)]))])])⟩) ⟨(eI trivial (eI trivial (lN (xs:=(v4.map iv)) (eI trivial jK)))),by kernel_rfl⟩ ?_;refine re [] [(4,(.ptr 4 0))] (yk v1 v3 v4 [.lp .ready 9 cn cp (dc 36 [(3,(.ptr 1 0)),(8,(.fn 101 [(.bg [fc v2] 0 0)]))]), .cells (aM v5).cells]) (by kernel_rfl) ?_;refine bC ?_;refine⟨(yk v1 v3 v4 []),(wT v5 []),rfl,(by kernel_rfl),?_⟩;refine Lc [3,4] 5 [] [] (anm rfl) (s':=⟨36,[(3,(.ptr 1 0)),(4,(.ptr 4 0))],(nW v1 v3 v4 cn cp v2 v5 [])⟩) ⟨(eI trivial (eI trivial (lN (xs:=(v4.map iv)) (eI trivial (eI trivial jK))))),by kernel_rfl⟩ ?_;refine fV ?_;refine aA ?_;refine aA ?_;refine rg [] [(12,(aK (v5.ay==3)))] (nW v1 v3 v4 cn cp v2 v5 []) (by kernel_rfl) ?_;refine alG [3,4] 5 [] [] (λ((v8,v9):Nat×(an3 an4))=>⟨36,[(3,(.ptr 1 0)),(4,(.ptr 4 0))],(nW v1 v8 v9 cn cp v2 v5 [])⟩) (λ((v8,v9):Nat×(an3 an4))=>Aw N (λcd fi=>nE N v6 cd fi) v5 v8 v9=some r) (anm rfl) ?_ ?_
  ·rcases dU (v5.ay==3)with bE|bE
   ·replace U:=(dj bE).symm.trans U;refine eE (t:=(v5.ay==3)) (by kernel_rfl) bE ?_;have bD:=nc U;replace U:=(dj bD).symm.trans U;have cl:=nc U;replace U:=(dj cl).symm.trans U;refine re [(13,⟨_,_, .pr (.ap (bU ((v4++[v5.au]).map iv)) (bU (([v5.au]).map iv)) (v3+1) (v3+1)) (KS (f:=iv) (h:=(nW v1 v3 v4 cn cp v2 v5 [])) (y:=(.full (dQ [v5.au]))) (k:=1) (ans bD) rfl (λc hc=>Ik c (by rw[nC];exact hc)) rfl rfl (mL cl (by decide)).1 (mL cl (by decide)).2)⟩)] [(17,(.vec 2 0 (v3+1) (v3+1) 1)),(16,(.full (dQ [v5.au]))),(15,(dk v5.au)),(14,(.ptr 4 1)),(13,(.vec 2 0 v3 v3 1))] (wT v1 [.cells [(.vec 2 0 (v3+1) (v3+1) 1)], .vec 9 1 (bU ((v4++[v5.au]).map iv)), .lp .busy 9 cn cp (dc 36 [(3,(.ptr 1 0)),(8,(.fn 101 [(.bg [fc v2] 0 0)]))]), .cells (aM v5).cells]) (by kernel_rfl) ?_;refine bC ?_;exact⟨((v3+1),(v4++[v5.au])),⟨(eI trivial (eI trivial (lN (xs:=((v4++[v5.au]).map iv)) (eI trivial (eI trivial jK))))),by kernel_rfl⟩,U⟩
   replace U:=(dV bE).symm.trans U;refine ee (t:=(v5.ay==3)) (by kernel_rfl) bE ?_;refine dt ?_;refine bC ?_;exact⟨(v3,v4),⟨(eI trivial (eI trivial (lN (xs:=(v4.map iv)) (eI trivial (eI trivial jK))))),by kernel_rfl⟩,U⟩
  rintro⟨v8,v9⟩ U
  try dsimp only at U
  rw[Aw]at U;refine aA ?_;refine rg [(7,oL v5.xIdx lZ)] [(19,(.d (.sl (eO v5.xIdx)))),(20,(aq (v5.xIdx.length:Int))),(21,(aq (0:Int)))] (nW v1 v8 v9 cn cp v2 v5 []) (by kernel_rfl) ?_;refine fV ?_;refine xV 19 (eO v5.xIdx) (by kernel_rfl) λh4=> ?_;have h5:=EK lZ h4;refine L7 [3,19,20,21] 5 [] [] (λ((v10,v11,aQ,bA):Nat×(an3 cC)×Nat×(an3 an4))=>⟨36,[(3,(.ptr 1 0)),(19,(.d (.sl (eO v5.xIdx)))),(20,(aq (v5.xIdx.length:Int))),(21,(aq (v10:Int)))],(nW v1 aQ bA cn cp v2 v5 [])⟩) (λ((v10,v11,aQ,bA):Nat×(an3 cC)×Nat×(an3 an4))=>v5.xIdx.drop v10=v11/\sC N (λcd fi=>nE N v6 cd fi) v11 v10 aQ bA=some r) (λ((v10,v11,aQ,bA):Nat×(an3 cC)×Nat×(an3 an4))=>v11.length) (0,v5.xIdx,v8,v9) (anm rfl) ⟨(eI trivial (eI trivial (lN (xs:=(v9.map iv)) (eI trivial (eI trivial jK))))),by kernel_rfl⟩ ⟨rfl,U⟩ ?_;rintro⟨v10,v11,aQ,bA⟩ ⟨h6,U⟩;cases v11 with
  |nil=>
   rw[sC]at U;refine aA ?_;refine rg [] [(22,(aK (decide ((v10:Int)<(v5.xIdx.length:Int)))))] (nW v1 aQ bA cn cp v2 v5 []) (by kernel_rfl) ?_;refine aA ?_;refine ee (t:=(decide ((v10:Int)<(v5.xIdx.length:Int)))) (by kernel_rfl) (da h6) ?_;refine nT (kZ (kZ (qm rfl ?_)));refine iM ?_;refine afm (yk v1 aQ bA []) rfl (zT (by kernel_rfl) (zT (by kernel_rfl) (zT ZP VC))) ⟨(eI trivial (eI trivial (lN (xs:=(bA.map iv)) (eI trivial jK)))),by kernel_rfl⟩ ?_;exact⟨(aQ,bA),(by kernel_rfl),U⟩
  |cons v12 aH=>
   rw[sC]at U;refine aA ?_;refine rg [] [(22,(aK (decide ((v10:Int)<(v5.xIdx.length:Int)))))] (nW v1 aQ bA cn cp v2 v5 []) (by kernel_rfl) ?_;refine aA ?_;refine eE (t:=(decide ((v10:Int)<(v5.xIdx.length:Int)))) (by kernel_rfl) (db h6) ?_;refine dt ?_;refine bC ?_;refine aA ?_;refine fV ?_;refine aA ?_;refine rg [(1,oE (vw (cE h6)))] [(6,(.ptr 5 0))] (nW v1 aQ bA cn cp v2 v5 [.cells (aIndex v12).cells]) (by kernel_rfl) ?_;refine aA ?_;refine rg [] [(27,(aK (!(bL v12.cG==bL (bs [])))))] (nW v1 aQ bA cn cp v2 v5 [.cells (aIndex v12).cells]) (by kernel_rfl) ?_;rcases dU (bL v12.cG==bL (bs []))with h7|h7
   ·replace U:=(dj h7).symm.trans U;refine ee (t:=(!(bL v12.cG==bL (bs [])))) (by kernel_rfl) (dK h7) ?_;refine dt ?_;refine iM ?_;refine bC ?_;refine re [(2,oq (cY h6 rfl h5))] [(21,(aq ((v10+1:Nat):Int))),(33,(aq ((v10+1:Nat):Int)))] (nW v1 aQ bA cn cp v2 v5 [.cells (aIndex v12).cells]) (by kernel_rfl) ?_;refine bC ?_;exact⟨(v10+1,aH,aQ,bA),⟨(eI trivial (eI trivial (lN (xs:=(bA.map iv)) (eI trivial (eI trivial jK))))),by kernel_rfl⟩,⟨mB h6,U⟩,an1 _⟩
   replace U:=(dV h7).symm.trans U;refine eE (t:=(!(bL v12.cG==bL (bs [])))) (by kernel_rfl) (eD h7) ?_;have h8:=nc U;replace U:=(dj h8).symm.trans U;have h9:=nc U;replace U:=(dj h9).symm.trans U;refine re [(13,⟨_,_, .pr (.ap (bU ((bA++[v12.cG]).map iv)) (bU (([v12.cG]).map iv)) (aQ+1) (aQ+1)) (KS (f:=iv) (h:=(nW v1 aQ bA cn cp v2 v5 [.cells (aIndex v12).cells])) (y:=(.full (dQ [v12.cG]))) (k:=1) (ans h8) rfl (λc hc=>Ik c (by rw[nC];exact hc)) rfl rfl (mL h9 (by decide)).1 (mL h9 (by decide)).2)⟩)] [(32,(.vec 2 0 (aQ+1) (aQ+1) 1)),(31,(.full (dQ [v12.cG]))),(30,(dk v12.cG)),(29,(.ptr 5 2)),(28,(.vec 2 0 aQ aQ 1))] (X3 v1 aQ bA v12 cn cp v2 v5 []) (by kernel_rfl) ?_;refine iM ?_;refine bC ?_;refine re [(2,oq (cY h6 rfl h5))] [(21,(aq ((v10+1:Nat):Int))),(33,(aq ((v10+1:Nat):Int)))] (X3 v1 aQ bA v12 cn cp v2 v5 []) (by kernel_rfl) ?_;refine bC ?_;exact⟨(v10+1,aH,(aQ+1),(bA++[v12.cG])),⟨(eI trivial (eI trivial (lN (xs:=((bA++[v12.cG]).map iv)) (eI trivial (eI trivial jK))))),by kernel_rfl⟩,⟨mB h6,U⟩,an1 _⟩
 rintro⟨v3,v4⟩ U
 try dsimp only at U
 rw[nE]at U;refine iM ?_;refine bC ?_;refine aA ?_;obtain⟨v7,h3,U⟩:=ck U;refine rg [(4,⟨_,_, .Ma (x6 (xs:=(v4.map iv)) cU) (af6 cU) (mm:=[(.vec 2 0 v3 v3 1)]) (h:=(yk v1 v3 v4 [.gone])) (l:=[2]) (by kernel_rfl) (by kernel_rfl) (by kernel_rfl) (by kernel_rfl) (aiv h3)⟩)] [(2,(.d (.sl (dQ v7))))] (wT v1 [.cells [(.vec 2 0 v3 v3 1)], .gone, .gone]) (by kernel_rfl) ?_;refine cQ ?_;have hr:=anx U;subst hr;exact gk (by kernel_rfl)
def Ix(N:Nat)(v1:aV)(v2:an3 aL)(v3:an3 aJ):an3 an4->Nat->an5 Int
 |[],_=>
  some (0:Int)
 |v8::v9,v6=>
  (yS N v1 v2 v8).bind λv10=>
  bif (v10.2.2 !=0)then
   some v10.2.2
  else
   (ED N v3 v8 v10.2.1 v10.1).bind λv11=>
   bif (v11 !=0)then
    some v11
   else
    (Ix N v1 v2 v3 v9 (v6+1))
def GR(N:Nat)(v1:aV)(v2:an3 aL)(v3:an3 aJ)(v4:ar):an5 Int:=
 (FD N v4).bind λv5=>
 Ix N v1 v2 v3 v5 0
theorem aly{N v1 v2 v3 v4}:KO 72 [(fg v1),(.d (.sl (aT v2))),(.d (.sl (aY v3))),(aM v4)] aq (GR N v1 v2 v3 v4):=
 fw Tryz.func72 (az λv5 J=>gA [[],[(4,cL (aeH J)),(7,oL v5 kR)]] (gT sD 16 v5 λh3=>hJ 1 [] [1,2,4,16,17,18] 2 (λv6=>⟨42,[(1,(.d (.sl (aT v2)))),(2,(.d (.sl (aY v3)))),(4,(.ptr 0 0)),(16,(.d (.sl (dQ v5)))),(17,(aq (v5.length:Int))),(18,(aq (v6:Int)))],[.cells (fg v1).cells, .cells (aM v4).cells]⟩) (λv6 h4 f1=>gR [[],[f0 (da h4)],[]]) (λv6 v8 v9 h4 f1 aX=>az λv10 h5=>gA [[],[t0 (db h4)],[(1,oE (su (cE h4)))],[(10,cK Ru h5)],[]] (bZ λh6=>az λv11 h7=>gA [[f0 h6],[(13,cK Yw h7)],[]] (bZ λh8=>gb aX () [[f0 h8],[(2,oq (cY h4 rfl h3))]] h4)))))
def DG(N:Nat)(v1:an3 aJ):an5 ((an3 aJ)×(an3 (an4×aR))):=
 some (v1,[])
def Yv(v1:an3 aJ)(l:an3 ao):an3 ao:= .cells [(.d (.sl (aY v1)))]:: .map (bP bR []):: .cells [(.mp 1)]::l
theorem zn(N:Nat)(v1:an3 aJ)(r:(an3 aJ)×(an3 (an4×aR)))(U:DG N v1=some r):KH 42 [(.d (.sl (aY v1)))] [] (.fn 68 [(.ptr 2 0),(.ptr 0 0)]) ([.cells [(.d (.sl (aY r.1)))], .map (bP bR r.2), .cells [(.mp 1)]]):=by
 rw[DG]at U;refine Ez 3 Tryz.func42 rfl (by kernel_rfl) (anm rfl) ?_;refine mG (s':=⟨6,[(0,(.d (.sl (aY v1))))],[]⟩) (by kernel_rfl) ?_;refine aA ?_;refine rg [] [(1,(.ptr 0 0))] [.cells [(.d (.sl (aY v1)))]] (by kernel_rfl) ?_;refine aA ?_;refine rg [] [(3,(.ptr 2 0))] (Yv v1 []) (by kernel_rfl) ?_;refine aA ?_;refine rg [] [(2,(.fn 68 [(.ptr 2 0),(.ptr 0 0)]))] (Yv v1 []) (by kernel_rfl) ?_;refine cQ ?_;have hr:=anx U;subst hr;exact uW (eI trivial (eI trivial (eI trivial jK))) (by kernel_rfl)
def Bv(N:Nat)(v1:an3 Int):an5 ((an3 Int)):=
 bif (Nat.ble ((0+v1.length)*8) 140737488355328)then
 some v1
 else none
def NL(v1:an3 Int)(l:an3 ao):an3 ao:= .cells [(.own 1 (bu v1))]:: .front 3 1 v1.length::l
theorem WD{N v1 r}(U:Bv N v1=some r):KH 73 [(.d (.sl (bu v1)))] [] (.fn 121 [(.bg [[(.sl (bu r))]] 0 0)]) []:=by
 rw[Bv]at U;refine qG 0 Tryz.func73 rfl (by kernel_rfl) (anm rfl) ?_;refine mG (s':=⟨6,[(0,(.d (.sl (bu v1))))],[]⟩) (by kernel_rfl) ?_;refine aA ?_;refine rg [] [(1,(.ptr 0 0))] [.cells [(.d (.sl (bu v1)))]] (by kernel_rfl) ?_;refine aA ?_;have J:=nc U;replace U:=(dj J).symm.trans U;refine rg [(4,oZ oF v1 J)] [] (NL v1 []) (by kernel_rfl) ?_;refine aA ?_;refine rg [] [(2,(.fn 121 [(.ptr 0 0)]))] (NL v1 []) (by kernel_rfl) ?_;refine gq [2] 2 (anm rfl) (s':=⟨6,[(2,(.fn 121 [(.ptr 0 0)]))],(NL v1 [])⟩) (by kernel_rfl) ?_;refine ade 0 (s':=⟨6,[(2,(.fn 121 [(.bg [[(.sl (bu v1))]] 0 0)]))],[.gone, .front 3 1 v1.length]⟩) (by kernel_rfl) ?_;refine cQ ?_;have hr:=anx U;subst hr;exact jl (by kernel_rfl)
def yt(N:Nat)(v6:Bool):an3 Int->Nat->Int->an5 Int
 |[],_,_=>
  some (0:Int)
 |v9::v10,v7,v11=>
  Option.bind (bif v6 then some false else bif (v11 !=0)then
  some (decide (v9>(IntKind.i64.wrap (((65536:Int)).tdiv v11))))
  else none) λv12=>
  bif v12 then
   some (2:Int)
  else
   bif v6 then
    (λb2_0=>yt N v6 v10 (v7+1) b2_0) v11
   else
    (λb2_0=>yt N v6 v10 (v7+1) b2_0) (aP (v11*v9))
def Jq(N:Nat)(v1:an3 Int):an3 Int->Nat->Bool->an5 Int
 |[],_,v6=>
  yt N v6 v1 0 (1:Int)
 |v4::v5,v2,v6=>
  bif (decide (v4<0))then
   some (1:Int)
  else
   Option.bind (bif v6 then some true else some (v4==0)) λaH=>
   (λcd=>Jq N v1 v5 (v2+1) cd) aH
def Qa(N:Nat)(v1:an3 Int):an5 Int:=
 bif (decide ((v1.length:Int)>16))then
  some (2:Int)
 else
  Jq N v1 v1 0 false
theorem amF{N v1}:KO 243 [(.d (.sl (bu v1)))] aq (Qa N v1):=
 fw Tryz.func243 (gA [[],[(4,oL v1 dInts_len)]] (bZ λJ=>gA [[f0 J],[],[(4,oL v1 dInts_len)]] (gT oF 0 v1 λh3=>jo 1 [] [0,3,4,12,13,14] 0 (λv2(v6:Bool)=>⟨46,[(0,(.d (.sl (bu v1)))),(3,(aq (1:Int))),(4,(aK v6)),(12,(.d (.sl (bu v1)))),(13,(aq (v1.length:Int))),(14,(aq (v2:Int)))],[]⟩) (λv2 v6 h4 f1=>gA [[],[f0 (da h4)],[(4,oL v1 dInts_len)]] (gT oF 0 v1 λh6=>jo 2 [] [3,4,26,27,28] 0 (λv7(v11:Int)=>⟨46,[(3,(aq v11)),(4,(aK v6)),(26,(.d (.sl (bu v1)))),(27,(aq (v1.length:Int))),(28,(aq (v7:Int)))],[]⟩) (λv7 v11 h7 f2=>gR [[],[f0 (da h7)],[]]) (λv7 v9 v10 v11 h7 f2 gw=>gA [[],[t0 (db h7)],[(1,oE (ko (cE h7)))]] (gG (λv12=>[(39,(aK v12))]) (λ_=>[]) (aE (λh8=>gE [(2,bF (dK h8))] []) λh8=>dN λh9=>gE [(2,bT (eD h8))] [(16,⟨_,_, .nz (b:=v11) (bne_iff_ne.1 h9)⟩)]) λv12=>lx λ_=>aE (λcl=>gb gw v11 [[f0 (dK cl)],[(2,oq (cY h7 rfl h6))]] h7) λcl=>gb gw (aP (v11*v9)) [[t0 (eD cl)],[],[(2,oq (cY h7 rfl h6))]] h7)))) (λv2 v4 v5 v6 h4 f1 aX=>gA [[],[t0 (db h4)],[(1,oE (ko (cE h4)))],[]] (bZ λcX=>gA [[f0 cX]] (gG (λaH=>[(4,(aK aH))]) (λ_=>[]) (aE (λcP=>gE [(1,bT cP)] []) λcP=>gE [(1,bF cP)] []) λaH=>gb aX aH [[(2,oq (cY h4 rfl h3))]] h4))))))
def yg(N:Nat):an3 Int->Nat->Int->an5 Int
 |[],_,v11=>
  some v11
 |v9::v10,v7,v11=>
  (λb2_0=>yg N v10 (v7+1) b2_0) (aP (v11*v9))
def GM(N:Nat)(v1:an3 Int):an3 Int->Nat->an5 Int
 |[],_=>
  yg N v1 0 (1:Int)
 |v5::v6,v3=>
  bif (v5==0)then
   some (0:Int)
  else
   (GM N v1 v6 (v3+1))
def Dz(N:Nat)(v1:an3 Int):an5 Int:=
 (Qa N v1).bind λv2=>
 bif (v2 !=0)then
  some (0:Int)
 else
  GM N v1 v1 0
theorem Xh{N v1}:KO 182 [(.d (.sl (bu v1)))] aq (Dz N v1):=
 fw Tryz.func182 (az λv2 J=>gA [[],[(4,cK amF J)]] (bZ λh2=>gA [[f0 h2],[],[(4,oL v1 dInts_len)]] (gT oF 0 v1 λh4=>hJ 1 [] [0,3,11,12,13] 0 (λv3=>⟨31,[(0,(.d (.sl (bu v1)))),(3,(aq (1:Int))),(11,(.d (.sl (bu v1)))),(12,(aq (v1.length:Int))),(13,(aq (v3:Int)))],[]⟩) (λv3 h5 f1=>gA [[],[f0 (da h5)],[(4,oL v1 dInts_len)]] (gT oF 0 v1 λh7=>jo 2 [] [3,20,21,22] 0 (λv7(v11:Int)=>⟨31,[(3,(aq v11)),(20,(.d (.sl (bu v1)))),(21,(aq (v1.length:Int))),(22,(aq (v7:Int)))],[]⟩) (λv7 v11 h8 f2=>gR [[],[f0 (da h8)],[]]) (λv7 v9 v10 v11 h8 f2 gw=>gb gw (aP (v11*v9)) [[],[t0 (db h8)],[(1,oE (ko (cE h8)))],[],[(2,oq (cY h8 rfl h7))]] h8))) (λv3 v5 v6 h5 f1 aX=>gA [[],[t0 (db h5)],[(1,oE (ko (cE h5)))],[]] (bZ λh9=>gb aX () [[f0 h9],[(2,oq (cY h5 rfl h4))]] h5)))))
def Ae(N:Nat)(v1:an3 Int):Nat->Int->Int->(an3 Int)->an5 ((an3 Int)×Bool)
 |0,_,_,_=>none
 |v5+1,v6,v7,v8=>
  bif (decide (v7>=0))then
   bif (decide ((0:Int)<=v7))then
   Option.bind (v1[(v7).toNat]?) λv9=>
   bif (v9 !=0)then
   bif (Nat.beq v8.length v1.length)then
   bif (decide (v7<(v1.length:Int)))then
   Option.bind (v8[(v7).toNat]?) λv10=>
   (λcd fi xe=>Ae N v1 v5 cd fi xe) (IntKind.i64.wrap ((v6).tdiv v9)) (aP (v7-(1:Int))) (v8.set ((v7).toNat) ((v6).tmod v9))
   else none
   else none
   else none
   else none
  else
   bif (Nat.beq v8.length v1.length)then
   some (v8,true)
   else none
def BI(N:Nat)(v1:an3 Int)(v2:Int):an5 ((an3 Int)×Bool):=
 Option.bind (bif (decide (v2<0))then some true else (Dz N v1).bind λv3=>
 some (decide (v2>=v3))) λv4=>
 bif v4 then
  some ([],false)
 else
  bif (Nat.ble (v1.length*8) 140737488355328)then
  Ae N v1 N v2 (aP ((v1.length:Int)-(1:Int))) (List.replicate v1.length 0)
  else none
theorem acw{N v1 v2}:KO 123 [(.d (.sl (bu v1))),(aq v2)] (λr=> .aZ [(.d (.sl (bu r.1))),(aK r.2)]) (BI N v1 v2):=
 fw Tryz.func123 (gA [[]] (gG (λv4=>[(15,(aK v4))]) (λ_=>[]) (aE (λJ=>gE [(2,bT J)] []) λJ=>az λv3 h2=>gE [(2,bF J)] [(16,cK Xh h2)]) λv4=>bZ λh4=>dN λh5=>ajB 1 [[f0 h4],[(4,oL v1 dInts_len),(7,⟨_,_, .pr (.mk (bU ((List.replicate v1.length 0).map eu)) v1.length v1.length) (ac9 (f:=eu) (d0:=0) (cN:=8) rfl rfl (mL h5 (by decide)))⟩)],[(4,oL v1 dInts_len)]] [0,1,6,7] 1 [] [] (λ(v6:Int)(v7:Int)(v8:(an3 Int))=>⟨42,[(0,(.d (.sl (bu v1)))),(1,(aq v6)),(6,(.vec 0 0 v1.length v1.length 1)),(7,(aq v7))],[.vec 3 1 (bU (v8.map eu))]⟩) (Ae N v1) (λv5 v6 v7 v8 f1 aX=>gA [[]] (aE (λh6=>dN λh8=>az λv9 h7=>dN λh9=>dN λbE=>dN λbD=>az λv10 cl=>agY aX ((IntKind.i64.wrap ((v6).tdiv v9)),(aP (v7-(1:Int))),(v8.set ((v7).toNat) ((v6).tmod v9))) [[t0 h6],[(16,⟨_,_, .el (xs:=bu v1) (i:=v7) (of_decide_eq_true h8) (ko h7)⟩),(22,⟨_,_, .nz (b:=v9) (bne_iff_ne.1 h9)⟩),(25,⟨_,_, .pr (.ix ((v7).toNat)) (SC (zj (f:=eu) (ans bE)) (of_decide_eq_true h8) (of_decide_eq_true bD) rfl)⟩),(28,⟨_,_, .pr (.st ((eu v10).map AV.d) (bU ((v8.set ((v7).toNat) ((v6).tmod v9)).map eu))) (amP (f:=eu) (j:=0) (y:=((v6).tmod v9)) (zs:=[(aq ((v6).tmod v9))]) (ans bE) cl rfl)⟩)],[(10,⟨_,_, .el (xs:=bu v1) (i:=v7) (of_decide_eq_true h8) (ko h7)⟩),(16,⟨_,_, .nz (b:=v9) (bne_iff_ne.1 h9)⟩)],[]] (kS:=[.IJ ((v8.set ((v7).toNat) ((v6).tmod v9)).map eu)])) λh6=>dN λcP=>gA [[f0 h6]] (li (λ_=>(aiJ [6] 0 (bu v8) v1.length 1 3 1 [.IJ (v8.map eu)] (akW (ans cP)) (od _) (ah6 (λ_=>rfl) _) ·)) (gR [[]])))) (kS:=[.IJ ((List.replicate v1.length 0).map eu)])))
def yP(N:Nat)(v1:an3 Int):Nat->Nat->an5 (an3 (an3 Int))
 |0,_=>some []
 |n+1,k=>Option.bind (BI N v1 (k:Int)) λr=>bif r.2 then Option.bind (yP N v1 n (k+1)) λl=>some (r.1::l)else none
def D0(N:Nat)(v1:an3 Int):an5 (an3 (an3 Int)):=(Dz N v1).bind λn=>bif (decide ((0:Int)<=n)&&Nat.ble n.toNat 9223372036854775807)then yP N v1 n.toNat 0 else none
theorem Yh{N:Nat}{v1:an3 Int}:∀(n s:Nat)(r:an3 (an3 Int)),yP N v1 n s=some r->r.length=n/\∀(k:Nat)(p:an3 Int),r[k]?=some p->BI N v1 ((s+k:Nat):Int)=some (p,true)
 |0,s,r,h=>by cases h;exact⟨rfl,λk p hk=>by simp at hk⟩
 |n+1,s,r,h=>by
  rw[yP]at h;obtain⟨x,J,h⟩:=ck h;obtain⟨hb,h⟩:=kV h;obtain⟨l,h2,h⟩:=ck h;cases h
  obtain⟨q1,q2⟩:=Yh n (s+1) l h2;refine⟨by rw[anh,q1],λk p hk=> ?_⟩;cases k with
  |zero=>
   cases hk
   obtain⟨a,b⟩:=x;simp only at hb;subst hb;exact J
  |succ k=>
   rw[show s+(k+1)=s+1+k by omega];exact q2 k p hk
theorem XH{N:Nat}{v1:an3 Int}{r:an3 (an3 Int)}(U:D0 N v1=some r):ze Tryz.prog 121 [qb v1] (r.map o6):=by
 obtain⟨n,J,U⟩:=ck U;obtain⟨hb,hL⟩:=kV U;rw[ang]at hb;obtain⟨q1,q2⟩:=Yh _ _ _ hL;have hn:((n.toNat:Nat):Int)=n:=Int.toNat_of_nonneg (of_decide_eq_true hb.1);refine ai6 v1 r (by rw[q1];exact anm hb.2) (by rw[q1,hn];exact Xh _ J) λk p hk=> ?_;have:=q2 k p hk;rw[anz]at this;exact acw _ this
def EE(N:Nat)(v3:an3 aL)(v2:an3 Int):an3 dh->Nat->(an3 aL)->an5 ((an3 aL))
 |[],_,v8=>
  bif (Nat.ble ((v8.length+v3.length)*24) 140737488355328)then
  some (v8++v3)
  else none
 |v6::v7,v4,v8=>
  Option.bind (v2[((v4:Int)).toNat]?) λv9=>
  bif (aP v9==v9)then
  bif (Nat.ble ((v8.length+1)*24) 140737488355328)then
  (λcd=>EE N v3 v2 v7 (v4+1) cd) (v8++[(⟨v6.au,(Int64.ofInt v9)⟩:aL)])
  else none
  else none
def Ip(N:Nat)(v1:an3 dh)(v2:an3 Int)(v3:an3 aL):an5 ((an3 aL)):=
 EE N v3 v2 v1 0 []
theorem ZH{N v1 v2 v3}:KO 75 [(.d (.sl (iV v1))),(.d (.sl (bu v2))),(.d (.sl (aT v3)))] (λr=> .d (.sl (aT r))) (Ip N v1 v2 v3):=
 fw Tryz.func75 (gA [[],[],[(4,oL v1 nB)]] (li (λ_=>(tC 7 68 2 [] (.inr (by kernel_rfl)) ·)) (gT Ag 0 v1 λh2=>jo 1 [] [1,2,7,10,11,12] 1 (λv4(v8:an3 aL)=>⟨31,[(1,(.d (.sl (bu v2)))),(2,(.d (.sl (aT v3)))),(7,(.own 0 (aT v8))),(10,(.d (.sl (iV v1)))),(11,(aq (v1.length:Int))),(12,(aq (v4:Int)))],[.front 68 2 v8.length]⟩) (λv4 v8 h3 f1=>dN λh4=>gR [[],[f0 (da h3)],[(7,oA JA v8 v3 h4)]]) (λv4 v6 v7 v8 h3 f1 aX=>az λv9 h5=>dN λh7=>dN λh8=>gb aX (v8++[(⟨v6.au,(Int64.ofInt v9)⟩:aL)]) [[],[t0 (db h3)],[(4,oE (EO (cE h3)))],[(16,oE (ko h5)),(23,⟨_,_, .eq (congrArg (λz=>AV.agg [(dk v6.au),z]) (EN (beq_iff_eq.1 h7)))⟩),(28,oA JA v8 ([(⟨v6.au,(Int64.ofInt v9)⟩:aL)]) h8)],[(2,oq (cY h3 rfl h2))]] h3))))
def xO(N:Nat)(v1:an3 aL)(v2:an3 aJ)(v3:an3 (an4×aR)):an5 ((an3 aL)):=
 some v1
def DC(v2:an3 aJ)(v3:an3 (an4×aR))(v1:an3 aL)(l:an3 ao):an3 ao:= .cells [(.mp 2)]:: .cells [(.d (.sl (aY v2)))]:: .map (bP bR v3):: .cells [(.fn 68 [(.ptr 0 0),(.ptr 1 0)])]:: .cells [(.d (.sl (aT v1)))]::l
theorem jy{N v1 v2 v3 r}(U:xO N v1 v2 v3=some r):KH 41 [(.fn 68 [(.ptr 0 0),(.ptr 1 0)]),(.d (.sl (aT v1)))] ([.cells [(.mp 2)], .cells [(.d (.sl (aY v2)))], .map (bP bR v3)]) (.ptr 5 0) ([.cells [(.mp 2)], .cells [(.d (.sl (aY v2)))], .map (bP bR v3), .cells [(.fn 68 [(.ptr 0 0),(.ptr 1 0)])], .cells [(.d (.sl (aT r)))], .cells [(.fn 65 [(.ptr 3 0),(.ptr 4 0),(.ptr 6 0)]),(.fn 63 [(.ptr 6 0)])], .cells [(.ptr 5 0)]]):=by
 rw[xO]at U;refine Ez 7 Tryz.func41 rfl (by kernel_rfl) (anm rfl) ?_;refine mG (s':=⟨17,[(0,(.fn 68 [(.ptr 0 0),(.ptr 1 0)])),(1,(.d (.sl (aT v1))))],[.cells [(.mp 2)], .cells [(.d (.sl (aY v2)))], .map (bP bR v3)]⟩) (by kernel_rfl) ?_;refine aA ?_;refine rg [] [(2,(.ptr 3 0)),(3,(.ptr 4 0))] (DC v2 v3 v1 []) (by kernel_rfl) ?_;refine aA ?_;refine rg [] [(5,(.ptr 6 0))] (DC v2 v3 v1 [.cells [(.d (.v .nilFunc)),(.d (.v .nilFunc))], .cells [(.ptr 5 0)]]) (by kernel_rfl) ?_;refine aA ?_;refine rg [] [] (DC v2 v3 v1 [.cells [(.d (.v .nilFunc)),(.fn 63 [(.ptr 6 0)])], .cells [(.ptr 5 0)]]) (by kernel_rfl) ?_;refine aA ?_;refine rg [] [] (DC v2 v3 v1 [.cells [(.fn 65 [(.ptr 3 0),(.ptr 4 0),(.ptr 6 0)]),(.fn 63 [(.ptr 6 0)])], .cells [(.ptr 5 0)]]) (by kernel_rfl) ?_;refine aA ?_;refine rg [] [(4,(.ptr 5 0))] (DC v2 v3 v1 [.cells [(.fn 65 [(.ptr 3 0),(.ptr 4 0),(.ptr 6 0)]),(.fn 63 [(.ptr 6 0)])], .cells [(.ptr 5 0)]]) (by kernel_rfl) ?_;refine cQ ?_;have hr:=anx U;subst hr;exact uW (eI trivial (eI trivial (eI trivial (eI trivial (eI trivial (eI trivial (eI trivial jK))))))) (by kernel_rfl)
def Cr(N:Nat)(v1:an4)(v2:an3 aJ)(v3:an3 (an4×aR)):an5 (aR×Int×(an3 (an4×aR))):=
 bif (lR v3 v1)then
  some ((ga v3 v1 (⟨(⟨0,0,0,0,0⟩:aF),[],[]⟩:aR)),(0:Int),v3)
 else
  (uy N v2 v1).bind λv4=>
  bif v4.2 then
   (DA N v4.1).bind λv5=>
   bif (v5 !=0)then
    some (v4.1,(1:Int),v3)
   else
    bif (Nat.blt v3.length 9223372036854775807)then
    some (v4.1,(0:Int),((v1,v4.1)::v3))
    else none
  else
   some (v4.1,(9:Int),v3)
theorem Vd{N v1 v2 v3}:KP 68 [(dk v1),(.ptr 0 0),(.ptr 1 0)] [.cells [(.mp 2)], .cells [(.d (.sl (aY v2)))], .map (bP bR v3)] (λr=> .aZ [(jF r.1),(aq r.2.1)]) (λr=>[.cells [(.mp 2)], .cells [(.d (.sl (aY v2)))], .map (bP bR r.2.2)]) (Cr N v1 v2 v3):=
 fh 3 Tryz.func68 (gA [[],[(8,⟨_,_, .eq (aep bR (.agg #[.int .i64 0, .int .i64 0, .int .i64 0, .int .i64 0, .int .i64 0, .slice none 0 0, .slice none 0 0]) (⟨(⟨0,0,0,0,0⟩:aF),[],[]⟩:aR) rfl true v3 v1)⟩)],[]] (aE (λJ=>gH [[t0 J],[]]) λJ=>az λv4 h2=>gA [[f0 J],[(7,cK II h2)],[]] (aE (λh3=>az λv5 h4=>gA [[f0 (dK h3)],[(4,cK WM h4)]] (aE (λh5=>gH [[t0 h5],[]]) λh5=>dN λh6=>gH [[f0 h5],[(10,⟨_,_, .sd (o:= .none) (aeN (f:=bR) h6)⟩)],[]])) λh3=>gH [[t0 (eD h3)],[]])))
def Es(N:Nat)(v1:Int)(v2:Int64)(v3:Int):an5 (Int×Int):=
 Option.bind (bif (decide (v2.toInt<0))then some true else some (decide (v2.toInt>=v3))) λv4=>
 bif v4 then
  some ((0:Int),(12:Int))
 else
  some ((aP ((aP (v1*v3))+v2.toInt)),(0:Int))
theorem XV{N v1 v2 v3}:KO 172 [(aq v1),(bz v2),(aq v3)] (λr=> .aZ [(aq r.1),(aq r.2)]) (Es N v1 v2 v3):=
 fw Tryz.func172 (gA [[]] (gG (λv4=>[(14,(aK v4))]) (λ_=>[]) (aE (λJ=>gE [(2,bT J)] []) λJ=>gE [(2,bF J)] []) λv4=>bZ λh3=>gR [[f0 h3],[]]))
def Cl(N:Nat)(v6:aR×Int×(an3 (an4×aR)))(v3:Int)(v1:an3 aL):an3 bj->Nat->Int->an5 (Int64×Int×(an3 (an4×aR)))
 |[],_,v11=>
  bif (decide ((0:Int)<=v11))then
  Option.bind (v6.1.dJ[(v11).toNat]?) λv12=>
  bif (aP (if(if(aP (v3-(1:Int)))<v12.xN.toInt then(aP (v3-(1:Int)))else v12.xN.toInt)>0then(if(aP (v3-(1:Int)))<v12.xN.toInt then(aP (v3-(1:Int)))else v12.xN.toInt)else(0:Int))==(if(if(aP (v3-(1:Int)))<v12.xN.toInt then(aP (v3-(1:Int)))else v12.xN.toInt)>0then(if(aP (v3-(1:Int)))<v12.xN.toInt then(aP (v3-(1:Int)))else v12.xN.toInt)else(0:Int)))then
  some ((Int64.ofInt (if(if(aP (v3-(1:Int)))<v12.xN.toInt then(aP (v3-(1:Int)))else v12.xN.toInt)>0then(if(aP (v3-(1:Int)))<v12.xN.toInt then(aP (v3-(1:Int)))else v12.xN.toInt)else(0:Int))),(0:Int),v6.2.2)
  else none
  else none
 |v9::v10,v7,v11=>
  (tO N v9 v1).bind λaH=>
  bif (aH.2 !=0)then
   some ((0:Int64),aH.2,v6.2.2)
  else
   Option.bind (v6.1.aU[((v7:Int)).toNat]?) λaQ=>
   (Es N v11 aH.1 aQ).bind λbA=>
   bif (bA.2 !=0)then
    some ((0:Int64),bA.2,v6.2.2)
   else
    (λcd=>Cl N v6 v3 v1 v10 (v7+1) cd) bA.1
def F0(N:Nat)(v1:an3 aL)(v2:cC)(v3:Int)(v4:an3 aJ)(v5:an3 (an4×aR)):an5 (Int64×Int×(an3 (an4×aR))):=
 (Cr N v2.cG v4 v5).bind λv6=>
 bif (v6.2.1 !=0)then
  some ((0:Int64),v6.2.1,v6.2.2)
 else
  bif (v6.1.aB.bk !=3)then
   some ((0:Int64),(10:Int),v6.2.2)
  else
   bif ((v2.cM.length:Int) !=(v6.1.aU.length:Int))then
    some ((0:Int64),(11:Int),v6.2.2)
   else
    Cl N v6 v3 v1 v2.cM 0 (0:Int)
theorem ajd{N v1 v2 v3 v4 v5}:KP 171 [(.fn 68 [(.ptr 0 0),(.ptr 1 0)]),(.d (.sl (aT v1))),(aIndex v2),(aq v3)] [.cells [(.mp 2)], .cells [(.d (.sl (aY v4)))], .map (bP bR v5)] (λr=> .aZ [(bz r.1),(aq r.2.1)]) (λr=>[.cells [(.mp 2)], .cells [(.d (.sl (aY v4)))], .map (bP bR r.2.2)]) (F0 N v1 v2 v3 v4 v5):=
 fh 3 Tryz.func171 (az λv6 J=>gA [[],[(10,oR [(dk v2.cG),(.ptr 0 0),(.ptr 1 0)] [.cells [(.mp 2)], .cells [(.d (.sl (aY v4)))], .map (bP bR v5), .cells (aIndex v2).cells] [0,1,2] (Vd _ J))],[]] (aE (λh2=>gH [[t0 h2],[]]) λh2=>gA [[f0 h2],[]] (aE (λh3=>gH [[t0 h3],[]]) λh3=>gA [[f0 h3],[(7,oL v2.cM lY),(16,oL v6.1.aU dInts_len)]] (aE (λh4=>gH [[t0 h4],[]]) λh4=>gA [[f0 h4],[],[(7,oL v2.cM lY)]] (gT tF 42 v2.cM λh6=>jo 1 [] [1,3,10,12,42,43,44] 5 (λv7(v11:Int)=>⟨83,[(1,(.d (.sl (aT v1)))),(3,(aq v3)),(10,(.ptr 4 0)),(12,(aq v11)),(42,(.d (.sl (gC v2.cM)))),(43,(aq (v2.cM.length:Int))),(44,(aq (v7:Int)))],[.cells [(.mp 2)], .cells [(.d (.sl (aY v4)))], .map (bP bR v6.2.2), .cells (aIndex v2).cells, .cells (jF v6.1).cells]⟩) (λv7 v11 h7 f1=>dN λh9=>az λv12 h8=>dN λbE=>gH [[],[f0 (da h7)],[(10,⟨_,_, .el (xs:=dy v6.1.dJ) (i:=v11) (of_decide_eq_true h9) (mP h8)⟩),(32,⟨_,_, .eq (EN (beq_iff_eq.1 bE))⟩)]]) (λv7 v9 v10 v11 h7 f1 aX=>az λaH bD=>gA [[],[t0 (db h7)],[(4,oE (yd (cE h7)))],[(7,cK Dy bD)],[]] (aE (λcl=>gH [[t0 cl],[]]) λcl=>az λaQ cX=>az λbA dm=>gA [[f0 cl],[(16,oE (ko cX)),(22,cK XV dm)],[]] (aE (λdd=>gH [[t0 dd],[]]) λdd=>gb aX bA.1 [[f0 dd],[(2,oq (cY h7 rfl h6))]] h7))))))))
def zF(N:Nat)(v5:aR×Int×(an3 (an4×aR)))(v6:Nat)(v10:Int)(kO:Int->(an3 (an4×aR))->an5 (eV×Int×(an3 (an4×aR))))(aH:Int)(aQ:Int64)(bA:an3 (an4×aR)):an5 (eV×Int×(an3 (an4×aR))):=
 bif (aH !=0)then
  some (yv,aH,bA)
 else
  Option.bind (v5.1.aU[((v6:Int)).toNat]?) λbB=>
  (Es N v10 aQ bB).bind λcz=>
  bif (cz.2 !=0)then
   some (yv,cz.2,bA)
  else
   kO cz.1 bA
def pW(N:Nat)(v5:aR×Int×(an3 (an4×aR)))(v1:an3 aL)(v3:an3 aJ):an3 cC->Nat->Int->(an3 (an4×aR))->an5 (eV×Int×(an3 (an4×aR)))
 |[],_,v10,v11=>
  bif (decide ((0:Int)<=v10))then
  Option.bind (v5.1.dJ[(v10).toNat]?) λv12=>
  some ((⟨v12,v5.1.aB⟩:eV),(0:Int),v11)
  else none
 |v8::v9,v6,v10,v11=>
  bif (bL v8.cG==bL (bs []))then
   (tO N v8.bq v1).bind λbY=>
   zF N v5 v6 v10 (λcd fi=>pW N v5 v1 v3 v9 (v6+1) cd fi) bY.2 bY.1 v11
  else
   Option.bind (v5.1.aU[((v6:Int)).toNat]?) λcx=>
   (F0 N v1 v8 cx v3 v11).bind λv20=>
   zF N v5 v6 v10 (λcd fi=>pW N v5 v1 v3 v9 (v6+1) cd fi) v20.2.1 v20.1 v20.2.2
def Fm(N:Nat)(v1:an3 aL)(v2:ar)(v3:an3 aJ)(v4:an3 (an4×aR)):an5 (eV×Int×(an3 (an4×aR))):=
 (Cr N v2.au v3 v4).bind λv5=>
 bif (v5.2.1 !=0)then
  some (yv,v5.2.1,v5.2.2)
 else
  bif ((v2.xIdx.length:Int) !=(v5.1.aU.length:Int))then
   some (yv,(11:Int),v5.2.2)
  else
   pW N v5 v1 v3 v2.xIdx 0 (0:Int) v5.2.2
def yz(v3:an3 aJ)(v4:an3 (an4×aR))(v2:ar)(l:an3 ao):an3 ao:= .cells [(.mp 2)]:: .cells [(.d (.sl (aY v3)))]:: .map (bP bR v4):: .cells (aM v2).cells:: .cells dn::l
def w5(v3:an3 aJ)(v5:aR×Int×(an3 (an4×aR)))(v2:ar)(l:an3 ao):an3 ao:= .cells [(.mp 2)]:: .cells [(.d (.sl (aY v3)))]:: .map (bP bR v5.2.2):: .cells (aM v2).cells:: .cells dn:: .cells (jF v5.1).cells::l
def oS(v3:an3 aJ)(v11:an3 (an4×aR))(v2:ar)(v5:aR×Int×(an3 (an4×aR)))(v8:cC)(l:an3 ao):an3 ao:=yz v3 v11 v2 (.cells (jF v5.1).cells:: .cells (aIndex v8).cells::l)
def ND(v3:an3 aJ)(l:an3 ao):an3 ao:= .cells [(.mp 2)]:: .cells [(.d (.sl (aY v3)))]::l
theorem ahH(N:Nat)(v1:an3 aL)(v2:ar)(v3:an3 aJ)(v4:an3 (an4×aR))(r:eV×Int×(an3 (an4×aR)))(U:Fm N v1 v2 v3 v4=some r):KH 113 [(.fn 68 [(.ptr 0 0),(.ptr 1 0)]),(.d (.sl (aT v1))),(aM v2)] ([.cells [(.mp 2)], .cells [(.d (.sl (aY v3)))], .map (bP bR v4)]) (.aZ [(dA r.1),(aq r.2.1)]) ([.cells [(.mp 2)], .cells [(.d (.sl (aY v3)))], .map (bP bR r.2.2)]):=by
 rw[Fm]at U;refine qG 3 Tryz.func113 rfl (by kernel_rfl) (anm rfl) ?_;refine mG (s':=⟨91,[(0,(.fn 68 [(.ptr 0 0),(.ptr 1 0)])),(1,(.d (.sl (aT v1)))),(2,(aM v2))],(ND v3 [.map (bP bR v4)])⟩) (by kernel_rfl) ?_;refine aA ?_;refine rg [] [(5,(.ptr 3 0)),(6,(.ptr 4 0))] (yz v3 v4 v2 []) (by kernel_rfl) ?_;refine aA ?_;obtain⟨v5,J,U⟩:=ck U;refine rg [(10,oR [(dk v2.au),(.ptr 0 0),(.ptr 1 0)] (yz v3 v4 v2 []) [0,1,2] (Vd _ J))] [(8,(.ptr 5 0)),(9,(aq v5.2.1))] (w5 v3 v5 v2 []) (by kernel_rfl) ?_;refine aA ?_;refine aA ?_;refine rg [] [(22,(aK (v5.2.1 !=0)))] (w5 v3 v5 v2 []) (by kernel_rfl) ?_;rcases dU (v5.2.1 !=0)with h2|h2
 ·replace U:=(dj h2).symm.trans U;refine eE (t:=(v5.2.1 !=0)) (by kernel_rfl) h2 ?_;refine aA ?_;refine rg [] [(7,(aq v5.2.1))] (w5 v3 v5 v2 []) (by kernel_rfl) ?_;refine cQ (cZ ?_);have hr:=anx U;subst hr;exact jl (by kernel_rfl)
 replace U:=(dV h2).symm.trans U;refine ee (t:=(v5.2.1 !=0)) (by kernel_rfl) h2 ?_;refine dt ?_;refine bC ?_;refine aA ?_;refine aA ?_;refine rg [(7,oL v2.xIdx lZ),(16,oL v5.1.aU dInts_len)] [(31,(aK ((v2.xIdx.length:Int) !=(v5.1.aU.length:Int))))] (w5 v3 v5 v2 []) (by kernel_rfl) ?_;rcases dU ((v2.xIdx.length:Int) !=(v5.1.aU.length:Int))with h3|h3
 ·replace U:=(dj h3).symm.trans U;refine eE (t:=((v2.xIdx.length:Int) !=(v5.1.aU.length:Int))) (by kernel_rfl) h3 ?_;refine aA ?_;refine rg [] [(7,(aq (11:Int)))] (w5 v3 v5 v2 []) (by kernel_rfl) ?_;refine cQ (cZ ?_);have hr:=anx U;subst hr;exact jl (by kernel_rfl)
 replace U:=(dV h3).symm.trans U;refine ee (t:=((v2.xIdx.length:Int) !=(v5.1.aU.length:Int))) (by kernel_rfl) h3 ?_;refine dt ?_;refine bC ?_;refine aA ?_;refine rg [] [(10,(aq (0:Int)))] (w5 v3 v5 v2 []) (by kernel_rfl) ?_;refine aA ?_;refine aA ?_;refine rg [(7,oL v2.xIdx lZ)] [(34,(.d (.sl (eO v2.xIdx)))),(35,(aq (v2.xIdx.length:Int))),(36,(aq (0:Int)))] (w5 v3 v5 v2 []) (by kernel_rfl) ?_;refine fV ?_;refine xV 34 (eO v2.xIdx) (by kernel_rfl) λh4=> ?_;have h5:=EK lZ h4;refine OW [0,1,6,8,10,34,35,36] 6 (λ((v6,v7,v10,v11):Nat×(an3 cC)×Int×(an3 (an4×aR)))=>⟨91,[(0,(.fn 68 [(.ptr 0 0),(.ptr 1 0)])),(1,(.d (.sl (aT v1)))),(6,(.ptr 4 0)),(8,(.ptr 5 0)),(10,(aq v10)),(34,(.d (.sl (eO v2.xIdx)))),(35,(aq (v2.xIdx.length:Int))),(36,(aq (v6:Int)))],(yz v3 v11 v2 [.cells (jF v5.1).cells])⟩) (λ((v6,v7,v10,v11):Nat×(an3 cC)×Int×(an3 (an4×aR)))=>v2.xIdx.drop v6=v7/\pW N v5 v1 v3 v7 v6 v10 v11=some r) (λ((v6,v7,v10,v11):Nat×(an3 cC)×Int×(an3 (an4×aR)))=>v7.length) (0,v2.xIdx,(0:Int),v5.2.2) (anm rfl) (by kernel_rfl) ⟨rfl,U⟩ ?_;rintro⟨v6,v7,v10,v11⟩ ⟨h6,U⟩;cases v7 with
 |nil=>
  rw[pW]at U;refine aA ?_;refine rg [] [(37,(aK (decide ((v6:Int)<(v2.xIdx.length:Int)))))] (yz v3 v11 v2 [.cells (jF v5.1).cells]) (by kernel_rfl) ?_;refine aA ?_;refine ee (t:=(decide ((v6:Int)<(v2.xIdx.length:Int)))) (by kernel_rfl) (da h6) ?_;refine nT (kZ (kZ (qm rfl ?_)));refine bC ?_;refine aA ?_;have h8:=nc U;replace U:=(dj h8).symm.trans U;obtain⟨v12,h7,U⟩:=ck U;refine rd bW (by kernel_rfl) [(10,⟨_,_, .el (xs:=dy v5.1.dJ) (i:=v10) (of_decide_eq_true h8) (mP h7)⟩)] [(7,(aq (0:Int)))] (ND v3 [.map (bP bR v11), .cells (aM v2).cells, .cells [(bz v12.xN),(bz v12.xD),(aq v5.1.aB.bk),(aq v5.1.aB.bX),(aq v5.1.aB.bS),(aq v5.1.aB.ct),(aq v5.1.aB.cu)], .cells (jF v5.1).cells]) (by kernel_rfl) ?_;refine cQ ?_;have hr:=anx U;subst hr;exact jl (by kernel_rfl)
 |cons v8 v9=>
  rw[pW]at U;refine aA ?_;refine rg [] [(37,(aK (decide ((v6:Int)<(v2.xIdx.length:Int)))))] (yz v3 v11 v2 [.cells (jF v5.1).cells]) (by kernel_rfl) ?_;refine aA ?_;refine eE (t:=(decide ((v6:Int)<(v2.xIdx.length:Int)))) (by kernel_rfl) (db h6) ?_;refine dt ?_;refine bC ?_;refine aA ?_;refine fV ?_;refine aA ?_;refine rg [(4,oE (vw (cE h6)))] [(12,(.ptr 6 0)),(11,(aq (v6:Int)))] (oS v3 v11 v2 v5 v8 []) (by kernel_rfl) ?_;refine aA ?_;refine rg [] [] (oS v3 v11 v2 v5 v8 []) (by kernel_rfl) ?_;refine aA ?_;refine aA ?_;refine rg [] [(43,(aK (bL v8.cG==bL (bs []))))] (oS v3 v11 v2 v5 v8 []) (by kernel_rfl) ?_;refine EB [0,1,6,8,9,10,11,13,34,35,36] 7 (λ((aH,aQ,bA):Int×Int64×(an3 (an4×aR)))=>⟨91,[(0,(.fn 68 [(.ptr 0 0),(.ptr 1 0)])),(1,(.d (.sl (aT v1)))),(6,(.ptr 4 0)),(8,(.ptr 5 0)),(9,(aq aH)),(10,(aq v10)),(11,(aq (v6:Int))),(13,(bz aQ)),(34,(.d (.sl (eO v2.xIdx)))),(35,(aq (v2.xIdx.length:Int))),(36,(aq (v6:Int)))],(oS v3 bA v2 v5 v8 [])⟩) (λ((aH,aQ,bA):Int×Int64×(an3 (an4×aR)))=>zF N v5 v6 v10 (λcd fi=>pW N v5 v1 v3 v9 (v6+1) cd fi) aH aQ bA=some r) (anm rfl) ?_ ?_
  ·rcases dU (bL v8.cG==bL (bs []))with cP|cP
   ·replace U:=(dj cP).symm.trans U;refine eE (t:=(bL v8.cG==bL (bs []))) (by kernel_rfl) cP ?_;obtain⟨bY,dm,U⟩:=ck U;refine re [(10,cK Dy dm)] [(9,(aq bY.2)),(13,(bz bY.1)),(50,(aq bY.2)),(49,(bz bY.1)),(44,(.aZ [(bz bY.1),(aq bY.2)])),(48,(.aZ [(bz bY.1),(aq bY.2)])),(47,(.d (.sl (aT v1)))),(46,(dZ v8.bq)),(45,(.ptr 6 0))] (oS v3 v11 v2 v5 v8 []) (by kernel_rfl) ?_;refine bC ?_;exact⟨(bY.2,bY.1,v11),by kernel_rfl,U⟩
   replace U:=(dV cP).symm.trans U;refine ee (t:=(bL v8.cG==bL (bs []))) (by kernel_rfl) cP ?_;obtain⟨cx,dd,v20,fU,U⟩:=zD U;refine rle bW (by kernel_rfl) [(19,oE (ko dd)),(25,oR [(.fn 68 [(.ptr 0 0),(.ptr 1 0)]),(.d (.sl (aT v1))),(aIndex v8),(aq cx)] (oS v3 v11 v2 v5 v8 []) [0,1,2] (ajd _ fU))] [(9,(aq v20.2.1)),(13,(bz v20.1)),(62,(aq v20.2.1)),(61,(bz v20.1)),(51,(.aZ [(bz v20.1),(aq v20.2.1)])),(60,(.aZ [(bz v20.1),(aq v20.2.1)])),(59,(aq cx)),(58,(.bg [eu cx] 0 0)),(57,(aq (v6:Int))),(56,(.d (.sl (bu v5.1.aU)))),(55,(.ptr 5 5)),(54,(aIndex v8)),(53,(.d (.sl (aT v1)))),(52,(.fn 68 [(.ptr 0 0),(.ptr 1 0)]))] (ND v3 [.map (bP bR v20.2.2), .cells (aM v2).cells, .cells dn, .cells (jF v5.1).cells, .cells (aIndex v8).cells]) ⟨by kernel_rfl,by kernel_rfl⟩ ?_;refine bC ?_;exact⟨(v20.2.1,v20.1,v20.2.2),by kernel_rfl,U⟩
  rintro⟨aH,aQ,bA⟩ U
  try dsimp only at U
  rw[zF]at U;refine aA ?_;refine aA ?_;refine rg [] [(64,(aK (aH !=0)))] (oS v3 bA v2 v5 v8 []) (by kernel_rfl) ?_;rcases dU (aH !=0)with h9|h9
  ·replace U:=(dj h9).symm.trans U;refine eE (t:=(aH !=0)) (by kernel_rfl) h9 ?_;refine aA ?_;refine rg [] [(7,(aq aH))] (oS v3 bA v2 v5 v8 []) (by kernel_rfl) ?_;refine cQ (cZ (fe (cZ (cZ (fe (cZ ?_))))));have hr:=anx U;subst hr;exact jl (by kernel_rfl)
  replace U:=(dV h9).symm.trans U;refine ee (t:=(aH !=0)) (by kernel_rfl) h9 ?_;refine dt ?_;refine bC ?_;refine aA ?_;obtain⟨bB,bE,cz,cl,U⟩:=zD U;refine rg [(16,oE (ko bE)),(22,cK XV cl)] [(10,(aq cz.1)),(9,(aq cz.2))] (oS v3 bA v2 v5 v8 []) (by kernel_rfl) ?_;refine aA ?_;refine rg [] [(79,(aK (cz.2 !=0)))] (oS v3 bA v2 v5 v8 []) (by kernel_rfl) ?_;rcases dU (cz.2 !=0)with cX|cX
  ·replace U:=(dj cX).symm.trans U;refine eE (t:=(cz.2 !=0)) (by kernel_rfl) cX ?_;refine aA ?_;refine rg [] [(7,(aq cz.2))] (oS v3 bA v2 v5 v8 []) (by kernel_rfl) ?_;refine cQ (fe (cZ (cZ (fe (cZ ?_)))));have hr:=anx U;subst hr;exact jl (by kernel_rfl)
  replace U:=(dV cX).symm.trans U;refine ee (t:=(cz.2 !=0)) (by kernel_rfl) cX ?_;refine dt ?_;refine iM ?_;refine bC ?_;refine re [(2,oq (cY h6 rfl h5))] [(36,(aq ((v6+1:Nat):Int))),(82,(aq ((v6+1:Nat):Int)))] (oS v3 bA v2 v5 v8 []) (by kernel_rfl) ?_;refine bC ?_;exact⟨(v6+1,v9,cz.1,bA),by kernel_rfl,⟨mB h6,U⟩,an1 _⟩
def Ka(N:Nat)(v5:Int64×Int)(v4:an3 (an4×aR))(v7:Int):an5 (eV×Int×(an3 (an4×aR))):=
 some ((⟨(⟨v5.1,(1:Int64)⟩:ax),(⟨(3:Int),(0:Int),(0:Int),(0:Int),(0:Int)⟩:aF)⟩:eV),v7,v4)
def Hz(N:Nat)(v1:an3 aL)(v2:ar)(v3:an3 aJ)(v4:an3 (an4×aR)):an5 (eV×Int×(an3 (an4×aR))):=
 bif (v2.ay==1)then
  some ((⟨v2.dF,v2.aB⟩:eV),(0:Int),v4)
 else
  bif (v2.ay==2)then
   (tO N v2.bq v1).bind λv5=>
   Option.bind (bif (v5.2==0)then(bif (decide (v5.1.toInt>2147483647))then some true else some (decide (v5.1.toInt<(-2147483647:Int))))else some false) λv6=>
   bif v6 then
    Ka N v5 v4 (3:Int)
   else
    Ka N v5 v4 v5.2
  else
   (Fm N v1 v2 v3 v4).bind λv8=>
   some (v8.1,v8.2.1,v8.2.2)
def Pc(v3:an3 aJ)(v4:an3 (an4×aR))(v2:ar)(l:an3 ao):an3 ao:= .cells [(.mp 2)]:: .cells [(.d (.sl (aY v3)))]:: .map (bP bR v4):: .cells (aM v2).cells:: .cells dn::l
theorem acA{N v1 v2 v3 v4}:KP 66 [(.fn 68 [(.ptr 0 0),(.ptr 1 0)]),(.d (.sl (aT v1))),(aM v2)] [.cells [(.mp 2)], .cells [(.d (.sl (aY v3)))], .map (bP bR v4)] (λr=> .aZ [(dA r.1),(aq r.2.1)]) (λr=>[.cells [(.mp 2)], .cells [(.d (.sl (aY v3)))], .map (bP bR r.2.2)]) (Hz N v1 v2 v3 v4):=
 fh 3 Tryz.func66 (gA [[],[],[]] (aE (λJ=>gH [[t0 J],[]]) λJ=>gA [[f0 J],[]] (aE (λh2=>az λv5 h3=>gA [[t0 h2],[(10,cK Dy h3)]] (gG (λv6=>[(37,(aK v6))]) (λ_=>(Pc v3 v4 v2 [])) (aE (λh4=>eK (2,bT h4) (aE (λh5=>gE [(5,bT h5)] [(25,bT h5)]) λh5=>gE [(5,bF h5)] [(25,bF h5)])) λh4=>gE [(2,bF h4),(5,uN)] []) λv6=>mM 1 [] [6,8,9] 5 (λ(v7:Int)=>⟨49,[(6,(.ptr 4 0)),(8,(bz v5.1)),(9,(aq v7))],(Pc v3 v4 v2 [])⟩) (Ka N v5 v4) (λf1 aX=>aE (λh7=>gm aX (3:Int) [[t0 h7],[]]) λh7=>gm aX v5.2 [[f0 h7]]) (λv7=>gH [[]]))) λh2=>az λv8 h8=>gH [[f0 h2],[(10,oR [(.fn 68 [(.ptr 0 0),(.ptr 1 0)]),(.d (.sl (aT v1))),(aM v2)] (Pc v3 v4 v2 []) [0,1,2] (ahH N v1 v2 v3 v4 v8 h8))]])))
def zp(N:Nat)(v1:Int64)(v2:Int64):an5 Int:=
 bif (decide (v1.toInt<v2.toInt))then
  some (-1:Int)
 else
  bif (decide (v1.toInt>v2.toInt))then
   some (1:Int)
  else
   some (0:Int)
theorem QD{N v1 v2}:KO 227 [(bz v1),(bz v2)] aq (zp N v1 v2):=
 fw Tryz.func227 (gA [[],[]] (lx λ_=>bZ λh2=>gR [[f0 h2],[]]))
def QN(N:Nat)(v1:ax)(v2:ax):an5 Int:=
 (kE N v1).bind λv3=>
 Option.bind (bif v3 then (kE N v2).bind λv4=>
 some v4 else some false) λv5=>
 bif v5 then
  Option.bind (zp N (v1.xN*v2.xD) (v2.xN*v1.xD)) λv6=>
  some v6
 else
  (zp N v1.xN v2.xN).bind λv7=>
  bif (v7 !=0)then
   some v7
  else
   (zp N v1.xD v2.xD).bind λv8=>
   some v8
theorem amM{N v1 v2}:KO 170 [(bp v1),(bp v2)] aq (QN N v1 v2):=
 fw Tryz.func170 (gA [[]] (az λv3 J=>gG (λv5=>[(11,(aK v5))]) (λ_=>[.cells (bp v1).cells, .cells (bp v2).cells]) (dO (4,cK mO J) (aE (λh2=>az λv4 h3=>gE [(2,bT h2)] [(13,cK mO h3)]) λh2=>gE [(2,bF h2)] [])) λv5=>aE (λh5=>az λv6 h6=>gR [[t0 h5],[(14,⟨_,_, .eq (mi v1.xN v2.xD)⟩),(29,⟨_,_, .eq (mi v2.xN v1.xD)⟩),(31,cK QD h6)]]) λh5=>az λv7 h7=>gA [[f0 h5],[(13,cK QD h7)],[]] (bZ λh8=>az λv8 h9=>gR [[f0 h8],[(13,cK QD h9)]])))
def Ek(N:Nat)(v1:aF)(v2:ax)(v3:ax):an5 Int:=
 (lX N v1 v2).bind λv4=>
 Option.bind (bif v4 then (lX N v1 v3).bind λv5=>
 some (!v5)else some true) λv6=>
 bif v6 then
  some (0:Int)
 else
  bif (v1.bk==1)then
   (QN N v2 v3).bind λv7=>
   some v7
  else
   bif (decide (v2.xN.toInt<v3.xN.toInt))then
    some (-1:Int)
   else
    bif (decide (v2.xN.toInt>v3.xN.toInt))then
     some (1:Int)
    else
     some (0:Int)
theorem XR{N v1 v2 v3}:KO 112 [(cr v1),(bp v2),(bp v3)] aq (Ek N v1 v2 v3):=
 fw Tryz.func112 (gA [[]] (az λv4 J=>gG (λv6=>[(7,(aK v6))]) (λ_=>[.cells (cr v1).cells, .cells (bp v2).cells, .cells (bp v3).cells]) (dO (7,cK tT J) (aE (λh2=>az λv5 h3=>gE [(4,bF (dK h2))] [(22,cK tT h3)]) λh2=>gE [(4,bT (eD h2))] [])) λv6=>lx λ_=>aE (λh6=>az λv7 h7=>gR [[t0 h6],[(7,cK amM h7)]]) λh6=>gA [[f0 h6],[]] (lx λ_=>bZ λh9=>gR [[f0 h9],[]])))
def OA(N:Nat)(v1:Int)(v2:Int):an5 Bool:=
 bif (v1==13)then
  some (decide (v2<0))
 else
  bif (v1==14)then
   some (decide (v2<=0))
  else
   some (v2==0)
theorem alh{N v1 v2}:KO 111 [(aq v1),(aq v2)] aK (OA N v1 v2):=
 fw Tryz.func111 (gA [[],[],[]] (lx λ_=>bZ λh2=>gR [[f0 h2],[]]))
def IX(N:Nat)(v1:aF):an3 ax->Nat->an5 Int
 |[],_=>
  some (0:Int)
 |v6::v7,v4=>
  (rC N v1 v6).bind λv8=>
  bif v8 then
   (IX N v1 v7 (v4+1))
  else
   some (1:Int)
def qH(N:Nat)(v1:aF)(v2:an3 ax):an5 Int:=
 (ur N v1).bind λv3=>
 bif (v3 !=0)then
  some v3
 else
  IX N v1 v2 0
theorem Bi{N v1 v2}:KO 267 [(cr v1),(.d (.sl (dy v2)))] aq (qH N v1 v2):=
 fw Tryz.func267 (az λv3 J=>gA [[],[(4,cK GH J)],[]] (bZ λh2=>gA [[f0 h2],[(4,oL v2 iD)]] (gT yY 1 v2 λh4=>hJ 1 [] [2,13,14,15] 1 (λv4=>⟨24,[(2,(.ptr 0 0)),(13,(.d (.sl (dy v2)))),(14,(aq (v2.length:Int))),(15,(aq (v4:Int)))],[.cells (cr v1).cells]⟩) (λv4 h5 f1=>gR [[],[f0 (da h5)],[]]) (λv4 v6 v7 h5 f1 aX=>az λv8 h6=>gA [[],[t0 (db h5)],[(1,oE (mP (cE h5)))],[(7,cK LW h6)]] (lU λh7=>gb aX () [[f0 (dK h7)],[(2,oq (cY h5 rfl h4))]] h5)))))
def vb(N:Nat)(v1:Int64)(v2:Int64):an5 (ax×Int):=
 bif (v2.toInt==0)then
  some (cB,(4:Int))
 else
  (zx N v1).bind λv3=>
  (zx N v2).bind λv4=>
  (CL N v3 v4).bind λv5=>
  bif (v5 !=0)then
  Option.bind (bif (decide ((IntKind.u64.wrap ((v3).tdiv v5))>2147483647))then some true else some (decide ((IntKind.u64.wrap ((v4).tdiv v5))>2147483647))) λv6=>
  bif v6 then
   some (cB,(3:Int))
  else
   bif ((decide (v1.toInt<0))==(decide (v2.toInt<0)))then
    some ((⟨(Int64.ofInt (IntKind.u64.wrap ((v3).tdiv v5))),(Int64.ofInt (IntKind.u64.wrap ((v4).tdiv v5)))⟩:ax),(0:Int))
   else
    some ((⟨(-(Int64.ofInt (IntKind.u64.wrap ((v3).tdiv v5)))),(Int64.ofInt (IntKind.u64.wrap ((v4).tdiv v5)))⟩:ax),(0:Int))
  else none
theorem EH{N v1 v2}:KO 268 [(bz v1),(bz v2)] (λr=> .aZ [(bp r.1),(aq r.2)]) (vb N v1 v2):=
 fw Tryz.func268 (gA [[],[]] (bZ λJ=>az λv3 h2=>az λv4 h3=>az λv5 h4=>dN λh5=>gA [[f0 J],[],[(4,cK MV h2),(10,cK MV h3)],[(7,cK R5 h4)],[(7,⟨_,_, .nz (b:=v5) (bne_iff_ne.1 h5)⟩),(16,⟨_,_, .nz (b:=v5) (bne_iff_ne.1 h5)⟩)]] (gG (λv6=>[(36,(aK v6))]) (λ_=>[.cells iH]) (aE (λh7=>gE [(2,bT h7)] []) λh7=>gE [(2,bF h7)] []) λv6=>lx λ_=>aE (λbE=>gR [[f0 (dK bE)],[(5,⟨_,_, .eq (kC (IntKind.u64.wrap ((v3).tdiv v5)))⟩),(11,⟨_,_, .eq (kC (IntKind.u64.wrap ((v4).tdiv v5)))⟩)]]) λbE=>gR [[t0 (eD bE)],[(5,⟨_,_, .eq (kC (IntKind.u64.wrap ((v3).tdiv v5)))⟩),(8,⟨_,_, .eq (Hn (Int64.ofInt (IntKind.u64.wrap ((v3).tdiv v5))))⟩),(14,⟨_,_, .eq (kC (IntKind.u64.wrap ((v4).tdiv v5)))⟩)]])))
def N8(N:Nat)(v1:aF)(v2:ax):an5 (ax×Int):=
 Option.bind (qH N v1 [v2]) λv3=>
 bif (v3 !=0)then
  some (cB,v3)
 else
  bif (decide ((0:Int)<=v1.bS))then
  Option.bind (vb N v2.xN (Int64.ofInt ((1:Int)*2^(min (v1.bS).toNat (IntKind.bits .i64))))) λv4=>
  some (v4.1,v4.2)
  else none
theorem afA{N v1 v2}:KO 228 [(cr v1),(bp v2)] (λr=> .aZ [(bp r.1),(aq r.2)]) (N8 N v1 v2):=
 fw Tryz.func228 (az λv3 J=>gA [[],[(10,cK Bi J)],[]] (bZ λh2=>dN λh3=>az λv4 h4=>gR [[f0 h2],[(13,⟨_,_, .nn (b:=v1.bS) (of_decide_eq_true h3)⟩),(14,⟨_,_, .eq (kC ((1:Int)*2^(min (v1.bS).toNat (IntKind.bits .i64))))⟩),(16,cK EH h4)]]))
def F4(N:Nat)(v1:aF)(v2:ax):an5 ax:=
 bif (v1.bk==2)then
  (N8 N v1 v2).bind λv3=>
  some v3.1
 else
  some v2
theorem aiD{N v1 v2}:KO 173 [(cr v1),(bp v2)] bp (F4 N v1 v2):=
 fw Tryz.func173 (gA [[],[]] (tQ λJ=>az λv3 h2=>gR [[t0 J],[(7,cK afA h2)],[]]))
def KJ(N:Nat)(v3:Int64):an5 Int64:=
 some v3
def DP(N:Nat)(v1:ax):an5 Int64:=
 (kE N v1).bind λv2=>
 bif v2 then
  bif (v1.xD.toInt !=0)then
  bif (decide ((Int64.ofInt ((v1.xN.toInt).tmod v1.xD.toInt)).toInt<0))then
   KJ N ((Int64.ofInt ((v1.xN.toInt).tdiv v1.xD.toInt))-(1:Int64))
  else
   KJ N (Int64.ofInt ((v1.xN.toInt).tdiv v1.xD.toInt))
  else none
 else
  some (0:Int64)
theorem air{N v1}:KO 174 [(bp v1)] bz (DP N v1):=
 fw Tryz.func174 (az λv2 J=>gA [[],[(4,cK mO J)]] (lU λh2=>dN λh3=>mM 1 [[f0 (dK h2)],[(13,⟨_,_, .nz (b:=v1.xD.toInt) (bne_iff_ne.1 h3)⟩),(14,⟨_,_, .eq (kC ((v1.xN.toInt).tdiv v1.xD.toInt))⟩)],[(13,⟨_,_, .nz (b:=v1.xD.toInt) (bne_iff_ne.1 h3)⟩),(14,⟨_,_, .eq (aae v1.xN v1.xD.toInt)⟩)]] [3] 1 (λ(v3:Int64)=>⟨21,[(3,(bz v3))],[.cells (bp v1).cells]⟩) (KJ N) (λf1 aX=>aE (λh4=>gm aX ((Int64.ofInt ((v1.xN.toInt).tdiv v1.xD.toInt))-(1:Int64)) [[t0 h4],[(5,⟨_,_, .eq (xx (Int64.ofInt ((v1.xN.toInt).tdiv v1.xD.toInt)) (1:Int64))⟩)]]) λh4=>gm aX (Int64.ofInt ((v1.xN.toInt).tdiv v1.xD.toInt)) [[f0 h4]]) (λv3=>gR [[]])))
def Dg(N:Nat)(v1:Int):an5 Bool:=
 Option.bind (bif (decide (v1>=1))then some (decide (v1<=4))else some false) λv2=>
 some v2
theorem WY{N v1}:KO 269 [(aq v1)] aK (Dg N v1):=
 fw Tryz.func269 (gA [[]] (gG (λv2=>[(2,(aK v2))]) (λ_=>[]) (aE (λJ=>gE [(2,bT J)] []) λJ=>gE [(2,bF J)] []) λv2=>gR []))
def Fv(N:Nat)(v1:Int64):an5 Int:=
 bif (decide (v1.toInt<0))then
  some (IntKind.u64.wrap (0-(IntKind.u64.wrap v1.toInt)))
 else
  some (IntKind.u64.wrap v1.toInt)
theorem XW{N v1}:KO 293 [(bz v1)] (λr=> .d (.v (.int .u64 r))) (Fv N v1):=
 fw Tryz.func293 (gA [[],[]] (bZ λJ=>gR [[f0 J],[]]))
def Mg(N:Nat)(v1 v2:Int)(v3:Bool)(v4:Int):an5 Int:=bif v2 !=0then some (sV v1 v2 v3 v4)else none
theorem alp{N v1 v2 v3 v4 r}(U:Mg N v1 v2 v3 v4=some r):fP Tryz.prog 292 [(.d (.v (.int .u64 v1))),(.d (.v (.int .u64 v2))),(aK v3),(aq v4)] (·=(.d (.v (.int .u64 r)))):=akb v1 v2 v3 v4 r U
def Bz(N:Nat)(v1:Int64)(v2:Int64)(v3:Int):an5 (Int64×Int):=
 (Dg N v3).bind λv4=>
 bif v4 then
  bif (v2.toInt==0)then
   some ((0:Int64),(4:Int))
  else
   (Fv N v1).bind λv5=>
   (Fv N v2).bind λv6=>
   Option.bind (Mg N v5 v6 (!((decide (v1.toInt<0))==(decide (v2.toInt<0)))) v3) λv7=>
   bif ((decide (v1.toInt<0))==(decide (v2.toInt<0)))then
    bif (decide (v7>=9223372036854775808))then
     some ((0:Int64),(3:Int))
    else
     some ((Int64.ofInt v7),(0:Int))
   else
    some ((Int64.ofInt (IntKind.u64.wrap (0-v7))),(0:Int))
 else
  some ((0:Int64),(1:Int))
theorem RC{N v1 v2 v3}:KO 270 [(bz v1),(bz v2),(aq v3)] (λr=> .aZ [(bz r.1),(aq r.2)]) (Bz N v1 v2 v3):=
 fw Tryz.func270 (az λv4 J=>gA [[],[(4,cK WY J)]] (lU λh2=>gA [[f0 (dK h2)],[]] (bZ λh3=>az λv5 h4=>az λv6 h5=>az λv7 h6=>gA [[f0 h3],[],[(4,cK XW h4),(10,cK XW h5),(19,cL (alp h6))],[]] (aE (λh7=>gA [[f0 (dK h7)],[]] (bZ λh8=>gR [[f0 h8],[(5,⟨_,_, .eq (kC v7)⟩)]])) λh7=>gR [[t0 (eD h7)],[(8,⟨_,_, .eq (kC (IntKind.u64.wrap (0-v7)))⟩)]]))))
def Nd(N:Nat)(v1:ax)(v2:Int)(v3:Int):an5 (Int64×Int):=
 (kE N v1).bind λv4=>
 Option.bind (bif v4 then(bif (decide (v2<0))then some true else(bif (decide (v2>30))then some true else (Dg N v3).bind λv5=>
 some (!v5)))else some true) λv6=>
 bif v6 then
  some ((0:Int64),(1:Int))
 else
  bif (decide ((0:Int)<=(IntKind.u64.wrap v2)))then
  Option.bind (Bz N (Int64.ofInt (v1.xN.toInt*2^(min ((IntKind.u64.wrap v2)).toNat (IntKind.bits .i64)))) v1.xD v3) λv7=>
  some (v7.1,v7.2)
  else none
theorem afh{N v1 v2 v3}:KO 229 [(bp v1),(aq v2),(aq v3)] (λr=> .aZ [(bz r.1),(aq r.2)]) (Nd N v1 v2 v3):=
 fw Tryz.func229 (gA [[]] (az λv4 J=>gG (λv6=>[(23,(aK v6))]) (λ_=>[.cells (bp v1).cells]) (dO (4,cK mO J) (aE (λh2=>eK (3,bF (dK h2)) (aE (λh3=>gE [(7,bT h3),(11,bT rfl)] []) λh3=>eK (7,bF h3) (aE (λh4=>gE [(11,bT h4)] []) λh4=>az λv5 h5=>gE [(11,bF h4)] [(40,cK WY h5)]))) λh2=>gE [(3,bT (eD h2)),(7,bT rfl),(11,bT rfl)] [])) λv6=>bZ λh7=>dN λh8=>az λv7 h9=>gR [[f0 h7],[(13,⟨_,_, .nn (b:=(IntKind.u64.wrap v2)) (of_decide_eq_true h8)⟩),(14,⟨_,_, .eq (kC (v1.xN.toInt*2^(min ((IntKind.u64.wrap v2)).toNat (IntKind.bits .i64))))⟩),(25,cK RC h9)]]))
def QZ(N:Nat)(v1:Int64)(v2:Int)(v3:Int):an5 (Int64×Bool):=
 (yO N v2).bind λv4=>
 Option.bind (bif v4 then(bif (v3 !=1)then some (v3 !=2)else some false)else some true) λv5=>
 bif v5 then
  some ((0:Int64),false)
 else
  (DU N v2).bind λv6=>
  (D4 N v2).bind λv7=>
  Option.bind (bif (decide (v1.toInt>=v6.toInt))then some (decide (v1.toInt<=v7.toInt))else some false) λv8=>
  bif v8 then
   some (v1,false)
  else
   Option.bind (bif (v3==1)then some (decide (v1.toInt<v6.toInt))else some false) λv9=>
   bif v9 then
    some (v6,true)
   else
    bif (v3==1)then
     some (v7,true)
    else
     bif (decide ((0:Int)<=(IntKind.u64.wrap (aP ((64:Int)-v2)))))then
     some ((Int64.ofInt (((Int64.ofInt (IntKind.u64.wrap ((IntKind.u64.wrap v1.toInt)*2^(min ((IntKind.u64.wrap (aP ((64:Int)-v2)))).toNat (IntKind.bits .u64))))).toInt).fdiv (2^(min ((IntKind.u64.wrap (aP ((64:Int)-v2)))).toNat (IntKind.bits .i64))))),true)
     else none
theorem ali{N v1 v2 v3}:KO 271 [(bz v1),(aq v2),(aq v3)] (λr=> .aZ [(bz r.1),(aK r.2)]) (QZ N v1 v2 v3):=
 fw Tryz.func271 (gA [[]] (az λv4 J=>gG (λv5=>[(21,(aK v5))]) (λ_=>[]) (dO (4,cK Mk J) (aE (λh2=>eK (3,bF (dK h2)) (aE (λh3=>gE [(6,bT h3)] [(28,bT h3)]) λh3=>gE [(6,bF h3)] [(28,bF h3)])) λh2=>gE [(3,bT (eD h2)),(6,uN)] [])) λv5=>bZ λh5=>az λv6 h6=>az λv7 h7=>gA [[f0 h5],[(4,cK Td h6),(10,cK VY h7)]] (gG (λv8=>[(26,(aK v8))]) (λ_=>[]) (aE (λh8=>gE [(3,bT h8)] []) λh8=>gE [(3,bF h8)] []) λv8=>bZ λbE=>gA [[f0 bE]] (gG (λv9=>[(36,(aK v9))]) (λ_=>[]) (aE (λbD=>gE [(2,bT bD)] []) λbD=>gE [(2,bF bD)] []) λv9=>lx λ_=>bZ λcP=>dN λdm=>gR [[f0 cP],[],[(10,⟨_,_, .nn (b:=(IntKind.u64.wrap (aP ((64:Int)-v2)))) (of_decide_eq_true dm)⟩),(14,⟨_,_, .eq (kC (IntKind.u64.wrap ((IntKind.u64.wrap v1.toInt)*2^(min ((IntKind.u64.wrap (aP ((64:Int)-v2)))).toNat (IntKind.bits .u64)))))⟩),(19,⟨_,_, .nn (b:=(IntKind.u64.wrap (aP ((64:Int)-v2)))) (of_decide_eq_true dm)⟩),(20,⟨_,_, .eq (Xd (Int64.ofInt (IntKind.u64.wrap ((IntKind.u64.wrap v1.toInt)*2^(min ((IntKind.u64.wrap (aP ((64:Int)-v2)))).toNat (IntKind.bits .u64))))) (min ((IntKind.u64.wrap (aP ((64:Int)-v2)))).toNat (IntKind.bits .i64)))⟩)]]))))
def oT(N:Nat)(v1:aF)(v2:Int64):an5 ax:=
 (QZ N v2 v1.bX v1.cu).bind λv3=>
 some (⟨v3.1,(1:Int64)⟩:ax)
theorem yB{N v1 v2}:KO 230 [(cr v1),(bz v2)] bp (oT N v1 v2):=
 fw Tryz.func230 (az λv3 J=>gR [[],[(16,cK ali J)],[]])
def E4(N:Nat)(v1:aF)(v2:ax):an5 (ax×Int):=
 (ur N v1).bind λv3=>
 bif (v3 !=0)then
  some (cB,v3)
 else
  (Nd N v2 v1.bS v1.ct).bind λv4=>
  Option.bind (bif (v4.2 !=0)then some true else (kE N v2).bind λv5=>
  some (!v5)) λv6=>
  bif v6 then
   some (cB,(1:Int))
  else
   (oT N v1 v4.1).bind λv7=>
   some (v7,(0:Int))
theorem ac7{N v1 v2}:KO 175 [(cr v1),(bp v2)] (λr=> .aZ [(bp r.1),(aq r.2)]) (E4 N v1 v2):=
 fw Tryz.func175 (az λv3 J=>gA [[],[(4,cK GH J)],[]] (bZ λh2=>az λv4 h3=>gA [[f0 h2],[(16,cK afh h3)]] (gG (λv6=>[(30,(aK v6))]) (λ_=>[.cells (cr v1).cells, .cells (bp v2).cells, .cells iH]) (aE (λh4=>gE [(2,bT h4)] []) λh4=>az λv5 h5=>gE [(2,bF h4)] [(13,cK mO h5)]) λv6=>bZ λh7=>az λv7 h8=>gR [[f0 h7],[(7,cK yB h8)]])))
def Ky(N:Nat)(v1:aF)(v2:aF)(v3:ax):an5 (ax×Int):=
 (l4 N v1).bind λv4=>
 Option.bind (bif (v4 !=0)then some true else (l4 N v2).bind λv5=>
 some (v5 !=0)) λv6=>
 bif v6 then
  some (cB,(10:Int))
 else
  (lX N v1 v3).bind λv7=>
  bif v7 then
   (F4 N v1 v3).bind λv8=>
   bif (v2.bk==3)then
    (DP N v8).bind λv9=>
    some ((⟨v9,(1:Int64)⟩:ax),(0:Int))
   else
    bif (v2.bk==2)then
     (E4 N v2 v8).bind λv10=>
     some (v10.1,v10.2)
    else
     some (v8,(0:Int))
  else
   some (cB,(1:Int))
theorem abY{N v1 v2 v3}:KO 114 [(cr v1),(cr v2),(bp v3)] (λr=> .aZ [(bp r.1),(aq r.2)]) (Ky N v1 v2 v3):=
 fw Tryz.func114 (gA [[]] (az λv4 J=>gG (λv6=>[(9,(aK v6))]) (λ_=>[.cells (cr v1).cells, .cells (cr v2).cells, .cells (bp v3).cells, .cells iH]) (dO (4,cK oy J) (aE (λh2=>gE [(3,bT h2)] []) λh2=>az λv5 h3=>gE [(3,bF h2)] [(16,cK oy h3)])) λv6=>bZ λh5=>az λv7 h6=>gA [[f0 h5],[(7,cK tT h6)]] (lU λh7=>az λv8 h8=>gA [[f0 (dK h7)],[(7,cK aiD h8)],[],[]] (aE (λh9=>az λv9 bE=>gR [[t0 h9],[(4,cK air bE)]]) λh9=>gA [[f0 h9],[]] (tQ λbD=>az λv10 cl=>gR [[t0 bD],[(7,cK ac7 cl)]])))))
def Pu(N:Nat)(v1:aF)(v2:Int64)(v3:Int64):an5 (Int64×Int):=
 some ((-v2),(0:Int))
theorem adb{N v1 v2 v3}:KO 273 [(cr v1),(bz v2),(bz v3)] (λr=> .aZ [(bz r.1),(aq r.2)]) (Pu N v1 v2 v3):=
 fw Tryz.func273 (gR [[],[(5,⟨_,_, .eq (Hn v2)⟩)]])
def MF(N:Nat)(v1:aF)(v2:ax)(v3:ax):an5 (ax×Int):=
 Option.bind (qH N v1 ([v2,v3])) λv4=>
 bif (v4 !=0)then
  some (cB,v4)
 else
  (Pu N v1 v2.xN v3.xN).bind λv5=>
  bif (v5.2 !=0)then
   some (cB,v5.2)
  else
   (oT N v1 v5.1).bind λv6=>
   some (v6,(0:Int))
theorem ae2{N v1 v2 v3}:KP 272 [(.agg [(.fn 273 [])]),(cr v1),(bp v2),(bp v3)] [] (λr=> .aZ [(bp r.1),(aq r.2)]) (λ_=>[]) (MF N v1 v2 v3):=
 fh 0 Tryz.func272 (az λv4 J=>gA [[],[(13,cK Bi J)],[]] (aE (λh2=>gH [[t0 h2],[]]) λh2=>az λv5 h3=>gA [[f0 h2],[(22,cK adb h3)],[]] (aE (λh4=>gH [[t0 h4],[]]) λh4=>az λv6 h5=>gH [[f0 h4],[(7,cK yB h5)]])))
def Cn(N:Nat)(v1:aF)(v2:ax):an5 (ax×Int):=
 (MF N v1 v2 v2).bind λv3=>
 some (v3.1,v3.2)
theorem aiS{N v1 v2}:KO 231 [(cr v1),(bp v2)] (λr=> .aZ [(bp r.1),(aq r.2)]) (Cn N v1 v2):=
 fw Tryz.func231 (az λv3 J=>gR [[],[(13,oQ [(.agg [(.fn 273 [])]),(cr v1),(bp v2),(bp v2)] [.cells (cr v1).cells, .cells (bp v2).cells, .cells iH] [] (ae2 _ J))]])
def I7(N:Nat)(v1:aF)(v2:ax):an5 (ax×Int):=
 bif (v1.bk==2)then
  (Cn N v1 v2).bind λv3=>
  some (v3.1,v3.2)
 else
  some ((⟨(-v2.xN),v2.xD⟩:ax),(0:Int))
theorem amK{N v1 v2}:KO 176 [(cr v1),(bp v2)] (λr=> .aZ [(bp r.1),(aq r.2)]) (I7 N v1 v2):=
 fw Tryz.func176 (gA [[],[]] (aE (λJ=>az λv3 h2=>gR [[t0 J],[(7,cK aiS h2)]]) λJ=>gR [[f0 J],[(8,⟨_,_, .eq (Hn v2.xN)⟩)]]))
def Fk(N:Nat)(v1:Int)(v2:Int64)(v3:Int64):an5 (ax×Int):=
 bif (v1==4)then
  Option.bind (pN N (v2+v3)) λv4=>
  bif v4 then
   some ((⟨(v2+v3),(1:Int64)⟩:ax),(0:Int))
  else
   some (cB,(3:Int))
 else
  bif (v1==5)then
   Option.bind (pN N (v2-v3)) λv5=>
   bif v5 then
    some ((⟨(v2-v3),(1:Int64)⟩:ax),(0:Int))
   else
    some (cB,(3:Int))
  else
   bif (v1==6)then
    Option.bind (pN N (v2*v3)) λv6=>
    bif v6 then
     some ((⟨(v2*v3),(1:Int64)⟩:ax),(0:Int))
    else
     some (cB,(3:Int))
   else
    bif (v3.toInt==0)then
     some (cB,(4:Int))
    else
     bif (v3.toInt !=0)then
     Option.bind (bif ((Int64.ofInt ((v2.toInt).tmod v3.toInt)).toInt !=0)then some (!((decide (v2.toInt<0))==(decide (v3.toInt<0))))else some false) λv7=>
     bif v7 then
      Option.bind (pN N ((Int64.ofInt ((v2.toInt).tdiv v3.toInt))-(1:Int64))) λv8=>
      bif v8 then
       some ((⟨((Int64.ofInt ((v2.toInt).tdiv v3.toInt))-(1:Int64)),(1:Int64)⟩:ax),(0:Int))
      else
       some (cB,(3:Int))
     else
      Option.bind (pN N (Int64.ofInt ((v2.toInt).tdiv v3.toInt))) λv9=>
      bif v9 then
       some ((⟨(Int64.ofInt ((v2.toInt).tdiv v3.toInt)),(1:Int64)⟩:ax),(0:Int))
      else
       some (cB,(3:Int))
     else none
theorem al9{N v1 v2 v3}:KO 232 [(aq v1),(bz v2),(bz v3)] (λr=> .aZ [(bp r.1),(aq r.2)]) (Fk N v1 v2 v3):=
 fw Tryz.func232 (gA [[],[],[],[]] (aE (λJ=>az λv4 h2=>gA [[t0 J],[(8,⟨_,_, .eq (HQ v2 v3)⟩)],[(4,cK AP h2)]] (rk λh3=>gR [[t0 (eD h3)],[]])) λJ=>gA [[f0 J],[]] (aE (λh4=>az λv5 h5=>gA [[t0 h4],[(8,⟨_,_, .eq (xx v2 v3)⟩)],[(4,cK AP h5)]] (rk λh6=>gR [[t0 (eD h6)],[]])) λh4=>gA [[f0 h4],[]] (aE (λh7=>az λv6 h8=>gA [[t0 h7],[(8,⟨_,_, .eq (mi v2 v3)⟩)],[(4,cK AP h8)]] (rk λh9=>gR [[t0 (eD h9)],[]])) λh7=>gA [[f0 h7],[]] (bZ λbE=>dN λbD=>gA [[f0 bE],[(7,⟨_,_, .nz (b:=v3.toInt) (bne_iff_ne.1 bD)⟩),(8,⟨_,_, .eq (kC ((v2.toInt).tdiv v3.toInt))⟩)]] (gG (λv7=>[(26,(aK v7))]) (λ_=>[.cells iH]) (dO (7,⟨_,_, .nz (b:=v3.toInt) (bne_iff_ne.1 bD)⟩) (dO (8,⟨_,_, .eq (aae v2 v3.toInt)⟩) (aE (λcl=>gE [(4,bT cl)] []) λcl=>gE [(4,bF cl)] []))) λv7=>aE (λcP=>az λv8 dm=>gA [[t0 cP],[(5,⟨_,_, .eq (xx (Int64.ofInt ((v2.toInt).tdiv v3.toInt)) (1:Int64))⟩)],[(4,cK AP dm)]] (rk λdd=>gR [[t0 (eD dd)],[]])) λcP=>az λv9 eY=>gA [[f0 cP],[(4,cK AP eY)]] (rk λfU=>gR [[t0 (eD fU)],[]])))))))
def L4(N:Nat)(v1:aF)(v2:Int64)(v3:Int64):an5 (Int64×Int):=
 some ((v2+v3),(0:Int))
theorem akO{N v1 v2 v3}:KO 274 [(cr v1),(bz v2),(bz v3)] (λr=> .aZ [(bz r.1),(aq r.2)]) (L4 N v1 v2 v3):=
 fw Tryz.func274 (gR [[],[(8,⟨_,_, .eq (HQ v2 v3)⟩)]])
def Nf(N:Nat)(v1:aF)(v2:ax)(v3:ax):an5 (ax×Int):=
 Option.bind (qH N v1 ([v2,v3])) λv4=>
 bif (v4 !=0)then
  some (cB,v4)
 else
  (L4 N v1 v2.xN v3.xN).bind λv5=>
  bif (v5.2 !=0)then
   some (cB,v5.2)
  else
   (oT N v1 v5.1).bind λv6=>
   some (v6,(0:Int))
theorem ak3{N v1 v2 v3}:KP 272 [(.agg [(.fn 274 [])]),(cr v1),(bp v2),(bp v3)] [] (λr=> .aZ [(bp r.1),(aq r.2)]) (λ_=>[]) (Nf N v1 v2 v3):=
 fh 0 Tryz.func272 (az λv4 J=>gA [[],[(13,cK Bi J)],[]] (aE (λh2=>gH [[t0 h2],[]]) λh2=>az λv5 h3=>gA [[f0 h2],[(22,cK akO h3)],[]] (aE (λh4=>gH [[t0 h4],[]]) λh4=>az λv6 h5=>gH [[f0 h4],[(7,cK yB h5)]])))
def BV(N:Nat)(v1:aF)(v2:ax)(v3:ax):an5 (ax×Int):=
 (Nf N v1 v2 v3).bind λv4=>
 some (v4.1,v4.2)
theorem alX{N v1 v2 v3}:KO 233 [(cr v1),(bp v2),(bp v3)] (λr=> .aZ [(bp r.1),(aq r.2)]) (BV N v1 v2 v3):=
 fw Tryz.func233 (az λv4 J=>gR [[],[(13,oQ [(.agg [(.fn 274 [])]),(cr v1),(bp v2),(bp v3)] [.cells (cr v1).cells, .cells (bp v2).cells, .cells (bp v3).cells, .cells iH] [] (ak3 _ J))]])
def NO(N:Nat)(v1:aF)(v2:Int64)(v3:Int64):an5 (Int64×Int):=
 some ((v2-v3),(0:Int))
theorem acE{N v1 v2 v3}:KO 275 [(cr v1),(bz v2),(bz v3)] (λr=> .aZ [(bz r.1),(aq r.2)]) (NO N v1 v2 v3):=
 fw Tryz.func275 (gR [[],[(8,⟨_,_, .eq (xx v2 v3)⟩)]])
def Pp(N:Nat)(v1:aF)(v2:ax)(v3:ax):an5 (ax×Int):=
 Option.bind (qH N v1 ([v2,v3])) λv4=>
 bif (v4 !=0)then
  some (cB,v4)
 else
  (NO N v1 v2.xN v3.xN).bind λv5=>
  bif (v5.2 !=0)then
   some (cB,v5.2)
  else
   (oT N v1 v5.1).bind λv6=>
   some (v6,(0:Int))
theorem ajm{N v1 v2 v3}:KP 272 [(.agg [(.fn 275 [])]),(cr v1),(bp v2),(bp v3)] [] (λr=> .aZ [(bp r.1),(aq r.2)]) (λ_=>[]) (Pp N v1 v2 v3):=
 fh 0 Tryz.func272 (az λv4 J=>gA [[],[(13,cK Bi J)],[]] (aE (λh2=>gH [[t0 h2],[]]) λh2=>az λv5 h3=>gA [[f0 h2],[(22,cK acE h3)],[]] (aE (λh4=>gH [[t0 h4],[]]) λh4=>az λv6 h5=>gH [[f0 h4],[(7,cK yB h5)]])))
def CR(N:Nat)(v1:aF)(v2:ax)(v3:ax):an5 (ax×Int):=
 (Pp N v1 v2 v3).bind λv4=>
 some (v4.1,v4.2)
theorem acM{N v1 v2 v3}:KO 234 [(cr v1),(bp v2),(bp v3)] (λr=> .aZ [(bp r.1),(aq r.2)]) (CR N v1 v2 v3):=
 fw Tryz.func234 (az λv4 J=>gR [[],[(13,oQ [(.agg [(.fn 275 [])]),(cr v1),(bp v2),(bp v3)] [.cells (cr v1).cells, .cells (bp v2).cells, .cells (bp v3).cells, .cells iH] [] (ajm _ J))]])
def LI(N:Nat)(v1:aF)(v2:Int64)(v3:Int64):an5 (Int64×Int):=
 bif (decide ((0:Int)<=v1.bS))then
 Option.bind (Bz N (v2*v3) (Int64.ofInt ((1:Int)*2^(min (v1.bS).toNat (IntKind.bits .i64)))) v1.ct) λv4=>
 some (v4.1,v4.2)
 else none
theorem acx{N v1 v2 v3}:KO 276 [(cr v1),(bz v2),(bz v3)] (λr=> .aZ [(bz r.1),(aq r.2)]) (LI N v1 v2 v3):=
 fw Tryz.func276 (dN λJ=>az λv4 h2=>gR [[],[(8,⟨_,_, .eq (mi v2 v3)⟩),(16,⟨_,_, .nn (b:=v1.bS) (of_decide_eq_true J)⟩),(17,⟨_,_, .eq (kC ((1:Int)*2^(min (v1.bS).toNat (IntKind.bits .i64))))⟩),(25,cK RC h2)]])
def OI(N:Nat)(v1:aF)(v2:ax)(v3:ax):an5 (ax×Int):=
 Option.bind (qH N v1 ([v2,v3])) λv4=>
 bif (v4 !=0)then
  some (cB,v4)
 else
  (LI N v1 v2.xN v3.xN).bind λv5=>
  bif (v5.2 !=0)then
   some (cB,v5.2)
  else
   (oT N v1 v5.1).bind λv6=>
   some (v6,(0:Int))
theorem afH{N v1 v2 v3}:KP 272 [(.agg [(.fn 276 [])]),(cr v1),(bp v2),(bp v3)] [] (λr=> .aZ [(bp r.1),(aq r.2)]) (λ_=>[]) (OI N v1 v2 v3):=
 fh 0 Tryz.func272 (az λv4 J=>gA [[],[(13,cK Bi J)],[]] (aE (λh2=>gH [[t0 h2],[]]) λh2=>az λv5 h3=>gA [[f0 h2],[(22,cK acx h3)],[]] (aE (λh4=>gH [[t0 h4],[]]) λh4=>az λv6 h5=>gH [[f0 h4],[(7,cK yB h5)]])))
def CE(N:Nat)(v1:aF)(v2:ax)(v3:ax):an5 (ax×Int):=
 (OI N v1 v2 v3).bind λv4=>
 some (v4.1,v4.2)
theorem afy{N v1 v2 v3}:KO 235 [(cr v1),(bp v2),(bp v3)] (λr=> .aZ [(bp r.1),(aq r.2)]) (CE N v1 v2 v3):=
 fw Tryz.func235 (az λv4 J=>gR [[],[(13,oQ [(.agg [(.fn 276 [])]),(cr v1),(bp v2),(bp v3)] [.cells (cr v1).cells, .cells (bp v2).cells, .cells (bp v3).cells, .cells iH] [] (afH _ J))]])
def Lp(N:Nat)(v1:aF)(v2:Int64)(v3:Int64):an5 (Int64×Int):=
 bif (decide ((0:Int)<=v1.bS))then
 Option.bind (Bz N (Int64.ofInt (v2.toInt*2^(min (v1.bS).toNat (IntKind.bits .i64)))) v3 v1.ct) λv4=>
 some (v4.1,v4.2)
 else none
theorem acz{N v1 v2 v3}:KO 277 [(cr v1),(bz v2),(bz v3)] (λr=> .aZ [(bz r.1),(aq r.2)]) (Lp N v1 v2 v3):=
 fw Tryz.func277 (dN λJ=>az λv4 h2=>gR [[],[(10,⟨_,_, .nn (b:=v1.bS) (of_decide_eq_true J)⟩),(11,⟨_,_, .eq (kC (v2.toInt*2^(min (v1.bS).toNat (IntKind.bits .i64))))⟩),(22,cK RC h2)]])
end Go.Proofs.YtpeecnpmcbnahaaGreatDoor
