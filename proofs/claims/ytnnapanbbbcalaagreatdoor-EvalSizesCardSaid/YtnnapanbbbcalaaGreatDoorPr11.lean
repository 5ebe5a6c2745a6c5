/-
  Part 11 of the proof: PE1, PE2, PE3.
-/
import Derived.Test.YtnnapanbbbcalaaGreatDoorPr10
namespace Go.Proofs.YtnnapanbbbcalaaGreatDoor
open Go.RowKit
set_option maxRecDepth 100000
set_option maxHeartbeats 0
set_option linter.unusedVariables false
theorem k00{α β γ:Type}{a:Option α}{b:α->Option β}{f:α->β->Option γ}{r:γ}(h:Option.bind a (λx=>Option.bind (b x) (f x))=some r):∃x,a=some x/\∃y,b x=some y/\f x y=some r:=have⟨x,p,h⟩:=bg h;have⟨y,q,h⟩:=bg h;⟨x,p,y,q,h⟩
def fB(v:aZ)(r:ak4 AV):ak4 AV:=(.d (.sl (cW v.bE)))::(.d (.sl (mz v.dL)))::(.d (.sl (jW v.bu)))::(.d (.sl (gD v.aU)))::(.d (.sl (cW v.dU)))::r
def EO(N:Nat)(v1:ak4 aX)(v2:Int):ak4 aX->Nat->ak6 Bool
 |[],_=>
  some (decide ((v1.length:Int)<=v2))
 |v5::v6,v3=>
  bif (decide ((v5.aF.size:Int)>100))then
   some false
  else
   (EO N v1 v2 v6 (v3+1))
def OP(N:Nat)(v1:ak4 aX)(v2:Int):ak6 Bool:=
 EO N v1 v2 v1 0
theorem aiw{N v1 v2}:KO 14 [(.d (.sl (aN v1))),(aq v2)] ax (OP N v1 v2):=
 fw Tryz.func14 (gA [[],[]] (gT ve 0 v1 λh2=>dP 1 [] [0,1,5] 0 (λv3=>⟨23,[(0,(.d (.sl (aN v1)))),(1,(aq v2)),(5,(aq (v3:Int)))],[]⟩) (λv3 h3 f1=>gR [[(7,oL v1 nI)],[f0 (bK h3)],[(4,oL v1 nI)]]) (λv3 v5 v6 h3 f1 aG=>gA [[(7,oL v1 nI)],[t0 (bJ h3)],[(7,oE (qb (bm h3)))]] (bj λh4=>gb aG () [[f0 h4],[(5,oq (bS h3 rfl h2))]] h3))))
def ue(N:Nat)(v2:Int)(qy:ay->Int->ak6 Int):ak4 ay->Nat->Int->ak6 Int
 |[],_,v12=>
  some v12
 |v10::v11,v8,v12=>
  bif (decide (v12<=v2))then
   Option.bind (qy v10 (aK (v2-v12))) λaA=>
   (λgP=>ue N v2 qy v11 (v8+1) gP) (aK (v12+aA))
  else
   some v12
def HJ(N:Nat)(ky:Int->ak6 Int)(v2:Int):ak4 bp->Nat->Int->ak6 Int
 |[],_,bH=>
  ky bH
 |bC::bW,aE,bH=>
  bif (decide (bH<=v2))then
   (λmX=>HJ N ky v2 bW (aE+1) mX) (aK (bH+(bC.xL.length:Int)))
  else
   ky bH
def yg(N:Nat)(v2:Int)(qy:ay->Int->ak6 Int):ak4 ay->Nat->Int->ak6 Int
 |[],_,dH=>
  some dH
 |v21::e8,cd,dH=>
  bif (decide (dH<=v2))then
   Option.bind (qy v21 (aK (v2-dH))) λv24=>
   (λvv=>yg N v2 qy e8 (cd+1) vv) (aK (dH+v24))
  else
   some dH
def yo(N:Nat)(v2:Int)(qy:ay->Int->ak6 Int)(v1:ay):ak4 dd->Nat->Int->ak6 Int
 |[],_,v7=>
  ue N v2 qy v1.cl 0 v7
 |v5::v6,v3,v7=>
  bif (decide (v7<=v2))then
   HJ N (λcq=>yo N v2 qy v1 v6 (v3+1) cq) v2 v5.da 0 (aK ((aK (v7+(v5.bO.xL.length:Int)))+(v5.da.length:Int)))
  else
   yg N v2 qy v1.cl 0 v7
def tE(N:Nat):Nat->ay->Int->ak6 Int
 |0,_,_=>none
 |d+1,v1,v2=>
  yo N v2 (tE N d) v1 v1.xIdx 0 (aK ((aK ((1:Int)+(v1.bO.xL.length:Int)))+(v1.xIdx.length:Int)))
def N2(N:Nat)(v1:ay)(v2:Int):ak6 Int:=tE N N v1 v2
theorem agy(N:Nat):∀d:Nat,(∀{v1:ay}{v2:Int},KO 37 [(aB v1),(aq v2)] aq (tE N d v1 v2)):=by
 intro d
 induction d with
 |zero=>intro v1 v2 r U;rw[tE]at U;cases U
 |succ d ih=>
  have Ub:= @ih;intro v1 v2;rw[tE];exact fw Tryz.func37 (gA [[],[(10,oL v1.bO.xL iZ),(22,oL v1.xIdx fZ)],[]] (gB pE 0 11 v1.xIdx λh2=>fq 1 [] [1,2,5,6] 1 (λv3(v7:Int)=>⟨101,[(1,(aq v2)),(2,(.ptr 0 0)),(5,(aq v7)),(6,(aq (v3:Int)))],[.cells (aB v1).cells]⟩) (λv3 v7 h3 f1=>gA [[(10,oL v1.xIdx fZ),(18,bF (bK h3)),(21,bF (bK h3)),(24,bF (bK h3)),(28,bF (bK h3))],[(0,bF rfl)],[]] (gB ql 0 12 v1.cl λh5=>fq 2 [] [1,2,5,8] 1 (λv8(v12:Int)=>⟨101,[(1,(aq v2)),(2,(.ptr 0 0)),(5,(aq v12)),(8,(aq (v8:Int)))],[.cells (aB v1).cells]⟩) (λv8 v12 h6 f2=>gR [[(10,oL v1.cl iO),(18,bF (bK h6)),(21,bF (bK h6)),(24,bF (bK h6)),(28,bF (bK h6))],[(0,bF rfl)],[]]) (λv8 v10 v11 v12 h6 f2 dT=>gA [[(10,oL v1.cl iO),(18,bT (bJ h6)),(21,bT (bJ h6)),(24,bT (bJ h6)),(28,bT (bJ h6))]] (lC λh7=>au λaA h8=>gb dT (aK (v12+aA)) [[(0,bT h7)],[(13,oE (jM (bm h6))),(28,cK Ub h8)],[(5,oq (bS h6 rfl h5))]] h6)))) (λv3 v5 v6 v7 h3 f1 aG=>gA [[(10,oL v1.xIdx fZ),(18,bT (bJ h3)),(21,bT (bJ h3)),(24,bT (bJ h3)),(28,bT (bJ h3))]] (aw (λh9=>gA [[(0,bT h9)],[(13,oE (iG (bm h3))),(25,oL v5.bO.xL iZ),(40,oE (iG (bm h3))),(49,oL v5.da fy)],[]] (FH (λ_=>(gw_okB 0 11 (eJ v1.xIdx) (by kernel_rfl) ·)) λaO=>have aY:=qz fy (Hp (j:=3) (d:= .sl (eW v5.da)) aO (iG (bm h3)) rfl);fq 3 [] [1,2,5,6,7] 1 (λaE(bH:Int)=>⟨101,[(1,(aq v2)),(2,(.ptr 0 0)),(5,(aq bH)),(6,(aq (v3:Int))),(7,(aq (aE:Int)))],[.cells (aB v1).cells]⟩) (λaE bH aT f3=>gb aG bH [[(13,oE (iG (bm h3))),(22,oL v5.da fy),(30,bF (bK aT)),(33,bF (bK aT)),(36,bF (bK aT)),(40,bF (bK aT))],[(0,bF rfl)],[(5,oq (bS h3 rfl h2))]] h3) (λaE bC bW bH aT f3 j9=>gA [[(13,oE (iG (bm h3))),(22,oL v5.da fy),(30,bT (bJ aT)),(33,bT (bJ aT)),(36,bT (bJ aT)),(40,bT (bJ aT))]] (aw (λbN=>gb j9 (aK (bH+(bC.xL.length:Int))) [[(0,bT bN)],[(13,oE (iG (bm h3))),(25,oE (ng (bm aT))),(34,oL bC.xL iZ)],[(5,oq (bS aT rfl aY))]] aT) λbN=>gb aG bH [[(0,bF bN)],[(5,oq (bS h3 rfl h2))]] h3)))) λh9=>gA [[(0,bF h9)],[]] (gB ql 0 12 v1.cl λbM=>fq 4 [] [1,2,5,8] 1 (λcd(dH:Int)=>⟨101,[(1,(aq v2)),(2,(.ptr 0 0)),(5,(aq dH)),(8,(aq (cd:Int)))],[.cells (aB v1).cells]⟩) (λcd dH cn f4=>gR [[(10,oL v1.cl iO),(18,bF (bK cn)),(21,bF (bK cn)),(24,bF (bK cn)),(28,bF (bK cn))],[(0,bF rfl)],[]]) (λcd v21 e8 dH cn f4 mA=>gA [[(10,oL v1.cl iO),(18,bT (bJ cn)),(21,bT (bJ cn)),(24,bT (bJ cn)),(28,bT (bJ cn))]] (lC λdj=>au λv24 eC=>gb mA (aK (dH+v24)) [[(0,bT dj)],[(13,oE (jM (bm cn))),(28,cK Ub eC)],[(5,oq (bS cn rfl bM))]] cn)))))))
theorem aiZ{N v1 v2}:KO 37 [(aB v1),(aq v2)] aq (N2 N v1 v2):=(agy N N)
def Rf(N:Nat)(AA:ay->ak6 Bool):ak4 ay->Nat->ak6 Bool
 |[],_=>
  some true
 |v9::v10,v7=>
  (AA v9).bind λv11=>
  bif v11 then
   (Rf N AA v10 (v7+1))
  else
   some false
def afd(N:Nat)(AA:ay->ak6 Bool)(v1:ay):ak4 dd->Nat->ak6 Bool
 |[],_=>
  Rf N AA v1.cl 0
 |v5::v6,v3=>
  bif (decide ((v5.dk.size:Int)>100))then
   some false
  else
   (afd N AA v1 v6 (v3+1))
def Fi(N:Nat)(v1:aZ):ak6 Bool:=
 Option.bind (bif (decide ((if(v1.dU.length:Int)>(if(v1.aU.length:Int)>(if(v1.bu.length:Int)>(v1.bE.length:Int)then(v1.bu.length:Int)else(v1.bE.length:Int))then(v1.aU.length:Int)else(if(v1.bu.length:Int)>(v1.bE.length:Int)then(v1.bu.length:Int)else(v1.bE.length:Int)))then(v1.dU.length:Int)else(if(v1.aU.length:Int)>(if(v1.bu.length:Int)>(v1.bE.length:Int)then(v1.bu.length:Int)else(v1.bE.length:Int))then(v1.aU.length:Int)else(if(v1.bu.length:Int)>(v1.bE.length:Int)then(v1.bu.length:Int)else(v1.bE.length:Int))))<=64))then some (decide ((v1.dL.length:Int)<=256))else some false) λv2=>
 some v2
theorem aiB{N v1}:KO 105 [(c7 v1)] ax (Fi N v1):=
 fw Tryz.func105 (gA [[]] (gG (λv2=>[(2,(ax v2))]) (λ_=>[.cells (c7 v1).cells]) (c9 (7,oL v1.bE fR) (c9 (16,oL v1.bu lu) (c9 (25,oL v1.aU kp) (c9 (34,oL v1.dU fR) (aw (λJ=>gE [(14,bT J)] [(52,oL v1.dL nS)]) λJ=>gE [(14,bF J)] []))))) λv2=>gR []))
def Dm(N:Nat)(v1:Int):ak6 Bool:=
 Option.bind (bif (decide (v1>=97))then some (decide (v1<=122))else some false) λv2=>
 some v2
theorem SY{N v1}:KO 249 [(.d (.v (.int .i32 v1)))] ax (Dm N v1):=
 fw Tryz.func249 (gA [[]] (gG (λv2=>[(2,(ax v2))]) (λ_=>[]) (aw (λJ=>gE [(2,bT J)] []) λJ=>gE [(2,bF J)] []) λv2=>gR []))
def H6(N:Nat)(v1:Int):ak6 Bool:=
 Option.bind (bif (decide (v1>=48))then some (decide (v1<=57))else some false) λv2=>
 some v2
theorem aiU{N v1}:KO 284 [(.d (.v (.int .i32 v1)))] ax (H6 N v1):=
 fw Tryz.func284 (gA [[]] (gG (λv2=>[(2,(ax v2))]) (λ_=>[]) (aw (λJ=>gE [(2,bT J)] []) λJ=>gE [(2,bF J)] []) λv2=>gR []))
def D5(N:Nat)(v1:Int):ak6 Bool:=
 (Dm N v1).bind λv2=>
 Option.bind (bif v2 then some true else (H6 N v1).bind λv3=>
 (bif v3 then some true else some (v1==95))) λv4=>
 some v4
theorem agC{N v1}:KO 251 [(.d (.v (.int .i32 v1)))] ax (D5 N v1):=
 fw Tryz.func251 (gA [[]] (au λv2 J=>gG (λv4=>[(2,(ax v4))]) (λ_=>[]) (c9 (4,cK SY J) (aw (λh2=>gE [(2,bT h2),(6,bT rfl)] []) λh2=>au λv3 h3=>cr (2,bF h2) (c9 (13,cK aiU h3) (aw (λh4=>gE [(6,bT h4)] []) λh4=>gE [(6,bF h4)] [])))) λv4=>gR []))
def Dt(N:Nat)(v1:ak5):Nat->Int->ak6 Int
 |0,_=>none
 |v2+1,v3=>
  Option.bind (bif (decide (v3<(v1.size:Int)))then bif (decide ((0:Int)<=v3))then
  Option.bind (v1[(v3).toNat]?) λv4=>
  Option.bind (D5 N (IntKind.i32.wrap (v4.toNat:Int))) λv5=>
  some v5
  else none else some false) λv6=>
  bif v6 then
   (λcq=>Dt N v1 v2 cq) (aK (v3+(1:Int)))
  else
   some v3
def HB(N:Nat)(v1:ak5):ak6 Int:=
 Dt N v1 N (0:Int)
theorem YD{N v1}:KP 250 [(c6 v1),(.fn 251 [])] [] aq (λ_=>[]) (HB N v1):=
 fh 0 Tryz.func250 (HG 1 [[],[]] [0,1,5] 0 (λ(v3:Int)=>⟨21,[(0,(c6 v1)),(1,(.fn 251 [])),(5,(aq v3))],[]⟩) (Dt N v1) (λv2 v3 f1 aG=>gG (λv6=>[(17,(ax v6))]) (λ_=>[]) (aw (λJ=>dh λh3=>au λv4 h2=>au λv5 h4=>gE [(4,bT J)] [(25,⟨_,_, .ch (i:=v3) (of_decide_eq_true h3) h2⟩),(31,cK agC h4)]) λJ=>gE [(4,bF J)] []) λv6=>aw (λh6=>yP aG (aK (v3+(1:Int))) [[t0 h6],[]]) λh6=>gH [[f0 h6],[]]))
def Ks(N:Nat):ak6 (ak4 ak5):=some mE
theorem ZB{N r}(U:Ks N=some r):fX Tryz.prog 285 [] (·=(.d (.sl (cW r)))):=by
 cases U;exact Zh
def Gt(N:Nat)(v2:ak5):ak4 ak5->Nat->ak6 Int
 |[],_=>
  some (-1:Int)
 |v5::v6,v3=>
  bif (bL v2==bL v5)then
   some (v3:Int)
  else
   (Gt N v2 v6 (v3+1))
def Jk(N:Nat)(v1:ak4 ak5)(v2:ak5):ak6 Int:=
 Gt N v2 v1 0
theorem ag5{N v1 v2}:KO 194 [(.d (.sl (cW v1))),(c6 v2)] aq (Jk N v1 v2):=
 fw Tryz.func194 (gA [[],[(4,oL v1 fR)]] (gT jK 0 v1 λh2=>dP 1 [] [0,1,7,8] 0 (λv3=>⟨19,[(0,(.d (.sl (cW v1)))),(1,(c6 v2)),(7,(aq (v1.length:Int))),(8,(aq (v3:Int)))],[]⟩) (λv3 h3 f1=>gR [[],[f0 (bK h3)],[]]) (λv3 v5 v6 h3 f1 aG=>gA [[],[t0 (bJ h3)],[],[(10,oE (mo (bm h3)))]] (bj λh4=>gb aG () [[f0 h4],[(2,oq (bS h3 rfl h2))]] h3))))
def yr(N:Nat)(v1:ak4 ak5)(v2:ak5):ak6 Bool:=
 (Jk N v1 v2).bind λv3=>
 some (decide (v3>=0))
theorem QU{N v1 v2}:KO 110 [(.d (.sl (cW v1))),(c6 v2)] ax (yr N v1 v2):=
 fw Tryz.func110 (au λv3 J=>gR [[],[(7,cK ag5 J)]])
def Hj(N:Nat)(v1:ak5):ak6 Bool:=
 (Ks N).bind λv2=>
 (yr N v2 v1).bind λv3=>
 some v3
theorem YV{N v1}:KO 252 [(c6 v1)] ax (Hj N v1):=
 fw Tryz.func252 (au λv2 J=>au λv3 h2=>gR [[],[(1,cL (ZB J)),(7,cK QU h2)]])
def tO(N:Nat)(v1:ak5):ak6 Bool:=
 Option.bind (bif (bL v1==bL (bs []))then some false else(bif (decide ((v1.size:Int)<=16))then Option.bind (v1[0]?) λv2=>
 Option.bind (Dm N (IntKind.i32.wrap (v2.toNat:Int))) λv3=>
 (bif v3 then (HB N v1).bind λv4=>
 (bif (v4==(v1.size:Int))then (Hj N v1).bind λv5=>
 some (!v5)else some false)else some false)else some false)) λv6=>
 some v6
theorem FJ{N v1}:KO 186 [(c6 v1)] ax (tO N v1):=
 fw Tryz.func186 (gA [[]] (gG (λv6=>[(2,(ax v6))]) (λ_=>[]) (aw (λJ=>gE [(2,bF (cH J)),(7,bF rfl),(13,bF rfl),(20,bF rfl)] []) λJ=>cr (2,bT (dq J)) (aw (λh2=>au λv2 h3=>au λv3 h4=>cr (7,bT h2) (c9 (28,⟨_,_, .ch (i:=0) (by decide) h3⟩) (c9 (34,cK SY h4) (aw (λh5=>au λv4 h6=>cr (13,bT h5) (c9 (46,oQ [(c6 v1),(.fn 251 [])] [] [] (YD _ h6)) (aw (λh7=>au λv5 h8=>gE [(20,bT h7)] [(67,cK YV h8)]) λh7=>gE [(20,bF h7)] []))) λh5=>gE [(13,bF h5),(20,bF rfl)] [])))) λh2=>gE [(7,bF h2),(13,bF rfl),(20,bF rfl)] [])) λv6=>gR []))
def w6(N:Nat)(v1:ak5)(v2:Int)(v3:aZ)(v4:ak4 (ak5×Int)):ak6 (Int×(ak4 (ak5×Int))):=
 (tO N v1).bind λv5=>
 bif v5 then
  bif ((gv v4 v1 0) !=0)then
   some ((8:Int),v4)
  else
   bif (Nat.blt v4.length 9223372036854775807)then
   some ((0:Int),((v1,v2)::v4))
   else none
 else
  some ((7:Int),v4)
theorem N7{N v1 v2 v3 v4}:KP 106 [(.ptr 0 0),(c6 v1),(aq v2)] [.cells (fB v3 [(.mp 1)]), .map (fc v4)] (λr=>aq r.1) (λr=>[.cells (fB v3 [(.mp 1)]), .map (fc r.2)]) (w6 N v1 v2 v3 v4):=
 fh 2 Tryz.func106 (au λv5 J=>gA [[],[(4,cK FJ J)]] (aw (λh2=>gA [[f0 (cH h2)],[(17,⟨_,_, .eq (Ds false v4 v1)⟩)]] (aw (λh3=>gH [[t0 h3],[]]) λh3=>dh λh4=>gH [[f0 h3],[(19,⟨_,_, .sd (o:= .none) (J5 h4)⟩)],[]])) λh2=>gH [[t0 (dq h2)],[]]))
def ik(N:Nat)(v2:Bool):ak6 Bool:=
 bif v2 then
  some true
 else
  some false
def ET(N:Nat)(v1:ak5):ak6 Bool:=
 bif (bL v1==bL (bs [115,105,122,101]))then
  ik N (bL v1==bL (bs [115,105,122,101]))
 else
  bif (bL v1==bL (bs [119,104,101,114,101]))then
   ik N (bL v1==bL (bs [119,104,101,114,101]))
  else
   bif (bL v1==bL (bs [105,110]))then
    ik N (bL v1==bL (bs [105,110]))
   else
    bif (bL v1==bL (bs [100,101,102]))then
     ik N (bL v1==bL (bs [100,101,102]))
    else
     bif (bL v1==bL (bs [111,117,116]))then
      ik N (bL v1==bL (bs [111,117,116]))
     else
      bif (bL v1==bL (bs [115,117,109]))then
       ik N (bL v1==bL (bs [115,117,109]))
      else
       bif (bL v1==bL (bs [112,114,111,100]))then
        ik N (bL v1==bL (bs [112,114,111,100]))
       else
        bif (bL v1==bL (bs [109,105,110]))then
         ik N (bL v1==bL (bs [109,105,110]))
        else
         bif (bL v1==bL (bs [109,97,120]))then
          ik N (bL v1==bL (bs [109,97,120]))
         else
          bif (bL v1==bL (bs [115,99,97,110]))then
           ik N (bL v1==bL (bs [115,99,97,110]))
          else
           bif (bL v1==bL (bs [111,118,101,114]))then
            ik N (bL v1==bL (bs [111,118,101,114]))
           else
            bif (bL v1==bL (bs [105,102]))then
             ik N (bL v1==bL (bs [105,102]))
            else
             bif (bL v1==bL (bs [99,97,115,116]))then
              ik N (bL v1==bL (bs [99,97,115,116]))
             else
              bif (bL v1==bL (bs [102,114,97,99]))then
               ik N (bL v1==bL (bs [102,114,97,99]))
              else
               bif (bL v1==bL (bs [105,110,116]))then
                ik N (bL v1==bL (bs [105,110,116]))
               else
                bif (bL v1==bL (bs [102,105,120]))then
                 ik N (bL v1==bL (bs [102,105,120]))
                else
                 bif (bL v1==bL (bs [99,101,105,108]))then
                  ik N (bL v1==bL (bs [99,101,105,108]))
                 else
                  bif (bL v1==bL (bs [102,108,111,111,114]))then
                   ik N (bL v1==bL (bs [102,108,111,111,114]))
                  else
                   bif (bL v1==bL (bs [122,101,114,111]))then
                    ik N (bL v1==bL (bs [122,101,114,111]))
                   else
                    bif (bL v1==bL (bs [101,118,101,110]))then
                     ik N (bL v1==bL (bs [101,118,101,110]))
                    else
                     bif (bL v1==bL (bs [115,97,116]))then
                      ik N (bL v1==bL (bs [115,97,116]))
                     else
                      ik N (bL v1==bL (bs [119,114,97,112]))
theorem aiF{N v1}:KO 275 [(c6 v1)] ax (ET N v1):=
 fw Tryz.func275 (k8 1 [[],[],[]] [4] 0 (λ(v2:Bool)=>⟨27,[(4,(ax v2))],[]⟩) (ik N) (λf1 aG=>aw (λh2=>gm aG (bL v1==bL (bs [115,105,122,101])) [[t0 h2]]) λh2=>gA [[f0 h2],[]] (aw (λh3=>gm aG (bL v1==bL (bs [119,104,101,114,101])) [[t0 h3]]) λh3=>gA [[f0 h3],[]] (aw (λh4=>gm aG (bL v1==bL (bs [105,110])) [[t0 h4]]) λh4=>gA [[f0 h4],[]] (aw (λh5=>gm aG (bL v1==bL (bs [100,101,102])) [[t0 h5]]) λh5=>gA [[f0 h5],[]] (aw (λh6=>gm aG (bL v1==bL (bs [111,117,116])) [[t0 h6]]) λh6=>gA [[f0 h6],[]] (aw (λh7=>gm aG (bL v1==bL (bs [115,117,109])) [[t0 h7]]) λh7=>gA [[f0 h7],[]] (aw (λh8=>gm aG (bL v1==bL (bs [112,114,111,100])) [[t0 h8]]) λh8=>gA [[f0 h8],[]] (aw (λh9=>gm aG (bL v1==bL (bs [109,105,110])) [[t0 h9]]) λh9=>gA [[f0 h9],[]] (aw (λaO=>gm aG (bL v1==bL (bs [109,97,120])) [[t0 aO]]) λaO=>gA [[f0 aO],[]] (aw (λaY=>gm aG (bL v1==bL (bs [115,99,97,110])) [[t0 aY]]) λaY=>gA [[f0 aY],[]] (aw (λaT=>gm aG (bL v1==bL (bs [111,118,101,114])) [[t0 aT]]) λaT=>gA [[f0 aT],[]] (aw (λbN=>gm aG (bL v1==bL (bs [105,102])) [[t0 bN]]) λbN=>gA [[f0 bN],[]] (aw (λbZ=>gm aG (bL v1==bL (bs [99,97,115,116])) [[t0 bZ]]) λbZ=>gA [[f0 bZ],[]] (aw (λbM=>gm aG (bL v1==bL (bs [102,114,97,99])) [[t0 bM]]) λbM=>gA [[f0 bM],[]] (aw (λcn=>gm aG (bL v1==bL (bs [105,110,116])) [[t0 cn]]) λcn=>gA [[f0 cn],[]] (aw (λdj=>gm aG (bL v1==bL (bs [102,105,120])) [[t0 dj]]) λdj=>gA [[f0 dj],[]] (aw (λeC=>gm aG (bL v1==bL (bs [99,101,105,108])) [[t0 eC]]) λeC=>gA [[f0 eC],[]] (aw (λfu=>gm aG (bL v1==bL (bs [102,108,111,111,114])) [[t0 fu]]) λfu=>gA [[f0 fu],[]] (aw (λdD=>gm aG (bL v1==bL (bs [122,101,114,111])) [[t0 dD]]) λdD=>gA [[f0 dD],[]] (aw (λfW=>gm aG (bL v1==bL (bs [101,118,101,110])) [[t0 fW]]) λfW=>gA [[f0 fW],[]] (aw (λiu=>gm aG (bL v1==bL (bs [115,97,116])) [[t0 iu]]) λiu=>gm aG (bL v1==bL (bs [119,114,97,112])) [[f0 iu],[]]))))))))))))))))))))) (λv2=>bj λJ=>gR [[f0 J],[]]))
def xq(N:Nat)(v1:ak5):Nat->Int->ak6 Bool
 |0,_=>none
 |v5+1,v6=>
  bif (decide (v6<(v1.size:Int)))then
   bif (decide ((0:Int)<=v6))then
   Option.bind (v1[(v6).toNat]?) λv7=>
   Option.bind (bif (decide ((v7.toNat:Int)<97))then(bif (decide ((v7.toNat:Int)<48))then some ((v7.toNat:Int) !=95)else(bif (decide ((v7.toNat:Int)>57))then some ((v7.toNat:Int) !=95)else some false))else(bif (decide ((v7.toNat:Int)>122))then(bif (decide ((v7.toNat:Int)<48))then some ((v7.toNat:Int) !=95)else(bif (decide ((v7.toNat:Int)>57))then some ((v7.toNat:Int) !=95)else some false))else some false)) λv8=>
   bif v8 then
    some false
   else
    (λcq=>xq N v1 v5 cq) (aK (v6+(1:Int)))
   else none
  else
   some true
def IT(N:Nat)(v1:ak5):ak6 Bool:=
 Option.bind (bif (decide ((v1.size:Int)<1))then some true else(bif (decide ((v1.size:Int)>16))then some true else (ET N v1).bind λv2=>
 (bif v2 then some true else Option.bind (v1[0]?) λv3=>
 (bif (decide ((v3.toNat:Int)<97))then some true else some (decide ((v3.toNat:Int)>122)))))) λv4=>
 bif v4 then
  some false
 else
  xq N v1 N (0:Int)
theorem adZ{N v1}:KO 223 [(c6 v1)] ax (IT N v1):=
 fw Tryz.func223 (gA [[]] (gG (λv4=>[(26,(ax v4))]) (λ_=>[]) (aw (λJ=>gE [(3,bT J),(8,bT rfl),(12,bT rfl),(17,bT rfl)] []) λJ=>cr (3,bF J) (aw (λh2=>gE [(8,bT h2),(12,bT rfl),(17,bT rfl)] []) λh2=>au λv2 h3=>cr (8,bF h2) (c9 (31,cK aiF h3) (aw (λh4=>gE [(12,bT h4),(17,bT rfl)] []) λh4=>au λv3 h5=>cr (12,bF h4) (c9 (43,⟨_,_, .ch (i:=0) (by decide) h5⟩) (aw (λh6=>gE [(17,bT h6)] []) λh6=>gE [(17,bF h6)] [(58,⟨_,_, .ch (i:=0) (by decide) h5⟩)])))))) λv4=>bj λh8=>HG 1 [[f0 h8],[]] [0,28,29] 0 (λ(v6:Int)=>⟨54,[(0,(c6 v1)),(28,(aq (v1.size:Int))),(29,(aq v6))],[]⟩) (xq N v1) (λv5 v6 f1 aG=>gA [[]] (lC λh9=>dh λaY=>au λv7 aO=>gA [[t0 h9],[],[(7,⟨_,_, .ch (i:=v6) (of_decide_eq_true aY) aO⟩)]] (gG (λv8=>[(52,(ax v8))]) (λ_=>[]) (aw (λaT=>cr (2,bT aT) (cr (6,bT rfl) (aw (λbN=>gE [(9,bT bN),(14,bT rfl)] [(37,bT bN)]) λbN=>cr (9,bF bN) (c9 (37,bF bN) (aw (λbZ=>gE [(14,bT bZ)] []) λbZ=>gE [(14,bF bZ)] []))))) λaT=>cr (2,bF aT) (aw (λbM=>cr (6,bT bM) (aw (λcn=>gE [(9,bT cn),(14,bT rfl)] [(37,bT cn)]) λcn=>cr (9,bF cn) (c9 (37,bF cn) (aw (λdj=>gE [(14,bT dj)] []) λdj=>gE [(14,bF dj)] [])))) λbM=>gE [(6,bF bM),(9,uN),(14,bF rfl)] [])) λv8=>bj λfu=>yP aG (aK (v6+(1:Int))) [[f0 fu],[]])))))
def Ef(N:Nat)(v1:bp):ak4 dK->Nat->ak6 Int
 |[],_=>
  some (0:Int)
 |v4::v5,v2=>
  (IT N v4.aF).bind λv6=>
  Option.bind (bif v6 then(bif (v4.eN.toInt==0)then some true else(bif (decide ((v2:Int)>0))then bif (decide ((0:Int)<=(aK ((v2:Int)-(1:Int)))))then
  Option.bind (v1.xL[((aK ((v2:Int)-(1:Int)))).toNat]?) λv7=>
  some (!(Op.bytesLess (bL v7.aF) (bL v4.aF)))
  else none else some false))else some true) λv8=>
  bif v8 then
   some (1:Int)
  else
   (Ef N v1 v5 (v2+1))
def yz(N:Nat)(v1:bp):ak6 Int:=
 Ef N v1 v1.xL 0
theorem Is{N v1}:KO 135 [(dN v1)] aq (yz N v1):=
 fw Tryz.func135 (gA [[],[(7,oL v1.xL iZ)]] (gT tT 6 v1.xL λh2=>dP 1 [] [1,6,7,8] 1 (λv2=>⟨39,[(1,(.ptr 0 0)),(6,(.d (.sl (ga v1.xL)))),(7,(aq (v1.xL.length:Int))),(8,(aq (v2:Int)))],[.cells (dN v1).cells]⟩) (λv2 h3 f1=>gR [[],[f0 (bK h3)],[]]) (λv2 v4 v5 h3 f1 aG=>gA [[],[t0 (bJ h3)],[(4,oE (lX (bm h3)))]] (au λv6 h4=>gG (λv8=>[(37,(ax v8))]) (λ_=>[.cells (dN v1).cells, .cells (qP v4).cells]) (c9 (7,cK adZ h4) (aw (λh5=>cr (4,bF (cH h5)) (aw (λh6=>gE [(9,bT h6),(12,uN)] []) λh6=>cr (9,bF h6) (aw (λh7=>dh λh9=>au λv7 h8=>gE [(12,bT h7)] [(52,⟨_,_, .el (xs:=ga v1.xL) (i:=(aK ((v2:Int)-(1:Int)))) (of_decide_eq_true h9) (lX h8)⟩),(70,bT h7)]) λh7=>gE [(12,bF h7)] [(70,bF h7)]))) λh5=>gE [(4,bT (dq h5)),(9,bT rfl),(12,uN)] [])) λv8=>bj λaY=>gb aG () [[f0 aY],[(2,oq (bS h3 rfl h2))]] h3))))
def J9(N:Nat)(v1:gr):ak6 Int:=
 (yz N v1.bO).bind λv2=>
 some v2
theorem ZJ{N v1}:KO 187 [(qv v1)] aq (J9 N v1):=
 fw Tryz.func187 (au λv2 J=>gR [[],[(7,cK Is J)]])
def IQ(N:Nat)(v3:ak4 (ak5×Int)):ak4 dK->Nat->ak6 Int
 |[],_=>
  some (0:Int)
 |v7::v8,v5=>
  bif ((gv v3 v7.aF 0) !=1)then
   some (9:Int)
  else
   (IQ N v3 v8 (v5+1))
def zL(N:Nat)(v1:bp)(v2:aZ)(v3:ak4 (ak5×Int)):ak6 Int:=
 (yz N v1).bind λv4=>
 bif (v4 !=0)then
  some (1:Int)
 else
  IQ N v3 v1.xL 0
theorem Mf{N v1 v2 v3}:KP 188 [(.ptr 0 0),(dN v1)] [.cells (fB v2 [(.mp 1)]), .map (fc v3)] aq (λ_=>[.cells (fB v2 [(.mp 1)]), .map (fc v3)]) (zL N v1 v2 v3):=
 fh 2 Tryz.func188 (au λv4 J=>gA [[],[(4,cK Is J)]] (aw (λh2=>gH [[t0 h2],[]]) λh2=>gA [[f0 h2],[(7,oL v1.xL iZ)]] (gT tT 11 v1.xL λh4=>dP 1 [] [0,11,12,13] 3 (λv5=>⟨26,[(0,(.ptr 0 0)),(11,(.d (.sl (ga v1.xL)))),(12,(aq (v1.xL.length:Int))),(13,(aq (v5:Int)))],[.cells (fB v2 [(.mp 1)]), .map (fc v3), .cells (dN v1).cells]⟩) (λv5 h5 f1=>gH [[],[f0 (bK h5)],[]]) (λv5 v7 v8 h5 f1 aG=>gA [[],[t0 (bJ h5)],[(1,oE (lX (bm h5)))],[(20,⟨_,_, .eq (Ds false v3 v7.aF)⟩)]] (aw (λh6=>gH [[t0 h6],[]]) λh6=>gb aG () [[f0 h6],[(2,oq (bS h5 rfl h4))]] h5)))))
def F6(N:Nat)(v1:gr)(v2:aZ)(v3:ak4 (ak5×Int)):ak6 Int:=
 (J9 N v1).bind λv4=>
 bif (v4 !=0)then
  some (1:Int)
 else
  (zL N v1.bO v2 v3).bind λv5=>
  some v5
theorem ad5{N v1 v2 v3}:KP 107 [(.ptr 0 0),(qv v1)] [.cells (fB v2 [(.mp 1)]), .map (fc v3)] aq (λ_=>[.cells (fB v2 [(.mp 1)]), .map (fc v3)]) (F6 N v1 v2 v3):=
 fh 2 Tryz.func107 (au λv4 J=>gA [[],[(4,cK ZJ J)]] (aw (λh2=>gH [[t0 h2],[]]) λh2=>au λv5 h3=>gH [[f0 h2],[(10,oQ [(.ptr 0 0),(dN v1.bO)] [.cells (fB v2 [(.mp 1)]), .map (fc v3), .cells (qv v1).cells] [0,1] (Mf _ h3))]]))
def ML(N:Nat)(v1:aV):ak6 Bool:=
 some ((v1.cg==v1.cg)&&((v1.cE==0)&&((v1.cB==0)&&((v1.cY==0)&&((v1.c8==0)&&true)))))
theorem afp{N v1}:KO 199 [(bX v1)] ax (ML N v1):=
 fw Tryz.func199 (gR [[],[]])
def uK(N:Nat)(v1:aV):ak6 Int:=
 Option.bind (bif (decide (v1.cY>=1))then(bif (decide (v1.cY<=4))then(bif (v1.c8==1)then some true else some (v1.c8==2))else some false)else some false) λv2=>
 Option.bind (bif (v1.cg !=2)then some true else(bif (decide (v1.cE<2))then some true else(bif (decide (v1.cE>31))then some true else(bif (decide (v1.cB<0))then some true else(bif (decide (v1.cB>30))then some true else some (!v2)))))) λv3=>
 bif v3 then
  some (10:Int)
 else
  some (0:Int)
theorem GP{N v1}:KO 200 [(bX v1)] aq (uK N v1):=
 fw Tryz.func200 (gA [[]] (gG (λv2=>[(3,(ax v2))]) (λ_=>[.cells (bX v1).cells]) (aw (λJ=>cr (3,bT J) (aw (λh2=>cr (8,bT h2) (aw (λh3=>gE [(12,bT h3)] [(49,bT h3)]) λh3=>gE [(12,bF h3)] [(49,bF h3)])) λh2=>gE [(8,bF h2),(12,uN)] [])) λJ=>gE [(3,bF J),(8,bF rfl),(12,uN)] []) λv2=>gG (λv3=>[(48,(ax v3))]) (λ_=>[.cells (bX v1).cells]) (aw (λh5=>gE [(3,bT h5),(8,bT rfl),(13,bT rfl),(18,bT rfl),(23,bT rfl)] []) λh5=>cr (3,bF h5) (aw (λh6=>gE [(8,bT h6),(13,bT rfl),(18,bT rfl),(23,bT rfl)] []) λh6=>cr (8,bF h6) (aw (λh7=>gE [(13,bT h7),(18,bT rfl),(23,bT rfl)] []) λh7=>cr (13,bF h7) (aw (λh8=>gE [(18,bT h8),(23,bT rfl)] []) λh8=>cr (18,bF h8) (aw (λh9=>gE [(23,bT h9)] []) λh9=>gE [(23,bF h9)] []))))) λv3=>bj λaY=>gR [[f0 aY],[]]))
def EH(N:Nat)(v1:aV)(v2:Bool):ak6 Int:=
 bif v2 then
  (ML N v1).bind λv3=>
  bif v3 then
   some (0:Int)
  else
   some (10:Int)
 else
  bif (v1.cg==2)then
   (uK N v1).bind λv4=>
   bif (v4==0)then
    some (0:Int)
   else
    some (10:Int)
  else
   some (10:Int)
def lB(N:Nat)(v1:aV):ak6 Int:=
 bif (v1.cg==1)then
  EH N v1 (v1.cg==1)
 else
  EH N v1 (v1.cg==3)
theorem nR{N v1}:KO 117 [(bX v1)] aq (lB N v1):=
 fw Tryz.func117 (k8 1 [[],[],[]] [1,4,5] 1 (λ(v2:Bool)=>⟨15,[(1,(.ptr 0 0)),(4,(aq v1.cg)),(5,(ax v2))],[.cells (bX v1).cells]⟩) (EH N v1) (λf1 aG=>aw (λh7=>gm aG (v1.cg==1) [[t0 h7]]) λh7=>gm aG (v1.cg==3) [[f0 h7],[]]) (λv2=>aw (λJ=>au λv3 h2=>gA [[t0 J],[(4,cK afp h2)]] (bj λh3=>gR [[f0 h3],[]])) λJ=>gA [[f0 J],[]] (lC λh4=>au λv4 h5=>gA [[t0 h4],[(4,cK GP h5)]] (bj λh6=>gR [[f0 h6],[]]))))
def Au(N:Nat):ak4 Int->Nat->Int->ak6 Int
 |[],_,v7=>
  some v7
 |v5::v6,v3,v7=>
  (λgP=>Au N v6 (v3+1) gP) (if v5>v7 then v5 else v7)
def Oe(N:Nat)(v1:ak4 Int):ak6 Int:=
 Option.bind (v1[0]?) λv2=>
 Au N (v1.drop 1) 1 v2
def BM(N:Nat)(v1:ak4 Int):ak6 Int:=
 bif (decide ((v1.length:Int)<1))then
  none
 else
  Oe N v1
theorem ae9{N v1 r}(U:BM N v1=some r):KF 253 [(.d (.sl (bq v1)))] (aq r):=by
 rw[BM]at U;refine Gc Tryz.func253 ?_;refine wj0 bB r 1 [[],[(4,oL v1 fQ)]] [0] 0 ⟨25,[(0,(.d (.sl (bq v1))))],[]⟩ (Oe N v1) ?_ ?_
 ·intro f1 aG;apply bc U<;>intro h5 U
  ·cases U
  exact kM bB aG () [[(0,bF h5)]] U
 intro U;rw[Oe]at U;obtain⟨v2,J,U⟩:=bg U;refine gp bB [[(4,oE (k:=0) (jb J))],[]] ?_;refine Fw lJ 0 v1 λh3=> ?_;refine D8 bB 2 [] [0,3,4] 0 (λ((v3,v4,v7):Nat×(ak4 Int)×Int)=>⟨25,[(0,(.d (.sl (bq v1)))),(3,(aq v7)),(4,(aq (v3:Int)))],[]⟩) (λ((v3,v4,v7):Nat×(ak4 Int)×Int)=>v1.drop v3=v4/\Au N v4 v3 v7=some r) (λ((v3,v4,v7):Nat×(ak4 Int)×Int)=>v4.length) (1,(v1.drop 1),v2) ⟨rfl,U⟩ ?_;rintro⟨v3,v4,v7⟩ ⟨h4,U⟩ f2 dT;cases v4 with
 |nil=>
  rw[Au]at U;cases U;exact wr bB [[(7,oL v1 fQ)],[(0,bF (bK h4))],[]]
 |cons v5 v6=>
  rw[Au]at U;exact CO bB dT (v3+1,v6,(if v5>v7 then v5 else v7)) [[(7,oL v1 fQ)],[(0,bT (bJ h4))],[(10,oE (jb (bm h4)))],[(5,oq (bS h4 rfl h3))]] ⟨ly h4,U⟩
def uv(N:Nat)(v1:aV)(v2:ak4 Int):ak6 Int:=
 (lB N v1).bind λv3=>
 bif (v3 !=0)then
  some (10:Int)
 else
  (BM N v2).bind λv4=>
  bif (decide (v4>6))then
   some (11:Int)
  else
   some (0:Int)
theorem We{N v1 v2}:KO 189 [(bX v1),(.d (.sl (bq v2)))] aq (uv N v1 v2):=
 fw Tryz.func189 (au λv3 J=>gA [[],[(4,cK nR J)]] (bj λh2=>au λv4 h3=>gA [[f0 h2],[(4,cL (ae9 h3))]] (bj λh4=>gR [[f0 h4],[]])))
def FW(N:Nat)(v4:Int×(ak4 (ak5×Int)))(v2:aZ):ak4 bp->Nat->ak6 (Int×(ak4 (ak5×Int)))
 |[],_=>
  some ((0:Int),v4.2)
 |v8::v9,v6=>
  (zL N v8 v2 v4.2).bind λv10=>
  bif (v10 !=0)then
   some (v10,v4.2)
  else
   (FW N v4 v2 v9 (v6+1))
def FM(N:Nat)(v1:eV)(v2:aZ)(v3:ak4 (ak5×Int)):ak6 (Int×(ak4 (ak5×Int))):=
 Option.bind (w6 N v1.aF (2:Int) v2 v3) λv4=>
 bif (v4.1 !=0)then
  some (v4.1,v4.2)
 else
  Option.bind (uv N v1.aJ ([(v1.bo.length:Int)])) λv5=>
  bif (v5 !=0)then
   some (v5,v4.2)
  else
   FW N v4 v2 v1.bo 0
def Kr(v2:aZ)(l:ak4 ao):ak4 ao:= .cells (fB v2 [(.mp 1)])::l
theorem aey{N v1 v2 v3}:KP 108 [(.ptr 0 0),(nb v1)] [.cells (fB v2 [(.mp 1)]), .map (fc v3)] (λr=>aq r.1) (λr=>[.cells (fB v2 [(.mp 1)]), .map (fc r.2)]) (FM N v1 v2 v3):=
 fh 2 Tryz.func108 (au λv4 J=>gA [[],[(10,oR [(.ptr 0 0),(c6 v1.aF),(aq (2:Int))] (Kr v2 [.map (fc v3), .cells (nb v1).cells]) [0,1] (N7 _ J))],[]] (aw (λh2=>gH [[t0 h2],[]]) λh2=>au λv5 h3=>gA [[f0 h2],[(13,oL v1.bo fy),(19,cK We h3)],[]] (aw (λh4=>gH [[t0 h4],[]]) λh4=>gA [[f0 h4],[(7,oL v1.bo fy)]] (gT mv 28 v1.bo λh6=>dP 1 [] [0,28,29,30] 3 (λv6=>⟨41,[(0,(.ptr 0 0)),(28,(.d (.sl (eW v1.bo)))),(29,(aq (v1.bo.length:Int))),(30,(aq (v6:Int)))],(Kr v2 [.map (fc v4.2), .cells (nb v1).cells])⟩) (λv6 h7 f1=>gH [[],[f0 (bK h7)],[]]) (λv6 v8 v9 h7 f1 aG=>au λv10 h8=>gA [[],[t0 (bJ h7)],[(1,oE (ng (bm h7)))],[(7,oQ [(.ptr 0 0),(dN v8)] (Kr v2 [.map (fc v4.2), .cells (nb v1).cells, .cells (dN v8).cells]) [0,1] (Mf _ h8))],[]] (aw (λh9=>gH [[t0 h9],[]]) λh9=>gb aG () [[f0 h9],[(2,oq (bS h7 rfl h6))]] h7))))))
def JX(N:Nat)(v1:Int):ak6 Unit:=bif decide ((0:Int)<=v1)&&Nat.ble (v1.toNat*48) 140737488355328 then some ()else none
theorem Zd{N v1 r}(U:JX N v1=some r):cZ Tryz.prog 286 [.d (.v (.slice none 0 0)),(aq v1)] [] λr1 J=>r1= .own 0 []/\J=[.front 80 3 0]:=by
 obtain⟨hb,_⟩:=eB U;rw[aki]at hb;have e:Int.ofNat v1.toNat=v1:=Int.toNat_of_nonneg (of_decide_eq_true hb.1);have h:=af0 hb.2;rw[e]at h;exact h
def tR(N:Nat):ak4 (ak4 dJ)->Nat->(ak4 dJ)->ak6 ((ak4 dJ))
 |[],_,v12=>
  some v12
 |v10::v11,v8,v12=>
  bif (Nat.ble ((v12.length+v10.length)*48) 140737488355328)then
  (λgP=>tR N v11 (v8+1) gP) (v12++v10)
  else none
def sX(N:Nat)(v1:ak4 (ak4 dJ)):ak4 (ak4 dJ)->Nat->Int->ak6 ((ak4 dJ))
 |[],_,v6=>
  (JX N v6).bind λv7=>
  tR N v1 0 []
 |v4::v5,v2,v6=>
  bif (decide ((aK (v6+(v4.length:Int)))<0))then
   none
  else
   (λcq=>sX N v1 v5 (v2+1) cq) (aK (v6+(v4.length:Int)))
def xc(N:Nat)(v1:ak4 (ak4 dJ)):ak6 ((ak4 dJ)):=
 sX N v1 v1 0 (0:Int)
theorem Wq{N v1 r}(U:xc N v1=some r):KF 254 [(.d (.sl (nL v1)))] (.d (.sl (gx r))):=by
 rw[xc]at U;refine Gc Tryz.func254 ?_;refine gp bB [[],[],[(4,oL v1 J8)]] ?_;refine Fw Wu 0 v1 λh2=> ?_;refine OR bB 1 [] [0,3,9,10,11] 0 v1 (λv2(v6:Int)=>⟨36,[(0,(.d (.sl (nL v1)))),(3,(aq v6)),(9,(.d (.sl (nL v1)))),(10,(aq (v1.length:Int))),(11,(aq (v2:Int)))],[]⟩) (sX N v1) (0:Int) U ?_ ?_
 ·intro v2 v6 h3 U f1;rw[sX]at U;obtain⟨v7,h4,U⟩:=bg U;refine gp bB [[],[(0,bF (bK h3))],[(4,⟨_,_, .ji (Zd h4)⟩)],[(4,oL v1 J8)]] ?_;refine Fw Wu 0 v1 λh6=> ?_;refine OR bB 2 [] [6,25,26,27] 1 v1 (λv8(v12:ak4 dJ)=>⟨36,[(6,(.own 0 (gx v12))),(25,(.d (.sl (nL v1)))),(26,(aq (v1.length:Int))),(27,(aq (v8:Int)))],[.front 80 3 v12.length]⟩) (tR N) [] U ?_ ?_
  ·intro v8 v12 h7 U f2;rw[tR]at U;cases U;exact wr bB [[],[(0,bF (bK h7))],[]]
  intro v8 v10 v11 v12 h7 U f2 dT;rw[tR]at U;obtain⟨h8,U⟩:=U1 U;exact wb bB dT (v12++v10) [[],[(0,bT (bJ h7))],[(1,oE (Rz (bm h7)))],[(7,oA m8 v12 v10 h8)],[(2,oq (bS h7 rfl h6))]] h7 U
 intro v2 v4 v5 v6 h3 U f1 aG;rw[sX]at U;refine gp bB [[],[(0,bT (bJ h3))],[(1,oE (Rz (bm h3)))],[(7,oL v4 fO)],[]] ?_;apply bc U<;>intro h9 U
 ·cases U
 exact wb bB aG (aK (v6+(v4.length:Int))) [[(0,bF h9)],[(2,oq (bS h3 rfl h2))]] h3 U
def Fe(N:Nat)(v3:ak4 (ak5×Int))(v2:aZ):ak4 dJ->Nat->(ak4 (ak5×Bool))->ak6 Int
 |[],_,_=>
  some (0:Int)
 |v7::v8,v5,v9=>
  (tO N v7.aF).bind λv10=>
  bif v10 then
   Option.bind (bif (gv v9 v7.aF false)then some true else some ((gv v3 v7.aF 0)==1)) λv11=>
   bif v11 then
    some (8:Int)
   else
    bif (Nat.blt v9.length 9223372036854775807)then
    (zL N v7.ff v2 v3).bind λv12=>
    bif (v12 !=0)then
     some v12
    else
     (λcq=>Fe N v3 v2 v8 (v5+1) cq) ((v7.aF,true)::v9)
    else none
  else
   some (7:Int)
def Je(N:Nat)(v1:cv)(v2:aZ)(v3:ak4 (ak5×Int)):ak6 Int:=
 Option.bind (xc N ([v1.bo,v1.cO])) λv4=>
 Fe N v3 v2 v4 0 []
def ux(v2:aZ)(v3:ak4 (ak5×Int))(v1:cv)(l:ak4 ao):ak4 ao:= .cells (fB v2 [(.mp 1)]):: .map (fc v3):: .cells (eR v1).cells::l
theorem agu{N v1 v2 v3}:KP 190 [(.ptr 0 0),(eR v1)] [.cells (fB v2 [(.mp 1)]), .map (fc v3)] aq (λ_=>[.cells (fB v2 [(.mp 1)]), .map (fc v3)]) (Je N v1 v2 v3):=
 fh 2 Tryz.func190 (au λv4 J=>gA [[],[],[(16,cL (Wq J)),(19,oL v4 fO)]] (gT m8 15 v4 λh3=>fq 1 [] [0,5,15,16,17] 4 (λv5(v9:ak4 (ak5×Bool))=>⟨52,[(0,(.ptr 0 0)),(5,(.mp 3)),(15,(.d (.sl (gx v4)))),(16,(aq (v4.length:Int))),(17,(aq (v5:Int)))],(ux v2 v3 v1 [.map (zO v9)])⟩) (λv5 v9 h4 f1=>gH [[],[f0 (bK h4)],[]]) (λv5 v7 v8 v9 h4 f1 aG=>au λv10 h5=>gA [[],[t0 (bJ h4)],[(1,oE (mV (bm h4)))],[(7,cK FJ h5)]] (aw (λh6=>gA [[f0 (cH h6)]] (gG (λv11=>[(26,(ax v11))]) (λ_=>(ux v2 v3 v1 [.map (zO v9), .cells (O7 v7).cells])) (c9 (11,⟨_,_, .eq (acI false v9 v7.aF)⟩) (aw (λh7=>gE [(4,bT h7)] []) λh7=>gE [(4,bF h7)] [(35,⟨_,_, .eq (Ds false v3 v7.aF)⟩)])) λv11=>aw (λh9=>gH [[t0 h9],[]]) λh9=>dh λaO=>au λv12 aY=>gA [[f0 h9],[(10,⟨_,_, .sd (o:= .none) (aah aO)⟩)],[(10,oQ [(.ptr 0 0),(dN v7.ff)] (ux v2 v3 v1 [.map (zO ((v7.aF,true)::v9)), .cells (O7 v7).cells]) [0,1] (Mf _ aY))],[]] (aw (λaT=>gH [[t0 aT],[]]) λaT=>gb aG ((v7.aF,true)::v9) [[f0 aT],[(2,oq (bS h4 rfl h3))]] h4))) λh6=>gH [[t0 (dq h6)],[]]))))
def zP(N:Nat)(v1:cv)(v2:Bool):ak6 Int:=
 bif v2 then
  bif ((v1.cO.length:Int)==0)then
   some (11:Int)
  else
   some (0:Int)
 else
  bif (v1.eQ==5)then
   Option.bind (bif (decide ((v1.cO.length:Int)>0))then some true else some ((v1.bo.length:Int)==0)) λv3=>
   bif v3 then
    some (11:Int)
   else
    some (0:Int)
  else
   some (1:Int)
def Fo(N:Nat)(v1:cv):ak6 Int:=
 bif (v1.eQ==0)then
  bif (decide ((v1.cO.length:Int)>0))then
   some (11:Int)
  else
   some (0:Int)
 else
  bif (v1.eQ==1)then
   zP N v1 (v1.eQ==1)
  else
   bif (v1.eQ==2)then
    zP N v1 (v1.eQ==2)
   else
    bif (v1.eQ==3)then
     zP N v1 (v1.eQ==3)
    else
     zP N v1 (v1.eQ==4)
theorem agf{N v1}:KO 191 [(eR v1)] aq (Fo N v1):=
 fw Tryz.func191 (gA [[],[],[]] (aw (λJ=>gA [[t0 J],[(7,oL v1.cO fO)]] (bj λh2=>gR [[f0 h2],[]])) λJ=>k8 1 [[f0 J],[]] [1,4,11] 1 (λ(v2:Bool)=>⟨32,[(1,(.ptr 0 0)),(4,(aq v1.eQ)),(11,(ax v2))],[.cells (eR v1).cells]⟩) (zP N v1) (λf1 aG=>aw (λh9=>gm aG (v1.eQ==1) [[t0 h9]]) λh9=>gA [[f0 h9],[]] (aw (λaO=>gm aG (v1.eQ==2) [[t0 aO]]) λaO=>gA [[f0 aO],[]] (aw (λaY=>gm aG (v1.eQ==3) [[t0 aY]]) λaY=>gm aG (v1.eQ==4) [[f0 aY],[]]))) (λv2=>aw (λh3=>gA [[t0 h3],[(7,oL v1.cO fO)]] (bj λh4=>gR [[f0 h4],[]])) λh3=>gA [[f0 h3],[]] (lC λh5=>gA [[t0 h5]] (gG (λv3=>[(31,(ax v3))]) (λ_=>[.cells (eR v1).cells]) (c9 (7,oL v1.cO fO) (aw (λh6=>gE [(4,bT h6)] []) λh6=>gE [(4,bF h6)] [(22,oL v1.bo fO)])) λv3=>bj λh8=>gR [[f0 h8],[]])))))
def Cl(N:Nat):ak4 dJ->Nat->(ak4 ak5)->ak6 ((ak4 ak5))
 |[],_,v7=>
  some v7
 |v5::v6,v3,v7=>
  bif (Nat.ble ((v7.length+1)*16) 140737488355328)then
  (λcq=>Cl N v6 (v3+1) cq) (v7++[v5.aF])
  else none
def FE(N:Nat)(v1:cv):ak6 ((ak4 ak5)):=
 Option.bind (xc N ([v1.bo,v1.cO])) λv2=>
 Cl N v2 0 []
theorem afk{N v1}:KO 193 [(eR v1)] (λr=> .d (.sl (cW r))) (FE N v1):=
 fw Tryz.func193 (au λv2 J=>gA [[],[],[(16,cL (Wq J)),(19,oL v2 fO)]] (li (λ_=>(mG 3 9 1 [] (.inr (by kernel_rfl)) ·)) (gT m8 11 v2 λh3=>fq 1 [] [3,11,12,13] 2 (λv3(v7:ak4 ak5)=>⟨24,[(3,(.own 1 (cW v7))),(11,(.d (.sl (gx v2)))),(12,(aq (v2.length:Int))),(13,(aq (v3:Int)))],[.cells (eR v1).cells, .front 9 1 v7.length]⟩) (λv3 v7 h4 f1=>gR [[],[f0 (bK h4)],[]]) (λv3 v5 v6 v7 h4 f1 aG=>dh λh5=>gb aG (v7++[v5.aF]) [[],[t0 (bJ h4)],[(1,oE (mV (bm h4)))],[(13,oA jK v7 ([v5.aF]) h5)],[(2,oq (bS h4 rfl h3))]] h4))))
def D9(N:Nat)(Se:ay->Int->ak6 Int)(v2:Int):ak4 ay->Nat->Int->ak6 Int
 |[],_,v7=>
  some v7
 |v5::v6,v3,v7=>
  Option.bind (Se v5 (aK (v2-(1:Int)))) λv8=>
  (λcq=>D9 N Se v2 v6 (v3+1) cq) (if(aK ((1:Int)+v8))>v7 then(aK ((1:Int)+v8))else v7)
def qm(N:Nat):Nat->ay->Int->ak6 Int
 |0,_,_=>none
 |d+1,v1,v2=>
  bif (decide (v2<=1))then
   some v2
  else
   D9 N (qm N d) v2 v1.cl 0 (1:Int)
def O2(N:Nat)(v1:ay)(v2:Int):ak6 Int:=qm N N v1 v2
theorem aa1(N:Nat):∀d:Nat,(∀{v1:ay}{v2:Int},KO 148 [(aB v1),(aq v2)] aq (qm N d v1 v2)):=by
 intro d
 induction d with
 |zero=>intro v1 v2 r U;rw[qm]at U;cases U
 |succ d ih=>
  have ajP:= @ih;intro v1 v2;rw[qm];exact fw Tryz.func148 (gA [[],[]] (bj λJ=>gA [[(0,bF J)],[],[(7,oL v1.cl iO)]] (gT ql 12 v1.cl λh3=>fq 1 [] [1,5,12,13,14] 1 (λv3(v7:Int)=>⟨27,[(1,(aq v2)),(5,(aq v7)),(12,(.d (.sl (ig v1.cl)))),(13,(aq (v1.cl.length:Int))),(14,(aq (v3:Int)))],[.cells (aB v1).cells]⟩) (λv3 v7 h4 f1=>gR [[],[(0,bF (bK h4))],[]]) (λv3 v5 v6 v7 h4 f1 aG=>au λv8 h5=>gb aG (if(aK ((1:Int)+v8))>v7 then(aK ((1:Int)+v8))else v7) [[],[(0,bT (bJ h4))],[(1,oE (jM (bm h4)))],[(13,cK ajP h5)],[(2,oq (bS h4 rfl h3))]] h4))))
theorem acP{N v1 v2}:KO 148 [(aB v1),(aq v2)] aq (O2 N v1 v2):=(aa1 N N)
def Mm(N:Nat)(v1:ay):ak6 Int:=
 Option.bind (O2 N v1 (41:Int)) λv2=>
 some v2
theorem YX{N v1}:KO 87 [(aB v1)] aq (Mm N v1):=
 fw Tryz.func87 (au λv2 J=>gR [[],[(4,cK acP J)]])
def AJ(N:Nat)(v1:ay):ak6 ay:=some v1
theorem Lj{N v1 r}(U:AJ N v1=some r):fX Tryz.prog 89 [(aB v1)] (·=(.fn 149 [(.bn [eK r] 0 0)])):=by
 cases U;exact ai5 v1
def rX(N:Nat):ak4 ay->Int->ak6 Int
 |[],v3=>
  some v3
 |_::v5,v3=>
  bif (decide ((aK (v3+(1:Int)))>2000))then
   some (aK (v3+(1:Int)))
  else
   (λcq=>rX N v5 cq) (aK (v3+(1:Int)))
def Dk(N:Nat)(v1:ay):ak6 Int:=
 (AJ N v1).bind λv2=>
 rX N (et v2) (0:Int)
def nT(v1:ay)(v3:Int)(l:ak4 ao):ak4 ao:= .cells (aB v1).cells:: .cells [(aq (aK (v3+(1:Int))))]::l
def pF(v1:ay)(v3:Int)(l:ak4 ao):ak4 ao:= .cells (aB v1).cells:: .cells [(aq v3)]::l
def J1(v1:ay)(l:ak4 ao):ak4 ao:= .cells (aB v1).cells:: .cells [(aq (0:Int))]::l
theorem aih{N v1 r}(U:Dk N v1=some r):KF 88 [(aB v1)] (aq r):=by
 rw[Dk]at U;refine lU Tryz.func88 rfl (by kernel_rfl) ?_;refine fA [0] 0 (akr _) (s':=⟨12,[(0,(aB v1))],[]⟩) (by kernel_rfl) ?_;refine ar ?_;refine rg [] [(1,(.ptr 0 0))] [.cells (aB v1).cells] (by kernel_rfl) ?_;refine ar ?_;refine rg [] [(3,(.ptr 1 0))] (J1 v1 []) (by kernel_rfl) ?_;refine ar ?_;refine ar ?_;obtain⟨v2,J,U⟩:=bg U;refine rg [(4,cL (Lj J))] [(5,(.fn 149 [(.bn [eK v2] 0 0)]))] (J1 v1 []) (by kernel_rfl) ?_;refine dt ?_;refine fA [3,5] 2 (ako rfl) (s':=⟨12,[(3,(.ptr 1 0)),(5,(.fn 149 [(.bn [eK v2] 0 0)]))],(J1 v1 [])⟩) (by kernel_rfl) ?_;refine vj (m:=2) (enc:=aB) (xs:=(et v2)) (by kernel_rfl) (JK v2) (λ(v3:Int)=>(pF v1 v3 [])) (λ(v3:Int) l=>rX N l v3=some r) (0:Int) (by kernel_rfl) U (by rintro v3;rfl) (by rintro v3;kernel_rfl) (by kernel_rfl) rfl ?_ ?_
 ·rintro v3 v4 v5 U h2 cA cz
  try dsimp only at U
  rw[rX]at U;refine fA [3] 3 (akr _) (s':=⟨12,[(3,(.ptr 1 0))],(pF v1 v3 [.lp .ready 6 cA cz (dx 12 [(3,(.ptr 1 0)),(5,(.fn 149 [(.bn [eK v2] 0 0)]))])])⟩) (by kernel_rfl) ?_;refine cx ?_;refine aI ?_;refine⟨(pF v1 v3 []),[],rfl,(by kernel_rfl),?_⟩;refine fA [3] 3 (ako rfl) (s':=⟨12,[(3,(.ptr 1 0))],(pF v1 v3 [.lp .busy 6 cA cz (dx 12 [(3,(.ptr 1 0)),(5,(.fn 149 [(.bn [eK v2] 0 0)]))])])⟩) (by kernel_rfl) ?_;refine dt ?_;refine ar ?_;refine rg [] [] (nT v1 v3 [.lp .busy 6 cA cz (dx 12 [(3,(.ptr 1 0)),(5,(.fn 149 [(.bn [eK v2] 0 0)]))])]) (by kernel_rfl) ?_;refine ar ?_;refine rg [] [(10,(ax (decide ((aK (v3+(1:Int)))>2000))))] (nT v1 v3 [.lp .busy 6 cA cz (dx 12 [(3,(.ptr 1 0)),(5,(.fn 149 [(.bn [eK v2] 0 0)]))])]) (by kernel_rfl) ?_;rcases dC (decide ((aK (v3+(1:Int)))>2000))with h3|h3
  ·replace U:=(dc h3).symm.trans U;refine cQ (t:=(decide ((aK (v3+(1:Int)))>2000))) (by kernel_rfl) h3 ?_;refine kR (agi rfl ?_);refine ahp (nT v1 v3 []) rfl (by kernel_rfl) (by kernel_rfl) ?_;refine(lS rfl ?_);refine aI ?_;refine ar ?_;refine rg [] [(2,(aq (aK (v3+(1:Int)))))] (nT v1 v3 [.gone]) (by kernel_rfl) ?_;refine cV ?_;have hr:=akz U;subst hr;exact fa (by kernel_rfl)
  replace U:=(dG h3).symm.trans U;refine dw (t:=(decide ((aK (v3+(1:Int)))>2000))) (by kernel_rfl) h3 ?_;refine cx ?_;refine dX ?_;refine zd (nT v1 v3 []) rfl (by kernel_rfl) (by kernel_rfl) ?_;exact⟨(aK (v3+(1:Int))),(by kernel_rfl),U⟩
 rintro v3 U
 try dsimp only at U
 rw[rX]at U;refine dX ?_;refine aI ?_;refine ar ?_;refine rg [] [(2,(aq v3))] (pF v1 v3 [.gone]) (by kernel_rfl) ?_;refine cV ?_;have hr:=akz U;subst hr;exact fa (by kernel_rfl)
def Bm(N:Nat)(v1:bp):ak6 Bool:=
 Option.bind (bif (v1.xK.toInt==0)then some ((v1.xL.length:Int)==0)else some false) λv2=>
 some v2
theorem PO{N v1}:KO 227 [(dN v1)] ax (Bm N v1):=
 fw Tryz.func227 (gA [[]] (gG (λv2=>[(2,(ax v2))]) (λ_=>[.cells (dN v1).cells]) (aw (λJ=>gE [(3,bT J)] [(19,oL v1.xL iZ)]) λJ=>gE [(3,bF J)] []) λv2=>gR []))
def Ho(N:Nat)(v1:dd):ak6 Bool:=
 bif (bL v1.dk==bL (bs []))then
  some ((v1.da.length:Int)==0)
 else
  (Bm N v1.bO).bind λv2=>
  some v2
theorem aiG{N v1}:KO 230 [(gC v1)] ax (Ho N v1):=
 fw Tryz.func230 (gA [[],[]] (aw (λJ=>gR [[t0 J],[(7,oL v1.da fy)]]) λJ=>au λv2 h2=>gR [[f0 J],[(7,cK PO h2)]]))
def OG(N:Nat)(v1:dd):ak6 Bool:=
 (Ho N v1).bind λv2=>
 some (!v2)
theorem ac3{N v1}:KO 229 [(gC v1)] ax (OG N v1):=
 fw Tryz.func229 (au λv2 J=>gR [[],[(4,cK aiG J)]])
def E4(N:Nat):ak4 dd->Nat->ak6 Int
 |[],_=>
  some (-1:Int)
 |v4::v5,v2=>
  (OG N v4).bind λv6=>
  bif v6 then
   some (v2:Int)
  else
   (E4 N v5 (v2+1))
def M3(N:Nat)(v1:ak4 dd):ak6 Int:=
 E4 N v1 0
theorem agU{N v1}:KP 276 [(.d (.sl (eJ v1))),(.fn 229 [])] [] aq (λ_=>[]) (M3 N v1):=
 fh 0 Tryz.func276 (gA [[],[(4,oL v1 fZ)]] (gT pE 0 v1 λh2=>dP 1 [] [0,1,7,8] 0 (λv2=>⟨19,[(0,(.d (.sl (eJ v1)))),(1,(.fn 229 [])),(7,(aq (v1.length:Int))),(8,(aq (v2:Int)))],[]⟩) (λv2 h3 f1=>gH [[],[f0 (bK h3)],[]]) (λv2 v4 v5 h3 f1 aG=>au λv6 h4=>gA [[],[t0 (bJ h3)],[],[(10,oE (iG (bm h3))),(16,cK ac3 h4)]] (aw (λh5=>gH [[t0 h5],[]]) λh5=>gb aG () [[f0 h5],[(2,oq (bS h3 rfl h2))]] h3))))
def ED(N:Nat)(v1:ak4 dd):ak6 Bool:=
 (M3 N v1).bind λv2=>
 some (decide (v2>=0))
theorem abO{N v1}:KP 228 [(.d (.sl (eJ v1))),(.fn 229 [])] [] ax (λ_=>[]) (ED N v1):=
 fh 0 Tryz.func228 (au λv2 J=>gH [[],[(7,oQ [(.d (.sl (eJ v1))),(.fn 229 [])] [] [] (agU _ J))]])
def Hm(N:Nat)(v1:ay):ak6 Bool:=
 Option.bind (bif (v1.aQ==1)then some true else some (v1.aQ==12)) λv2=>
 Option.bind (bif (decide (v1.aQ<1))then some true else some (decide (v1.aQ>18))) λv3=>
 bif v3 then
  some false
 else
  Option.bind (bif (v1.aQ==1)then some false else some (!((v1.dS.xN.toInt==(0:Int64).toInt)&&((v1.dS.xD.toInt==(0:Int64).toInt)&&true)))) λv4=>
  bif v4 then
   some false
  else
   Option.bind (bif v2 then some false else some (!((v1.aJ.cg==0)&&((v1.aJ.cE==0)&&((v1.aJ.cB==0)&&((v1.aJ.cY==0)&&((v1.aJ.c8==0)&&true))))))) λv5=>
   bif v5 then
    some false
   else
    Option.bind (bif (v1.aQ==2)then some false else (Bm N v1.bO).bind λv6=>
    some (!v6)) λv7=>
    bif v7 then
     some false
    else
     Option.bind (bif (v1.aQ==3)then some false else(bif (bL v1.aF==bL (bs []))then some (decide ((v1.xIdx.length:Int)>0))else some true)) λv8=>
     bif v8 then
      some false
     else
      (ED N v1.xIdx).bind λv9=>
      some (!v9)
def uC(v1:ay)(l:ak4 ao):ak4 ao:= .cells (aB v1).cells::l
theorem abB{N v1}:KO 151 [(aB v1)] ax (Hm N v1):=
 fw Tryz.func151 (gA [[]] (gG (λv2=>[(3,(ax (v1.aQ==1))),(4,(ax v2))]) (λ_=>(uC v1 [])) (aw (λJ=>gE [(6,bT J)] []) λJ=>gE [(6,bF J)] []) λv2=>gA [[]] (gG (λv3=>[(24,(ax v3))]) (λ_=>(uC v1 [])) (aw (λh3=>gE [(3,bT h3)] []) λh3=>gE [(3,bF h3)] []) λv3=>bj λh5=>gA [[f0 h5]] (gG (λv4=>[(33,(ax v4))]) (λ_=>(uC v1 [])) (aw (λh6=>gE [(2,bF (cH h6))] []) λh6=>gE [(2,bT (dq h6))] []) λv4=>bj λh8=>gA [[f0 h8]] (gG (λv5=>[(42,(ax v5))]) (λ_=>(uC v1 [])) (aw (λh9=>gE [(2,bF (cH h9))] []) λh9=>gE [(2,bT (dq h9))] []) λv5=>bj λaY=>gA [[f0 aY]] (gG (λv7=>[(51,(ax v7))]) (λ_=>(uC v1 [])) (aw (λaT=>gE [(2,bF (cH aT))] []) λaT=>au λv6 bN=>gE [(2,bT (dq aT))] [(16,cK PO bN)]) λv7=>bj λbM=>gA [[f0 bM]] (gG (λv8=>[(60,(ax v8))]) (λ_=>(uC v1 [])) (aw (λcn=>gE [(2,bF (cH cn)),(6,uN)] []) λcn=>cr (2,bT (dq cn)) (aw (λdj=>gE [(6,bF (cH dj))] [(28,oL v1.xIdx fZ),(34,bF (cH dj))]) λdj=>gE [(6,bT (dq dj))] [(34,bT (dq dj))])) λv8=>bj λfu=>au λv9 dD=>gR [[f0 fu],[(7,oQ [(.d (.sl (eJ v1.xIdx))),(.fn 229 [])] (uC v1 []) [] (abO _ dD))]])))))))
def Gw(N:Nat)(v1:dd):ak6 Bool:=
 Option.bind (bif (bL v1.dk==bL (bs []))then some false else (tO N v1.dk).bind λv2=>
 some (!v2)) λv3=>
 some v3
theorem YI{N v1}:KO 231 [(gC v1)] ax (Gw N v1):=
 fw Tryz.func231 (gA [[]] (gG (λv3=>[(2,(ax v3))]) (λ_=>[.cells (gC v1).cells]) (aw (λJ=>gE [(3,bF (cH J))] []) λJ=>au λv2 h2=>gE [(3,bT (dq J))] [(19,cK FJ h2)]) λv3=>gR []))
def Ia(N:Nat):ak4 dd->Nat->ak6 Int
 |[],_=>
  some (-1:Int)
 |v4::v5,v2=>
  (Gw N v4).bind λv6=>
  bif v6 then
   some (v2:Int)
  else
   (Ia N v5 (v2+1))
def Oq(N:Nat)(v1:ak4 dd):ak6 Int:=
 Ia N v1 0
theorem Zg{N v1}:KP 276 [(.d (.sl (eJ v1))),(.fn 231 [])] [] aq (λ_=>[]) (Oq N v1):=
 fh 0 Tryz.func276 (gA [[],[(4,oL v1 fZ)]] (gT pE 0 v1 λh2=>dP 1 [] [0,1,7,8] 0 (λv2=>⟨19,[(0,(.d (.sl (eJ v1)))),(1,(.fn 231 [])),(7,(aq (v1.length:Int))),(8,(aq (v2:Int)))],[]⟩) (λv2 h3 f1=>gH [[],[f0 (bK h3)],[]]) (λv2 v4 v5 h3 f1 aG=>au λv6 h4=>gA [[],[t0 (bJ h3)],[],[(10,oE (iG (bm h3))),(16,cK YI h4)]] (aw (λh5=>gH [[t0 h5],[]]) λh5=>gb aG () [[f0 h5],[(2,oq (bS h3 rfl h2))]] h3))))
def Lp(N:Nat)(v1:ak4 dd):ak6 Bool:=
 (Oq N v1).bind λv2=>
 some (decide (v2>=0))
theorem aib{N v1}:KP 228 [(.d (.sl (eJ v1))),(.fn 231 [])] [] ax (λ_=>[]) (Lp N v1):=
 fh 0 Tryz.func228 (au λv2 J=>gH [[],[(7,oQ [(.d (.sl (eJ v1))),(.fn 231 [])] [] [] (Zg _ J))]])
def Ii(N:Nat)(v1:ay):ak6 Bool:=
 Option.bind (bif (v1.aQ==3)then (tO N v1.aF).bind λv2=>
 some (!v2)else some false) λv3=>
 bif v3 then
  some false
 else
  (Lp N v1.xIdx).bind λv4=>
  some (!v4)
theorem ahB{N v1}:KO 152 [(aB v1)] ax (Ii N v1):=
 fw Tryz.func152 (gA [[]] (gG (λv3=>[(11,(ax v3))]) (λ_=>[.cells (aB v1).cells]) (aw (λJ=>au λv2 h2=>gE [(3,bT J)] [(19,cK FJ h2)]) λJ=>gE [(3,bF J)] []) λv3=>bj λh4=>au λv4 h5=>gR [[f0 h4],[(7,oQ [(.d (.sl (eJ v1.xIdx))),(.fn 231 [])] [.cells (aB v1).cells] [] (aib _ h5))]]))
def CP(N:Nat)(v1:Int)(v3:Bool):ak6 Int:=
 bif v3 then
  some (1:Int)
 else
  bif (v1==11)then
   some (3:Int)
  else
   some (2:Int)
def AB(N:Nat)(v1:Int)(v2:Bool):ak6 Int:=
 bif v2 then
  some (0:Int)
 else
  bif (v1==8)then
   CP N v1 (v1==8)
  else
   bif (v1==12)then
    CP N v1 (v1==12)
   else
    CP N v1 (v1==18)
def Im(N:Nat)(v1:Int):ak6 Int:=
 bif (v1==1)then
  AB N v1 (v1==1)
 else
  bif (v1==2)then
   AB N v1 (v1==2)
  else
   AB N v1 (v1==3)
theorem ab7{N v1}:KO 232 [(aq v1)] aq (Im N v1):=
 fw Tryz.func232 (k8 1 [[],[],[]] [3,4] 0 (λ(v2:Bool)=>⟨14,[(3,(aq v1)),(4,(ax v2))],[]⟩) (AB N v1) (λf1 aG=>aw (λh6=>gm aG (v1==1) [[t0 h6]]) λh6=>gA [[f0 h6],[]] (aw (λh7=>gm aG (v1==2) [[t0 h7]]) λh7=>gm aG (v1==3) [[f0 h7],[]])) (λv2=>bj λJ=>k8 2 [[f0 J],[]] [3,8] 0 (λ(v3:Bool)=>⟨14,[(3,(aq v1)),(8,(ax v3))],[]⟩) (CP N v1) (λf2 dT=>aw (λh4=>gm dT (v1==8) [[t0 h4]]) λh4=>gA [[f0 h4],[]] (aw (λh5=>gm dT (v1==12) [[t0 h5]]) λh5=>gm dT (v1==18) [[f0 h5],[]])) (λv3=>fU λ_=>bj λh3=>gR [[f0 h3],[]])))
def Pb(N:Nat)(v1:dd):ak6 Bool:=
 some (decide ((v1.da.length:Int)>6))
theorem aa2{N v1}:KO 233 [(gC v1)] ax (Pb N v1):=
 fw Tryz.func233 (gR [[],[(7,oL v1.da fy)]])
def Gu(N:Nat):ak4 dd->Nat->ak6 Int
 |[],_=>
  some (-1:Int)
 |v4::v5,v2=>
  (Pb N v4).bind λv6=>
  bif v6 then
   some (v2:Int)
  else
   (Gu N v5 (v2+1))
def Kq(N:Nat)(v1:ak4 dd):ak6 Int:=
 Gu N v1 0
theorem ahD{N v1}:KP 276 [(.d (.sl (eJ v1))),(.fn 233 [])] [] aq (λ_=>[]) (Kq N v1):=
 fh 0 Tryz.func276 (gA [[],[(4,oL v1 fZ)]] (gT pE 0 v1 λh2=>dP 1 [] [0,1,7,8] 0 (λv2=>⟨19,[(0,(.d (.sl (eJ v1)))),(1,(.fn 233 [])),(7,(aq (v1.length:Int))),(8,(aq (v2:Int)))],[]⟩) (λv2 h3 f1=>gH [[],[f0 (bK h3)],[]]) (λv2 v4 v5 h3 f1 aG=>au λv6 h4=>gA [[],[t0 (bJ h3)],[],[(10,oE (iG (bm h3))),(16,cK aa2 h4)]] (aw (λh5=>gH [[t0 h5],[]]) λh5=>gb aG () [[f0 h5],[(2,oq (bS h3 rfl h2))]] h3))))
def Ld(N:Nat)(v1:ak4 dd):ak6 Bool:=
 (Kq N v1).bind λv2=>
 some (decide (v2>=0))
theorem agB{N v1}:KP 228 [(.d (.sl (eJ v1))),(.fn 233 [])] [] ax (λ_=>[]) (Ld N v1):=
 fh 0 Tryz.func228 (au λv2 J=>gH [[],[(7,oQ [(.d (.sl (eJ v1))),(.fn 233 [])] [] [] (ahD _ J))]])
def EI(N:Nat)(v1:ay):ak6 Bool:=
 (Im N v1.aQ).bind λv2=>
 Option.bind (bif ((v1.cl.length:Int) !=v2)then some true else some (decide ((v1.xIdx.length:Int)>6))) λv3=>
 bif v3 then
  some false
 else
  (Ld N v1.xIdx).bind λv4=>
  some (!v4)
theorem ajE{N v1}:KO 153 [(aB v1)] ax (EI N v1):=
 fw Tryz.func153 (gA [[]] (au λv2 J=>gG (λv3=>[(15,(ax v3))]) (λ_=>[.cells (aB v1).cells]) (c9 (7,oL v1.cl iO) (c9 (16,cK ab7 J) (aw (λh2=>gE [(7,bT h2)] []) λh2=>gE [(7,bF h2)] [(31,oL v1.xIdx fZ)]))) λv3=>bj λh4=>au λv4 h5=>gR [[f0 h4],[(7,oQ [(.d (.sl (eJ v1.xIdx))),(.fn 233 [])] [.cells (aB v1).cells] [] (agB _ h5))]]))
def xW(N:Nat)(v1:ay):ak6 Bool:=
 Option.bind (bif (decide ((13:Int)<=v1.aQ))then some (decide (v1.aQ<=18))else some false) λv2=>
 some v2
theorem Ph{N v1}:KO 52 [(aB v1)] ax (xW N v1):=
 fw Tryz.func52 (gA [[]] (gG (λv2=>[(2,(ax v2))]) (λ_=>[.cells (aB v1).cells]) (aw (λJ=>gE [(3,bT J)] []) λJ=>gE [(3,bF J)] []) λv2=>gR []))
def AZ(N:Nat)(v1:Int)(v2:Int)(v3:Bool):ak6 Bool:=
 bif v3 then
  some true
 else
  Option.bind (bif (v1==11)then some (v2==0)else some false) λv4=>
  some v4
def Eo(N:Nat)(v1:Int)(v2:Int):ak6 Bool:=
 bif (v1==16)then
  AZ N v1 v2 (v1==16)
 else
  bif (v1==17)then
   AZ N v1 v2 (v1==17)
  else
   AZ N v1 v2 (v1==18)
theorem abP{N v1 v2}:KO 234 [(aq v1),(aq v2)] ax (Eo N v1 v2):=
 fw Tryz.func234 (k8 1 [[],[],[]] [0,1,6] 0 (λ(v3:Bool)=>⟨16,[(0,(aq v1)),(1,(aq v2)),(6,(ax v3))],[]⟩) (AZ N v1 v2) (λf1 aG=>aw (λh4=>gm aG (v1==16) [[t0 h4]]) λh4=>gA [[f0 h4],[]] (aw (λh5=>gm aG (v1==17) [[t0 h5]]) λh5=>gm aG (v1==18) [[f0 h5],[]])) (λv3=>bj λJ=>gA [[f0 J]] (gG (λv4=>[(4,(ax v4))]) (λ_=>[]) (aw (λh2=>gE [(2,bT h2)] []) λh2=>gE [(2,bF h2)] []) λv4=>gR [])))
def HQ(N:Nat)(v1:ay):ak4 ay->Nat->ak6 Bool
 |[],_=>
  some true
 |v7::v8,v5=>
  (xW N v7).bind λv9=>
  Option.bind (Eo N v1.aQ (v5:Int)) λv10=>
  bif (v9==v10)then
   (HQ N v1 v8 (v5+1))
  else
   some false
def GV(N:Nat)(v1:ay):ak6 Bool:=
 Option.bind (bif (v1.aQ==1)then (lB N v1.aJ).bind λv2=>
 some (v2 !=0)else(bif (v1.aQ==12)then (lB N v1.aJ).bind λv3=>
 some (v3 !=0)else some false)) λv4=>
 bif v4 then
  some false
 else
  HQ N v1 v1.cl 0
theorem ah9{N v1}:KO 154 [(aB v1)] ax (GV N v1):=
 fw Tryz.func154 (gA [[]] (gG (λv4=>[(18,(ax v4))]) (λ_=>[.cells (aB v1).cells]) (aw (λJ=>au λv2 h2=>gE [(3,bT J),(8,bT rfl)] [(34,cK nR h2)]) λJ=>cr (3,bF J) (aw (λh3=>au λv3 h4=>gE [(8,bT h3)] [(34,cK nR h4)]) λh3=>gE [(8,bF h3)] [])) λv4=>bj λh6=>gA [[f0 h6],[(7,oL v1.cl iO)]] (gT ql 20 v1.cl λh8=>dP 1 [] [1,20,21,22] 1 (λv5=>⟨35,[(1,(.ptr 0 0)),(20,(.d (.sl (ig v1.cl)))),(21,(aq (v1.cl.length:Int))),(22,(aq (v5:Int)))],[.cells (aB v1).cells]⟩) (λv5 h9 f1=>gR [[],[f0 (bK h9)],[]]) (λv5 v7 v8 h9 f1 aG=>au λv9 aO=>au λv10 aY=>gA [[],[t0 (bJ h9)],[(4,oE (jM (bm h9)))],[(4,cK Ph aO),(16,cK abP aY)]] (ft λaT=>gb aG () [[f0 (cH aT)],[(2,oq (bS h9 rfl h8))]] h9)))))
def Bv(N:Nat)(v1:Int):ak6 Bool:=
 Option.bind (bif (decide (v1>=2))then some (decide (v1<=31))else some false) λv2=>
 some v2
theorem NG{N v1}:KO 292 [(aq v1)] ax (Bv N v1):=
 fw Tryz.func292 (gA [[]] (gG (λv2=>[(2,(ax v2))]) (λ_=>[]) (aw (λJ=>gE [(2,bT J)] []) λJ=>gE [(2,bF J)] []) λv2=>gR []))
def F7(N:Nat)(v1:Int):ak6 Int64:=
 (Bv N v1).bind λv2=>
 bif v2 then
  bif (decide ((0:Int)<=(IntKind.u64.wrap (aK (v1-(1:Int))))))then
  some (-(Int64.ofInt ((1:Int)*2^(min ((IntKind.u64.wrap (aK (v1-(1:Int))))).toNat (IntKind.bits .i64)))))
  else none
 else
  some (0:Int64)
theorem TD{N v1}:KO 259 [(aq v1)] bG (F7 N v1):=
 fw Tryz.func259 (au λv2 J=>gA [[],[(4,cK NG J)]] (ft λh2=>dh λh3=>gR [[f0 (cH h2)],[(10,⟨_,_, .nn (b:=(IntKind.u64.wrap (aK (v1-(1:Int))))) (of_decide_eq_true h3)⟩),(11,⟨_,_, .eq (jt ((1:Int)*2^(min ((IntKind.u64.wrap (aK (v1-(1:Int))))).toNat (IntKind.bits .i64))))⟩),(14,⟨_,_, .eq (sW (Int64.ofInt ((1:Int)*2^(min ((IntKind.u64.wrap (aK (v1-(1:Int))))).toNat (IntKind.bits .i64)))))⟩)]]))
def Ij(N:Nat)(v1:Int):ak6 Int64:=
 (Bv N v1).bind λv2=>
 bif v2 then
  bif (decide ((0:Int)<=(IntKind.u64.wrap (aK (v1-(1:Int))))))then
  some ((Int64.ofInt ((1:Int)*2^(min ((IntKind.u64.wrap (aK (v1-(1:Int))))).toNat (IntKind.bits .i64))))-(1:Int64))
  else none
 else
  some (0:Int64)
theorem Qt{N v1}:KO 260 [(aq v1)] bG (Ij N v1):=
 fw Tryz.func260 (au λv2 J=>gA [[],[(4,cK NG J)]] (ft λh2=>dh λh3=>gR [[f0 (cH h2)],[(10,⟨_,_, .nn (b:=(IntKind.u64.wrap (aK (v1-(1:Int))))) (of_decide_eq_true h3)⟩),(11,⟨_,_, .eq (jt ((1:Int)*2^(min ((IntKind.u64.wrap (aK (v1-(1:Int))))).toNat (IntKind.bits .i64))))⟩),(14,⟨_,_, .eq (vC (Int64.ofInt ((1:Int)*2^(min ((IntKind.u64.wrap (aK (v1-(1:Int))))).toNat (IntKind.bits .i64)))) (1:Int64))⟩)]]))
def yV(N:Nat)(v1:aV)(v2:aR):ak6 Bool:=
 (uK N v1).bind λv3=>
 Option.bind (bif (v3==0)then(bif (v2.xD.toInt==1)then (F7 N v1.cE).bind λv4=>
 (bif (decide (v2.xN.toInt>=v4.toInt))then (Ij N v1.cE).bind λv5=>
 some (decide (v2.xN.toInt<=v5.toInt))else some false)else some false)else some false) λv6=>
 some v6
theorem Ki{N v1 v2}:KO 201 [(bX v1),(bx v2)] ax (yV N v1 v2):=
 fw Tryz.func201 (gA [[]] (au λv3 J=>gG (λv6=>[(4,(ax v6))]) (λ_=>[.cells (bX v1).cells, .cells (bx v2).cells]) (c9 (4,cK GP J) (aw (λh2=>cr (3,bT h2) (aw (λh3=>au λv4 h4=>cr (8,bT h3) (c9 (40,cK TD h4) (aw (λh5=>au λv5 h6=>gE [(16,bT h5)] [(64,cK Qt h6)]) λh5=>gE [(16,bF h5)] []))) λh3=>gE [(8,bF h3),(16,bF rfl)] [])) λh2=>gE [(3,bF h2),(8,bF rfl),(16,bF rfl)] [])) λv6=>gR []))
def s8(N:Nat)(v1:Int64):ak6 Bool:=
 Option.bind (bif (decide (v1.toInt>=(-2147483647:Int)))then some (decide (v1.toInt<=2147483647))else some false) λv2=>
 some v2
theorem yC{N v1}:KO 202 [(bG v1)] ax (s8 N v1):=
 fw Tryz.func202 (gA [[]] (gG (λv2=>[(2,(ax v2))]) (λ_=>[]) (aw (λJ=>gE [(2,bT J)] []) λJ=>gE [(2,bF J)] []) λv2=>gR []))
def O8(N:Nat)(v1:Int64):ak6 Bool:=
 Option.bind (bif (decide (v1.toInt>=(-2147483647:Int)))then some (decide (v1.toInt<=2147483647))else some false) λv2=>
 some v2
theorem aim{N v1}:KO 261 [(bG v1)] ax (O8 N v1):=
 fw Tryz.func261 (gA [[]] (gG (λv2=>[(2,(ax v2))]) (λ_=>[]) (aw (λJ=>gE [(2,bT J)] []) λJ=>gE [(2,bF J)] []) λv2=>gR []))
def xg(N:Nat)(v1:Int64):ak6 Int:=
 bif (decide (v1.toInt<0))then
  some (IntKind.u64.wrap (0-(IntKind.u64.wrap v1.toInt)))
 else
  some (IntKind.u64.wrap v1.toInt)
theorem Ox{N v1}:KO 263 [(bG v1)] (λr=> .d (.v (.int .u64 r))) (xg N v1):=
 fw Tryz.func263 (gA [[],[]] (bj λJ=>gR [[f0 J],[]]))
def CA(N:Nat):Nat->Int->Int->ak6 Int
 |0,_,_=>none
 |v3+1,v4,v5=>
  bif (v5 !=0)then
   (λcq fS=>CA N v3 cq fS) v5 ((v4).tmod v5)
  else
   some v4
def Gg(N:Nat)(v1:Int)(v2:Int):ak6 Int:=
 CA N N v1 v2
theorem P1{N v1 v2}:KO 262 [(.d (.v (.int .u64 v1))),(.d (.v (.int .u64 v2)))] (λr=> .d (.v (.int .u64 r))) (Gg N v1 v2):=
 fw Tryz.func262 (Vd 1 [[]] [0,1] 0 (λ(v4:Int)(v5:Int)=>⟨12,[(0,(.d (.v (.int .u64 v4)))),(1,(.d (.v (.int .u64 v5))))],[]⟩) (CA N) (λv3 v4 v5 f1 aG=>gA [[]] (lC λJ=>yP aG (v5,((v4).tmod v5)) [[t0 J],[(10,⟨_,_, .nz (b:=v5) (bne_iff_ne.1 J)⟩)]])))
def la(N:Nat)(v1:aR):ak6 Bool:=
 Option.bind (bif (decide (v1.xD.toInt>=1))then(bif (decide (v1.xD.toInt<=2147483647))then (O8 N v1.xN).bind λv2=>
 (bif v2 then (xg N v1.xN).bind λv3=>
 Option.bind (Gg N v3 (IntKind.u64.wrap v1.xD.toInt)) λv4=>
 some (v4==1)else some false)else some false)else some false) λv5=>
 some v5
theorem mw{N v1}:KO 203 [(bx v1)] ax (la N v1):=
 fw Tryz.func203 (gA [[]] (gG (λv5=>[(2,(ax v5))]) (λ_=>[.cells (bx v1).cells]) (aw (λJ=>cr (3,bT J) (aw (λh2=>au λv2 h3=>cr (8,bT h2) (c9 (34,cK aim h3) (aw (λh4=>au λv3 h5=>au λv4 h6=>gE [(13,bT h4)] [(49,cK Ox h5),(61,cK P1 h6)]) λh4=>gE [(13,bF h4)] []))) λh2=>gE [(8,bF h2),(13,bF rfl)] [])) λJ=>gE [(3,bF J),(8,bF rfl),(13,bF rfl)] []) λv5=>gR []))
def ou(N:Nat)(v1:aV)(v2:aR):ak6 Bool:=
 (lB N v1).bind λv3=>
 bif (v3 !=0)then
  some false
 else
  bif (v1.cg==2)then
   (yV N v1 v2).bind λv4=>
   some v4
  else
   bif (v1.cg==3)then
    Option.bind (bif (v2.xD.toInt==1)then (s8 N v2.xN).bind λv5=>
    some v5 else some false) λv6=>
    some v6
   else
    (la N v2).bind λv7=>
    some v7
theorem sL{N v1 v2}:KO 118 [(bX v1),(bx v2)] ax (ou N v1 v2):=
 fw Tryz.func118 (au λv3 J=>gA [[],[(4,cK nR J)]] (bj λh2=>gA [[f0 h2],[],[]] (aw (λh3=>au λv4 h4=>gR [[t0 h3],[(7,cK Ki h4)]]) λh3=>gA [[f0 h3],[]] (aw (λh5=>gA [[t0 h5]] (gG (λv6=>[(4,(ax v6))]) (λ_=>[.cells (bX v1).cells, .cells (bx v2).cells]) (aw (λh6=>au λv5 h7=>gE [(3,bT h6)] [(19,cK yC h7)]) λh6=>gE [(3,bF h6)] []) λv6=>gR [])) λh5=>au λv7 h9=>gR [[f0 h5],[(4,cK mw h9)]]))))
def Og(N:Nat)(v1:ay):ak6 ay:=some v1
theorem Z9{N v1 r}(U:Og N v1=some r):fX Tryz.prog 155 [(aB v1)] (·=(.fn 235 [(.bn [eK r] 0 0)])):=by
 cases U;exact aaJ v1
def sC(N:Nat):ak4 bp->ak6 Int
 |[]=>
  some (0:Int)
 |v9::v10=>
  (yz N v9).bind λv11=>
  bif (v11 !=0)then
   some (1:Int)
  else
   (sC N v10)
def Al(N:Nat)(v1:ay):ak6 Int:=
 (Hm N v1).bind λv2=>
 bif v2 then
  (Ii N v1).bind λv3=>
  bif v3 then
   (EI N v1).bind λv4=>
   bif v4 then
    (GV N v1).bind λv5=>
    bif v5 then
     Option.bind (bif (v1.aQ==1)then (ou N v1.aJ v1.dS).bind λv6=>
     some (!v6)else some false) λv7=>
     bif v7 then
      some (1:Int)
     else
      (Og N v1).bind λv8=>
      sC N (ni v8)
    else
     some (10:Int)
   else
    some (11:Int)
  else
   some (7:Int)
 else
  some (5:Int)
def lk(v1:ay)(l:ak4 ao):ak4 ao:= .cells (aB v1).cells:: .cells [(aq (0:Int))]::l
def vT(v1:ay)(l:ak4 ao):ak4 ao:= .cells (aB v1).cells::l
theorem aaH{N v1 r}(U:Al N v1=some r):KF 90 [(aB v1)] (aq r):=by
 rw[Al]at U;refine lU Tryz.func90 rfl (by kernel_rfl) ?_;refine fA [0] 0 (akr _) (s':=⟨38,[(0,(aB v1))],[]⟩) (by kernel_rfl) ?_;refine ar ?_;refine rg [] [(1,(.ptr 0 0)),(2,(.ptr 1 0))] (lk v1 []) (by kernel_rfl) ?_;refine ar ?_;refine dt ?_;refine ar ?_;obtain⟨v2,J,U⟩:=bg U;refine rg [(4,cK abB J)] [(4,(ax (!v2)))] (lk v1 []) (by kernel_rfl) ?_;rcases dC v2 with h2|h2
 ·replace U:=(dc h2).symm.trans U;refine dw (t:=(!v2)) (by kernel_rfl) (cH h2) ?_;refine ar ?_;obtain⟨v3,h3,U⟩:=bg U;refine rg [(4,cK ahB h3)] [(8,(ax (!v3)))] (lk v1 []) (by kernel_rfl) ?_;rcases dC v3 with h4|h4
  ·replace U:=(dc h4).symm.trans U;refine dw (t:=(!v3)) (by kernel_rfl) (cH h4) ?_;refine ar ?_;obtain⟨v4,h5,U⟩:=bg U;refine rg [(4,cK ajE h5)] [(12,(ax (!v4)))] (lk v1 []) (by kernel_rfl) ?_;rcases dC v4 with h6|h6
   ·replace U:=(dc h6).symm.trans U;refine dw (t:=(!v4)) (by kernel_rfl) (cH h6) ?_;refine ar ?_;obtain⟨v5,h7,U⟩:=bg U;refine rg [(4,cK ah9 h7)] [(16,(ax (!v5)))] (lk v1 []) (by kernel_rfl) ?_;rcases dC v5 with h8|h8
    ·replace U:=(dc h8).symm.trans U;refine dw (t:=(!v5)) (by kernel_rfl) (cH h8) ?_;refine ar ?_;obtain⟨v7,aY,U⟩:=bg U;refine yB [(20,(ax v7))] (lk v1 []) ?_ ?_
     ·rcases dC (v1.aQ==1)with h9|h9
      ·replace aY:=(dc h9).symm.trans aY;obtain⟨v6,aO,aY⟩:=bg aY;have he:=akz aY;subst he;exact⟨[(12,bT h9),(15,bT h9),(18,bT h9),(21,bT h9),(24,bT h9),(25,cK sL aO),(27,bT h9),(31,bT h9)],by kernel_rfl⟩
      replace aY:=(dG h9).symm.trans aY;have he:=akz aY;subst he;exact⟨[(12,bF h9),(15,bF h9),(18,bF h9),(21,bF h9),(24,bF h9),(27,bF h9),(31,bF h9)],by kernel_rfl⟩
     rcases dC v7 with aT|aT
     ·replace U:=(dc aT).symm.trans U;refine cQ (t:=v7) (by kernel_rfl) aT ?_;refine ar ?_;refine rg [] [] (vT v1 [.cells [(aq (1:Int))]]) (by kernel_rfl) ?_;refine cV (dW (cU ?_));have hr:=akz U;subst hr;exact fa (by kernel_rfl)
     replace U:=(dG aT).symm.trans U;refine dw (t:=v7) (by kernel_rfl) aT ?_;refine cx ?_;refine dX ?_;refine aI ?_;refine ar ?_;refine ar ?_;obtain⟨v8,bN,U⟩:=bg U;refine rg [(4,cL (Z9 bN))] [(33,(.fn 235 [(.bn [eK v8] 0 0)]))] (lk v1 []) (by kernel_rfl) ?_;refine dt ?_;refine fA [2,33] 2 (ako rfl) (s':=⟨38,[(2,(.ptr 1 0)),(33,(.fn 235 [(.bn [eK v8] 0 0)]))],(lk v1 [])⟩) (by kernel_rfl) ?_;refine vj (m:=2) (enc:=dN) (xs:=(ni v8)) (by kernel_rfl) (aem v8) (λ(_:Unit)=>(lk v1 [])) (λ(_:Unit) l=>sC N l=some r) () (by kernel_rfl) U (by rintro _;rfl) (by rintro _;kernel_rfl) (by kernel_rfl) rfl ?_ ?_
     ·rintro _ v9 v10 U bZ cA cz
      try dsimp only at U
      rw[sC]at U;refine fA [2,34] 3 (akr _) (s':=⟨38,[(2,(.ptr 1 0)),(34,(dN v9))],(lk v1 [.lp .ready 34 cA cz (dx 38 [(2,(.ptr 1 0)),(33,(.fn 235 [(.bn [eK v8] 0 0)]))])])⟩) (by kernel_rfl) ?_;refine re [] [(3,(.ptr 3 0))] (lk v1 [.lp .ready 34 cA cz (dx 38 [(2,(.ptr 1 0)),(33,(.fn 235 [(.bn [eK v8] 0 0)]))]), .cells (dN v9).cells]) (by kernel_rfl) ?_;refine aI ?_;refine⟨(lk v1 []),[.cells (dN v9).cells],rfl,(by kernel_rfl),?_⟩;refine fA [2,3] 4 (ako rfl) (s':=⟨38,[(2,(.ptr 1 0)),(3,(.ptr 3 0))],(lk v1 [.lp .busy 34 cA cz (dx 38 [(2,(.ptr 1 0)),(33,(.fn 235 [(.bn [eK v8] 0 0)]))]), .cells (dN v9).cells])⟩) (by kernel_rfl) ?_;refine dt ?_;refine ar ?_;obtain⟨v11,bM,U⟩:=bg U;refine rg [(4,cK Is bM)] [(37,(ax (v11 !=0)))] (lk v1 [.lp .busy 34 cA cz (dx 38 [(2,(.ptr 1 0)),(33,(.fn 235 [(.bn [eK v8] 0 0)]))]), .cells (dN v9).cells]) (by kernel_rfl) ?_;rcases dC (v11 !=0)with cn|cn
      ·replace U:=(dc cn).symm.trans U;refine cQ (t:=(v11 !=0)) (by kernel_rfl) cn ?_;refine ar ?_;refine rg [] [] (vT v1 [.cells [(aq (1:Int))], .lp .busy 34 cA cz (dx 38 [(2,(.ptr 1 0)),(33,(.fn 235 [(.bn [eK v8] 0 0)]))]), .cells (dN v9).cells]) (by kernel_rfl) ?_;refine cV (dW ?_);refine Bn (vT v1 [.cells [(aq (1:Int))]]) rfl (by kernel_rfl) (by kernel_rfl) ?_;refine(dW (cU ?_));have hr:=akz U;subst hr;exact fa (by kernel_rfl)
      replace U:=(dG cn).symm.trans U;refine dw (t:=(v11 !=0)) (by kernel_rfl) cn ?_;refine cx ?_;refine dX ?_;refine zd (lk v1 []) rfl (by kernel_rfl) (by kernel_rfl) ?_;exact⟨(),(by kernel_rfl),U⟩
     rintro _ U
     try dsimp only at U
     rw[sC]at U;refine dX ?_;refine aI ?_;refine ar ?_;refine rg [] [] (lk v1 [.gone]) (by kernel_rfl) ?_;refine cV ?_;have hr:=akz U;subst hr;exact fa (by kernel_rfl)
    replace U:=(dG h8).symm.trans U;refine cQ (t:=(!v5)) (by kernel_rfl) (dq h8) ?_;refine ar ?_;refine rg [] [] (vT v1 [.cells [(aq (10:Int))]]) (by kernel_rfl) ?_;refine cV (dW (cU ?_));have hr:=akz U;subst hr;exact fa (by kernel_rfl)
   replace U:=(dG h6).symm.trans U;refine cQ (t:=(!v4)) (by kernel_rfl) (dq h6) ?_;refine ar ?_;refine rg [] [] (vT v1 [.cells [(aq (11:Int))]]) (by kernel_rfl) ?_;refine cV (dW (cU ?_));have hr:=akz U;subst hr;exact fa (by kernel_rfl)
  replace U:=(dG h4).symm.trans U;refine cQ (t:=(!v3)) (by kernel_rfl) (dq h4) ?_;refine ar ?_;refine rg [] [] (vT v1 [.cells [(aq (7:Int))]]) (by kernel_rfl) ?_;refine cV (dW (cU ?_));have hr:=akz U;subst hr;exact fa (by kernel_rfl)
 replace U:=(dG h2).symm.trans U;refine cQ (t:=(!v2)) (by kernel_rfl) (dq h2) ?_;refine ar ?_;refine rg [] [] (vT v1 [.cells [(aq (5:Int))]]) (by kernel_rfl) ?_;refine cV (dW (cU ?_));have hr:=akz U;subst hr;exact fa (by kernel_rfl)
def ee:aV:=⟨(0:Int),(0:Int),(0:Int),(0:Int),(0:Int)⟩
def R4:jx:=⟨(0:Int),(0:Int),(0:Int)⟩
def vE:bA:=⟨ee,[],[]⟩
def nA:ak4 AV:=[(aq (0:Int)),(aq (0:Int)),(aq (0:Int)),(aq (0:Int)),(aq (0:Int))]
def P7:ak4 AV:=[(aq (0:Int)),(aq (0:Int)),(aq (0:Int)),(aq (0:Int)),(aq (0:Int)),(.d (.v (.slice none 0 0))),(.d (.v (.slice none 0 0)))]
def uG(N:Nat):ak4 ay->ak6 Int
 |[]=>
  some (0:Int)
 |v5::v6=>
  (Al N v5).bind λv7=>
  bif (v7 !=0)then
   some v7
  else
   (uG N v6)
def zY(N:Nat)(v1:ay):ak6 Int:=
 (Mm N v1).bind λv2=>
 bif (decide (v2>40))then
  some (13:Int)
 else
  (Dk N v1).bind λv3=>
  bif (decide (v3>2000))then
   some (2:Int)
  else
   (AJ N v1).bind λv4=>
   uG N (et v4)
def nN(v1:ay)(l:ak4 ao):ak4 ao:= .cells (aB v1).cells:: .cells [(aq (0:Int))]::l
def Of(v1:ay)(cA:Code)(cz:Code)(v4:ay)(v5:ay)(l:ak4 ao):ak4 ao:=nN v1 (.lp .busy 13 cA cz (dx 19 [(2,(.ptr 1 0)),(12,(.fn 149 [(.bn [eK v4] 0 0)]))]):: .cells (aB v5).cells::l)
def AG(v1:ay)(l:ak4 ao):ak4 ao:= .cells (aB v1).cells::l
theorem XX{N v1 r}(U:zY N v1=some r):KF 51 [(aB v1)] (aq r):=by
 rw[zY]at U;refine lU Tryz.func51 rfl (by kernel_rfl) ?_;refine fA [0] 0 (akr _) (s':=⟨19,[(0,(aB v1))],[]⟩) (by kernel_rfl) ?_;refine ar ?_;refine rg [] [(1,(.ptr 0 0)),(2,(.ptr 1 0))] (nN v1 []) (by kernel_rfl) ?_;refine ar ?_;refine ar ?_;obtain⟨v2,J,U⟩:=bg U;refine rg [(4,cK YX J)] [(7,(ax (decide (v2>40))))] (nN v1 []) (by kernel_rfl) ?_;rcases dC (decide (v2>40))with h2|h2
 ·replace U:=(dc h2).symm.trans U;refine cQ (t:=(decide (v2>40))) (by kernel_rfl) h2 ?_;refine ar ?_;refine rg [] [] (AG v1 [.cells [(aq (13:Int))]]) (by kernel_rfl) ?_;refine cV (cU ?_);have hr:=akz U;subst hr;exact fa (by kernel_rfl)
 replace U:=(dG h2).symm.trans U;refine dw (t:=(decide (v2>40))) (by kernel_rfl) h2 ?_;refine cx ?_;refine aI ?_;refine ar ?_;refine ar ?_;obtain⟨v3,h3,U⟩:=bg U;refine rg [(4,cL (aih h3))] [(10,(ax (decide (v3>2000))))] (nN v1 []) (by kernel_rfl) ?_;rcases dC (decide (v3>2000))with h4|h4
 ·replace U:=(dc h4).symm.trans U;refine cQ (t:=(decide (v3>2000))) (by kernel_rfl) h4 ?_;refine ar ?_;refine rg [] [] (AG v1 [.cells [(aq (2:Int))]]) (by kernel_rfl) ?_;refine cV (cU ?_);have hr:=akz U;subst hr;exact fa (by kernel_rfl)
 replace U:=(dG h4).symm.trans U;refine dw (t:=(decide (v3>2000))) (by kernel_rfl) h4 ?_;refine cx ?_;refine aI ?_;refine ar ?_;refine ar ?_;obtain⟨v4,h5,U⟩:=bg U;refine rg [(4,cL (Lj h5))] [(12,(.fn 149 [(.bn [eK v4] 0 0)]))] (nN v1 []) (by kernel_rfl) ?_;refine dt ?_;refine fA [2,12] 2 (ako rfl) (s':=⟨19,[(2,(.ptr 1 0)),(12,(.fn 149 [(.bn [eK v4] 0 0)]))],(nN v1 [])⟩) (by kernel_rfl) ?_;refine vj (m:=2) (enc:=aB) (xs:=(et v4)) (by kernel_rfl) (JK v4) (λ(_:Unit)=>(nN v1 [])) (λ(_:Unit) l=>uG N l=some r) () (by kernel_rfl) U (by rintro _;rfl) (by rintro _;kernel_rfl) (by kernel_rfl) rfl ?_ ?_
 ·rintro _ v5 v6 U h6 cA cz
  try dsimp only at U
  rw[uG]at U;refine fA [2,13] 3 (akr _) (s':=⟨19,[(2,(.ptr 1 0)),(13,(aB v5))],(nN v1 [.lp .ready 13 cA cz (dx 19 [(2,(.ptr 1 0)),(12,(.fn 149 [(.bn [eK v4] 0 0)]))])])⟩) (by kernel_rfl) ?_;refine re [] [(3,(.ptr 3 0))] (nN v1 [.lp .ready 13 cA cz (dx 19 [(2,(.ptr 1 0)),(12,(.fn 149 [(.bn [eK v4] 0 0)]))]), .cells (aB v5).cells]) (by kernel_rfl) ?_;refine aI ?_;refine⟨(nN v1 []),(AG v5 []),rfl,(by kernel_rfl),?_⟩;refine fA [2,3] 4 (ako rfl) (s':=⟨19,[(2,(.ptr 1 0)),(3,(.ptr 3 0))],(Of v1 cA cz v4 v5 [])⟩) (by kernel_rfl) ?_;refine dt ?_;refine ar ?_;obtain⟨v7,h7,U⟩:=bg U;refine rg [(4,cL (aaH h7))] [(4,(aq v7))] (Of v1 cA cz v4 v5 []) (by kernel_rfl) ?_;refine ar ?_;refine rg [] [(17,(ax (v7 !=0)))] (Of v1 cA cz v4 v5 []) (by kernel_rfl) ?_;rcases dC (v7 !=0)with h8|h8
  ·replace U:=(dc h8).symm.trans U;refine cQ (t:=(v7 !=0)) (by kernel_rfl) h8 ?_;refine ar ?_;refine rg [] [] (AG v1 [.cells [(aq v7)], .lp .busy 13 cA cz (dx 19 [(2,(.ptr 1 0)),(12,(.fn 149 [(.bn [eK v4] 0 0)]))]), .cells (aB v5).cells]) (by kernel_rfl) ?_;refine cV (dW ?_);refine Bn (AG v1 [.cells [(aq v7)]]) rfl (by kernel_rfl) (by kernel_rfl) ?_;refine(dW (cU ?_));have hr:=akz U;subst hr;exact fa (by kernel_rfl)
  replace U:=(dG h8).symm.trans U;refine dw (t:=(v7 !=0)) (by kernel_rfl) h8 ?_;refine cx ?_;refine dX ?_;refine zd (nN v1 []) rfl (by kernel_rfl) (by kernel_rfl) ?_;exact⟨(),(by kernel_rfl),U⟩
 rintro _ U
 try dsimp only at U
 rw[uG]at U;refine dX ?_;refine aI ?_;refine ar ?_;refine rg [] [] (nN v1 [.gone]) (by kernel_rfl) ?_;refine cV ?_;have hr:=akz U;subst hr;exact fa (by kernel_rfl)
def I2(N:Nat)(v3:ak4 (ak5×Int)):ak4 dK->Nat->ak6 Int
 |[],_=>
  some (0:Int)
 |v6::v7,v4=>
  bif ((gv v3 v6.aF 0)==0)then
   some (9:Int)
  else
   (I2 N v3 v7 (v4+1))
def CG(N:Nat)(v1:bp)(v2:aZ)(v3:ak4 (ak5×Int)):ak6 Int:=
 I2 N v3 v1.xL 0
theorem MW{N v1 v2 v3}:KP 288 [(.ptr 0 0),(dN v1)] [.cells (fB v2 [(.mp 1)]), .map (fc v3)] aq (λ_=>[.cells (fB v2 [(.mp 1)]), .map (fc v3)]) (CG N v1 v2 v3):=
 fh 2 Tryz.func288 (gA [[],[(7,oL v1.xL iZ)]] (gT tT 8 v1.xL λh2=>dP 1 [] [0,8,9,10] 3 (λv4=>⟨23,[(0,(.ptr 0 0)),(8,(.d (.sl (ga v1.xL)))),(9,(aq (v1.xL.length:Int))),(10,(aq (v4:Int)))],[.cells (fB v2 [(.mp 1)]), .map (fc v3), .cells (dN v1).cells]⟩) (λv4 h3 f1=>gH [[],[f0 (bK h3)],[]]) (λv4 v6 v7 h3 f1 aG=>gA [[],[t0 (bJ h3)],[(1,oE (lX (bm h3)))],[(20,⟨_,_, .eq (Ds false v3 v6.aF)⟩)]] (aw (λh4=>gH [[t0 h4],[]]) λh4=>gb aG () [[f0 h4],[(2,oq (bS h3 rfl h2))]] h3))))
def LY(N:Nat)(v1:ak4 dK):ak6 (ak4 dK):=bif Nat.ble (v1.length*24) 140737488355328 then some v1 else none
theorem aad{N v1 r}(U:LY N v1=some r):fX Tryz.prog 222 [(.d (.sl (ga v1)))] (·=(.d (.sl (ga r)))):=by
 obtain⟨hb,rfl⟩:=eB U;have hc:=mu hb (by decide);exact YH SH (by rw[iZ];exact hc.1) (by rw[iZ];exact hc.2)
def BJ(N:Nat)(v1:bp):ak6 bp:=
 (LY N v1.xL).bind λv2=>
 some (⟨v1.xK,v2⟩:bp)
theorem TG{N v1}:KO 134 [(dN v1)] dN (BJ N v1):=
 fw Tryz.func134 (au λv2 J=>gR [[],[(13,cL (aad J))]])
def CM(N:Nat):ak4 bp->Nat->(ak4 bp)->ak6 ((ak4 bp))
 |[],_,v6=>
  some v6
 |v4::v5,v2,v6=>
  (BJ N v4).bind λv7=>
  bif (Nat.ble ((v6.length+1)*32) 140737488355328)then
  (λcq=>CM N v5 (v2+1) cq) (v6++[v7])
  else none
def D7(N:Nat)(v1:ak4 bp):ak6 ((ak4 bp)):=
 CM N v1 0 []
theorem aiu{N v1}:KO 132 [(.d (.sl (eW v1)))] (λr=> .d (.sl (eW r))) (D7 N v1):=
 fw Tryz.func132 (gA [[],[],[(4,oL v1 fy)]] (li (λ_=>(mG 3 48 2 [] (.inr (by kernel_rfl)) ·)) (gT mv 0 v1 λh2=>fq 1 [] [3,6,7,8] 1 (λv2(v6:ak4 bp)=>⟨19,[(3,(.own 0 (eW v6))),(6,(.d (.sl (eW v1)))),(7,(aq (v1.length:Int))),(8,(aq (v2:Int)))],[.front 48 2 v6.length]⟩) (λv2 v6 h3 f1=>gR [[],[f0 (bK h3)],[]]) (λv2 v4 v5 v6 h3 f1 aG=>au λv7 h4=>dh λh5=>gb aG (v6++[v7]) [[],[t0 (bJ h3)],[(1,oE (ng (bm h3)))],[(7,cK TG h4),(13,oA mv v6 ([v7]) h5)],[(2,oq (bS h3 rfl h2))]] h3))))
def Ni(N:Nat)(v1:cv)(v2:ak5):ak6 Bool:=
 some (bL v1.aF==bL v2)
theorem agG{N v1 v2}:KP 221 [(eR v1),(.ptr 0 0)] [.cells [(c6 v2)]] ax (λ_=>[.cells [(c6 v2)]]) (Ni N v1 v2):=
 fh 1 Tryz.func221 (gH [[],[]])
def EJ(N:Nat)(v2:ak5):ak4 cv->Nat->ak6 Int
 |[],_=>
  some (-1:Int)
 |v5::v6,v3=>
  (Ni N v5 v2).bind λv7=>
  bif v7 then
   some (v3:Int)
  else
   (EJ N v2 v6 (v3+1))
def O9(N:Nat)(v1:ak4 cv)(v2:ak5):ak6 Int:=
 EJ N v2 v1 0
theorem acn{N v1 v2}:KP 220 [(.d (.sl (gD v1))),(.fn 221 [(.ptr 0 0)])] [.cells [(c6 v2)]] aq (λ_=>[.cells [(c6 v2)]]) (O9 N v1 v2):=
 fh 1 Tryz.func220 (gA [[],[(4,oL v1 kp)]] (gT ud 0 v1 λh2=>dP 1 [] [0,1,7,8] 1 (λv3=>⟨19,[(0,(.d (.sl (gD v1)))),(1,(.fn 221 [(.ptr 0 0)])),(7,(aq (v1.length:Int))),(8,(aq (v3:Int)))],[.cells [(c6 v2)]]⟩) (λv3 h3 f1=>gH [[],[f0 (bK h3)],[]]) (λv3 v5 v6 h3 f1 aG=>au λv7 h4=>gA [[],[t0 (bJ h3)],[],[(10,oE (jm (bm h3))),(16,oQ [(eR v5),(.ptr 0 0)] [.cells [(c6 v2)]] [0] (agG _ h4))]] (aw (λh5=>gH [[t0 h5],[]]) λh5=>gb aG () [[f0 h5],[(2,oq (bS h3 rfl h2))]] h3))))
def Ed(N:Nat)(v1:aZ)(v2:ak5):ak6 Int:=
 (O9 N v1.aU v2).bind λv3=>
 some v3
theorem agr{N v1 v2}:KO 133 [(c7 v1),(c6 v2)] aq (Ed N v1 v2):=
 fw Tryz.func133 (au λv3 J=>gR [[],[(10,oQ [(.d (.sl (gD v1.aU))),(.fn 221 [(.ptr 1 0)])] [.cells (c7 v1).cells, .cells [(c6 v2)]] [1] (acn _ J))]])
def Dg(N:Nat)(v8:cv):ak4 dJ->Nat->(ak4 bp)->ak6 (aV×(ak4 bp)×Bool)
 |[],_,aA=>
  some (v8.aJ,aA,true)
 |v11::v12,v9,aA=>
  (BJ N v11.ff).bind λaE=>
  bif (Nat.ble ((aA.length+1)*32) 140737488355328)then
  (λgP=>Dg N v8 v12 (v9+1) gP) (aA++[aE])
  else none
def Bh(N:Nat)(v1:aZ)(v2:ak5):ak4 eV->Nat->ak6 (aV×(ak4 bp)×Bool)
 |[],_=>
  (Ed N v1 v2).bind λv7=>
  bif (decide (v7>=0))then
   bif (decide ((0:Int)<=v7))then
   Option.bind (v1.aU[(v7).toNat]?) λv8=>
   Dg N v8 v8.bo 0 []
   else none
  else
   some (ee,[],false)
 |v5::v6,v3=>
  bif (bL v5.aF==bL v2)then
   (D7 N v5.bo).bind λaP=>
   some (v5.aJ,aP,true)
  else
   (Bh N v1 v2 v6 (v3+1))
def Cg(N:Nat)(v1:aZ)(v2:ak5):ak6 (aV×(ak4 bp)×Bool):=
 Bh N v1 v2 v1.bu 0
theorem JU{N v1 v2}:KO 78 [(c7 v1),(c6 v2)] (λr=> .aW [(bX r.1),(.d (.sl (eW r.2.1))),(ax r.2.2)]) (Cg N v1 v2):=
 fw Tryz.func78 (gA [[],[(7,oL v1.bu lu)]] (gT zl 14 v1.bu λh2=>dP 1 [] [1,2,4,14,15,16] 2 (λv3=>⟨61,[(1,(c6 v2)),(2,(.ptr 0 0)),(4,(.ptr 1 0)),(14,(.d (.sl (jW v1.bu)))),(15,(aq (v1.bu.length:Int))),(16,(aq (v3:Int)))],[.cells (c7 v1).cells, .cells nA]⟩) (λv3 h3 f1=>au λv7 h4=>gA [[],[f0 (bK h3)],[(7,cK agr h4)],[]] (lC λh5=>dh λh7=>au λv8 h6=>gA [[t0 h5],[],[(10,⟨_,_, .el (xs:=gD v1.aU) (i:=v7) (of_decide_eq_true h7) (jm h6)⟩),(19,oL v8.bo fO)]] (li (λ_=>(mG 10 48 2 [] (.inr (by kernel_rfl)) ·)) (gT m8 40 v8.bo λh9=>fq 2 [] [2,4,9,10,40,41,42] 3 (λv9(aA:ak4 bp)=>⟨61,[(2,(.ptr 0 0)),(4,(.ptr 1 0)),(9,(aq v7)),(10,(.own 2 (eW aA))),(40,(.d (.sl (gx v8.bo)))),(41,(aq (v8.bo.length:Int))),(42,(aq (v9:Int)))],[.cells (c7 v1).cells, .cells nA, .front 48 2 aA.length]⟩) (λv9 aA aO f2=>gR [[],[f0 (bK aO)],[(10,⟨_,_, .el (xs:=gD v1.aU) (i:=v7) (of_decide_eq_true h7) (jm h6)⟩)]]) (λv9 v11 v12 aA aO f2 dT=>au λaE aY=>dh λaT=>gb dT (aA++[aE]) [[],[t0 (bJ aO)],[(1,oE (mV (bm aO)))],[(10,cK TG aY),(16,oA mv aA ([aE]) aT)],[(2,oq (bS aO rfl h9))]] aO))))) (λv3 v5 v6 h3 f1 aG=>gA [[],[t0 (bJ h3)],[(1,oE (na (bm h3)))],[]] (aw (λbN=>au λaP bZ=>gR [[t0 bN],[(13,cK aiu bZ)]]) λbN=>gb aG () [[f0 bN],[(2,oq (bS h3 rfl h2))]] h3))))
def Hf(N:Nat)(v2:aZ)(v3:ak4 (ak5×Int)):ak4 bp->Nat->ak6 Int
 |[],_=>
  some (0:Int)
 |v8::v9,v6=>
  (CG N v8 v2 v3).bind λv10=>
  bif (v10 !=0)then
   some v10
  else
   (Hf N v2 v3 v9 (v6+1))
def IM(N:Nat)(v1:dd)(v2:aZ)(v3:ak4 (ak5×Int)):ak6 Int:=
 bif (bL v1.dk==bL (bs []))then
  (CG N v1.bO v2 v3).bind λv4=>
  some v4
 else
  (Cg N v2 v1.dk).bind λv5=>
  bif v5.2.2 then
   bif (v5.1.cg !=3)then
    some (10:Int)
   else
    bif ((v1.da.length:Int) !=(v5.2.1.length:Int))then
     some (11:Int)
    else
     Hf N v2 v3 v1.da 0
  else
   some (9:Int)
def KB(v2:aZ)(v3:ak4 (ak5×Int))(v1:dd)(l:ak4 ao):ak4 ao:= .cells (fB v2 [(.mp 1)]):: .map (fc v3):: .cells (gC v1).cells::l
theorem Zs{N v1 v2 v3}:KP 308 [(.ptr 0 0),(gC v1)] [.cells (fB v2 [(.mp 1)]), .map (fc v3)] aq (λ_=>[.cells (fB v2 [(.mp 1)]), .map (fc v3)]) (IM N v1 v2 v3):=
 fh 2 Tryz.func308 (gA [[],[]] (aw (λJ=>au λv4 h2=>gH [[t0 J],[(10,oQ [(.ptr 0 0),(dN v1.bO)] (KB v2 v3 v1 []) [0,1] (MW _ h2))]]) λJ=>au λv5 h3=>gA [[f0 J],[(19,cK JU h3)],[]] (aw (λh4=>gA [[f0 (cH h4)],[]] (aw (λh5=>gH [[t0 h5],[]]) λh5=>gA [[f0 h5],[(7,oL v1.da fy),(13,oL v5.2.1 fy)]] (aw (λh6=>gH [[t0 h6],[]]) λh6=>gA [[f0 h6],[(7,oL v1.da fy)]] (gT mv 44 v1.da λh8=>dP 1 [] [0,44,45,46] 4 (λv6=>⟨57,[(0,(.ptr 0 0)),(44,(.d (.sl (eW v1.da)))),(45,(aq (v1.da.length:Int))),(46,(aq (v6:Int)))],(KB v2 v3 v1 [.cells (bX v5.1).cells])⟩) (λv6 h9 f1=>gH [[],[f0 (bK h9)],[]]) (λv6 v8 v9 h9 f1 aG=>au λv10 aO=>gA [[],[t0 (bJ h9)],[(1,oE (ng (bm h9)))],[(7,oQ [(.ptr 0 0),(dN v8)] (KB v2 v3 v1 [.cells (bX v5.1).cells, .cells (dN v8).cells]) [0,1] (MW _ aO))],[]] (aw (λaY=>gH [[t0 aY],[]]) λaY=>gb aG () [[f0 aY],[(2,oq (bS h9 rfl h8))]] h9)))))) λh4=>gH [[t0 (dq h4)],[]])))
def IA(N:Nat)(v4:aV×(ak4 bp)×Bool)(v2:aZ)(v3:ak4 (ak5×Int)):ak4 dd->Nat->ak6 (aV×Int)
 |[],_=>
  some (v4.1,(0:Int))
 |v7::v8,v5=>
  (IM N v7 v2 v3).bind λv9=>
  bif (v9 !=0)then
   some (ee,v9)
  else
   (IA N v4 v2 v3 v8 (v5+1))
def E9(N:Nat)(v1:ay)(v2:aZ)(v3:ak4 (ak5×Int)):ak6 (aV×Int):=
 (Cg N v2 v1.aF).bind λv4=>
 bif v4.2.2 then
  bif ((v1.xIdx.length:Int) !=(v4.2.1.length:Int))then
   some (ee,(11:Int))
  else
   IA N v4 v2 v3 v1.xIdx 0
 else
  some (ee,(9:Int))
theorem agV{N v1 v2 v3}:KP 289 [(.ptr 0 0),(aB v1)] [.cells (fB v2 [(.mp 1)]), .map (fc v3)] (λr=> .aW [(bX r.1),(aq r.2)]) (λ_=>[.cells (fB v2 [(.mp 1)]), .map (fc v3)]) (E9 N v1 v2 v3):=
 fh 2 Tryz.func289 (au λv4 J=>gA [[],[(19,cK JU J)],[]] (aw (λh2=>gA [[f0 (cH h2)],[(7,oL v1.xIdx fZ),(13,oL v4.2.1 fy)]] (aw (λh3=>gH [[t0 h3],[]]) λh3=>gA [[f0 h3],[(7,oL v1.xIdx fZ)]] (gT pE 34 v1.xIdx λh5=>dP 1 [] [0,4,6,34,35,36] 5 (λv5=>⟨49,[(0,(.ptr 0 0)),(4,(.ptr 3 0)),(6,(.ptr 4 0)),(34,(.d (.sl (eJ v1.xIdx)))),(35,(aq (v1.xIdx.length:Int))),(36,(aq (v5:Int)))],[.cells (fB v2 [(.mp 1)]), .map (fc v3), .cells (aB v1).cells, .cells nA, .cells (bX v4.1).cells]⟩) (λv5 h6 f1=>gH [[],[f0 (bK h6)],[]]) (λv5 v7 v8 h6 f1 aG=>au λv9 h7=>gA [[],[t0 (bJ h6)],[(1,oE (iG (bm h6)))],[(7,oQ [(.ptr 0 0),(gC v7)] [.cells (fB v2 [(.mp 1)]), .map (fc v3), .cells (aB v1).cells, .cells nA, .cells (bX v4.1).cells, .cells (gC v7).cells] [0,1] (Zs _ h7))],[]] (aw (λh8=>gH [[t0 h8],[]]) λh8=>gb aG () [[f0 h8],[(2,oq (bS h6 rfl h5))]] h6))))) λh2=>gH [[t0 (dq h2)],[]]))
def Bj(N:Nat)(v1:aV)(v2:aV):ak6 Int:=
 bif ((v1.cg==v2.cg)&&((v1.cE==v2.cE)&&((v1.cB==v2.cB)&&((v1.cY==v2.cY)&&((v1.c8==v2.c8)&&true)))))then
  some (0:Int)
 else
  some (10:Int)
theorem OH{N v1 v2}:KO 287 [(bX v1),(bX v2)] aq (Bj N v1 v2):=
 fw Tryz.func287 (gA [[],[]] (mD λJ=>gR [[t0 (dq J)],[]]))
def Ar(N:Nat)(v8:ak4 aV)(bW:Bool):ak6 (aV×Int):=
 bif bW then
  Option.bind (v8[0]?) λbH=>
  Option.bind (v8[1]?) λcd=>
  (Bj N bH cd).bind λv20=>
  some (ee,v20)
 else
  Option.bind (v8[0]?) λv21=>
  Option.bind (v8[1]?) λe8=>
  (Bj N v21 e8).bind λdH=>
  some (v21,dH)
def AE(N:Nat)(v1:ay)(v8:ak4 aV)(bC:Bool):ak6 (aV×Int):=
 bif bC then
  some (ee,(0:Int))
 else
  bif (v1.aQ==13)then
   Ar N v8 (v1.aQ==13)
  else
   bif (v1.aQ==14)then
    Ar N v8 (v1.aQ==14)
   else
    Ar N v8 (v1.aQ==15)
def F3(N:Nat)(v1:ay)(v2:aZ)(v3:ak4 (ak5×Int))(v8:ak4 aV)(v9:Bool):ak6 (aV×Int):=
 bif v9 then
  some (v1.aJ,(0:Int))
 else
  bif (v1.aQ==2)then
   (CG N v1.bO v2 v3).bind λv10=>
   some ((⟨(3:Int),(0:Int),(0:Int),(0:Int),(0:Int)⟩:aV),v10)
  else
   bif (v1.aQ==3)then
    (E9 N v1 v2 v3).bind λv11=>
    some (v11.1,v11.2)
   else
    bif (v1.aQ==8)then
     Option.bind (v8[0]?) λv12=>
     some (v12,(0:Int))
    else
     bif (v1.aQ==11)then
      Option.bind (v8[1]?) λaA=>
      Option.bind (v8[2]?) λaE=>
      (Bj N aA aE).bind λaP=>
      some (aA,aP)
     else
      bif (v1.aQ==16)then
       AE N v1 v8 (v1.aQ==16)
      else
       bif (v1.aQ==17)then
        AE N v1 v8 (v1.aQ==17)
       else
        AE N v1 v8 (v1.aQ==18)
def vQ(N:Nat)(v1:ay)(v2:aZ)(v3:ak4 (ak5×Int))(VW:ay->aZ->(ak4 (ak5×Int))->ak6 (aV×Int)):ak4 ay->Nat->(ak4 aV)->ak6 (aV×Int)
 |[],_,v8=>
  bif (v1.aQ==1)then
   F3 N v1 v2 v3 v8 (v1.aQ==1)
  else
   F3 N v1 v2 v3 v8 (v1.aQ==12)
 |v6::v7,v4,v8=>
  (VW v6 v2 v3).bind λv24=>
  bif (v24.2 !=0)then
   some (ee,v24.2)
  else
   bif (Nat.ble ((v8.length+1)*40) 140737488355328)then
   (λcq=>vQ N v1 v2 v3 VW v7 (v4+1) cq) (v8++[v24.1])
   else none
def wC(N:Nat):Nat->ay->aZ->(ak4 (ak5×Int))->ak6 (aV×Int)
 |0,_,_,_=>none
 |d+1,v1,v2,v3=>
  vQ N v1 v2 v3 (wC N d) v1.cl 0 []
def MY(N:Nat)(v1:ay)(v2:aZ)(v3:ak4 (ak5×Int)):ak6 (aV×Int):=wC N N v1 v2 v3
def uH(v2:aZ)(v3:ak4 (ak5×Int))(v1:ay)(v8:ak4 aV)(l:ak4 ao):ak4 ao:= .cells (fB v2 [(.mp 1)]):: .map (fc v3):: .cells (aB v1).cells:: .cells nA:: .front 34 5 v8.length::l
theorem adK(N:Nat):∀d:Nat,(∀{v1:ay}{v2:aZ}{v3:ak4 (ak5×Int)},KP 255 [(.ptr 0 0),(aB v1)] [.cells (fB v2 [(.mp 1)]), .map (fc v3)] (λr=> .aW [(bX r.1),(aq r.2)]) (λ_=>[.cells (fB v2 [(.mp 1)]), .map (fc v3)]) (wC N d v1 v2 v3)):=by
 intro d
 induction d with
 |zero=>intro v1 v2 v3 r U;rw[wC]at U;cases U
 |succ d ih=>
  have abn:= @ih;intro v1 v2 v3;rw[wC];exact fh 2 Tryz.func255 (gA [[],[],[(7,oL v1.cl iO)]] (li (λ_=>(mG 6 34 5 [] (.inr (by kernel_rfl)) ·)) (gT ql 13 v1.cl λh2=>fq 1 [] [0,3,4,6,13,14,15] 5 (λv4(v8:ak4 aV)=>⟨102,[(0,(.ptr 0 0)),(3,(.ptr 2 0)),(4,(.ptr 3 0)),(6,(.own 4 (mH v8))),(13,(.d (.sl (ig v1.cl)))),(14,(aq (v1.cl.length:Int))),(15,(aq (v4:Int)))],(uH v2 v3 v1 v8 [])⟩) (λv4 v8 h3 f1=>k8 2 [[],[(0,bF (bK h3))],[],[],[]] [0,3,4,6,11,35,36] 5 (λ(v9:Bool)=>⟨102,[(0,(.ptr 0 0)),(3,(.ptr 2 0)),(4,(.ptr 3 0)),(6,(.own 4 (mH v8))),(11,(.fn 287 [])),(35,(aq v1.aQ)),(36,(ax v9))],(uH v2 v3 v1 v8 [])⟩) (F3 N v1 v2 v3 v8) (λf2 dT=>aw (λgq=>gm dT (v1.aQ==1) [[(0,bT gq)]]) λgq=>gm dT (v1.aQ==12) [[(0,bF gq)],[]]) (λv9=>aw (λh4=>gH [[(0,bT h4)],[]]) λh4=>gA [[(0,bF h4)],[]] (aw (λh5=>au λv10 h6=>gH [[(0,bT h5)],[(13,oQ [(.ptr 0 0),(dN v1.bO)] (uH v2 v3 v1 v8 []) [0,1] (MW _ h6))]]) λh5=>gA [[(0,bF h5)],[]] (aw (λh7=>au λv11 h8=>gH [[(0,bT h7)],[(7,oQ [(.ptr 0 0),(aB v1)] (uH v2 v3 v1 v8 []) [0,1] (agV _ h8))]]) λh7=>gA [[(0,bF h7)],[]] (aw (λh9=>au λv12 aO=>gH [[(0,bT h9)],[(4,oE (k:=0) (kZ aO))]]) λh9=>gA [[(0,bF h9)],[]] (aw (λaY=>au λaA aT=>au λaE bN=>au λaP bZ=>gH [[(0,bT aY)],[(4,oE (k:=1) (kZ aT)),(16,oE (k:=1) (kZ aT)),(25,oE (k:=2) (kZ bN)),(31,cK OH bZ)]]) λaY=>k8 3 [[(0,bF aY)],[]] [4,6,11,35,73] 5 (λ(bC:Bool)=>⟨102,[(4,(.ptr 3 0)),(6,(.own 4 (mH v8))),(11,(.fn 287 [])),(35,(aq v1.aQ)),(73,(ax bC))],(uH v2 v3 v1 v8 [])⟩) (AE N v1 v8) (λf3 j9=>aw (λlO=>gm j9 (v1.aQ==16) [[(0,bT lO)]]) λlO=>gA [[(0,bF lO)],[]] (aw (λmc=>gm j9 (v1.aQ==17) [[(0,bT mc)]]) λmc=>gm j9 (v1.aQ==18) [[(0,bF mc)],[]])) (λbC=>aw (λbM=>gH [[(0,bT bM)],[]]) λbM=>k8 4 [[(0,bF bM)],[]] [4,6,11,78] 5 (λ(bW:Bool)=>⟨102,[(4,(.ptr 3 0)),(6,(.own 4 (mH v8))),(11,(.fn 287 [])),(78,(ax bW))],(uH v2 v3 v1 v8 [])⟩) (Ar N v8) (λf4 mA=>aw (λfe=>gm mA (v1.aQ==13) [[(0,bT fe)]]) λfe=>gA [[(0,bF fe)],[]] (aw (λfE=>gm mA (v1.aQ==14) [[(0,bT fE)]]) λfE=>gm mA (v1.aQ==15) [[(0,bF fE)],[]])) (λbW=>aw (λcn=>au λbH dj=>au λcd eC=>au λv20 fu=>gH [[(0,bT cn)],[(10,oE (k:=0) (kZ dj)),(19,oE (k:=1) (kZ eC)),(25,cK OH fu)]]) λcn=>au λv21 dD=>au λe8 fW=>au λdH iu=>gH [[(0,bF cn)],[(4,oE (k:=0) (kZ dD)),(16,oE (k:=0) (kZ dD)),(25,oE (k:=1) (kZ fW)),(31,cK OH iu)]])))))))) (λv4 v6 v7 v8 h3 f1 aG=>au λv24 lA=>gA [[],[(0,bT (bJ h3))],[(1,oE (jM (bm h3)))],[(7,oQ [(.ptr 0 0),(aB v6)] (uH v2 v3 v1 v8 [.cells (aB v6).cells]) [0,1] (abn _ lA))],[]] (aw (λpO=>gH [[(0,bT pO)],[]]) λpO=>dh λoM=>gb aG (v8++[v24.1]) [[(0,bF pO)],[(10,oA Vi v8 ([v24.1]) oM)],[(2,oq (bS h3 rfl h2))]] h3)))))
theorem aaG{N v1 v2 v3}:KP 255 [(.ptr 0 0),(aB v1)] [.cells (fB v2 [(.mp 1)]), .map (fc v3)] (λr=> .aW [(bX r.1),(aq r.2)]) (λ_=>[.cells (fB v2 [(.mp 1)]), .map (fc v3)]) (MY N v1 v2 v3):=(adK N N)
def vl(N:Nat)(v3:ay)(v1:aZ):ak4 ak5->Nat->(ak4 (ak5×Int))->ak6 (aV×Int)
 |[],_,aP=>
  (MY N v3 v1 aP).bind λbC=>
  bif (bC.2 !=0)then
   some (ee,bC.2)
  else
   some (bC.1,(0:Int))
 |aA::aE,v11,aP=>
  bif (Nat.blt aP.length 9223372036854775807)then
  (λgP=>vl N v3 v1 aE (v11+1) gP) ((aA,(3:Int))::aP)
  else none
def Jm(N:Nat)(v3:ay)(v1:aZ)(v2:ak4 ak5):ak4 ak5->Nat->(ak4 (ak5×Int))->ak6 (aV×Int)
 |[],_,v10=>
  vl N v3 v1 v2 0 v10
 |v8::v9,v6,v10=>
  bif (Nat.blt v10.length 9223372036854775807)then
  (λcq=>Jm N v3 v1 v2 v9 (v6+1) cq) ((v8,(1:Int))::v10)
  else none
def Fv(N:Nat)(v1:aZ)(v2:ak4 ak5)(v3:ay):ak6 (aV×Int):=
 (zY N v3).bind λv4=>
 bif (v4 !=0)then
  some (ee,v4)
 else
  (xW N v3).bind λv5=>
  bif v5 then
   some (ee,(10:Int))
  else
   Jm N v3 v1 v2 v1.bE 0 []
def Nl(v1:aZ)(v3:ay)(v10:ak4 (ak5×Int))(l:ak4 ao):ak4 ao:= .cells (c7 v1).cells:: .cells (aB v3).cells:: .cells nA:: .map (fc v10):: .cells (fB v1 [(.mp 3)])::l
theorem aaX{N v1 v2 v3}:KO 192 [(c7 v1),(.d (.sl (cW v2))),(aB v3)] (λr=> .aW [(bX r.1),(aq r.2)]) (Fv N v1 v2 v3):=
 fw Tryz.func192 (au λv4 J=>gA [[],[(4,cL (XX J))],[]] (bj λh2=>au λv5 h3=>gA [[f0 h2],[(4,cK Ph h3)]] (bj λh4=>gA [[f0 h4],[],[(7,oL v1.bE fR)]] (gT jK 30 v1.bE λh6=>fq 1 [] [1,5,6,9,30,31,32] 5 (λv6(v10:ak4 (ak5×Int))=>⟨65,[(1,(.d (.sl (cW v2)))),(5,(.ptr 1 0)),(6,(.ptr 2 0)),(9,(.ptr 4 0)),(30,(.d (.sl (cW v1.bE)))),(31,(aq (v1.bE.length:Int))),(32,(aq (v6:Int)))],(Nl v1 v3 v10 [])⟩) (λv6 v10 h7 f1=>gA [[],[f0 (bK h7)],[(4,oL v2 fR)]] (gT jK 1 v2 λh9=>fq 2 [] [5,6,9,42,43,44] 5 (λv11(aP:ak4 (ak5×Int))=>⟨65,[(5,(.ptr 1 0)),(6,(.ptr 2 0)),(9,(.ptr 4 0)),(42,(.d (.sl (cW v2)))),(43,(aq (v2.length:Int))),(44,(aq (v11:Int)))],(Nl v1 v3 aP [])⟩) (λv11 aP aO f2=>au λbC aY=>gA [[],[f0 (bK aO)],[(7,oQ [(.ptr 4 0),(aB v3)] (Nl v1 v3 aP []) [4,3] (aaG _ aY))],[]] (bj λaT=>gR [[f0 aT],[]])) (λv11 aA aE aP aO f2 dT=>dh λbN=>gb dT ((aA,(3:Int))::aP) [[],[t0 (bJ aO)],[(1,oE (mo (bm aO)))],[(16,⟨_,_, .sd (o:= .none) (J5 bN)⟩)],[(2,oq (bS aO rfl h9))]] aO))) (λv6 v8 v9 v10 h7 f1 aG=>dh λbZ=>gb aG ((v8,(1:Int))::v10) [[],[t0 (bJ h7)],[(1,oE (mo (bm h7)))],[(16,⟨_,_, .sd (o:= .none) (J5 bZ)⟩)],[(2,oq (bS h7 rfl h6))]] h7)))))
def Fq(N:Nat)(v1:Int)(v2:aZ)(v3:ak4 (ak5×Int)):ak6 (Int×(ak4 (ak5×Int))):=
 bif (decide ((0:Int)<=v1))then
 Option.bind (v2.aU[(v1).toNat]?) λv4=>
 Option.bind (w6 N v4.aF (2:Int) v2 v3) λv5=>
 bif (v5.1 !=0)then
  some (v5.1,v5.2)
 else
  Option.bind (uv N v4.aJ ([(v4.bo.length:Int),(v4.cO.length:Int)])) λv6=>
  bif (v6 !=0)then
   some (v6,v5.2)
  else
   (Je N v4 v2 v5.2).bind λv7=>
   bif (v7 !=0)then
    some (v7,v5.2)
   else
    (Fo N v4).bind λv8=>
    bif (v8 !=0)then
     some (v8,v5.2)
    else
     bif (decide ((v1).toNat<=v2.aU.length))then
     (FE N v4).bind λv9=>
     Option.bind (Fv N (⟨v2.bE,v2.dL,v2.bu,((v2.aU.take (v1).toNat).drop 0),v2.dU⟩:aZ) v9 v4.cP) λv10=>
     bif (v10.2 !=0)then
      some (v10.2,v5.2)
     else
      bif ((v10.1.cg==v4.aJ.cg)&&((v10.1.cE==v4.aJ.cE)&&((v10.1.cB==v4.aJ.cB)&&((v10.1.cY==v4.aJ.cY)&&((v10.1.c8==v4.aJ.c8)&&true)))))then
       some ((0:Int),v5.2)
      else
       some ((10:Int),v5.2)
     else none
 else none
theorem aaN{N v1 v2 v3}:KP 109 [(.ptr 0 0),(aq v1)] [.cells (fB v2 [(.mp 1)]), .map (fc v3)] (λr=>aq r.1) (λr=>[.cells (fB v2 [(.mp 1)]), .map (fc r.2)]) (Fq N v1 v2 v3):=
 fh 2 Tryz.func109 (dh λh2=>au λv4 J=>au λv5 h3=>gA [[],[(19,⟨_,_, .el (xs:=gD v2.aU) (i:=v1) (of_decide_eq_true h2) (jm J)⟩)],[(10,oR [(.ptr 0 0),(c6 v4.aF),(aq (2:Int))] [.cells (fB v2 [(.mp 1)]), .map (fc v3), .cells (eR v4).cells] [0,1] (N7 _ h3))],[]] (aw (λh4=>gH [[t0 h4],[]]) λh4=>au λv6 h5=>gA [[f0 h4],[(13,oL v4.bo fO),(22,oL v4.cO fO),(28,cK We h5)],[]] (aw (λh6=>gH [[t0 h6],[]]) λh6=>au λv7 h7=>gA [[f0 h6],[(7,oQ [(.ptr 0 0),(eR v4)] [.cells (fB v2 [(.mp 1)]), .map (fc v5.2), .cells (eR v4).cells] [0,1] (agu _ h7))],[]] (aw (λh8=>gH [[t0 h8],[]]) λh8=>au λv8 h9=>gA [[f0 h8],[(4,cK agf h9)],[]] (aw (λaO=>gH [[t0 aO],[]]) λaO=>dh λaY=>au λv9 aT=>au λv10 bN=>gA [[f0 aO],[],[(19,⟨_,_, .sub (xs:=gD v2.aU) (lo:=0) (hi:=v1) (by decide) (Nat.zero_le _) (of_decide_eq_true h2) (by rw[kp];exact(of_decide_eq_true aY)) Lu Ss⟩)],[(7,cK afk aT),(16,cK aaX bN)],[]] (aw (λbZ=>gH [[t0 bZ],[]]) λbZ=>gA [[f0 bZ],[]] (aw (λbM=>gH [[f0 (cH bM)],[]]) λbM=>gH [[t0 (dq bM)],[]])))))))
def C6(N:Nat)(dH:ak4 (ak5×Int))(v1:aZ):ak4 ak5->Nat->Int->ak6 (Int×Int)
 |[],_,_=>
  some ((0:Int),(0:Int))
 |eP::gJ,v24,v28=>
  bif ((gv dH eP 0) !=2)then
   some (v28,(9:Int))
  else
   bif (decide (((v24:Int)).toNat<=v1.dU.length))then
   Option.bind (yr N ((v1.dU.take ((v24:Int)).toNat).drop 0) eP) λj6=>
   bif j6 then
    some (v28,(8:Int))
   else
    (λabr=>C6 N dH v1 gJ (v24+1) abr) (aK (v28+(1:Int)))
   else none
def yd(N:Nat)(v1:aZ):ak4 cv->Nat->Int->(ak4 (ak5×Int))->ak6 (Int×Int)
 |[],_,e8,dH=>
  C6 N dH v1 v1.dU 0 e8
 |_::v21,bH,e8,dH=>
  Option.bind (Fq N (bH:Int) v1 dH) λv30=>
  bif (v30.1 !=0)then
   some (e8,v30.1)
  else
   (λvv ajK=>yd N v1 v21 (bH+1) vv ajK) (aK (e8+(1:Int))) v30.2
def xm(N:Nat)(v1:aZ):ak4 eV->Nat->Int->(ak4 (ak5×Int))->ak6 (Int×Int)
 |[],_,bC,bW=>
  yd N v1 v1.aU 0 bC bW
 |aE::aP,v12,bC,bW=>
  (FM N aE v1 bW).bind λv31=>
  bif (v31.1 !=0)then
   some (bC,v31.1)
  else
   (λmX vL=>xm N v1 aP (v12+1) mX vL) (aK (bC+(1:Int))) v31.2
def DP(N:Nat)(v1:aZ)(v7:ak4 (ak5×Int)):ak4 gr->Nat->ak6 (Int×Int)
 |[],_=>
  xm N v1 v1.bu 0 (2:Int) v7
 |v10::v11,v8=>
  (F6 N v10 v1 v7).bind λyj=>
  bif (yj !=0)then
   some ((1:Int),yj)
  else
   (DP N v1 v7 v11 (v8+1))
def EU(N:Nat)(v1:aZ):ak4 ak5->Nat->(ak4 (ak5×Int))->ak6 (Int×Int)
 |[],_,v7=>
  DP N v1 v7 v1.dL 0
 |v5::v6,v3,v7=>
  Option.bind (w6 N v5 (1:Int) v1 v7) λiS=>
  bif (iS.1 !=0)then
   some ((0:Int),iS.1)
  else
   (λcq=>EU N v1 v6 (v3+1) cq) iS.2
def DV(N:Nat)(v1:aZ):ak6 (Int×Int):=
 (Fi N v1).bind λv2=>
 bif v2 then
  EU N v1 v1.bE 0 []
 else
  some ((0:Int),(2:Int))
def ru(v1:aZ)(v7:ak4 (ak5×Int))(l:ak4 ao):ak4 ao:= .cells (c7 v1).cells:: .map (fc v7):: .cells (fB v1 [(.mp 1)])::l
theorem aaf{N v1}:KO 60 [(c7 v1)] (λr=> .aW [(aq r.1),(aq r.2)]) (DV N v1):=
 fw Tryz.func60 (au λv2 J=>gA [[],[(4,cK aiB J)]] (ft λh2=>gA [[f0 (cH h2)],[],[(7,oL v1.bE fR)]] (gT jK 27 v1.bE λh4=>fq 1 [] [1,4,27,28,29] 3 (λv3(v7:ak4 (ak5×Int))=>⟨115,[(1,(.ptr 0 0)),(4,(.ptr 2 0)),(27,(.d (.sl (cW v1.bE)))),(28,(aq (v1.bE.length:Int))),(29,(aq (v3:Int)))],(ru v1 v7 [])⟩) (λv3 v7 h5 f1=>gA [[],[f0 (bK h5)],[(7,oL v1.dL nS)]] (gT Bi 41 v1.dL λh7=>dP 2 [] [1,4,41,42,43] 3 (λv8=>⟨115,[(1,(.ptr 0 0)),(4,(.ptr 2 0)),(41,(.d (.sl (mz v1.dL)))),(42,(aq (v1.dL.length:Int))),(43,(aq (v8:Int)))],(ru v1 v7 [])⟩) (λv8 h8 f2=>gA [[],[f0 (bK h8)],[],[(7,oL v1.bu lu)]] (gT zl 55 v1.bu λaO=>Cu 3 [] [1,4,11,55,56,57] 3 (λv12(bC:Int)(bW:ak4 (ak5×Int))=>⟨115,[(1,(.ptr 0 0)),(4,(.ptr 2 0)),(11,(aq bC)),(55,(.d (.sl (jW v1.bu)))),(56,(aq (v1.bu.length:Int))),(57,(aq (v12:Int)))],(ru v1 bW [])⟩) (λv12 bC bW aY f3=>gA [[],[f0 (bK aY)],[(7,oL v1.aU kp)]] (gB ud 0 3 v1.aU λbN=>Cu 4 [] [1,4,11,73,74] 3 (λbH(e8:Int)(dH:ak4 (ak5×Int))=>⟨115,[(1,(.ptr 0 0)),(4,(.ptr 2 0)),(11,(aq e8)),(73,(aq (v1.aU.length:Int))),(74,(aq (bH:Int)))],(ru v1 dH [])⟩) (λbH e8 dH bZ f4=>gA [[],[f0 (bK bZ)],[(7,oL v1.dU fR)]] (gT jK 88 v1.dU λcn=>fq 5 [] [1,4,11,88,89,90] 3 (λv24(v28:Int)=>⟨115,[(1,(.ptr 0 0)),(4,(.ptr 2 0)),(11,(aq v28)),(88,(.d (.sl (cW v1.dU)))),(89,(aq (v1.dU.length:Int))),(90,(aq (v24:Int)))],(ru v1 dH [])⟩) (λv24 v28 dj f5=>gR [[],[f0 (bK dj)],[]]) (λv24 eP gJ v28 dj f5 hf5=>gA [[],[t0 (bJ dj)],[(4,oE (mo (bm dj)))],[(17,⟨_,_, .eq (Ds false dH eP)⟩)]] (bj λeC=>dh λfu=>au λj6 dD=>gA [[f0 eC],[(10,⟨_,_, .sub (xs:=cW v1.dU) (lo:=0) (hi:=(v24:Int)) (by decide) (Nat.zero_le _) (of_decide_eq_true (akX (Int.natCast_nonneg _))) (by rw[fR];exact(of_decide_eq_true fu)) yL On⟩),(16,cK QU dD)]] (bj λfW=>gb hf5 (aK (v28+(1:Int))) [[f0 fW],[],[(2,oq (bS dj rfl cn))]] dj))))) (λbH v20 v21 e8 dH bZ f4 mA=>au λv30 iu=>gA [[],[t0 (bJ bZ)],[],[(7,oR [(.ptr 2 0),(aq (bH:Int))] (ru v1 dH []) [2,1] (aaN _ iu))],[]] (bj λfe=>gb mA ((aK (e8+(1:Int))),v30.2) [[f0 fe],[],[(2,oq (bS bZ rfl bN))]] bZ)))) (λv12 aE aP bC bW aY f3 j9=>au λv31 fE=>gA [[],[t0 (bJ aY)],[(1,oE (na (bm aY)))],[(7,oR [(.ptr 2 0),(nb aE)] (ru v1 bW [.cells (nb aE).cells]) [2,1] (aey _ fE))],[]] (bj λlO=>gb j9 ((aK (bC+(1:Int))),v31.2) [[f0 lO],[],[(2,oq (bS aY rfl aO))]] aY)))) (λv8 v10 v11 h8 f2 dT=>au λyj mc=>gA [[],[t0 (bJ h8)],[(1,oE (Cp (bm h8)))],[(7,oQ [(.ptr 2 0),(qv v10)] (ru v1 v7 [.cells (qv v10).cells]) [2,1] (ad5 _ mc))],[]] (bj λgq=>gb dT () [[f0 gq],[(2,oq (bS h8 rfl h7))]] h8)))) (λv3 v5 v6 v7 h5 f1 aG=>au λiS lA=>gA [[],[t0 (bJ h5)],[(1,oE (mo (bm h5)))],[(7,oR [(.ptr 2 0),(c6 v5),(aq (1:Int))] (ru v1 v7 []) [2,1] (N7 _ lA))],[]] (bj λpO=>gb aG iS.2 [[f0 pO],[(2,oq (bS h5 rfl h4))]] h5)))))
def KS(N:Nat)(v1:aX)(v2:ak5):ak6 Bool:=
 some (bL v1.aF==bL v2)
theorem Yx{N v1 v2}:KP 41 [(IB v1),(.ptr 0 0)] [.cells [(c6 v2)]] ax (λ_=>[.cells [(c6 v2)]]) (KS N v1 v2):=
 fh 1 Tryz.func41 (gH [[],[]])
def Ah(N:Nat)(v2:ak5):ak4 aX->Nat->ak6 Int
 |[],_=>
  some (-1:Int)
 |v5::v6,v3=>
  (KS N v5 v2).bind λv7=>
  bif v7 then
   some (v3:Int)
  else
   (Ah N v2 v6 (v3+1))
def NV(N:Nat)(v1:ak4 aX)(v2:ak5):ak6 Int:=
 Ah N v2 v1 0
theorem ajc{N v1 v2}:KP 40 [(.d (.sl (aN v1))),(.fn 41 [(.ptr 0 0)])] [.cells [(c6 v2)]] aq (λ_=>[.cells [(c6 v2)]]) (NV N v1 v2):=
 fh 1 Tryz.func40 (gA [[],[(4,oL v1 nI)]] (gT ve 0 v1 λh2=>dP 1 [] [0,1,7,8] 1 (λv3=>⟨19,[(0,(.d (.sl (aN v1)))),(1,(.fn 41 [(.ptr 0 0)])),(7,(aq (v1.length:Int))),(8,(aq (v3:Int)))],[.cells [(c6 v2)]]⟩) (λv3 h3 f1=>gH [[],[f0 (bK h3)],[]]) (λv3 v5 v6 h3 f1 aG=>au λv7 h4=>gA [[],[t0 (bJ h3)],[],[(10,oE (qb (bm h3))),(16,oQ [(IB v5),(.ptr 0 0)] [.cells [(c6 v2)]] [0] (Yx _ h4))]] (aw (λh5=>gH [[t0 h5],[]]) λh5=>gb aG () [[f0 h5],[(2,oq (bS h3 rfl h2))]] h3))))
def zW(N:Nat)(v1:Int64):ak6 Int:=
 bif (decide (v1.toInt<0))then
  some (IntKind.u64.wrap (0-(IntKind.u64.wrap v1.toInt)))
 else
  some (IntKind.u64.wrap v1.toInt)
theorem O1{N v1}:KO 137 [(bG v1)] (λr=> .d (.v (.int .u64 r))) (zW N v1):=
 fw Tryz.func137 (gA [[],[]] (bj λJ=>gR [[f0 J],[]]))
def Ci(N:Nat)(v4:jx)(v7:Int)(v5:Int)(v8:Int)(v6:Int)(v10:Int):ak6 (Int×Int×Int):=
 some ((IntKind.u64.wrap (v4.mL+(IntKind.u64.wrap (v7+v10)))),(IntKind.u64.wrap ((IntKind.u64.wrap (v4.kL+v5))+v8)),(IntKind.u64.wrap (v4.jN+v6)))
def uS(N:Nat)(v4:jx)(v5:Int)(v8:Int)(v7:Int)(v6:Int)(v9:Int):ak6 (Int×Int×Int):=
 bif (decide ((IntKind.u64.wrap ((IntKind.u64.wrap (v4.kL+v5))+v8))<(IntKind.u64.wrap (v4.kL+v5))))then
  Ci N v4 v7 v5 v8 v6 (IntKind.u64.wrap (v9+(1:Int)))
 else
  Ci N v4 v7 v5 v8 v6 v9
def vR(N:Nat)(v4:jx)(v5:Int)(v7:Int)(v6:Int)(v8:Int):ak6 (Int×Int×Int):=
 bif (decide ((IntKind.u64.wrap (v4.kL+v5))<v5))then
  uS N v4 v5 v8 v7 v6 (1:Int)
 else
  uS N v4 v5 v8 v7 v6 (0:Int)
def rk(N:Nat)(v4:jx)(v5:Int)(v6:Int)(v7:Int):ak6 (Int×Int×Int):=
 bif (decide ((IntKind.u64.wrap (v4.jN+v6))<v6))then
  vR N v4 v5 v7 v6 (1:Int)
 else
  vR N v4 v5 v7 v6 (0:Int)
def xP(N:Nat)(v1:Int)(v2:Int)(v3:Bool)(v4:jx):ak6 (Int×Int×Int):=
 bif v3 then
  bif ((IntKind.u64.wrap ((IntKind.u64.wrap ((BitVec.ofInt (IntKind.bits .u64) (IntKind.max .u64)^^^BitVec.ofInt (IntKind.bits .u64) v2).toNat:Int))+(1:Int)))==0)then
   bif ((IntKind.u64.wrap ((IntKind.u64.wrap ((BitVec.ofInt (IntKind.bits .u64) (IntKind.max .u64)^^^BitVec.ofInt (IntKind.bits .u64) v1).toNat:Int))+(1:Int)))==0)then
    rk N v4 (IntKind.u64.wrap ((IntKind.u64.wrap ((BitVec.ofInt (IntKind.bits .u64) (IntKind.max .u64)^^^BitVec.ofInt (IntKind.bits .u64) v1).toNat:Int))+(1:Int))) (IntKind.u64.wrap ((IntKind.u64.wrap ((BitVec.ofInt (IntKind.bits .u64) (IntKind.max .u64)^^^BitVec.ofInt (IntKind.bits .u64) v2).toNat:Int))+(1:Int))) (IntKind.u64.wrap ((IntKind.u64.wrap ((BitVec.ofInt (IntKind.bits .u64) (IntKind.max .u64)^^^BitVec.ofInt (IntKind.bits .u64) (0:Int)).toNat:Int))+(1:Int)))
   else
    rk N v4 (IntKind.u64.wrap ((IntKind.u64.wrap ((BitVec.ofInt (IntKind.bits .u64) (IntKind.max .u64)^^^BitVec.ofInt (IntKind.bits .u64) v1).toNat:Int))+(1:Int))) (IntKind.u64.wrap ((IntKind.u64.wrap ((BitVec.ofInt (IntKind.bits .u64) (IntKind.max .u64)^^^BitVec.ofInt (IntKind.bits .u64) v2).toNat:Int))+(1:Int))) (IntKind.u64.wrap ((BitVec.ofInt (IntKind.bits .u64) (IntKind.max .u64)^^^BitVec.ofInt (IntKind.bits .u64) (0:Int)).toNat:Int))
  else
   rk N v4 (IntKind.u64.wrap ((BitVec.ofInt (IntKind.bits .u64) (IntKind.max .u64)^^^BitVec.ofInt (IntKind.bits .u64) v1).toNat:Int)) (IntKind.u64.wrap ((IntKind.u64.wrap ((BitVec.ofInt (IntKind.bits .u64) (IntKind.max .u64)^^^BitVec.ofInt (IntKind.bits .u64) v2).toNat:Int))+(1:Int))) (IntKind.u64.wrap ((BitVec.ofInt (IntKind.bits .u64) (IntKind.max .u64)^^^BitVec.ofInt (IntKind.bits .u64) (0:Int)).toNat:Int))
 else
  rk N v4 v1 v2 (0:Int)
def Vg(v4:jx)(v6:Int)(l:ak4 ao):ak4 ao:= .cells [(.d (.v (.int .u64 v4.mL))),(.d (.v (.int .u64 v4.kL))),(.d (.v (.int .u64 (IntKind.u64.wrap (v4.jN+v6)))))]::l
theorem WG{N v1 v2 v3 v4 r}(U:xP N v1 v2 v3 v4=some r):KH 136 [(.ptr 0 0),(.d (.v (.int .u64 v1))),(.d (.v (.int .u64 v2))),(ax v3)] ([.cells (AO v4).cells]) (.aW []) ([.cells [(.d (.v (.int .u64 r.1))),(.d (.v (.int .u64 r.2.1))),(.d (.v (.int .u64 r.2.2)))]]):=by
 rw[xP]at U;refine Cd 1 Tryz.func136 ?_;refine FX bB 1 [[],[]] [0,1,2,8] 1 (λ((v5,v6,v7):Int×Int×Int)=>⟨76,[(0,(.ptr 0 0)),(1,(.d (.v (.int .u64 v5)))),(2,(.d (.v (.int .u64 v6)))),(8,(.d (.v (.int .u64 v7))))],[.cells (AO v4).cells]⟩) (λ((v5,v6,v7):Int×Int×Int)=>rk N v4 v5 v6 v7=some r) ?_ ?_
 ·intro f1 aG;apply bc U<;>intro h4 U
  ·refine gp bB [[(0,bT h4)],[],[],[]] ?_;apply bc U<;>intro h5 U
   ·refine gp bB [[(0,bT h5)],[],[]] ?_;apply bc U<;>intro h6 U
    ·exact kM bB aG ((IntKind.u64.wrap ((IntKind.u64.wrap ((BitVec.ofInt (IntKind.bits .u64) (IntKind.max .u64)^^^BitVec.ofInt (IntKind.bits .u64) v1).toNat:Int))+(1:Int))),(IntKind.u64.wrap ((IntKind.u64.wrap ((BitVec.ofInt (IntKind.bits .u64) (IntKind.max .u64)^^^BitVec.ofInt (IntKind.bits .u64) v2).toNat:Int))+(1:Int))),(IntKind.u64.wrap ((IntKind.u64.wrap ((BitVec.ofInt (IntKind.bits .u64) (IntKind.max .u64)^^^BitVec.ofInt (IntKind.bits .u64) (0:Int)).toNat:Int))+(1:Int)))) [[(0,bT h6)],[]] U
    exact kM bB aG ((IntKind.u64.wrap ((IntKind.u64.wrap ((BitVec.ofInt (IntKind.bits .u64) (IntKind.max .u64)^^^BitVec.ofInt (IntKind.bits .u64) v1).toNat:Int))+(1:Int))),(IntKind.u64.wrap ((IntKind.u64.wrap ((BitVec.ofInt (IntKind.bits .u64) (IntKind.max .u64)^^^BitVec.ofInt (IntKind.bits .u64) v2).toNat:Int))+(1:Int))),(IntKind.u64.wrap ((BitVec.ofInt (IntKind.bits .u64) (IntKind.max .u64)^^^BitVec.ofInt (IntKind.bits .u64) (0:Int)).toNat:Int))) [[(0,bF h6)]] U
   exact kM bB aG ((IntKind.u64.wrap ((BitVec.ofInt (IntKind.bits .u64) (IntKind.max .u64)^^^BitVec.ofInt (IntKind.bits .u64) v1).toNat:Int)),(IntKind.u64.wrap ((IntKind.u64.wrap ((BitVec.ofInt (IntKind.bits .u64) (IntKind.max .u64)^^^BitVec.ofInt (IntKind.bits .u64) v2).toNat:Int))+(1:Int))),(IntKind.u64.wrap ((BitVec.ofInt (IntKind.bits .u64) (IntKind.max .u64)^^^BitVec.ofInt (IntKind.bits .u64) (0:Int)).toNat:Int))) [[(0,bF h5)]] U
  exact kM bB aG (v1,v2,(0:Int)) [[(0,bF h4)]] U
 rintro⟨v5,v6,v7⟩ U
 try dsimp only at U
 rw[rk]at U;refine A3 bB r 2 [[],[],[]] [0,1,8,9] 1 (λ(v8:Int)=>⟨76,[(0,(.ptr 0 0)),(1,(.d (.v (.int .u64 v5)))),(8,(.d (.v (.int .u64 v7)))),(9,(.d (.v (.int .u64 v8))))],(Vg v4 v6 [])⟩) (vR N v4 v5 v7 v6) ?_ ?_
 ·intro f2 dT;apply bc U<;>intro h3 U
  ·exact kM bB dT (1:Int) [[(0,bT h3)],[]] U
  exact kM bB dT (0:Int) [[(0,bF h3)]] U
 intro v8 U;rw[vR]at U;refine A3 bB r 3 [[],[],[]] [0,8,9,10,11] 1 (λ(v9:Int)=>⟨76,[(0,(.ptr 0 0)),(8,(.d (.v (.int .u64 v7)))),(9,(.d (.v (.int .u64 v8)))),(10,(.d (.v (.int .u64 (IntKind.u64.wrap (v4.kL+v5)))))),(11,(.d (.v (.int .u64 v9))))],(Vg v4 v6 [])⟩) (uS N v4 v5 v8 v7 v6) ?_ ?_
 ·intro f3 j9;apply bc U<;>intro h2 U
  ·exact kM bB j9 (1:Int) [[(0,bT h2)],[]] U
  exact kM bB j9 (0:Int) [[(0,bF h2)]] U
 intro v9 U;rw[uS]at U;refine A3 bB r 4 [[],[]] [0,8,11] 1 (λ(v10:Int)=>⟨76,[(0,(.ptr 0 0)),(8,(.d (.v (.int .u64 v7)))),(11,(.d (.v (.int .u64 v10))))],[.cells [(.d (.v (.int .u64 v4.mL))),(.d (.v (.int .u64 (IntKind.u64.wrap ((IntKind.u64.wrap (v4.kL+v5))+v8))))),(.d (.v (.int .u64 (IntKind.u64.wrap (v4.jN+v6)))))]]⟩) (Ci N v4 v7 v5 v8 v6) ?_ ?_
 ·intro f4 mA;apply bc U<;>intro J U
  ·exact kM bB mA (IntKind.u64.wrap (v9+(1:Int))) [[(0,bT J)],[]] U
  exact kM bB mA v9 [[(0,bF J)]] U
 intro v10 U;rw[Ci]at U;cases U;exact l8 bB [[]]
def Ow(N:Nat)(v1:aX)(v2:dK):ak6 Bool:=
 some (bL v1.aF==bL v2.aF)
theorem ajq{N v1 v2}:KP 138 [(IB v1),(.ptr 0 0)] [.cells (qP v2).cells] ax (λ_=>[.cells (qP v2).cells]) (Ow N v1 v2):=
 fh 1 Tryz.func138 (gH [[],[]])
def yX(N:Nat)(v2:dK):ak4 aX->Nat->ak6 Int
 |[],_=>
  some (-1:Int)
 |v5::v6,v3=>
  (Ow N v5 v2).bind λv7=>
  bif v7 then
   some (v3:Int)
  else
   (yX N v2 v6 (v3+1))
def NR(N:Nat)(v1:ak4 aX)(v2:dK):ak6 Int:=
 yX N v2 v1 0
theorem ah0{N v1 v2}:KP 40 [(.d (.sl (aN v1))),(.fn 138 [(.ptr 0 0)])] [.cells (qP v2).cells] aq (λ_=>[.cells (qP v2).cells]) (NR N v1 v2):=
 fh 1 Tryz.func40 (gA [[],[(4,oL v1 nI)]] (gT ve 0 v1 λh2=>dP 1 [] [0,1,7,8] 1 (λv3=>⟨19,[(0,(.d (.sl (aN v1)))),(1,(.fn 138 [(.ptr 0 0)])),(7,(aq (v1.length:Int))),(8,(aq (v3:Int)))],[.cells (qP v2).cells]⟩) (λv3 h3 f1=>gH [[],[f0 (bK h3)],[]]) (λv3 v5 v6 h3 f1 aG=>au λv7 h4=>gA [[],[t0 (bJ h3)],[],[(10,oE (qb (bm h3))),(16,oQ [(IB v5),(.ptr 0 0)] [.cells (qP v2).cells] [0] (ajq _ h4))]] (aw (λh5=>gH [[t0 h5],[]]) λh5=>gb aG () [[f0 h5],[(2,oq (bS h3 rfl h2))]] h3))))
def IY(N:Nat)(v1:Int)(v2:Int):ak6 (Int×Int):=
 some ((IntKind.u64.wrap ((IntKind.u64.wrap ((IntKind.u64.wrap (((v1).fdiv (2^(min ((32:Int)).toNat (IntKind.bits .u64))))*((v2).fdiv (2^(min ((32:Int)).toNat (IntKind.bits .u64))))))+(((IntKind.u64.wrap ((IntKind.u64.wrap (((v1).fdiv (2^(min ((32:Int)).toNat (IntKind.bits .u64))))*(IntKind.u64.wrap ((BitVec.ofInt (IntKind.bits .u64) v2&&&BitVec.ofInt (IntKind.bits .u64) (4294967295:Int)).toNat:Int))))+(((IntKind.u64.wrap ((IntKind.u64.wrap ((BitVec.ofInt (IntKind.bits .u64) v1&&&BitVec.ofInt (IntKind.bits .u64) (4294967295:Int)).toNat:Int))*(IntKind.u64.wrap ((BitVec.ofInt (IntKind.bits .u64) v2&&&BitVec.ofInt (IntKind.bits .u64) (4294967295:Int)).toNat:Int))))).fdiv (2^(min ((32:Int)).toNat (IntKind.bits .u64))))))).fdiv (2^(min ((32:Int)).toNat (IntKind.bits .u64))))))+(((IntKind.u64.wrap ((IntKind.u64.wrap ((IntKind.u64.wrap ((BitVec.ofInt (IntKind.bits .u64) v1&&&BitVec.ofInt (IntKind.bits .u64) (4294967295:Int)).toNat:Int))*((v2).fdiv (2^(min ((32:Int)).toNat (IntKind.bits .u64))))))+(IntKind.u64.wrap ((BitVec.ofInt (IntKind.bits .u64) (IntKind.u64.wrap ((IntKind.u64.wrap (((v1).fdiv (2^(min ((32:Int)).toNat (IntKind.bits .u64))))*(IntKind.u64.wrap ((BitVec.ofInt (IntKind.bits .u64) v2&&&BitVec.ofInt (IntKind.bits .u64) (4294967295:Int)).toNat:Int))))+(((IntKind.u64.wrap ((IntKind.u64.wrap ((BitVec.ofInt (IntKind.bits .u64) v1&&&BitVec.ofInt (IntKind.bits .u64) (4294967295:Int)).toNat:Int))*(IntKind.u64.wrap ((BitVec.ofInt (IntKind.bits .u64) v2&&&BitVec.ofInt (IntKind.bits .u64) (4294967295:Int)).toNat:Int))))).fdiv (2^(min ((32:Int)).toNat (IntKind.bits .u64))))))&&&BitVec.ofInt (IntKind.bits .u64) (4294967295:Int)).toNat:Int))))).fdiv (2^(min ((32:Int)).toNat (IntKind.bits .u64)))))),(IntKind.u64.wrap (v1*v2)))
theorem Zl{N v1 v2}:KO 139 [(.d (.v (.int .u64 v1))),(.d (.v (.int .u64 v2)))] (λr=> .aW [(.d (.v (.int .u64 r.1))),(.d (.v (.int .u64 r.2)))]) (IY N v1 v2):=
 fw Tryz.func139 (gR [[],[],[(4,⟨_,_, .nn (b:=32) (by decide)⟩),(19,⟨_,_, .nn (b:=32) (by decide)⟩)],[(10,⟨_,_, .nn (b:=32) (by decide)⟩)],[(4,⟨_,_, .nn (b:=32) (by decide)⟩),(10,⟨_,_, .nn (b:=32) (by decide)⟩),(19,⟨_,_, .nn (b:=32) (by decide)⟩),(28,⟨_,_, .nn (b:=32) (by decide)⟩)]])
def FT(N:Nat)(v1:jx):ak6 (Int64×Bool):=
 Option.bind (bif (v1.kL==(IntKind.u64.wrap (Int64.ofInt (((Int64.ofInt v1.jN).toInt).fdiv (2^(min ((63:Int)).toNat (IntKind.bits .i64))))).toInt))then some (v1.mL==(IntKind.u64.wrap (Int64.ofInt (((Int64.ofInt v1.jN).toInt).fdiv (2^(min ((63:Int)).toNat (IntKind.bits .i64))))).toInt))else some false) λv2=>
 some ((Int64.ofInt v1.jN),v2)
theorem adR{N v1}:KP 140 [(.ptr 0 0)] [.cells (AO v1).cells] (λr=> .aW [(bG r.1),(ax r.2)]) (λ_=>[.cells (AO v1).cells]) (FT N v1):=
 fh 1 Tryz.func140 (gA [[],[(14,⟨_,_, .eq (jt v1.jN)⟩)],[(4,⟨_,_, .nn (b:=63) (by decide)⟩),(5,⟨_,_, .eq (Qw (Int64.ofInt v1.jN) (min ((63:Int)).toNat (IntKind.bits .i64)))⟩)]] (gG (λv2=>[(2,(bG (Int64.ofInt v1.jN))),(3,(ax v2))]) (λ_=>[.cells (AO v1).cells]) (aw (λJ=>gE [(7,bT J)] []) λJ=>gE [(7,bF J)] []) λv2=>gH []))
def B5(N:Nat)(v2:ak4 aX):ak4 dK->Nat->Int->Int->Int->ak6 (Int64×Int)
 |[],_,v10,v11,v12=>
  Option.bind (FT N (⟨v10,v11,v12⟩:jx)) λaA=>
  bif aA.2 then
   some (aA.1,(0:Int))
  else
   some ((0:Int64),(3:Int))
 |v8::v9,v6,v10,v11,v12=>
  (NR N v2 v8).bind λaE=>
  bif (decide (aE<0))then
   some ((0:Int64),(9:Int))
  else
   bif (decide ((0:Int)<=aE))then
   Option.bind (v2[(aE).toNat]?) λaP=>
   (zW N v8.eN).bind λbC=>
   (zW N aP.dS).bind λbW=>
   (IY N bC bW).bind λbH=>
   Option.bind (xP N bH.1 bH.2 (!((decide (v8.eN.toInt<0))==(decide (aP.dS.toInt<0)))) (⟨v10,v11,v12⟩:jx)) λcd=>
   (λcq fS uM=>B5 N v2 v9 (v6+1) cq fS uM) cd.1 cd.2.1 cd.2.2
   else none
def tb(N:Nat)(v1:bp)(v2:ak4 aX):ak6 (Int64×Int):=
 (yz N v1).bind λv3=>
 bif (v3 !=0)then
  some ((0:Int64),(1:Int))
 else
  (zW N v1.xK).bind λv4=>
  Option.bind (xP N (0:Int) v4 (decide (v1.xK.toInt<0)) R4) λv5=>
  B5 N v2 v1.xL 0 v5.1 v5.2.1 v5.2.2
def EP(v1:bp)(v10:Int)(v11:Int)(v12:Int)(l:ak4 ao):ak4 ao:= .cells (dN v1).cells:: .cells [(.d (.v (.int .u64 v10))),(.d (.v (.int .u64 v11))),(.d (.v (.int .u64 v12)))]::l
theorem Dl{N v1 v2}:KO 80 [(dN v1),(.d (.sl (aN v2)))] (λr=> .aW [(bG r.1),(aq r.2)]) (tb N v1 v2):=
 fw Tryz.func80 (au λv3 J=>gA [[],[(4,cK Is J)]] (fU λ_=>au λv4 h3=>au λv5 h4=>li (λ_=>(w7 bB [(7,cK O1 h3),(19,oR [(.ptr 1 0),(.d (.v (.int .u64 (0:Int)))),(.d (.v (.int .u64 v4))),(ax (decide (v1.xK.toInt<0)))] [.cells (dN v1).cells, .cells [(.d (.v (.int .u64 (0:Int)))),(.d (.v (.int .u64 (0:Int)))),(.d (.v (.int .u64 (0:Int))))]] [1] (WG h4))] [] [.cells (dN v1).cells, .cells [(.d (.v (.int .u64 v5.1))),(.d (.v (.int .u64 v5.2.1))),(.d (.v (.int .u64 v5.2.2)))]] ·)) (gA [[(7,oL v1.xL iZ)]] (gT tT 26 v1.xL λh6=>gl3 1 [] [1,6,26,27,28] 2 (λv6(v10:Int)(v11:Int)(v12:Int)=>⟨68,[(1,(.d (.sl (aN v2)))),(6,(.ptr 1 0)),(26,(.d (.sl (ga v1.xL)))),(27,(aq (v1.xL.length:Int))),(28,(aq (v6:Int)))],(EP v1 v10 v11 v12 [])⟩) (λv6 v10 v11 v12 h7 f1=>au λaA h8=>gA [[],[f0 (bK h7)],[(1,oQ [(.ptr 1 0)] (EP v1 v10 v11 v12 []) [1] (adR _ h8))],[]] (mD λh9=>gR [[t0 (dq h9)],[]])) (λv6 v8 v9 v10 v11 v12 h7 f1 aG=>au λaE aO=>gA [[],[t0 (bJ h7)],[(1,oE (lX (bm h7)))],[(7,oQ [(.d (.sl (aN v2))),(.fn 138 [(.ptr 2 0)])] (EP v1 v10 v11 v12 [.cells (qP v8).cells]) [2] (ah0 _ aO))],[]] (bj λaY=>dh λbN=>au λaP aT=>au λbC bZ=>au λbW bM=>au λbH cn=>au λcd dj=>gb aG (cd.1,cd.2.1,cd.2.2) [[f0 aY],[(7,⟨_,_, .el (xs:=aN v2) (i:=aE) (of_decide_eq_true bN) (qb aT)⟩)],[(7,cK O1 bZ),(13,cK O1 bM),(16,cK Zl cn)],[(25,oR [(.ptr 1 0),(.d (.v (.int .u64 bH.1))),(.d (.v (.int .u64 bH.2))),(ax (!((decide (v8.eN.toInt<0))==(decide (aP.dS.toInt<0)))))] (EP v1 v10 v11 v12 [.cells (qP v8).cells]) [1] (WG dj))],[(2,oq (bS h7 rfl h6))]] h7))))))
def FU(N:Nat)(v1:gr)(v2:ak4 aX):ak6 (Bool×Int):=
 (tb N v1.bO v2).bind λv3=>
 bif (v3.2 !=0)then
  some (false,v3.2)
 else
  Option.bind (bif (v3.1.toInt==0)then some true else(bif (decide (v3.1.toInt>0))then some (!v1.BX)else some false)) λv4=>
  some (v4,(0:Int))
theorem agc{N v1 v2}:KO 42 [(qv v1),(.d (.sl (aN v2)))] (λr=> .aW [(ax r.1),(aq r.2)]) (FU N v1 v2):=
 fw Tryz.func42 (au λv3 J=>gA [[],[(10,cK Dl J)],[]] (bj λh2=>gA [[f0 h2]] (gG (λv4=>[(4,(ax v4)),(5,(aq (0:Int)))]) (λ_=>[.cells (qv v1).cells]) (aw (λh3=>gE [(2,bT h3),(5,uN)] []) λh3=>cr (2,bF h3) (aw (λh4=>gE [(5,bT h4)] [(28,bT h4)]) λh4=>gE [(5,bF h4)] [(28,bF h4)])) λv4=>gR [])))
def FG(N:Nat)(v2:ak4 aX):ak4 gr->Nat->ak6 Int
 |[],_=>
  some (0:Int)
 |v9::v10,v7=>
  (FU N v9 v2).bind λv11=>
  bif (v11.2 !=0)then
   some v11.2
  else
   bif v11.1 then
    (FG N v2 v10 (v7+1))
   else
    some (16:Int)
def E5(N:Nat)(v2:ak4 aX)(v1:aZ):ak4 ak5->Nat->ak6 Int
 |[],_=>
  FG N v2 v1.dL 0
 |v5::v6,v3=>
  (NV N v2 v5).bind λv12=>
  Option.bind (bif (decide (v12<0))then some true else bif (decide ((0:Int)<=v12))then
  Option.bind (v2[(v12).toNat]?) λaA=>
  (bif (decide (aA.dS.toInt<1))then some true else some (decide (aA.dS.toInt>4096)))
  else none) λaE=>
  bif aE then
   some (15:Int)
  else
   (E5 N v2 v1 v6 (v3+1))
def BY(N:Nat)(v1:aZ)(v2:ak4 aX):ak6 Int:=
 bif ((v2.length:Int) !=(v1.bE.length:Int))then
  some (15:Int)
 else
  E5 N v2 v1 v1.bE 0
theorem Xr{N v1 v2}:KO 17 [(c7 v1),(.d (.sl (aN v2)))] aq (BY N v1 v2):=
 fw Tryz.func17 (gA [[],[(4,oL v2 nI),(13,oL v1.bE fR)]] (bj λJ=>gA [[f0 J],[(7,oL v1.bE fR)]] (gT jK 19 v1.bE λh3=>dP 1 [] [1,2,19,20,21] 1 (λv3=>⟨66,[(1,(.d (.sl (aN v2)))),(2,(.ptr 0 0)),(19,(.d (.sl (cW v1.bE)))),(20,(aq (v1.bE.length:Int))),(21,(aq (v3:Int)))],[.cells (c7 v1).cells]⟩) (λv3 h4 f1=>gA [[],[f0 (bK h4)],[(7,oL v1.dL nS)]] (gT Bi 48 v1.dL λh6=>dP 2 [] [1,48,49,50] 1 (λv7=>⟨66,[(1,(.d (.sl (aN v2)))),(48,(.d (.sl (mz v1.dL)))),(49,(aq (v1.dL.length:Int))),(50,(aq (v7:Int)))],[.cells (c7 v1).cells]⟩) (λv7 h7 f2=>gR [[],[f0 (bK h7)],[]]) (λv7 v9 v10 h7 f2 dT=>au λv11 h8=>gA [[],[t0 (bJ h7)],[(1,oE (Cp (bm h7)))],[(7,cK agc h8)],[]] (fU λ_=>ft λaO=>gb dT () [[f0 (cH aO)],[(2,oq (bS h7 rfl h6))]] h7)))) (λv3 v5 v6 h4 f1 aG=>au λv12 aY=>gA [[],[t0 (bJ h4)],[(1,oE (mo (bm h4)))],[(7,oQ [(.d (.sl (aN v2))),(.fn 41 [(.ptr 1 0)])] [.cells (c7 v1).cells, .cells [(c6 v5)]] [1] (ajc _ aY))]] (gG (λaE=>[(45,(ax aE))]) (λ_=>[.cells (c7 v1).cells, .cells [(c6 v5)]]) (aw (λaT=>gE [(2,bT aT),(10,bT rfl)] []) λaT=>dh λbZ=>au λaA bN=>cr (2,bF aT) (c9 (16,⟨_,_, .el (xs:=aN v2) (i:=v12) (of_decide_eq_true bZ) (qb bN)⟩) (aw (λbM=>gE [(10,bT bM)] []) λbM=>gE [(10,bF bM)] [(40,⟨_,_, .el (xs:=aN v2) (i:=v12) (of_decide_eq_true bZ) (qb bN)⟩)]))) λaE=>bj λdj=>gb aG () [[f0 dj],[(2,oq (bS h4 rfl h3))]] h4)))))
def Df(N:Nat)(v1:aZ)(v2:ak4 aX):ak6 Int:=
 (DV N v1).bind λv3=>
 bif (v3.2 !=0)then
  some v3.2
 else
  (BY N v1 v2).bind λv4=>
  some v4
theorem R7{N v1 v2}:KO 32 [(c7 v1),(.d (.sl (aN v2)))] aq (Df N v1 v2):=
 fw Tryz.func32 (au λv3 J=>gA [[],[(4,cK aaf J)],[]] (bj λh2=>au λv4 h3=>gR [[f0 h2],[(7,cK Xr h3)]]))
def Eh(N:Nat)(v2:ak4 aX):ak4 bp->Nat->(ak4 Int)->ak6 ((ak4 Int)×Int)
 |[],_,v7=>
  some (v7,(0:Int))
 |v5::v6,v3,v7=>
  (tb N v5 v2).bind λv8=>
  bif (v8.2 !=0)then
   some ([],v8.2)
  else
   Option.bind (bif (decide (v8.1.toInt<1))then some true else some (decide (v8.1.toInt>4096))) λv9=>
   bif v9 then
    some ([],(15:Int))
   else
    bif (Nat.ble ((v7.length+1)*8) 140737488355328)then
    (λcq=>Eh N v2 v6 (v3+1) cq) (v7++[v8.1.toInt])
    else none
def F5(N:Nat)(v1:ak4 bp)(v2:ak4 aX):ak6 ((ak4 Int)×Int):=
 Eh N v2 v1 0 []
theorem UF{N v1 v2}:KO 61 [(.d (.sl (eW v1))),(.d (.sl (aN v2)))] (λr=> .aW [(.d (.sl (bq r.1))),(aq r.2)]) (F5 N v1 v2):=
 fw Tryz.func61 (gA [[],[],[(4,oL v1 fy)]] (li (λ_=>(mG 6 3 1 [] (.inr (by kernel_rfl)) ·)) (gT mv 0 v1 λh2=>fq 1 [] [1,6,11,12,13] 1 (λv3(v7:ak4 Int)=>⟨38,[(1,(.d (.sl (aN v2)))),(6,(.own 0 (bq v7))),(11,(.d (.sl (eW v1)))),(12,(aq (v1.length:Int))),(13,(aq (v3:Int)))],[.front 3 1 v7.length]⟩) (λv3 v7 h3 f1=>gR [[],[f0 (bK h3)],[]]) (λv3 v5 v6 v7 h3 f1 aG=>au λv8 h4=>gA [[],[t0 (bJ h3)],[(1,oE (ng (bm h3)))],[(7,cK Dl h4)],[]] (bj λh5=>gA [[f0 h5]] (gG (λv9=>[(31,(ax v9))]) (λ_=>[.front 3 1 v7.length, .cells (dN v5).cells]) (aw (λh6=>gE [(2,bT h6)] []) λh6=>gE [(2,bF h6)] []) λv9=>bj λh8=>dh λh9=>gb aG (v7++[v8.1.toInt]) [[f0 h8],[(10,oA lJ v7 ([v8.1.toInt]) h9)],[(2,oq (bS h3 rfl h2))]] h3))))))
def AU(N:Nat)(v2:Int):ak4 Int->Nat->Int->ak6 Int
 |[],_,v7=>
  some v7
 |v5::v6,v3,v7=>
  bif (decide ((aK (v7*v5))>v2))then
   some (aK (v2+(1:Int)))
  else
   (λcq=>AU N v2 v6 (v3+1) cq) (aK (v7*v5))
def K7(N:Nat)(v1:ak4 Int)(v2:Int):ak6 Int:=
 AU N v2 v1 0 (1:Int)
theorem ael{N v1 v2}:KO 63 [(.d (.sl (bq v1))),(aq v2)] aq (K7 N v1 v2):=
 fw Tryz.func63 (gA [[],[],[(4,oL v1 fQ)]] (gT lJ 0 v1 λh2=>fq 1 [] [1,5,8,9,10] 0 (λv3(v7:Int)=>⟨24,[(1,(aq v2)),(5,(aq v7)),(8,(.d (.sl (bq v1)))),(9,(aq (v1.length:Int))),(10,(aq (v3:Int)))],[]⟩) (λv3 v7 h3 f1=>gR [[],[f0 (bK h3)],[]]) (λv3 v5 v6 v7 h3 f1 aG=>gA [[],[t0 (bJ h3)],[(1,oE (jb (bm h3)))],[],[]] (bj λh4=>gb aG (aK (v7*v5)) [[f0 h4],[(2,oq (bS h3 rfl h2))]] h3))))
def uU(N:Nat)(v1:aZ)(v2:ak4 aX)(v3:ak5):ak6 ((ak4 Int)×aV×Int):=
 (Cg N v1 v3).bind λv4=>
 bif v4.2.2 then
  (F5 N v4.2.1 v2).bind λv5=>
  bif (v5.2 !=0)then
   some ([],v4.1,v5.2)
  else
   Option.bind (K7 N v5.1 (4096:Int)) λv6=>
   bif (decide (v6>4096))then
    some ([],v4.1,(15:Int))
   else
    some (v5.1,v4.1,(0:Int))
 else
  some ([],v4.1,(9:Int))
theorem Ew{N v1 v2 v3}:KO 38 [(c7 v1),(.d (.sl (aN v2))),(c6 v3)] (λr=> .aW [(.d (.sl (bq r.1))),(bX r.2.1),(aq r.2.2)]) (uU N v1 v2 v3):=
 fw Tryz.func38 (au λv4 J=>gA [[],[(7,cK JU J)],[]] (ft λh2=>au λv5 h3=>gA [[f0 (cH h2)],[(7,cK UF h3)],[]] (bj λh4=>au λv6 h5=>gA [[f0 h4],[(4,cK ael h5)]] (bj λh6=>gR [[f0 h6],[]]))))
def WL(N:Nat)(v1:bI)(v2:ak5):ak6 Bool:=
 some (bL v1.aF==bL v2)
theorem aa0{N v1 v2}:KP 85 [(Xx v1),(.ptr 0 0)] [.cells [(c6 v2)]] ax (λ_=>[.cells [(c6 v2)]]) (WL N v1 v2):=
 fh 1 Tryz.func85 (gH [[],[]])
def Qq(N:Nat)(v2:ak5):ak4 bI->Nat->ak6 Int
 |[],_=>
  some (-1:Int)
 |v5::v6,v3=>
  (WL N v5 v2).bind λv7=>
  bif v7 then
   some (v3:Int)
  else
   (Qq N v2 v6 (v3+1))
def QN(N:Nat)(v1:ak4 bI)(v2:ak5):ak6 Int:=
 Qq N v2 v1 0
theorem aaq{N v1 v2}:KP 84 [(.d (.sl (bk v1))),(.fn 85 [(.ptr 0 0)])] [.cells [(c6 v2)]] aq (λ_=>[.cells [(c6 v2)]]) (QN N v1 v2):=
 fh 1 Tryz.func84 (gA [[],[(4,oL v1 LO)]] (gT GI 0 v1 λh2=>dP 1 [] [0,1,7,8] 1 (λv3=>⟨19,[(0,(.d (.sl (bk v1)))),(1,(.fn 85 [(.ptr 0 0)])),(7,(aq (v1.length:Int))),(8,(aq (v3:Int)))],[.cells [(c6 v2)]]⟩) (λv3 h3 f1=>gH [[],[f0 (bK h3)],[]]) (λv3 v5 v6 h3 f1 aG=>au λv7 h4=>gA [[],[t0 (bJ h3)],[],[(10,oE (M1 (bm h3))),(16,oQ [(Xx v5),(.ptr 0 0)] [.cells [(c6 v2)]] [0] (aa0 _ h4))]] (aw (λh5=>gH [[t0 h5],[]]) λh5=>gb aG () [[f0 h5],[(2,oq (bS h3 rfl h2))]] h3))))
def Dq(N:Nat)(v1:ak4 bI)(v2:ak5):ak6 (bA×Bool):=
 (QN N v1 v2).bind λv3=>
 bif (decide (v3<0))then
  some (vE,false)
 else
  bif (decide ((0:Int)<=v3))then
  Option.bind (v1[(v3).toNat]?) λv4=>
  some (v4.kY,true)
  else none
theorem Ea{N v1 v2}:KO 47 [(.d (.sl (bk v1))),(c6 v2)] (λr=> .aW [(jv r.1),(ax r.2)]) (Dq N v1 v2):=
 fw Tryz.func47 (au λv3 J=>gA [[],[(7,oQ [(.d (.sl (bk v1))),(.fn 85 [(.ptr 0 0)])] [.cells [(c6 v2)], .cells P7] [0] (aaq _ J))],[]] (bj λh2=>dh λh4=>au λv4 h3=>gR [[f0 h2],[(7,⟨_,_, .el (xs:=bk v1) (i:=v3) (of_decide_eq_true h4) (M1 h3)⟩)]]))
def WY(N:Nat):ak4 Int->Nat->Int->ak6 Int
 |[],_,_=>
  some (0:Int)
 |v8::v9,v6,v10=>
  bif (v10 !=0)then
  bif (decide (v8>(IntKind.i64.wrap (((4096:Int)).tdiv v10))))then
   some (2:Int)
  else
   (λgP=>WY N v9 (v6+1) gP) (aK (v10*v8))
  else none
def Wy(N:Nat)(v1:ak4 Int):ak4 Int->Nat->ak6 Int
 |[],_=>
  WY N v1 0 (1:Int)
 |v4::v5,v2=>
  bif (decide (v4<1))then
   some (1:Int)
  else
   (Wy N v1 v5 (v2+1))
def L0(N:Nat)(v1:ak4 Int):ak6 Int:=
 bif (decide ((v1.length:Int)>6))then
  some (2:Int)
 else
  Wy N v1 v1 0
theorem Uq{N v1}:KO 161 [(.d (.sl (bq v1)))] aq (L0 N v1):=
 fw Tryz.func161 (gA [[],[(4,oL v1 fQ)]] (bj λJ=>gA [[f0 J],[(4,oL v1 fQ)]] (gT lJ 0 v1 λh3=>dP 1 [] [0,11,12,13] 0 (λv2=>⟨34,[(0,(.d (.sl (bq v1)))),(11,(.d (.sl (bq v1)))),(12,(aq (v1.length:Int))),(13,(aq (v2:Int)))],[]⟩) (λv2 h4 f1=>gA [[],[f0 (bK h4)],[],[(4,oL v1 fQ)]] (gT lJ 0 v1 λh6=>fq 2 [] [5,20,21,22] 0 (λv6(v10:Int)=>⟨34,[(5,(aq v10)),(20,(.d (.sl (bq v1)))),(21,(aq (v1.length:Int))),(22,(aq (v6:Int)))],[]⟩) (λv6 v10 h7 f2=>gR [[],[f0 (bK h7)],[]]) (λv6 v8 v9 v10 h7 f2 dT=>dh λh8=>gA [[],[t0 (bJ h7)],[(1,oE (jb (bm h7)))],[(7,⟨_,_, .nz (b:=v10) (bne_iff_ne.1 h8)⟩)]] (bj λh9=>gb dT (aK (v10*v8)) [[f0 h9],[],[(2,oq (bS h7 rfl h6))]] h7)))) (λv2 v4 v5 h4 f1 aG=>gA [[],[t0 (bJ h4)],[(1,oE (jb (bm h4)))],[]] (bj λaO=>gb aG () [[f0 aO],[(2,oq (bS h4 rfl h3))]] h4)))))
def VG(N:Nat):ak4 Int->Nat->Int->ak6 Int
 |[],_,v7=>
  some v7
 |v5::v6,v3,v7=>
  (λcq=>VG N v6 (v3+1) cq) (aK (v7*v5))
def Ve(N:Nat)(v1:ak4 Int):ak6 Int:=
 (L0 N v1).bind λv2=>
 bif (v2 !=0)then
  some (0:Int)
 else
  VG N v1 0 (1:Int)
theorem Zb{N v1}:KO 162 [(.d (.sl (bq v1)))] aq (Ve N v1):=
 fw Tryz.func162 (au λv2 J=>gA [[],[(4,cK Uq J)]] (bj λh2=>gA [[f0 h2],[],[(4,oL v1 fQ)]] (gT lJ 0 v1 λh4=>fq 1 [] [3,9,10,11] 0 (λv3(v7:Int)=>⟨20,[(3,(aq v7)),(9,(.d (.sl (bq v1)))),(10,(aq (v1.length:Int))),(11,(aq (v3:Int)))],[]⟩) (λv3 v7 h5 f1=>gR [[],[f0 (bK h5)],[]]) (λv3 v5 v6 v7 h5 f1 aG=>gb aG (aK (v7*v5)) [[],[t0 (bJ h5)],[(1,oE (jb (bm h5)))],[],[(2,oq (bS h5 rfl h4))]] h5))))
def Ye(N:Nat)(v1:bA):ak4 aR->Nat->ak6 Int
 |[],_=>
  some (0:Int)
 |v7::v8,v5=>
  (ou N v1.aJ v7).bind λv9=>
  bif v9 then
   (Ye N v1 v8 (v5+1))
  else
   some (1:Int)
def Nj(N:Nat)(v1:bA):ak6 Int:=
 (lB N v1.aJ).bind λv2=>
 bif (v2 !=0)then
  some v2
 else
  (L0 N v1.bo).bind λv3=>
  bif (v3 !=0)then
   some v3
  else
   (Ve N v1.bo).bind λv4=>
   bif ((v1.kh.length:Int) !=v4)then
    some (1:Int)
   else
    Ye N v1 v1.kh 0
theorem Tg{N v1}:KO 97 [(jv v1)] aq (Nj N v1):=
 fw Tryz.func97 (au λv2 J=>gA [[],[(7,cK nR J)],[]] (bj λh2=>au λv3 h3=>gA [[f0 h2],[(7,cK Uq h3)],[]] (bj λh4=>au λv4 h5=>gA [[f0 h4],[(7,oL v1.kh lV),(16,cK Zb h5)]] (bj λh6=>gA [[f0 h6],[(7,oL v1.kh lV)]] (gT wU 27 v1.kh λh8=>dP 1 [] [1,27,28,29] 1 (λv5=>⟨39,[(1,(.ptr 0 0)),(27,(.d (.sl (dV v1.kh)))),(28,(aq (v1.kh.length:Int))),(29,(aq (v5:Int)))],[.cells (jv v1).cells]⟩) (λv5 h9 f1=>gR [[],[f0 (bK h9)],[]]) (λv5 v7 v8 h9 f1 aG=>au λv9 aO=>gA [[],[t0 (bJ h9)],[(1,oE (pM (bm h9)))],[(10,cK sL aO)]] (ft λaY=>gb aG () [[f0 (cH aY)],[(2,oq (bS h9 rfl h8))]] h9)))))))
def RN(N:Nat)(v2:ak4 Int):ak4 Int->Nat->ak6 Bool
 |[],_=>
  some true
 |v5::v6,v3=>
  Option.bind (v2[((v3:Int)).toNat]?) λv7=>
  bif (v5 !=v7)then
   some false
  else
   (RN N v2 v6 (v3+1))
def WA(N:Nat)(v1:ak4 Int)(v2:ak4 Int):ak6 Bool:=
 bif ((v1.length:Int) !=(v2.length:Int))then
  some false
 else
  RN N v2 v1 0
theorem aeH{N v1 v2}:KO 196 [(.d (.sl (bq v1))),(.d (.sl (bq v2)))] ax (WA N v1 v2):=
 fw Tryz.func196 (gA [[],[(4,oL v1 fQ),(10,oL v2 fQ)]] (bj λJ=>gA [[f0 J],[(4,oL v1 fQ)]] (gT lJ 0 v1 λh3=>dP 1 [] [0,1,12,13] 0 (λv3=>⟨26,[(0,(.d (.sl (bq v1)))),(1,(.d (.sl (bq v2)))),(12,(aq (v1.length:Int))),(13,(aq (v3:Int)))],[]⟩) (λv3 h4 f1=>gR [[],[f0 (bK h4)],[]]) (λv3 v5 v6 h4 f1 aG=>au λv7 h5=>gA [[],[t0 (bJ h4)],[],[(7,oE (jb (bm h4))),(19,oE (jb h5))]] (bj λh7=>gb aG () [[f0 h7],[(2,oq (bS h4 rfl h3))]] h4)))))
def O0(N:Nat)(v1:ak4 bI)(v2:ak5)(v3:aV)(v4:ak4 Int):ak6 Int:=
 (Dq N v1 v2).bind λv5=>
 bif v5.2 then
  (Nj N v5.1).bind λv6=>
  bif (v6 !=0)then
   some (1:Int)
  else
   bif ((v5.1.aJ.cg==v3.cg)&&((v5.1.aJ.cE==v3.cE)&&((v5.1.aJ.cB==v3.cB)&&((v5.1.aJ.cY==v3.cY)&&((v5.1.aJ.c8==v3.c8)&&true)))))then
    (WA N v5.1.bo v4).bind λv7=>
    bif v7 then
     some (0:Int)
    else
     some (15:Int)
   else
    some (10:Int)
 else
  some (9:Int)
theorem UG{N v1 v2 v3 v4}:KO 112 [(.d (.sl (bk v1))),(c6 v2),(bX v3),(.d (.sl (bq v4)))] aq (O0 N v1 v2 v3 v4):=
 fw Tryz.func112 (au λv5 J=>gA [[],[(7,cK Ea J)],[]] (ft λh2=>au λv6 h3=>gA [[f0 (cH h2)],[(4,cK Tg h3)]] (fU λ_=>ft λh5=>au λv7 h6=>gA [[f0 (cH h5)],[(10,cK aeH h6)]] (mD λh7=>gR [[t0 (dq h7)],[]]))))
def QO(N:Nat)(v1:ak4 Int):ak6 (ak4 Int):=bif Nat.ble (v1.length*8) 140737488355328 then some v1 else none
theorem acY{N v1 r}(U:QO N v1=some r):fX Tryz.prog 64 [(.d (.sl (bq v1)))] (·=(.d (.sl (bq r)))):=by
 obtain⟨hb,rfl⟩:=eB U;have hc:=mu hb (by decide);exact afY Cy (by rw[fQ];exact hc.1) (by rw[fQ];exact hc.2)
def Ty(N:Nat)(v1:ak4 aR):ak6 (ak4 aR):=bif Nat.ble (v1.length*16) 140737488355328 then some v1 else none
theorem aes{N v1 r}(U:Ty N v1=some r):fX Tryz.prog 86 [(.d (.sl (dV v1)))] (·=(.d (.sl (dV r)))):=by
 obtain⟨hb,rfl⟩:=eB U;have hc:=mu hb (by decide);exact aay KJ (by rw[lV];exact hc.1) (by rw[lV];exact hc.2)
def Lk(N:Nat)(v1:bA):ak6 bA:=
 (QO N v1.bo).bind λv2=>
 (Ty N v1.kh).bind λv3=>
 some (⟨v1.aJ,v2,v3⟩:bA)
theorem V0{N v1}:KO 48 [(jv v1)] jv (Lk N v1):=
 fw Tryz.func48 (gA [[]] (au λv2 J=>au λv3 h2=>li (λ_=>(Pe 1 bB [] [.cells (jv v1).cells, .cells [(aq v1.aJ.cg),(aq v1.aJ.cE),(aq v1.aJ.cB),(aq v1.aJ.cY),(aq v1.aJ.c8),(.d (.sl (bq v2))),(.d (.sl (dV v3)))]] ⟨[(13,cL (acY J)),(22,cL (aes h2))],by kernel_rfl⟩ ·)) (gR [])))
def F2(N:Nat)(v3:ak4 bI)(v6:eV)(v8:ak4 bI)(ky:(ak4 bI)->ak6 ((ak4 bI)×Int))(v10:Int):ak6 ((ak4 bI)×Int):=
 bif (v10 !=0)then
  some ([],v10)
 else
  (Dq N v3 v6.aF).bind λv11=>
  (Lk N v11.1).bind λv12=>
  bif (Nat.ble ((v8.length+1)*104) 140737488355328)then
  ky (v8++[(⟨v6.aF,v12⟩:bI)])
  else none
def vI(N:Nat)(v1:aZ)(v2:ak4 aX)(v3:ak4 bI):ak4 eV->Nat->(ak4 bI)->ak6 ((ak4 bI)×Int)
 |[],_,v8=>
  some (v8,(0:Int))
 |v6::v7,v4,v8=>
  (uU N v1 v2 v6.aF).bind λv9=>
  bif (v9.2.2==0)then
   (O0 N v3 v6.aF v9.2.1 v9.1).bind λaA=>
   F2 N v3 v6 v8 (λcq=>vI N v1 v2 v3 v7 (v4+1) cq) aA
  else
   F2 N v3 v6 v8 (λcq=>vI N v1 v2 v3 v7 (v4+1) cq) v9.2.2
def Kd(N:Nat)(v1:aZ)(v2:ak4 aX)(v3:ak4 bI):ak6 ((ak4 bI)×Int):=
 vI N v1 v2 v3 v1.bu 0 []
def sf(v1:aZ)(v8:ak4 bI)(v6:eV)(v9:(ak4 Int)×aV×Int)(l:ak4 ao):ak4 ao:= .cells (c7 v1).cells:: .front 56 8 v8.length:: .cells (nb v6).cells:: .cells (bX v9.2.1).cells::l
def zU(v1:aZ)(v8:ak4 bI)(l:ak4 ao):ak4 ao:= .cells (c7 v1).cells:: .front 56 8 v8.length::l
def AI(v1:aZ)(l:ak4 ao):ak4 ao:= .cells (c7 v1).cells::l
theorem acQ{N v1 v2 v3 r}(U:Kd N v1 v2 v3=some r):KH 82 [(c7 v1),(.d (.sl (aN v2))),(.d (.sl (bk v3)))] [] (.aW [(.own 0 (bk r.1)),(aq r.2)]) ([.front 56 8 r.1.length]):=by
 rw[Kd]at U;refine AR 1 Tryz.func82 rfl (by kernel_rfl) (ako rfl) ?_;refine lG (s':=⟨60,[(0,(c7 v1)),(1,(.d (.sl (aN v2)))),(2,(.d (.sl (bk v3))))],[]⟩) (by kernel_rfl) ?_;refine ar ?_;refine rg [] [(3,(.ptr 0 0))] (AI v1 []) (by kernel_rfl) ?_;refine ar ?_;refine rg [] [(8,(.d (.v (.slice none 0 0))))] (AI v1 []) (by kernel_rfl) ?_;refine ar ?_;refine ar ?_;refine rg [(7,oL v1.bu lu)] [(17,(.d (.sl (jW v1.bu)))),(18,(aq (v1.bu.length:Int))),(19,(aq (0:Int)))] (AI v1 []) (by kernel_rfl) ?_;refine dt ?_;refine Gn 8 56 8 [] (.inr ⟨rfl,rfl⟩) ?_;refine uc 17 (jW v1.bu) (by kernel_rfl) λJ=> ?_;have h2:=qz lu J;refine LG [1,2,3,8,17,18,19] 2 (λ((v4,v5,v8):Nat×(ak4 eV)×(ak4 bI))=>⟨60,[(1,(.d (.sl (aN v2)))),(2,(.d (.sl (bk v3)))),(3,(.ptr 0 0)),(8,(.own 1 (bk v8))),(17,(.d (.sl (jW v1.bu)))),(18,(aq (v1.bu.length:Int))),(19,(aq (v4:Int)))],(zU v1 v8 [])⟩) (λ((v4,v5,v8):Nat×(ak4 eV)×(ak4 bI))=>v1.bu.drop v4=v5/\vI N v1 v2 v3 v5 v4 v8=some r) (λ((v4,v5,v8):Nat×(ak4 eV)×(ak4 bI))=>v5.length) (0,v1.bu,[]) (ako rfl) (by kernel_rfl) ⟨rfl,U⟩ ?_;rintro⟨v4,v5,v8⟩ ⟨h3,U⟩;cases v5 with
 |nil=>
  rw[vI]at U;refine ar ?_;refine rg [] [(20,(ax (decide ((v4:Int)<(v1.bu.length:Int)))))] (zU v1 v8 []) (by kernel_rfl) ?_;refine ar ?_;refine dw (t:=(decide ((v4:Int)<(v1.bu.length:Int)))) (by kernel_rfl) (bK h3) ?_;refine kR (gO (gO (lS rfl ?_)));refine aI ?_;refine ar ?_;refine rg [] [(6,(.own 1 (bk v8))),(7,(aq (0:Int)))] (zU v1 v8 []) (by kernel_rfl) ?_;refine fA [6,7] 2 (ako rfl) (s':=⟨60,[(6,(.own 1 (bk v8))),(7,(aq (0:Int)))],(zU v1 v8 [])⟩) (by kernel_rfl) ?_;refine W5 (UE (i:=1) (j:=0) (ako rfl) (ako rfl) (ako rfl) (ako rfl)) ?_;refine lG (s':=⟨60,[(6,(.own 0 (bk v8))),(7,(aq (0:Int)))],[.front 56 8 v8.length, .cells (c7 v1).cells]⟩) (by kernel_rfl) ?_;refine fA [6,7] 1 (ako rfl) (s':=⟨60,[(6,(.own 0 (bk v8))),(7,(aq (0:Int)))],[.front 56 8 v8.length]⟩) (by kernel_rfl) ?_;refine cV ?_;have hr:=akz U;subst hr;exact tu (eM trivial jr) (by kernel_rfl)
 |cons v6 v7=>
  rw[vI]at U;refine ar ?_;refine rg [] [(20,(ax (decide ((v4:Int)<(v1.bu.length:Int)))))] (zU v1 v8 []) (by kernel_rfl) ?_;refine ar ?_;refine cQ (t:=(decide ((v4:Int)<(v1.bu.length:Int)))) (by kernel_rfl) (bJ h3) ?_;refine cx ?_;refine aI ?_;refine ar ?_;refine dt ?_;refine ar ?_;refine rg [(1,oE (na (bm h3)))] [(10,(.ptr 2 0))] (zU v1 v8 [.cells (nb v6).cells]) (by kernel_rfl) ?_;refine ar ?_;obtain⟨v9,h4,U⟩:=bg U;refine rg [(13,cK Ew h4)] [(12,(.ptr 3 0)),(11,(.d (.sl (bq v9.1)))),(13,(aq v9.2.2))] (sf v1 v8 v6 v9 []) (by kernel_rfl) ?_;refine ar ?_;refine ar ?_;refine rg [] [(33,(ax (v9.2.2==0)))] (sf v1 v8 v6 v9 []) (by kernel_rfl) ?_;refine o9 [1,2,3,8,10,13,17,18,19] 4 (λ(v10:Int)=>⟨60,[(1,(.d (.sl (aN v2)))),(2,(.d (.sl (bk v3)))),(3,(.ptr 0 0)),(8,(.own 1 (bk v8))),(10,(.ptr 2 0)),(13,(aq v10)),(17,(.d (.sl (jW v1.bu)))),(18,(aq (v1.bu.length:Int))),(19,(aq (v4:Int)))],(sf v1 v8 v6 v9 [])⟩) (λ(v10:Int)=>F2 N v3 v6 v8 (λcq=>vI N v1 v2 v3 v7 (v4+1) cq) v10=some r) (ako rfl) ?_ ?_
  ·rcases dC (v9.2.2==0)with h9|h9
   ·replace U:=(dc h9).symm.trans U;refine cQ (t:=(v9.2.2==0)) (by kernel_rfl) h9 ?_;obtain⟨aA,aO,U⟩:=bg U;refine re [(16,cK UG aO)] [(13,(aq aA)),(39,(aq aA)),(38,(.d (.sl (bq v9.1)))),(37,(bX v9.2.1)),(36,(c6 v6.aF)),(35,(.ptr 2 0)),(34,(.d (.sl (bk v3))))] (sf v1 v8 v6 v9 []) (by kernel_rfl) ?_;refine aI ?_;exact⟨aA,by kernel_rfl,U⟩
   replace U:=(dG h9).symm.trans U;refine dw (t:=(v9.2.2==0)) (by kernel_rfl) h9 ?_;refine cx ?_;refine aI ?_;exact⟨v9.2.2,by kernel_rfl,U⟩
  rintro v10 U
  try dsimp only at U
  rw[F2]at U;refine ar ?_;refine ar ?_;refine rg [] [(41,(ax (v10 !=0)))] (sf v1 v8 v6 v9 []) (by kernel_rfl) ?_;rcases dC (v10 !=0)with h5|h5
  ·replace U:=(dc h5).symm.trans U;refine cQ (t:=(v10 !=0)) (by kernel_rfl) h5 ?_;refine ar ?_;refine rg [] [(6,(.d (.v (.slice none 0 0)))),(7,(aq v10))] (sf v1 v8 v6 v9 []) (by kernel_rfl) ?_;refine Gn 6 56 8 [] (.inr ⟨rfl,rfl⟩) ?_;refine fA [6,7] 5 (ako rfl) (s':=⟨60,[(6,(.own 4 (bk []))),(7,(aq v10))],(sf v1 v8 v6 v9 [.front 56 8 0])⟩) (by kernel_rfl) ?_;refine W5 (UE (i:=4) (j:=0) (ako rfl) (ako rfl) (ako rfl) (ako rfl)) ?_;refine lG (s':=⟨60,[(6,(.own 0 (bk []))),(7,(aq v10))],[.front 56 8 0, .front 56 8 v8.length, .cells (nb v6).cells, .cells (bX v9.2.1).cells, .cells (c7 v1).cells]⟩) (by kernel_rfl) ?_;refine fA [6,7] 1 (ako rfl) (s':=⟨60,[(6,(.own 0 (bk []))),(7,(aq v10))],[.front 56 8 0]⟩) (by kernel_rfl) ?_;refine cV (cU (dW (cU (cU (dW (cU ?_))))));have hr:=akz U;subst hr;exact tu (eM trivial jr) (by kernel_rfl)
  replace U:=(dG h5).symm.trans U;refine dw (t:=(v10 !=0)) (by kernel_rfl) h5 ?_;refine cx ?_;refine aI ?_;refine ar ?_;obtain⟨v11,h6,U⟩:=bg U;refine rg [(10,cK Ea h6)] [(14,(.ptr 4 0))] (sf v1 v8 v6 v9 [.cells (jv v11.1).cells]) (by kernel_rfl) ?_;obtain⟨v12,h7,U⟩:=bg U;have h8:=my U;replace U:=(dc h8).symm.trans U;refine V6 bB (by kernel_rfl) [(13,cK V0 h7),(22,oA GI v8 ([(⟨v6.aF,v12⟩:bI)]) h8)] [(8,(.own 1 (bk (v8++[(⟨v6.aF,v12⟩:bI)])))),(57,(.own 1 (bk (v8++[(⟨v6.aF,v12⟩:bI)])))),(56,(.full (bk [(⟨v6.aF,v12⟩:bI)]))),(55,(.agg [(c6 v6.aF),(aq v12.aJ.cg),(aq v12.aJ.cE),(aq v12.aJ.cB),(aq v12.aJ.cY),(aq v12.aJ.c8),(.d (.sl (bq v12.bo))),(.d (.sl (dV v12.kh)))])),(54,(jv v12)),(53,(jv v11.1)),(52,(c6 v6.aF)),(51,(.ptr 2 0)),(50,(.own 1 (bk v8)))] (AI v1 [.front 56 8 (v8++[(⟨v6.aF,v12⟩:bI)]).length, .cells (nb v6).cells, .cells (bX v9.2.1).cells, .cells (jv v11.1).cells]) (by kernel_rfl) ?_;refine dX ?_;refine aI ?_;refine re [(2,oq (bS h3 rfl h2))] [(19,(aq ((v4+1:Nat):Int))),(58,(aq ((v4+1:Nat):Int)))] (AI v1 [.front 56 8 (v8++[(⟨v6.aF,v12⟩:bI)]).length, .cells (nb v6).cells, .cells (bX v9.2.1).cells, .cells (jv v11.1).cells]) (by kernel_rfl) ?_
  refine aI ?_;exact⟨(v4+1,v7,(v8++[(⟨v6.aF,v12⟩:bI)])),by kernel_rfl,⟨ly h3,U⟩,ak2 _⟩
def Q4(N:Nat):ak4 dJ->Nat->(ak4 bp)->ak6 ((ak4 bp))
 |[],_,v6=>
  some v6
 |v4::v5,v2,v6=>
  bif (Nat.ble ((v6.length+1)*32) 140737488355328)then
  (λcq=>Q4 N v5 (v2+1) cq) (v6++[v4.ff])
  else none
def RU(N:Nat)(v1:ak4 dJ):ak6 ((ak4 bp)):=
 Q4 N v1 0 []
theorem afJ{N v1}:KO 62 [(.d (.sl (gx v1)))] (λr=> .d (.sl (eW r))) (RU N v1):=
 fw Tryz.func62 (gA [[],[],[(4,oL v1 fO)]] (li (λ_=>(mG 3 48 2 [] (.inr (by kernel_rfl)) ·)) (gT m8 0 v1 λh2=>fq 1 [] [3,6,7,8] 1 (λv2(v6:ak4 bp)=>⟨19,[(3,(.own 0 (eW v6))),(6,(.d (.sl (gx v1)))),(7,(aq (v1.length:Int))),(8,(aq (v2:Int)))],[.front 48 2 v6.length]⟩) (λv2 v6 h3 f1=>gR [[],[f0 (bK h3)],[]]) (λv2 v4 v5 v6 h3 f1 aG=>dh λh4=>gb aG (v6++[v4.ff]) [[],[t0 (bJ h3)],[(1,oE (mV (bm h3)))],[(13,oA mv v6 ([v4.ff]) h4)],[(2,oq (bS h3 rfl h2))]] h3))))
def WE(N:Nat)(v1:ak4 Int):ak6 (ak4 Int):=bif Nat.ble (v1.length*8) 140737488355328 then some v1 else none
theorem Re{N v1 r}(U:WE N v1=some r):cZ Tryz.prog 64 [(.d (.sl (bq v1)))] [] λr1 J=>r1=(.vec 0 0 r.length r.length 1)/\J=[.vec 3 1 (ck (r.map eI))]:=by
 obtain⟨hb,rfl⟩:=eB U;have hc:=mu hb (by decide);have J:=afx (xs:=bq v1) Cy (by rw[fQ];exact hc.1) (by rw[fQ];exact hc.2);have h2:ck (v1.map eI)=ck (bq v1):=by rw[nX]
 have h3:=fQ (l:=v1);rw[h3]at J;rw[h2];exact J
def CY(N:Nat)(v1:Nat)(v3:ak4 Int)(v2:Int):Nat->Int->Int->ak6 Int
 |0,_,_=>none
 |v4+1,v5,v6=>
  bif (decide (v6<(v1:Int)))then
   bif (decide ((0:Int)<=v6))then
   Option.bind (v3[(v6).toNat]?) λv7=>
   bif (decide ((aK (v5*v7))>v2))then
    some (aK (v2+(1:Int)))
   else
    (λcq fS=>CY N v1 v3 v2 v4 cq fS) (aK (v5*v7)) (aK (v6+(1:Int)))
   else none
  else
   some v5
def Jv(N:Nat)(v1:Nat)(v2:Int)(v3:ak4 Int):ak6 Int:=
 bif (Nat.beq v3.length v1)then
 CY N v1 v3 v2 N (1:Int) (0:Int)
 else none
def nJ(v3:ak4 Int)(l:ak4 ao):ak4 ao:= .vec 3 1 (ck (v3.map eI))::l
theorem X6{N v1 v2 v3 r}(U:Jv N v1 v2 v3=some r):KH 63 [(.vec 0 0 v1 v1 1),(aq v2)] ([.vec 3 1 (ck (v3.map eI))]) (aq r) ([.vec 3 1 (ck (v3.map eI))]):=by
 rw[Jv]at U;refine AR 1 Tryz.func63 rfl (by kernel_rfl) (ako rfl) ?_;refine lG (s':=⟨24,[(0,(.vec 0 0 v1 v1 1)),(1,(aq v2))],(nJ v3 [])⟩) (by kernel_rfl) ?_;refine ar ?_;refine rg [] [] (nJ v3 []) (by kernel_rfl) ?_;refine ar ?_;refine rg [] [(5,(aq (1:Int)))] (nJ v3 []) (by kernel_rfl) ?_;refine ar ?_;refine ar ?_;have J:=my U;replace U:=(dc J).symm.trans U;refine rg [(4,⟨_,_, .pr .no (zo (f:=eI) (aku J))⟩)] [(8,(.vec 0 0 v1 v1 1)),(9,(aq (v1:Int))),(10,(aq (0:Int)))] (nJ v3 []) (by kernel_rfl) ?_;refine dt ?_;refine LQ [1,5,8,9,10] 1 [] [] (λ((v4,v5,v6):Nat×Int×Int)=>⟨24,[(1,(aq v2)),(5,(aq v5)),(8,(.vec 0 0 v1 v1 1)),(9,(aq (v1:Int))),(10,(aq v6))],(nJ v3 [])⟩) (λ((v4,v5,v6):Nat×Int×Int)=>CY N v1 v3 v2 v4 v5 v6=some r) (λ((v4,v5,v6):Nat×Int×Int)=>v4) (N,(1:Int),(0:Int)) (ako rfl) ⟨(kS (xs:=(v3.map eI)) jr),by kernel_rfl⟩ U ?_;rintro⟨v4,v5,v6⟩ U
 try dsimp only at U
 cases v4 with
 |zero=>
  rw[CY]at U;cases U
 |succ v4=>
  rw[CY]at U;refine ar ?_;refine rg [] [(11,(ax (decide (v6<(v1:Int)))))] (nJ v3 []) (by kernel_rfl) ?_;refine ar ?_;rcases dC (decide (v6<(v1:Int)))with h2|h2
  ·replace U:=(dc h2).symm.trans U;refine cQ (t:=(decide (v6<(v1:Int)))) (by kernel_rfl) h2 ?_;refine cx ?_;refine aI ?_;refine ar ?_;refine dt ?_;refine ar ?_;have h3:=my U;replace U:=(dc h3).symm.trans U;obtain⟨v7,h4,U⟩:=bg U;refine rg [(1,⟨_,_, .pr (.ix ((v6).toNat)) (SN (zo (f:=eI) (aku J)) (of_decide_eq_true h3) (of_decide_eq_true h2) rfl)⟩),(4,⟨_,_, .pr (.el ((eI v7).map AV.d)) (aee (f:=eI) (aku J) h4)⟩)] [(7,(aq v7))] (nJ v3 []) (by kernel_rfl) ?_;refine ar ?_;refine rg [] [(5,(aq (aK (v5*v7))))] (nJ v3 []) (by kernel_rfl) ?_;refine ar ?_;refine rg [] [(19,(ax (decide ((aK (v5*v7))>v2))))] (nJ v3 []) (by kernel_rfl) ?_;rcases dC (decide ((aK (v5*v7))>v2))with h5|h5
   ·replace U:=(dc h5).symm.trans U;refine cQ (t:=(decide ((aK (v5*v7))>v2))) (by kernel_rfl) h5 ?_;refine ar ?_;refine rg [] [(4,(aq (aK (v2+(1:Int)))))] (nJ v3 []) (by kernel_rfl) ?_;refine cV (dW (cU (cU (dW (cU ?_)))));have hr:=akz U;subst hr;exact tu (kS (xs:=(v3.map eI)) jr) (by kernel_rfl)
   replace U:=(dG h5).symm.trans U;refine dw (t:=(decide ((aK (v5*v7))>v2))) (by kernel_rfl) h5 ?_;refine cx ?_;refine dX ?_;refine aI ?_;refine re [] [(10,(aq (aK (v6+(1:Int))))),(22,(aq (aK (v6+(1:Int)))))] (nJ v3 []) (by kernel_rfl) ?_;refine aI ?_;exact⟨(v4,(aK (v5*v7)),(aK (v6+(1:Int)))),⟨(kS (xs:=(v3.map eI)) jr),by kernel_rfl⟩,U,ak2 _⟩
  replace U:=(dG h2).symm.trans U;refine dw (t:=(decide (v6<(v1:Int)))) (by kernel_rfl) h2 ?_;refine kR (gO (gO (lS rfl ?_)));refine aI ?_;refine ar ?_;refine rg [] [(4,(aq v5))] (nJ v3 []) (by kernel_rfl) ?_;refine cV ?_;have hr:=akz U;subst hr;exact tu (kS (xs:=(v3.map eI)) jr) (by kernel_rfl)
def dA:aR:=⟨(0:Int64),(0:Int64)⟩
def xu:fv:=⟨dA,ee⟩
def dE:ak4 AV:=[(bG (0:Int64)),(bG (0:Int64)),(aq (0:Int)),(aq (0:Int)),(aq (0:Int)),(aq (0:Int)),(aq (0:Int))]
def ir:ak4 AV:=[(bG (0:Int64)),(bG (0:Int64))]
def Xh(N:Nat)(v1:ak4 ak5)(v3:Nat):ak6 (ak4 ak5):=bif Nat.beq v1.length v3&&Nat.blt v3 4611686018427387904 then some (jQ v1)else none
theorem Y9{N v1 v3 r}(U:Xh N v1 v3=some r):cZ Tryz.prog 195 [(.vec 0 0 v3 v3 1)] [.vec 9 1 (ck (v1.map dStr))] λr1 J=>r1=(.d (.sl (cW r)))/\J=[.gone]:=by
 obtain⟨hb,rfl⟩:=eB U;rw[aki]at hb;exact ad9 (aku hb.1) (ako hb.2)
def xC(N:Nat)(ky:Nat->(ak4 ak5)->ak6 ((ak4 ak5))):ak4 dd->Nat->Nat->(ak4 ak5)->ak6 ((ak4 ak5))
 |[],_,aE,aP=>
  ky aE aP
 |v12::aA,v10,aE,aP=>
  bif (bL v12.dk==bL (bs []))then
   (λmX vL=>xC N ky aA (v10+1) mX vL) aE aP
  else
   bif (Nat.beq aP.length aE)then
   bif (Nat.ble ((aE+1)*16) 140737488355328)then
   (λmX vL=>xC N ky aA (v10+1) mX vL) (aE+1) (aP++[v12.dk])
   else none
   else none
def G5(N:Nat)(ky:Nat->(ak4 ak5)->ak6 ((ak4 ak5)))(v5:ay)(v8:Nat)(v9:ak4 ak5):ak6 ((ak4 ak5)):=
 xC N ky v5.xIdx 0 v8 v9
def sq(N:Nat):ak4 ay->Nat->(ak4 ak5)->ak6 ((ak4 ak5))
 |[],v3,v4=>
  (Xh N v4 v3).bind λv7=>
  some v7
 |v5::v6,v3,v4=>
  bif (v5.aQ==3)then
   bif (Nat.beq v4.length v3)then
   bif (Nat.ble ((v3+1)*16) 140737488355328)then
   G5 N (λcq fS=>sq N v6 cq fS) v5 (v3+1) (v4++[v5.aF])
   else none
   else none
  else
   G5 N (λcq fS=>sq N v6 cq fS) v5 v3 v4
def Ml(N:Nat)(v1:ay):ak6 ((ak4 ak5)):=
 (AJ N v1).bind λv2=>
 sq N (et v2) 0 []
def nt(v1:ay)(v3:Nat)(v4:ak4 ak5)(cA:Code)(cz:Code)(v2:ay)(v5:ay)(l:ak4 ao):ak4 ao:= .cells (aB v1).cells:: .cells [(.vec 2 0 v3 v3 1)]:: .vec 9 1 (ck (v4.map dStr)):: .lp .busy 9 cA cz (dx 36 [(3,(.ptr 1 0)),(8,(.fn 149 [(.bn [eK v2] 0 0)]))]):: .cells (aB v5).cells::l
def xd(v1:ay)(v3:Nat)(v4:ak4 ak5)(l:ak4 ao):ak4 ao:= .cells (aB v1).cells:: .cells [(.vec 2 0 v3 v3 1)]:: .vec 9 1 (ck (v4.map dStr))::l
def QL(v1:ay)(aE:Nat)(aP:ak4 ak5)(v12:dd)(cA:Code)(cz:Code)(v2:ay)(v5:ay)(l:ak4 ao):ak4 ao:= .cells (aB v1).cells:: .cells [(.vec 2 0 (aE+1) (aE+1) 1)]:: .vec 9 1 (ck ((aP++[v12.dk]).map dStr)):: .lp .busy 9 cA cz (dx 36 [(3,(.ptr 1 0)),(8,(.fn 149 [(.bn [eK v2] 0 0)]))]):: .cells (aB v5).cells:: .cells (gC v12).cells::l
def uy(v1:ay)(l:ak4 ao):ak4 ao:= .cells (aB v1).cells::l
theorem ajI{N v1 r}(U:Ml N v1=some r):KF 111 [(aB v1)] (.d (.sl (cW r))):=by
 rw[Ml]at U;refine lU Tryz.func111 rfl (by kernel_rfl) ?_;refine fA [0] 0 (akr _) (s':=⟨36,[(0,(aB v1))],[]⟩) (by kernel_rfl) ?_;refine ar ?_;refine rg [] [(1,(.ptr 0 0))] (uy v1 []) (by kernel_rfl) ?_;refine ar ?_;refine rg [] [(3,(.ptr 1 0))] (uy v1 [.cells [(.d (.v (.slice none 0 0)))]]) (by kernel_rfl) ?_;refine ar ?_;refine ar ?_;obtain⟨v2,J,U⟩:=bg U;refine rg [(4,cL (Lj J))] [(8,(.fn 149 [(.bn [eK v2] 0 0)]))] (uy v1 [.cells [(.d (.v (.slice none 0 0)))]]) (by kernel_rfl) ?_;refine dt ?_;refine ag7 1 0 9 1 rfl rfl ?_;refine E6 [3,8] 3 [] [] (ako rfl) (s':=⟨36,[(3,(.ptr 1 0)),(8,(.fn 149 [(.bn [eK v2] 0 0)]))],(uy v1 [.cells [(.vec 2 0 0 0 1)], .vec 9 1 (ck (([]:ak4 ak5).map dStr))])⟩) ⟨(eM trivial (eM trivial (kS (xs:=(([]:ak4 ak5).map dStr)) jr))),by kernel_rfl⟩ ?_;refine vj (m:=3) (enc:=aB) (xs:=(et v2)) (by kernel_rfl) (JK v2) (λ((v3,v4):Nat×(ak4 ak5))=>(xd v1 v3 v4 [])) (λ((v3,v4):Nat×(ak4 ak5)) l=>sq N l v3 v4=some r) (0,[]) (by kernel_rfl) U (by rintro⟨v3,v4⟩;rfl) (by rintro⟨v3,v4⟩;exact(yt (by kernel_rfl) (yt (by kernel_rfl) (yt RH Wz)))) (by kernel_rfl) rfl ?_ ?_
 ·rintro⟨v3,v4⟩ v5 v6 U h2 cA cz
  try dsimp only at U
  rw[sq]at U;refine E6 [3,9] 4 [] [] (akr _) (s':=⟨36,[(3,(.ptr 1 0)),(9,(aB v5))],(xd v1 v3 v4 [.lp .ready 9 cA cz (dx 36 [(3,(.ptr 1 0)),(8,(.fn 149 [(.bn [eK v2] 0 0)]))])])⟩) ⟨(eM trivial (eM trivial (kS (xs:=(v4.map dStr)) (eM trivial jr)))),by kernel_rfl⟩ ?_;refine re [] [(4,(.ptr 4 0))] (xd v1 v3 v4 [.lp .ready 9 cA cz (dx 36 [(3,(.ptr 1 0)),(8,(.fn 149 [(.bn [eK v2] 0 0)]))]), .cells (aB v5).cells]) (by kernel_rfl) ?_;refine aI ?_;refine⟨(xd v1 v3 v4 []),(uy v5 []),rfl,(by kernel_rfl),?_⟩;refine E6 [3,4] 5 [] [] (ako rfl) (s':=⟨36,[(3,(.ptr 1 0)),(4,(.ptr 4 0))],(nt v1 v3 v4 cA cz v2 v5 [])⟩) ⟨(eM trivial (eM trivial (kS (xs:=(v4.map dStr)) (eM trivial (eM trivial jr))))),by kernel_rfl⟩ ?_;refine dt ?_;refine ar ?_;refine ar ?_;refine rg [] [(12,(ax (v5.aQ==3)))] (nt v1 v3 v4 cA cz v2 v5 []) (by kernel_rfl) ?_;refine abk [3,4] 5 [] [] (λ((v8,v9):Nat×(ak4 ak5))=>⟨36,[(3,(.ptr 1 0)),(4,(.ptr 4 0))],(nt v1 v8 v9 cA cz v2 v5 [])⟩) (λ((v8,v9):Nat×(ak4 ak5))=>G5 N (λcq fS=>sq N v6 cq fS) v5 v8 v9=some r) (ako rfl) ?_ ?_
  ·rcases dC (v5.aQ==3)with aO|aO
   ·replace U:=(dc aO).symm.trans U;refine cQ (t:=(v5.aQ==3)) (by kernel_rfl) aO ?_;have aY:=my U;replace U:=(dc aY).symm.trans U;have aT:=my U;replace U:=(dc aT).symm.trans U;refine re [(13,⟨_,_, .pr (.ap (ck ((v4++[v5.aF]).map dStr)) (ck (([v5.aF]).map dStr)) (v3+1) (v3+1)) (HY (f:=dStr) (h:=(nt v1 v3 v4 cA cz v2 v5 [])) (y:=(.full (cW [v5.aF]))) (k:=1) (aku aY) rfl (λc hc=>yL c (by rw[mn];exact hc)) rfl rfl (mu aT (by decide)).1 (mu aT (by decide)).2)⟩)] [(17,(.vec 2 0 (v3+1) (v3+1) 1)),(16,(.full (cW [v5.aF]))),(15,(c6 v5.aF)),(14,(.ptr 4 1)),(13,(.vec 2 0 v3 v3 1))] (uy v1 [.cells [(.vec 2 0 (v3+1) (v3+1) 1)], .vec 9 1 (ck ((v4++[v5.aF]).map dStr)), .lp .busy 9 cA cz (dx 36 [(3,(.ptr 1 0)),(8,(.fn 149 [(.bn [eK v2] 0 0)]))]), .cells (aB v5).cells]) (by kernel_rfl) ?_;refine aI ?_;exact⟨((v3+1),(v4++[v5.aF])),⟨(eM trivial (eM trivial (kS (xs:=((v4++[v5.aF]).map dStr)) (eM trivial (eM trivial jr))))),by kernel_rfl⟩,U⟩
   replace U:=(dG aO).symm.trans U;refine dw (t:=(v5.aQ==3)) (by kernel_rfl) aO ?_;refine cx ?_;refine aI ?_;exact⟨(v3,v4),⟨(eM trivial (eM trivial (kS (xs:=(v4.map dStr)) (eM trivial (eM trivial jr))))),by kernel_rfl⟩,U⟩
  rintro⟨v8,v9⟩ U
  try dsimp only at U
  rw[G5]at U;refine ar ?_;refine rg [(7,oL v5.xIdx fZ)] [(19,(.d (.sl (eJ v5.xIdx)))),(20,(aq (v5.xIdx.length:Int))),(21,(aq (0:Int)))] (nt v1 v8 v9 cA cz v2 v5 []) (by kernel_rfl) ?_;refine dt ?_;refine uc 19 (eJ v5.xIdx) (by kernel_rfl) λh4=> ?_;have h5:=qz fZ h4;refine LQ [3,19,20,21] 5 [] [] (λ((v10,v11,aE,aP):Nat×(ak4 dd)×Nat×(ak4 ak5))=>⟨36,[(3,(.ptr 1 0)),(19,(.d (.sl (eJ v5.xIdx)))),(20,(aq (v5.xIdx.length:Int))),(21,(aq (v10:Int)))],(nt v1 aE aP cA cz v2 v5 [])⟩) (λ((v10,v11,aE,aP):Nat×(ak4 dd)×Nat×(ak4 ak5))=>v5.xIdx.drop v10=v11/\xC N (λcq fS=>sq N v6 cq fS) v11 v10 aE aP=some r) (λ((v10,v11,aE,aP):Nat×(ak4 dd)×Nat×(ak4 ak5))=>v11.length) (0,v5.xIdx,v8,v9) (ako rfl) ⟨(eM trivial (eM trivial (kS (xs:=(v9.map dStr)) (eM trivial (eM trivial jr))))),by kernel_rfl⟩ ⟨rfl,U⟩ ?_;rintro⟨v10,v11,aE,aP⟩ ⟨h6,U⟩;cases v11 with
  |nil=>
   rw[xC]at U;refine ar ?_;refine rg [] [(22,(ax (decide ((v10:Int)<(v5.xIdx.length:Int)))))] (nt v1 aE aP cA cz v2 v5 []) (by kernel_rfl) ?_;refine ar ?_;refine dw (t:=(decide ((v10:Int)<(v5.xIdx.length:Int)))) (by kernel_rfl) (bK h6) ?_;refine kR (gO (gO (lS rfl ?_)));refine dX ?_;refine agS (xd v1 aE aP []) rfl (yt (by kernel_rfl) (yt (by kernel_rfl) (yt RH Wz))) ⟨(eM trivial (eM trivial (kS (xs:=(aP.map dStr)) (eM trivial jr)))),by kernel_rfl⟩ ?_;exact⟨(aE,aP),(by kernel_rfl),U⟩
  |cons v12 aA=>
   rw[xC]at U;refine ar ?_;refine rg [] [(22,(ax (decide ((v10:Int)<(v5.xIdx.length:Int)))))] (nt v1 aE aP cA cz v2 v5 []) (by kernel_rfl) ?_;refine ar ?_;refine cQ (t:=(decide ((v10:Int)<(v5.xIdx.length:Int)))) (by kernel_rfl) (bJ h6) ?_;refine cx ?_;refine aI ?_;refine ar ?_;refine dt ?_;refine ar ?_;refine rg [(1,oE (iG (bm h6)))] [(6,(.ptr 5 0))] (nt v1 aE aP cA cz v2 v5 [.cells (gC v12).cells]) (by kernel_rfl) ?_;refine ar ?_;refine rg [] [(27,(ax (!(bL v12.dk==bL (bs [])))))] (nt v1 aE aP cA cz v2 v5 [.cells (gC v12).cells]) (by kernel_rfl) ?_;rcases dC (bL v12.dk==bL (bs []))with h7|h7
   ·replace U:=(dc h7).symm.trans U;refine dw (t:=(!(bL v12.dk==bL (bs [])))) (by kernel_rfl) (cH h7) ?_;refine cx ?_;refine dX ?_;refine aI ?_;refine re [(2,oq (bS h6 rfl h5))] [(21,(aq ((v10+1:Nat):Int))),(33,(aq ((v10+1:Nat):Int)))] (nt v1 aE aP cA cz v2 v5 [.cells (gC v12).cells]) (by kernel_rfl) ?_;refine aI ?_;exact⟨(v10+1,aA,aE,aP),⟨(eM trivial (eM trivial (kS (xs:=(aP.map dStr)) (eM trivial (eM trivial jr))))),by kernel_rfl⟩,⟨ly h6,U⟩,ak2 _⟩
   replace U:=(dG h7).symm.trans U;refine cQ (t:=(!(bL v12.dk==bL (bs [])))) (by kernel_rfl) (dq h7) ?_;have h8:=my U;replace U:=(dc h8).symm.trans U;have h9:=my U;replace U:=(dc h9).symm.trans U;refine re [(13,⟨_,_, .pr (.ap (ck ((aP++[v12.dk]).map dStr)) (ck (([v12.dk]).map dStr)) (aE+1) (aE+1)) (HY (f:=dStr) (h:=(nt v1 aE aP cA cz v2 v5 [.cells (gC v12).cells])) (y:=(.full (cW [v12.dk]))) (k:=1) (aku h8) rfl (λc hc=>yL c (by rw[mn];exact hc)) rfl rfl (mu h9 (by decide)).1 (mu h9 (by decide)).2)⟩)] [(32,(.vec 2 0 (aE+1) (aE+1) 1)),(31,(.full (cW [v12.dk]))),(30,(c6 v12.dk)),(29,(.ptr 5 2)),(28,(.vec 2 0 aE aE 1))] (QL v1 aE aP v12 cA cz v2 v5 []) (by kernel_rfl) ?_;refine dX ?_;refine aI ?_;refine re [(2,oq (bS h6 rfl h5))] [(21,(aq ((v10+1:Nat):Int))),(33,(aq ((v10+1:Nat):Int)))] (QL v1 aE aP v12 cA cz v2 v5 []) (by kernel_rfl) ?_;refine aI ?_;exact⟨(v10+1,aA,(aE+1),(aP++[v12.dk])),⟨(eM trivial (eM trivial (kS (xs:=((aP++[v12.dk]).map dStr)) (eM trivial (eM trivial jr))))),by kernel_rfl⟩,⟨ly h6,U⟩,ak2 _⟩
 rintro⟨v3,v4⟩ U
 try dsimp only at U
 rw[sq]at U;refine dX ?_;refine aI ?_;refine ar ?_;obtain⟨v7,h3,U⟩:=bg U;refine rg [(4,⟨_,_, .Nh (tV (xs:=(v4.map dStr)) dm) (ajC dm) (lN:=[(.vec 2 0 v3 v3 1)]) (h:=(xd v1 v3 v4 [.gone])) (l:=[2]) (by kernel_rfl) (by kernel_rfl) (by kernel_rfl) (by kernel_rfl) (Y9 h3)⟩)] [(2,(.d (.sl (cW v7))))] (uy v1 [.cells [(.vec 2 0 v3 v3 1)], .gone, .gone]) (by kernel_rfl) ?_;refine cV ?_;have hr:=akz U;subst hr;exact fa (by kernel_rfl)
def T2(N:Nat)(v1:aZ)(v2:ak4 aX)(v3:ak4 bI):ak4 ak5->Nat->ak6 Int
 |[],_=>
  some (0:Int)
 |v8::v9,v6=>
  (uU N v1 v2 v8).bind λv10=>
  bif (v10.2.2 !=0)then
   some v10.2.2
  else
   (O0 N v3 v8 v10.2.1 v10.1).bind λv11=>
   bif (v11 !=0)then
    some v11
   else
    (T2 N v1 v2 v3 v9 (v6+1))
def QW(N:Nat)(v1:aZ)(v2:ak4 aX)(v3:ak4 bI)(v4:ay):ak6 Int:=
 (Ml N v4).bind λv5=>
 T2 N v1 v2 v3 v5 0
theorem aau{N v1 v2 v3 v4}:KO 65 [(c7 v1),(.d (.sl (aN v2))),(.d (.sl (bk v3))),(aB v4)] aq (QW N v1 v2 v3 v4):=
 fw Tryz.func65 (au λv5 J=>gA [[],[(4,cL (ajI J)),(7,oL v5 fR)]] (gT jK 16 v5 λh3=>dP 1 [] [1,2,4,16,17,18] 2 (λv6=>⟨42,[(1,(.d (.sl (aN v2)))),(2,(.d (.sl (bk v3)))),(4,(.ptr 0 0)),(16,(.d (.sl (cW v5)))),(17,(aq (v5.length:Int))),(18,(aq (v6:Int)))],[.cells (c7 v1).cells, .cells (aB v4).cells]⟩) (λv6 h4 f1=>gR [[],[f0 (bK h4)],[]]) (λv6 v8 v9 h4 f1 aG=>au λv10 h5=>gA [[],[t0 (bJ h4)],[(1,oE (mo (bm h4)))],[(10,cK Ew h5)],[]] (bj λh6=>au λv11 h7=>gA [[f0 h6],[(13,cK UG h7)],[]] (bj λh8=>gb aG () [[f0 h8],[(2,oq (bS h4 rfl h3))]] h4)))))
def Ht(N:Nat)(v1:ak4 bI):ak6 ((ak4 bI)×(ak4 (ak5×bA))):=
 some (v1,[])
def Xq(v1:ak4 bI)(l:ak4 ao):ak4 ao:= .cells [(.d (.sl (bk v1)))]:: .map (bY cf []):: .cells [(.mp 1)]::l
theorem xV(N:Nat)(v1:ak4 bI)(r:(ak4 bI)×(ak4 (ak5×bA)))(U:Ht N v1=some r):KH 54 [(.d (.sl (bk v1)))] [] (.fn 96 [(.ptr 2 0),(.ptr 0 0)]) ([.cells [(.d (.sl (bk r.1)))], .map (bY cf r.2), .cells [(.mp 1)]]):=by
 rw[Ht]at U;refine AR 3 Tryz.func54 rfl (by kernel_rfl) (ako rfl) ?_;refine lG (s':=⟨6,[(0,(.d (.sl (bk v1))))],[]⟩) (by kernel_rfl) ?_;refine ar ?_;refine rg [] [(1,(.ptr 0 0))] [.cells [(.d (.sl (bk v1)))]] (by kernel_rfl) ?_;refine ar ?_;refine rg [] [(3,(.ptr 2 0))] (Xq v1 []) (by kernel_rfl) ?_;refine ar ?_;refine rg [] [(2,(.fn 96 [(.ptr 2 0),(.ptr 0 0)]))] (Xq v1 []) (by kernel_rfl) ?_;refine cV ?_;have hr:=akz U;subst hr;exact tu (eM trivial (eM trivial (eM trivial jr))) (by kernel_rfl)
def E0(N:Nat)(v1:ak4 Int):ak6 ((ak4 Int)):=
 bif (Nat.ble ((0+v1.length)*8) 140737488355328)then
 some v1
 else none
def NL(v1:ak4 Int)(l:ak4 ao):ak4 ao:= .cells [(.own 1 (bq v1))]:: .front 3 1 v1.length::l
theorem Up{N v1 r}(U:E0 N v1=some r):KH 66 [(.d (.sl (bq v1)))] [] (.fn 113 [(.bn [[(.sl (bq r))]] 0 0)]) []:=by
 rw[E0]at U;refine pj 0 Tryz.func66 rfl (by kernel_rfl) (ako rfl) ?_;refine lG (s':=⟨6,[(0,(.d (.sl (bq v1))))],[]⟩) (by kernel_rfl) ?_;refine ar ?_;refine rg [] [(1,(.ptr 0 0))] [.cells [(.d (.sl (bq v1)))]] (by kernel_rfl) ?_;refine ar ?_;have J:=my U;replace U:=(dc J).symm.trans U;refine rg [(4,oZ lJ v1 J)] [] (NL v1 []) (by kernel_rfl) ?_;refine ar ?_;refine rg [] [(2,(.fn 113 [(.ptr 0 0)]))] (NL v1 []) (by kernel_rfl) ?_;refine fA [2] 2 (ako rfl) (s':=⟨6,[(2,(.fn 113 [(.ptr 0 0)]))],(NL v1 [])⟩) (by kernel_rfl) ?_;refine acv 0 (s':=⟨6,[(2,(.fn 113 [(.bn [[(.sl (bq v1))]] 0 0)]))],[.gone, .front 3 1 v1.length]⟩) (by kernel_rfl) ?_;refine cV ?_;have hr:=akz U;subst hr;exact iT (by kernel_rfl)
def Lz(N:Nat)(v6:Bool):ak4 Int->Nat->Int->ak6 Int
 |[],_,_=>
  some (0:Int)
 |v9::v10,v7,v11=>
  Option.bind (bif v6 then some false else bif (v11 !=0)then
  some (decide (v9>(IntKind.i64.wrap (((65536:Int)).tdiv v11))))
  else none) λv12=>
  bif v12 then
   some (2:Int)
  else
   bif v6 then
    (λgP=>Lz N v6 v10 (v7+1) gP) v11
   else
    (λgP=>Lz N v6 v10 (v7+1) gP) (aK (v11*v9))
def Yd(N:Nat)(v1:ak4 Int):ak4 Int->Nat->Bool->ak6 Int
 |[],_,v6=>
  Lz N v6 v1 0 (1:Int)
 |v4::v5,v2,v6=>
  bif (decide (v4<0))then
   some (1:Int)
  else
   Option.bind (bif v6 then some true else some (v4==0)) λaA=>
   (λcq=>Yd N v1 v5 (v2+1) cq) aA
def PI(N:Nat)(v1:ak4 Int):ak6 Int:=
 bif (decide ((v1.length:Int)>16))then
  some (2:Int)
 else
  Yd N v1 v1 0 false
theorem aez{N v1}:KO 258 [(.d (.sl (bq v1)))] aq (PI N v1):=
 fw Tryz.func258 (gA [[],[(4,oL v1 fQ)]] (bj λJ=>gA [[f0 J],[],[(4,oL v1 fQ)]] (gT lJ 0 v1 λh3=>fq 1 [] [0,3,4,12,13,14] 0 (λv2(v6:Bool)=>⟨46,[(0,(.d (.sl (bq v1)))),(3,(aq (1:Int))),(4,(ax v6)),(12,(.d (.sl (bq v1)))),(13,(aq (v1.length:Int))),(14,(aq (v2:Int)))],[]⟩) (λv2 v6 h4 f1=>gA [[],[f0 (bK h4)],[(4,oL v1 fQ)]] (gT lJ 0 v1 λh6=>fq 2 [] [3,4,26,27,28] 0 (λv7(v11:Int)=>⟨46,[(3,(aq v11)),(4,(ax v6)),(26,(.d (.sl (bq v1)))),(27,(aq (v1.length:Int))),(28,(aq (v7:Int)))],[]⟩) (λv7 v11 h7 f2=>gR [[],[f0 (bK h7)],[]]) (λv7 v9 v10 v11 h7 f2 dT=>gA [[],[t0 (bJ h7)],[(1,oE (jb (bm h7)))]] (gG (λv12=>[(39,(ax v12))]) (λ_=>[]) (aw (λh8=>gE [(2,bF (cH h8))] []) λh8=>dh λh9=>gE [(2,bT (dq h8))] [(16,⟨_,_, .nz (b:=v11) (bne_iff_ne.1 h9)⟩)]) λv12=>fU λ_=>aw (λaT=>gb dT v11 [[f0 (cH aT)],[(2,oq (bS h7 rfl h6))]] h7) λaT=>gb dT (aK (v11*v9)) [[t0 (dq aT)],[],[(2,oq (bS h7 rfl h6))]] h7)))) (λv2 v4 v5 v6 h4 f1 aG=>gA [[],[t0 (bJ h4)],[(1,oE (jb (bm h4)))],[]] (bj λbN=>gA [[f0 bN]] (gG (λaA=>[(4,(ax aA))]) (λ_=>[]) (aw (λbZ=>gE [(1,bT bZ)] []) λbZ=>gE [(1,bF bZ)] []) λaA=>gb aG aA [[(2,oq (bS h4 rfl h3))]] h4))))))
def SK(N:Nat):ak4 Int->Nat->Int->ak6 Int
 |[],_,v11=>
  some v11
 |v9::v10,v7,v11=>
  (λgP=>SK N v10 (v7+1) gP) (aK (v11*v9))
def T8(N:Nat)(v1:ak4 Int):ak4 Int->Nat->ak6 Int
 |[],_=>
  SK N v1 0 (1:Int)
 |v5::v6,v3=>
  bif (v5==0)then
   some (0:Int)
  else
   (T8 N v1 v6 (v3+1))
def L9(N:Nat)(v1:ak4 Int):ak6 Int:=
 (PI N v1).bind λv2=>
 bif (v2 !=0)then
  some (0:Int)
 else
  T8 N v1 v1 0
theorem Uz{N v1}:KO 198 [(.d (.sl (bq v1)))] aq (L9 N v1):=
 fw Tryz.func198 (au λv2 J=>gA [[],[(4,cK aez J)]] (bj λh2=>gA [[f0 h2],[],[(4,oL v1 fQ)]] (gT lJ 0 v1 λh4=>dP 1 [] [0,3,11,12,13] 0 (λv3=>⟨31,[(0,(.d (.sl (bq v1)))),(3,(aq (1:Int))),(11,(.d (.sl (bq v1)))),(12,(aq (v1.length:Int))),(13,(aq (v3:Int)))],[]⟩) (λv3 h5 f1=>gA [[],[f0 (bK h5)],[(4,oL v1 fQ)]] (gT lJ 0 v1 λh7=>fq 2 [] [3,20,21,22] 0 (λv7(v11:Int)=>⟨31,[(3,(aq v11)),(20,(.d (.sl (bq v1)))),(21,(aq (v1.length:Int))),(22,(aq (v7:Int)))],[]⟩) (λv7 v11 h8 f2=>gR [[],[f0 (bK h8)],[]]) (λv7 v9 v10 v11 h8 f2 dT=>gb dT (aK (v11*v9)) [[],[t0 (bJ h8)],[(1,oE (jb (bm h8)))],[],[(2,oq (bS h8 rfl h7))]] h8))) (λv3 v5 v6 h5 f1 aG=>gA [[],[t0 (bJ h5)],[(1,oE (jb (bm h5)))],[]] (bj λh9=>gb aG () [[f0 h9],[(2,oq (bS h5 rfl h4))]] h5)))))
def Nf(N:Nat)(v1:ak4 Int):Nat->Int->Int->(ak4 Int)->ak6 ((ak4 Int)×Bool)
 |0,_,_,_=>none
 |v5+1,v6,v7,v8=>
  bif (decide (v7>=0))then
   bif (decide ((0:Int)<=v7))then
   Option.bind (v1[(v7).toNat]?) λv9=>
   bif (v9 !=0)then
   bif (Nat.beq v8.length v1.length)then
   bif (decide (v7<(v1.length:Int)))then
   Option.bind (v8[(v7).toNat]?) λv10=>
   (λcq fS uM=>Nf N v1 v5 cq fS uM) (IntKind.i64.wrap ((v6).tdiv v9)) (aK (v7-(1:Int))) (v8.set ((v7).toNat) ((v6).tmod v9))
   else none
   else none
   else none
   else none
  else
   bif (Nat.beq v8.length v1.length)then
   some (v8,true)
   else none
def Ol(N:Nat)(v1:ak4 Int)(v2:Int):ak6 ((ak4 Int)×Bool):=
 Option.bind (bif (decide (v2<0))then some true else (L9 N v1).bind λv3=>
 some (decide (v2>=v3))) λv4=>
 bif v4 then
  some ([],false)
 else
  bif (Nat.ble (v1.length*8) 140737488355328)then
  Nf N v1 N v2 (aK ((v1.length:Int)-(1:Int))) (List.replicate v1.length 0)
  else none
theorem Yy{N v1 v2}:KO 115 [(.d (.sl (bq v1))),(aq v2)] (λr=> .aW [(.d (.sl (bq r.1))),(ax r.2)]) (Ol N v1 v2):=
 fw Tryz.func115 (gA [[]] (gG (λv4=>[(15,(ax v4))]) (λ_=>[]) (aw (λJ=>gE [(2,bT J)] []) λJ=>au λv3 h2=>gE [(2,bF J)] [(16,cK Uz h2)]) λv4=>bj λh4=>dh λh5=>ad6 1 [[f0 h4],[(4,oL v1 fQ),(7,⟨_,_, .pr (.mk (ck ((List.replicate v1.length 0).map eI)) v1.length v1.length) (abd (f:=eI) (d0:=0) (de:=8) rfl rfl (mu h5 (by decide)))⟩)],[(4,oL v1 fQ)]] [0,1,6,7] 1 [] [] (λ(v6:Int)(v7:Int)(v8:(ak4 Int))=>⟨42,[(0,(.d (.sl (bq v1)))),(1,(aq v6)),(6,(.vec 0 0 v1.length v1.length 1)),(7,(aq v7))],[.vec 3 1 (ck (v8.map eI))]⟩) (Nf N v1) (λv5 v6 v7 v8 f1 aG=>gA [[]] (aw (λh6=>dh λh8=>au λv9 h7=>dh λh9=>dh λaO=>dh λaY=>au λv10 aT=>ajl aG ((IntKind.i64.wrap ((v6).tdiv v9)),(aK (v7-(1:Int))),(v8.set ((v7).toNat) ((v6).tmod v9))) [[t0 h6],[(16,⟨_,_, .el (xs:=bq v1) (i:=v7) (of_decide_eq_true h8) (jb h7)⟩),(22,⟨_,_, .nz (b:=v9) (bne_iff_ne.1 h9)⟩),(25,⟨_,_, .pr (.ix ((v7).toNat)) (SN (zo (f:=eI) (aku aO)) (of_decide_eq_true h8) (of_decide_eq_true aY) rfl)⟩),(28,⟨_,_, .pr (.st ((eI v10).map AV.d) (ck ((v8.set ((v7).toNat) ((v6).tmod v9)).map eI))) (ahc (f:=eI) (j:=0) (y:=((v6).tmod v9)) (zs:=[(aq ((v6).tmod v9))]) (aku aO) aT rfl)⟩)],[(10,⟨_,_, .el (xs:=bq v1) (i:=v7) (of_decide_eq_true h8) (jb h7)⟩),(16,⟨_,_, .nz (b:=v9) (bne_iff_ne.1 h9)⟩)],[]] (kx:=[.IS ((v8.set ((v7).toNat) ((v6).tmod v9)).map eI)])) λh6=>dh λbZ=>gA [[f0 h6]] (li (λ_=>(ahH [6] 0 (bq v8) v1.length 1 3 1 [.IS (v8.map eI)] (acj (aku bZ)) (nX _) (ae6 (λ_=>rfl) _) ·)) (gR [[]])))) (kx:=[.IS ((List.replicate v1.length 0).map eI)])))
def GZ(N:Nat)(v1:ak4 Int):Nat->Nat->ak6 (ak4 (ak4 Int))
 |0,_=>some []
 |n+1,k=>Option.bind (Ol N v1 (k:Int)) λr=>bif r.2 then Option.bind (GZ N v1 n (k+1)) λl=>some (r.1::l)else none
def JP(N:Nat)(v1:ak4 Int):ak6 (ak4 (ak4 Int)):=(L9 N v1).bind λn=>bif (decide ((0:Int)<=n)&&Nat.ble n.toNat 9223372036854775807)then GZ N v1 n.toNat 0 else none
theorem Wp{N:Nat}{v1:ak4 Int}:∀(n s:Nat)(r:ak4 (ak4 Int)),GZ N v1 n s=some r->r.length=n/\∀(k:Nat)(p:ak4 Int),r[k]?=some p->Ol N v1 ((s+k:Nat):Int)=some (p,true)
 |0,s,r,h=>by cases h;exact⟨rfl,λk p hk=>by simp at hk⟩
 |n+1,s,r,h=>by
  rw[GZ]at h;obtain⟨x,J,h⟩:=bg h;obtain⟨hb,h⟩:=j7 h;obtain⟨l,h2,h⟩:=bg h;cases h
  obtain⟨q1,q2⟩:=Wp n (s+1) l h2;refine⟨by rw[akj,q1],λk p hk=> ?_⟩;cases k with
  |zero=>
   cases hk
   obtain⟨a,b⟩:=x;simp only at hb;subst hb;exact J
  |succ k=>
   rw[show s+(k+1)=s+1+k by omega];exact q2 k p hk
theorem Tf{N:Nat}{v1:ak4 Int}{r:ak4 (ak4 Int)}(U:JP N v1=some r):wT Tryz.prog 113 [n9 v1] (r.map oz):=by
 obtain⟨n,J,U⟩:=bg U;obtain⟨hb,hL⟩:=j7 U;rw[aki]at hb;obtain⟨q1,q2⟩:=Wp _ _ _ hL;have hn:((n.toNat:Nat):Int)=n:=Int.toNat_of_nonneg (of_decide_eq_true hb.1);refine ada v1 r (by rw[q1];exact ako hb.2) (by rw[q1,hn];exact Uz _ J) λk p hk=> ?_;have:=q2 k p hk;rw[akA]at this;exact Yy _ this
def UW(N:Nat)(v3:ak4 aX)(v2:ak4 Int):ak4 dJ->Nat->(ak4 aX)->ak6 ((ak4 aX))
 |[],_,v8=>
  bif (Nat.ble ((v8.length+v3.length)*24) 140737488355328)then
  some (v8++v3)
  else none
 |v6::v7,v4,v8=>
  Option.bind (v2[((v4:Int)).toNat]?) λv9=>
  bif (aK v9==v9)then
  bif (Nat.ble ((v8.length+1)*24) 140737488355328)then
  (λcq=>UW N v3 v2 v7 (v4+1) cq) (v8++[(⟨v6.aF,(Int64.ofInt v9)⟩:aX)])
  else none
  else none
def OD(N:Nat)(v1:ak4 dJ)(v2:ak4 Int)(v3:ak4 aX):ak6 ((ak4 aX)):=
 UW N v3 v2 v1 0 []
theorem RZ{N v1 v2 v3}:KO 68 [(.d (.sl (gx v1))),(.d (.sl (bq v2))),(.d (.sl (aN v3)))] (λr=> .d (.sl (aN r))) (OD N v1 v2 v3):=
 fw Tryz.func68 (gA [[],[],[(4,oL v1 fO)]] (li (λ_=>(mG 7 75 2 [] (.inr (by kernel_rfl)) ·)) (gT m8 0 v1 λh2=>fq 1 [] [1,2,7,10,11,12] 1 (λv4(v8:ak4 aX)=>⟨31,[(1,(.d (.sl (bq v2)))),(2,(.d (.sl (aN v3)))),(7,(.own 0 (aN v8))),(10,(.d (.sl (gx v1)))),(11,(aq (v1.length:Int))),(12,(aq (v4:Int)))],[.front 75 2 v8.length]⟩) (λv4 v8 h3 f1=>dh λh4=>gR [[],[f0 (bK h3)],[(7,oA ve v8 v3 h4)]]) (λv4 v6 v7 v8 h3 f1 aG=>au λv9 h5=>dh λh7=>dh λh8=>gb aG (v8++[(⟨v6.aF,(Int64.ofInt v9)⟩:aX)]) [[],[t0 (bJ h3)],[(4,oE (mV (bm h3)))],[(16,oE (jb h5)),(23,⟨_,_, .eq (congrArg (λz=>AV.agg [(c6 v6.aF),z]) (Ez (beq_iff_eq.1 h7)))⟩),(28,oA ve v8 ([(⟨v6.aF,(Int64.ofInt v9)⟩:aX)]) h8)],[(2,oq (bS h3 rfl h2))]] h3))))
def Bf(N:Nat)(v1:ak4 aX)(v2:ak4 bI)(v3:ak4 (ak5×bA)):ak6 ((ak4 aX)):=
 some v1
def Ck(v2:ak4 bI)(v3:ak4 (ak5×bA))(v1:ak4 aX)(l:ak4 ao):ak4 ao:= .cells [(.mp 2)]:: .cells [(.d (.sl (bk v2)))]:: .map (bY cf v3):: .cells [(.fn 96 [(.ptr 0 0),(.ptr 1 0)])]:: .cells [(.d (.sl (aN v1)))]::l
theorem jq{N v1 v2 v3 r}(U:Bf N v1 v2 v3=some r):KH 53 [(.fn 96 [(.ptr 0 0),(.ptr 1 0)]),(.d (.sl (aN v1)))] ([.cells [(.mp 2)], .cells [(.d (.sl (bk v2)))], .map (bY cf v3)]) (.ptr 5 0) ([.cells [(.mp 2)], .cells [(.d (.sl (bk v2)))], .map (bY cf v3), .cells [(.fn 96 [(.ptr 0 0),(.ptr 1 0)])], .cells [(.d (.sl (aN r)))], .cells [(.fn 93 [(.ptr 3 0),(.ptr 4 0),(.ptr 6 0)]),(.fn 91 [(.ptr 6 0)])], .cells [(.ptr 5 0)]]):=by
 rw[Bf]at U;refine AR 7 Tryz.func53 rfl (by kernel_rfl) (ako rfl) ?_;refine lG (s':=⟨17,[(0,(.fn 96 [(.ptr 0 0),(.ptr 1 0)])),(1,(.d (.sl (aN v1))))],[.cells [(.mp 2)], .cells [(.d (.sl (bk v2)))], .map (bY cf v3)]⟩) (by kernel_rfl) ?_;refine ar ?_;refine rg [] [(2,(.ptr 3 0)),(3,(.ptr 4 0))] (Ck v2 v3 v1 []) (by kernel_rfl) ?_;refine ar ?_;refine rg [] [(5,(.ptr 6 0))] (Ck v2 v3 v1 [.cells [(.d (.v .nilFunc)),(.d (.v .nilFunc))], .cells [(.ptr 5 0)]]) (by kernel_rfl) ?_;refine ar ?_;refine rg [] [] (Ck v2 v3 v1 [.cells [(.d (.v .nilFunc)),(.fn 91 [(.ptr 6 0)])], .cells [(.ptr 5 0)]]) (by kernel_rfl) ?_;refine ar ?_;refine rg [] [] (Ck v2 v3 v1 [.cells [(.fn 93 [(.ptr 3 0),(.ptr 4 0),(.ptr 6 0)]),(.fn 91 [(.ptr 6 0)])], .cells [(.ptr 5 0)]]) (by kernel_rfl) ?_;refine ar ?_;refine rg [] [(4,(.ptr 5 0))] (Ck v2 v3 v1 [.cells [(.fn 93 [(.ptr 3 0),(.ptr 4 0),(.ptr 6 0)]),(.fn 91 [(.ptr 6 0)])], .cells [(.ptr 5 0)]]) (by kernel_rfl) ?_;refine cV ?_;have hr:=akz U;subst hr;exact tu (eM trivial (eM trivial (eM trivial (eM trivial (eM trivial (eM trivial (eM trivial jr))))))) (by kernel_rfl)
def NB(N:Nat)(v1:ak5)(v2:ak4 bI)(v3:ak4 (ak5×bA)):ak6 (bA×Int×(ak4 (ak5×bA))):=
 bif (oy v3 v1)then
  some ((gv v3 v1 (⟨(⟨0,0,0,0,0⟩:aV),[],[]⟩:bA)),(0:Int),v3)
 else
  (Dq N v2 v1).bind λv4=>
  bif v4.2 then
   (Nj N v4.1).bind λv5=>
   bif (v5 !=0)then
    some (v4.1,(1:Int),v3)
   else
    bif (Nat.blt v3.length 9223372036854775807)then
    some (v4.1,(0:Int),((v1,v4.1)::v3))
    else none
  else
   some (v4.1,(9:Int),v3)
theorem X3{N v1 v2 v3}:KP 96 [(c6 v1),(.ptr 0 0),(.ptr 1 0)] [.cells [(.mp 2)], .cells [(.d (.sl (bk v2)))], .map (bY cf v3)] (λr=> .aW [(jv r.1),(aq r.2.1)]) (λr=>[.cells [(.mp 2)], .cells [(.d (.sl (bk v2)))], .map (bY cf r.2.2)]) (NB N v1 v2 v3):=
 fh 3 Tryz.func96 (gA [[],[(8,⟨_,_, .eq (adX cf (.agg #[.int .i64 0, .int .i64 0, .int .i64 0, .int .i64 0, .int .i64 0, .slice none 0 0, .slice none 0 0]) (⟨(⟨0,0,0,0,0⟩:aV),[],[]⟩:bA) rfl true v3 v1)⟩)],[]] (aw (λJ=>gH [[t0 J],[]]) λJ=>au λv4 h2=>gA [[f0 J],[(7,cK Ea h2)],[]] (aw (λh3=>au λv5 h4=>gA [[f0 (cH h3)],[(4,cK Tg h4)]] (aw (λh5=>gH [[t0 h5],[]]) λh5=>dh λh6=>gH [[f0 h5],[(10,⟨_,_, .sd (o:= .none) (aaZ (f:=cf) h6)⟩)],[]])) λh3=>gH [[t0 (dq h3)],[]])))
def KY(N:Nat)(v1:Int)(v2:Int64)(v3:Int):ak6 (Int×Int):=
 Option.bind (bif (decide (v2.toInt<0))then some true else some (decide (v2.toInt>=v3))) λv4=>
 bif v4 then
  some ((0:Int),(12:Int))
 else
  some ((aK ((aK (v1*v3))+v2.toInt)),(0:Int))
theorem PK{N v1 v2 v3}:KO 238 [(aq v1),(bG v2),(aq v3)] (λr=> .aW [(aq r.1),(aq r.2)]) (KY N v1 v2 v3):=
 fw Tryz.func238 (gA [[]] (gG (λv4=>[(14,(ax v4))]) (λ_=>[]) (aw (λJ=>gE [(2,bT J)] []) λJ=>gE [(2,bF J)] []) λv4=>bj λh3=>gR [[f0 h3],[]]))
def PN(N:Nat)(v6:bA×Int×(ak4 (ak5×bA)))(v3:Int)(v1:ak4 aX):ak4 bp->Nat->Int->ak6 (Int64×Int×(ak4 (ak5×bA)))
 |[],_,v11=>
  bif (decide ((0:Int)<=v11))then
  Option.bind (v6.1.kh[(v11).toNat]?) λv12=>
  bif (aK (if(if(aK (v3-(1:Int)))<v12.xN.toInt then(aK (v3-(1:Int)))else v12.xN.toInt)>0then(if(aK (v3-(1:Int)))<v12.xN.toInt then(aK (v3-(1:Int)))else v12.xN.toInt)else(0:Int))==(if(if(aK (v3-(1:Int)))<v12.xN.toInt then(aK (v3-(1:Int)))else v12.xN.toInt)>0then(if(aK (v3-(1:Int)))<v12.xN.toInt then(aK (v3-(1:Int)))else v12.xN.toInt)else(0:Int)))then
  some ((Int64.ofInt (if(if(aK (v3-(1:Int)))<v12.xN.toInt then(aK (v3-(1:Int)))else v12.xN.toInt)>0then(if(aK (v3-(1:Int)))<v12.xN.toInt then(aK (v3-(1:Int)))else v12.xN.toInt)else(0:Int))),(0:Int),v6.2.2)
  else none
  else none
 |v9::v10,v7,v11=>
  (tb N v9 v1).bind λaA=>
  bif (aA.2 !=0)then
   some ((0:Int64),aA.2,v6.2.2)
  else
   Option.bind (v6.1.bo[((v7:Int)).toNat]?) λaE=>
   (KY N v11 aA.1 aE).bind λaP=>
   bif (aP.2 !=0)then
    some ((0:Int64),aP.2,v6.2.2)
   else
    (λcq=>PN N v6 v3 v1 v10 (v7+1) cq) aP.1
def Sr(N:Nat)(v1:ak4 aX)(v2:dd)(v3:Int)(v4:ak4 bI)(v5:ak4 (ak5×bA)):ak6 (Int64×Int×(ak4 (ak5×bA))):=
 (NB N v2.dk v4 v5).bind λv6=>
 bif (v6.2.1 !=0)then
  some ((0:Int64),v6.2.1,v6.2.2)
 else
  bif (v6.1.aJ.cg !=3)then
   some ((0:Int64),(10:Int),v6.2.2)
  else
   bif ((v2.da.length:Int) !=(v6.1.bo.length:Int))then
    some ((0:Int64),(11:Int),v6.2.2)
   else
    PN N v6 v3 v1 v2.da 0 (0:Int)
theorem aeS{N v1 v2 v3 v4 v5}:KP 237 [(.fn 96 [(.ptr 0 0),(.ptr 1 0)]),(.d (.sl (aN v1))),(gC v2),(aq v3)] [.cells [(.mp 2)], .cells [(.d (.sl (bk v4)))], .map (bY cf v5)] (λr=> .aW [(bG r.1),(aq r.2.1)]) (λr=>[.cells [(.mp 2)], .cells [(.d (.sl (bk v4)))], .map (bY cf r.2.2)]) (Sr N v1 v2 v3 v4 v5):=
 fh 3 Tryz.func237 (au λv6 J=>gA [[],[(10,oR [(c6 v2.dk),(.ptr 0 0),(.ptr 1 0)] [.cells [(.mp 2)], .cells [(.d (.sl (bk v4)))], .map (bY cf v5), .cells (gC v2).cells] [0,1,2] (X3 _ J))],[]] (aw (λh2=>gH [[t0 h2],[]]) λh2=>gA [[f0 h2],[]] (aw (λh3=>gH [[t0 h3],[]]) λh3=>gA [[f0 h3],[(7,oL v2.da fy),(16,oL v6.1.bo fQ)]] (aw (λh4=>gH [[t0 h4],[]]) λh4=>gA [[f0 h4],[],[(7,oL v2.da fy)]] (gT mv 42 v2.da λh6=>fq 1 [] [1,3,10,12,42,43,44] 5 (λv7(v11:Int)=>⟨83,[(1,(.d (.sl (aN v1)))),(3,(aq v3)),(10,(.ptr 4 0)),(12,(aq v11)),(42,(.d (.sl (eW v2.da)))),(43,(aq (v2.da.length:Int))),(44,(aq (v7:Int)))],[.cells [(.mp 2)], .cells [(.d (.sl (bk v4)))], .map (bY cf v6.2.2), .cells (gC v2).cells, .cells (jv v6.1).cells]⟩) (λv7 v11 h7 f1=>dh λh9=>au λv12 h8=>dh λaO=>gH [[],[f0 (bK h7)],[(10,⟨_,_, .el (xs:=dV v6.1.kh) (i:=v11) (of_decide_eq_true h9) (pM h8)⟩),(32,⟨_,_, .eq (Ez (beq_iff_eq.1 aO))⟩)]]) (λv7 v9 v10 v11 h7 f1 aG=>au λaA aY=>gA [[],[t0 (bJ h7)],[(4,oE (ng (bm h7)))],[(7,cK Dl aY)],[]] (aw (λaT=>gH [[t0 aT],[]]) λaT=>au λaE bN=>au λaP bM=>gA [[f0 aT],[(16,oE (jb bN)),(22,cK PK bM)],[]] (aw (λcn=>gH [[t0 cn],[]]) λcn=>gb aG aP.1 [[f0 cn],[(2,oq (bS h7 rfl h6))]] h7))))))))
def Hd(N:Nat)(v5:bA×Int×(ak4 (ak5×bA)))(v6:Nat)(v10:Int)(ky:Int->(ak4 (ak5×bA))->ak6 (fv×Int×(ak4 (ak5×bA))))(aA:Int)(aE:Int64)(aP:ak4 (ak5×bA)):ak6 (fv×Int×(ak4 (ak5×bA))):=
 bif (aA !=0)then
  some (xu,aA,aP)
 else
  Option.bind (v5.1.bo[((v6:Int)).toNat]?) λbC=>
  (KY N v10 aE bC).bind λbW=>
  bif (bW.2 !=0)then
   some (xu,bW.2,aP)
  else
   ky bW.1 aP
def tS(N:Nat)(v5:bA×Int×(ak4 (ak5×bA)))(v1:ak4 aX)(v3:ak4 bI):ak4 dd->Nat->Int->(ak4 (ak5×bA))->ak6 (fv×Int×(ak4 (ak5×bA)))
 |[],_,v10,v11=>
  bif (decide ((0:Int)<=v10))then
  Option.bind (v5.1.kh[(v10).toNat]?) λv12=>
  some ((⟨v12,v5.1.aJ⟩:fv),(0:Int),v11)
  else none
 |v8::v9,v6,v10,v11=>
  bif (bL v8.dk==bL (bs []))then
   (tb N v8.bO v1).bind λbH=>
   Hd N v5 v6 v10 (λcq fS=>tS N v5 v1 v3 v9 (v6+1) cq fS) bH.2 bH.1 v11
  else
   Option.bind (v5.1.bo[((v6:Int)).toNat]?) λcd=>
   (Sr N v1 v8 cd v3 v11).bind λv20=>
   Hd N v5 v6 v10 (λcq fS=>tS N v5 v1 v3 v9 (v6+1) cq fS) v20.2.1 v20.1 v20.2.2
def Mu(N:Nat)(v1:ak4 aX)(v2:ay)(v3:ak4 bI)(v4:ak4 (ak5×bA)):ak6 (fv×Int×(ak4 (ak5×bA))):=
 (NB N v2.aF v3 v4).bind λv5=>
 bif (v5.2.1 !=0)then
  some (xu,v5.2.1,v5.2.2)
 else
  bif ((v2.xIdx.length:Int) !=(v5.1.bo.length:Int))then
   some (xu,(11:Int),v5.2.2)
  else
   tS N v5 v1 v3 v2.xIdx 0 (0:Int) v5.2.2
def xF(v3:ak4 bI)(v4:ak4 (ak5×bA))(v2:ay)(l:ak4 ao):ak4 ao:= .cells [(.mp 2)]:: .cells [(.d (.sl (bk v3)))]:: .map (bY cf v4):: .cells (aB v2).cells:: .cells dE::l
def vw(v3:ak4 bI)(v5:bA×Int×(ak4 (ak5×bA)))(v2:ay)(l:ak4 ao):ak4 ao:= .cells [(.mp 2)]:: .cells [(.d (.sl (bk v3)))]:: .map (bY cf v5.2.2):: .cells (aB v2).cells:: .cells dE:: .cells (jv v5.1).cells::l
def nK(v3:ak4 bI)(v11:ak4 (ak5×bA))(v2:ay)(v5:bA×Int×(ak4 (ak5×bA)))(v8:dd)(l:ak4 ao):ak4 ao:=xF v3 v11 v2 (.cells (jv v5.1).cells:: .cells (gC v8).cells::l)
def NH(v3:ak4 bI)(l:ak4 ao):ak4 ao:= .cells [(.mp 2)]:: .cells [(.d (.sl (bk v3)))]::l
theorem ahV(N:Nat)(v1:ak4 aX)(v2:ay)(v3:ak4 bI)(v4:ak4 (ak5×bA))(r:fv×Int×(ak4 (ak5×bA)))(U:Mu N v1 v2 v3 v4=some r):KH 159 [(.fn 96 [(.ptr 0 0),(.ptr 1 0)]),(.d (.sl (aN v1))),(aB v2)] ([.cells [(.mp 2)], .cells [(.d (.sl (bk v3)))], .map (bY cf v4)]) (.aW [(dQ r.1),(aq r.2.1)]) ([.cells [(.mp 2)], .cells [(.d (.sl (bk v3)))], .map (bY cf r.2.2)]):=by
 rw[Mu]at U;refine pj 3 Tryz.func159 rfl (by kernel_rfl) (ako rfl) ?_;refine lG (s':=⟨91,[(0,(.fn 96 [(.ptr 0 0),(.ptr 1 0)])),(1,(.d (.sl (aN v1)))),(2,(aB v2))],(NH v3 [.map (bY cf v4)])⟩) (by kernel_rfl) ?_;refine ar ?_;refine rg [] [(5,(.ptr 3 0)),(6,(.ptr 4 0))] (xF v3 v4 v2 []) (by kernel_rfl) ?_;refine ar ?_;obtain⟨v5,J,U⟩:=bg U;refine rg [(10,oR [(c6 v2.aF),(.ptr 0 0),(.ptr 1 0)] (xF v3 v4 v2 []) [0,1,2] (X3 _ J))] [(8,(.ptr 5 0)),(9,(aq v5.2.1))] (vw v3 v5 v2 []) (by kernel_rfl) ?_;refine ar ?_;refine ar ?_;refine rg [] [(22,(ax (v5.2.1 !=0)))] (vw v3 v5 v2 []) (by kernel_rfl) ?_;rcases dC (v5.2.1 !=0)with h2|h2
 ·replace U:=(dc h2).symm.trans U;refine cQ (t:=(v5.2.1 !=0)) (by kernel_rfl) h2 ?_;refine ar ?_;refine rg [] [(7,(aq v5.2.1))] (vw v3 v5 v2 []) (by kernel_rfl) ?_;refine cV (cU ?_);have hr:=akz U;subst hr;exact iT (by kernel_rfl)
 replace U:=(dG h2).symm.trans U;refine dw (t:=(v5.2.1 !=0)) (by kernel_rfl) h2 ?_;refine cx ?_;refine aI ?_;refine ar ?_;refine ar ?_;refine rg [(7,oL v2.xIdx fZ),(16,oL v5.1.bo fQ)] [(31,(ax ((v2.xIdx.length:Int) !=(v5.1.bo.length:Int))))] (vw v3 v5 v2 []) (by kernel_rfl) ?_;rcases dC ((v2.xIdx.length:Int) !=(v5.1.bo.length:Int))with h3|h3
 ·replace U:=(dc h3).symm.trans U;refine cQ (t:=((v2.xIdx.length:Int) !=(v5.1.bo.length:Int))) (by kernel_rfl) h3 ?_;refine ar ?_;refine rg [] [(7,(aq (11:Int)))] (vw v3 v5 v2 []) (by kernel_rfl) ?_;refine cV (cU ?_);have hr:=akz U;subst hr;exact iT (by kernel_rfl)
 replace U:=(dG h3).symm.trans U;refine dw (t:=((v2.xIdx.length:Int) !=(v5.1.bo.length:Int))) (by kernel_rfl) h3 ?_;refine cx ?_;refine aI ?_;refine ar ?_;refine rg [] [(10,(aq (0:Int)))] (vw v3 v5 v2 []) (by kernel_rfl) ?_;refine ar ?_;refine ar ?_;refine rg [(7,oL v2.xIdx fZ)] [(34,(.d (.sl (eJ v2.xIdx)))),(35,(aq (v2.xIdx.length:Int))),(36,(aq (0:Int)))] (vw v3 v5 v2 []) (by kernel_rfl) ?_;refine dt ?_;refine uc 34 (eJ v2.xIdx) (by kernel_rfl) λh4=> ?_;have h5:=qz fZ h4;refine LG [0,1,6,8,10,34,35,36] 6 (λ((v6,v7,v10,v11):Nat×(ak4 dd)×Int×(ak4 (ak5×bA)))=>⟨91,[(0,(.fn 96 [(.ptr 0 0),(.ptr 1 0)])),(1,(.d (.sl (aN v1)))),(6,(.ptr 4 0)),(8,(.ptr 5 0)),(10,(aq v10)),(34,(.d (.sl (eJ v2.xIdx)))),(35,(aq (v2.xIdx.length:Int))),(36,(aq (v6:Int)))],(xF v3 v11 v2 [.cells (jv v5.1).cells])⟩) (λ((v6,v7,v10,v11):Nat×(ak4 dd)×Int×(ak4 (ak5×bA)))=>v2.xIdx.drop v6=v7/\tS N v5 v1 v3 v7 v6 v10 v11=some r) (λ((v6,v7,v10,v11):Nat×(ak4 dd)×Int×(ak4 (ak5×bA)))=>v7.length) (0,v2.xIdx,(0:Int),v5.2.2) (ako rfl) (by kernel_rfl) ⟨rfl,U⟩ ?_;rintro⟨v6,v7,v10,v11⟩ ⟨h6,U⟩;cases v7 with
 |nil=>
  rw[tS]at U;refine ar ?_;refine rg [] [(37,(ax (decide ((v6:Int)<(v2.xIdx.length:Int)))))] (xF v3 v11 v2 [.cells (jv v5.1).cells]) (by kernel_rfl) ?_;refine ar ?_;refine dw (t:=(decide ((v6:Int)<(v2.xIdx.length:Int)))) (by kernel_rfl) (bK h6) ?_;refine kR (gO (gO (lS rfl ?_)));refine aI ?_;refine ar ?_;have h8:=my U;replace U:=(dc h8).symm.trans U;obtain⟨v12,h7,U⟩:=bg U;refine rd bB (by kernel_rfl) [(10,⟨_,_, .el (xs:=dV v5.1.kh) (i:=v10) (of_decide_eq_true h8) (pM h7)⟩)] [(7,(aq (0:Int)))] (NH v3 [.map (bY cf v11), .cells (aB v2).cells, .cells [(bG v12.xN),(bG v12.xD),(aq v5.1.aJ.cg),(aq v5.1.aJ.cE),(aq v5.1.aJ.cB),(aq v5.1.aJ.cY),(aq v5.1.aJ.c8)], .cells (jv v5.1).cells]) (by kernel_rfl) ?_;refine cV ?_;have hr:=akz U;subst hr;exact iT (by kernel_rfl)
 |cons v8 v9=>
  rw[tS]at U;refine ar ?_;refine rg [] [(37,(ax (decide ((v6:Int)<(v2.xIdx.length:Int)))))] (xF v3 v11 v2 [.cells (jv v5.1).cells]) (by kernel_rfl) ?_;refine ar ?_;refine cQ (t:=(decide ((v6:Int)<(v2.xIdx.length:Int)))) (by kernel_rfl) (bJ h6) ?_;refine cx ?_;refine aI ?_;refine ar ?_;refine dt ?_;refine ar ?_;refine rg [(4,oE (iG (bm h6)))] [(12,(.ptr 6 0)),(11,(aq (v6:Int)))] (nK v3 v11 v2 v5 v8 []) (by kernel_rfl) ?_;refine ar ?_;refine rg [] [] (nK v3 v11 v2 v5 v8 []) (by kernel_rfl) ?_;refine ar ?_;refine ar ?_;refine rg [] [(43,(ax (bL v8.dk==bL (bs []))))] (nK v3 v11 v2 v5 v8 []) (by kernel_rfl) ?_;refine o9 [0,1,6,8,9,10,11,13,34,35,36] 7 (λ((aA,aE,aP):Int×Int64×(ak4 (ak5×bA)))=>⟨91,[(0,(.fn 96 [(.ptr 0 0),(.ptr 1 0)])),(1,(.d (.sl (aN v1)))),(6,(.ptr 4 0)),(8,(.ptr 5 0)),(9,(aq aA)),(10,(aq v10)),(11,(aq (v6:Int))),(13,(bG aE)),(34,(.d (.sl (eJ v2.xIdx)))),(35,(aq (v2.xIdx.length:Int))),(36,(aq (v6:Int)))],(nK v3 aP v2 v5 v8 [])⟩) (λ((aA,aE,aP):Int×Int64×(ak4 (ak5×bA)))=>Hd N v5 v6 v10 (λcq fS=>tS N v5 v1 v3 v9 (v6+1) cq fS) aA aE aP=some r) (ako rfl) ?_ ?_
  ·rcases dC (bL v8.dk==bL (bs []))with bZ|bZ
   ·replace U:=(dc bZ).symm.trans U;refine cQ (t:=(bL v8.dk==bL (bs []))) (by kernel_rfl) bZ ?_;obtain⟨bH,bM,U⟩:=bg U;refine re [(10,cK Dl bM)] [(9,(aq bH.2)),(13,(bG bH.1)),(50,(aq bH.2)),(49,(bG bH.1)),(44,(.aW [(bG bH.1),(aq bH.2)])),(48,(.aW [(bG bH.1),(aq bH.2)])),(47,(.d (.sl (aN v1)))),(46,(dN v8.bO)),(45,(.ptr 6 0))] (nK v3 v11 v2 v5 v8 []) (by kernel_rfl) ?_;refine aI ?_;exact⟨(bH.2,bH.1,v11),by kernel_rfl,U⟩
   replace U:=(dG bZ).symm.trans U;refine dw (t:=(bL v8.dk==bL (bs []))) (by kernel_rfl) bZ ?_;obtain⟨cd,cn,v20,eC,U⟩:=k00 U;refine rle bB (by kernel_rfl) [(19,oE (jb cn)),(25,oR [(.fn 96 [(.ptr 0 0),(.ptr 1 0)]),(.d (.sl (aN v1))),(gC v8),(aq cd)] (nK v3 v11 v2 v5 v8 []) [0,1,2] (aeS _ eC))] [(9,(aq v20.2.1)),(13,(bG v20.1)),(62,(aq v20.2.1)),(61,(bG v20.1)),(51,(.aW [(bG v20.1),(aq v20.2.1)])),(60,(.aW [(bG v20.1),(aq v20.2.1)])),(59,(aq cd)),(58,(.bn [eI cd] 0 0)),(57,(aq (v6:Int))),(56,(.d (.sl (bq v5.1.bo)))),(55,(.ptr 5 5)),(54,(gC v8)),(53,(.d (.sl (aN v1)))),(52,(.fn 96 [(.ptr 0 0),(.ptr 1 0)]))] (NH v3 [.map (bY cf v20.2.2), .cells (aB v2).cells, .cells dE, .cells (jv v5.1).cells, .cells (gC v8).cells]) ⟨by kernel_rfl,by kernel_rfl⟩ ?_;refine aI ?_;exact⟨(v20.2.1,v20.1,v20.2.2),by kernel_rfl,U⟩
  rintro⟨aA,aE,aP⟩ U
  try dsimp only at U
  rw[Hd]at U;refine ar ?_;refine ar ?_;refine rg [] [(64,(ax (aA !=0)))] (nK v3 aP v2 v5 v8 []) (by kernel_rfl) ?_;rcases dC (aA !=0)with h9|h9
  ·replace U:=(dc h9).symm.trans U;refine cQ (t:=(aA !=0)) (by kernel_rfl) h9 ?_;refine ar ?_;refine rg [] [(7,(aq aA))] (nK v3 aP v2 v5 v8 []) (by kernel_rfl) ?_;refine cV (cU (dW (cU (cU (dW (cU ?_))))));have hr:=akz U;subst hr;exact iT (by kernel_rfl)
  replace U:=(dG h9).symm.trans U;refine dw (t:=(aA !=0)) (by kernel_rfl) h9 ?_;refine cx ?_;refine aI ?_;refine ar ?_;obtain⟨bC,aO,bW,aT,U⟩:=k00 U;refine rg [(16,oE (jb aO)),(22,cK PK aT)] [(10,(aq bW.1)),(9,(aq bW.2))] (nK v3 aP v2 v5 v8 []) (by kernel_rfl) ?_;refine ar ?_;refine rg [] [(79,(ax (bW.2 !=0)))] (nK v3 aP v2 v5 v8 []) (by kernel_rfl) ?_;rcases dC (bW.2 !=0)with bN|bN
  ·replace U:=(dc bN).symm.trans U;refine cQ (t:=(bW.2 !=0)) (by kernel_rfl) bN ?_;refine ar ?_;refine rg [] [(7,(aq bW.2))] (nK v3 aP v2 v5 v8 []) (by kernel_rfl) ?_;refine cV (dW (cU (cU (dW (cU ?_)))));have hr:=akz U;subst hr;exact iT (by kernel_rfl)
  replace U:=(dG bN).symm.trans U;refine dw (t:=(bW.2 !=0)) (by kernel_rfl) bN ?_;refine cx ?_;refine dX ?_;refine aI ?_;refine re [(2,oq (bS h6 rfl h5))] [(36,(aq ((v6+1:Nat):Int))),(82,(aq ((v6+1:Nat):Int)))] (nK v3 aP v2 v5 v8 []) (by kernel_rfl) ?_;refine aI ?_;exact⟨(v6+1,v9,bW.1,aP),by kernel_rfl,⟨ly h6,U⟩,ak2 _⟩
def Nx(N:Nat)(v5:Int64×Int)(v4:ak4 (ak5×bA))(v7:Int):ak6 (fv×Int×(ak4 (ak5×bA))):=
 some ((⟨(⟨v5.1,(1:Int64)⟩:aR),(⟨(3:Int),(0:Int),(0:Int),(0:Int),(0:Int)⟩:aV)⟩:fv),v7,v4)
def PG(N:Nat)(v1:ak4 aX)(v2:ay)(v3:ak4 bI)(v4:ak4 (ak5×bA)):ak6 (fv×Int×(ak4 (ak5×bA))):=
 bif (v2.aQ==1)then
  some ((⟨v2.dS,v2.aJ⟩:fv),(0:Int),v4)
 else
  bif (v2.aQ==2)then
   (tb N v2.bO v1).bind λv5=>
   Option.bind (bif (v5.2==0)then(bif (decide (v5.1.toInt>2147483647))then some true else some (decide (v5.1.toInt<(-2147483647:Int))))else some false) λv6=>
   bif v6 then
    Nx N v5 v4 (3:Int)
   else
    Nx N v5 v4 v5.2
  else
   (Mu N v1 v2 v3 v4).bind λv8=>
   some (v8.1,v8.2.1,v8.2.2)
def OV(v3:ak4 bI)(v4:ak4 (ak5×bA))(v2:ay)(l:ak4 ao):ak4 ao:= .cells [(.mp 2)]:: .cells [(.d (.sl (bk v3)))]:: .map (bY cf v4):: .cells (aB v2).cells:: .cells dE::l
theorem acH{N v1 v2 v3 v4}:KP 94 [(.fn 96 [(.ptr 0 0),(.ptr 1 0)]),(.d (.sl (aN v1))),(aB v2)] [.cells [(.mp 2)], .cells [(.d (.sl (bk v3)))], .map (bY cf v4)] (λr=> .aW [(dQ r.1),(aq r.2.1)]) (λr=>[.cells [(.mp 2)], .cells [(.d (.sl (bk v3)))], .map (bY cf r.2.2)]) (PG N v1 v2 v3 v4):=
 fh 3 Tryz.func94 (gA [[],[],[]] (aw (λJ=>gH [[t0 J],[]]) λJ=>gA [[f0 J],[]] (aw (λh2=>au λv5 h3=>gA [[t0 h2],[(10,cK Dl h3)]] (gG (λv6=>[(37,(ax v6))]) (λ_=>(OV v3 v4 v2 [])) (aw (λh4=>cr (2,bT h4) (aw (λh5=>gE [(5,bT h5)] [(25,bT h5)]) λh5=>gE [(5,bF h5)] [(25,bF h5)])) λh4=>gE [(2,bF h4),(5,uN)] []) λv6=>k8 1 [] [6,8,9] 5 (λ(v7:Int)=>⟨49,[(6,(.ptr 4 0)),(8,(bG v5.1)),(9,(aq v7))],(OV v3 v4 v2 [])⟩) (Nx N v5 v4) (λf1 aG=>aw (λh7=>gm aG (3:Int) [[t0 h7],[]]) λh7=>gm aG v5.2 [[f0 h7]]) (λv7=>gH [[]]))) λh2=>au λv8 h8=>gH [[f0 h2],[(10,oR [(.fn 96 [(.ptr 0 0),(.ptr 1 0)]),(.d (.sl (aN v1))),(aB v2)] (OV v3 v4 v2 []) [0,1,2] (ahV N v1 v2 v3 v4 v8 h8))]])))
def Jj(N:Nat)(v1:Int64)(v2:Int64):ak6 Int:=
 bif (decide (v1.toInt<v2.toInt))then
  some (-1:Int)
 else
  bif (decide (v1.toInt>v2.toInt))then
   some (1:Int)
  else
   some (0:Int)
theorem J0{N v1 v2}:KO 277 [(bG v1),(bG v2)] aq (Jj N v1 v2):=
 fw Tryz.func277 (gA [[],[]] (fU λ_=>bj λh2=>gR [[f0 h2],[]]))
def Ua(N:Nat)(v1:aR)(v2:aR):ak6 Int:=
 (la N v1).bind λv3=>
 Option.bind (bif v3 then (la N v2).bind λv4=>
 some v4 else some false) λv5=>
 bif v5 then
  Option.bind (Jj N (v1.xN*v2.xD) (v2.xN*v1.xD)) λv6=>
  some v6
 else
  (Jj N v1.xN v2.xN).bind λv7=>
  bif (v7 !=0)then
   some v7
  else
   (Jj N v1.xD v2.xD).bind λv8=>
   some v8
theorem ajB{N v1 v2}:KO 236 [(bx v1),(bx v2)] aq (Ua N v1 v2):=
 fw Tryz.func236 (gA [[]] (au λv3 J=>gG (λv5=>[(11,(ax v5))]) (λ_=>[.cells (bx v1).cells, .cells (bx v2).cells]) (c9 (4,cK mw J) (aw (λh2=>au λv4 h3=>gE [(2,bT h2)] [(13,cK mw h3)]) λh2=>gE [(2,bF h2)] [])) λv5=>aw (λh5=>au λv6 h6=>gR [[t0 h5],[(14,⟨_,_, .eq (ml v1.xN v2.xD)⟩),(29,⟨_,_, .eq (ml v2.xN v1.xD)⟩),(31,cK J0 h6)]]) λh5=>au λv7 h7=>gA [[f0 h5],[(13,cK J0 h7)],[]] (bj λh8=>au λv8 h9=>gR [[f0 h8],[(13,cK J0 h9)]])))
def Js(N:Nat)(v1:aV)(v2:aR)(v3:aR):ak6 Int:=
 (ou N v1 v2).bind λv4=>
 Option.bind (bif v4 then (ou N v1 v3).bind λv5=>
 some (!v5)else some true) λv6=>
 bif v6 then
  some (0:Int)
 else
  bif (v1.cg==1)then
   (Ua N v2 v3).bind λv7=>
   some v7
  else
   bif (decide (v2.xN.toInt<v3.xN.toInt))then
    some (-1:Int)
   else
    bif (decide (v2.xN.toInt>v3.xN.toInt))then
     some (1:Int)
    else
     some (0:Int)
theorem UH{N v1 v2 v3}:KO 158 [(bX v1),(bx v2),(bx v3)] aq (Js N v1 v2 v3):=
 fw Tryz.func158 (gA [[]] (au λv4 J=>gG (λv6=>[(7,(ax v6))]) (λ_=>[.cells (bX v1).cells, .cells (bx v2).cells, .cells (bx v3).cells]) (c9 (7,cK sL J) (aw (λh2=>au λv5 h3=>gE [(4,bF (cH h2))] [(22,cK sL h3)]) λh2=>gE [(4,bT (dq h2))] [])) λv6=>fU λ_=>aw (λh6=>au λv7 h7=>gR [[t0 h6],[(7,cK ajB h7)]]) λh6=>gA [[f0 h6],[]] (fU λ_=>bj λh9=>gR [[f0 h9],[]])))
def TE(N:Nat)(v1:Int)(v2:Int):ak6 Bool:=
 bif (v1==13)then
  some (decide (v2<0))
 else
  bif (v1==14)then
   some (decide (v2<=0))
  else
   some (v2==0)
theorem YY{N v1 v2}:KO 157 [(aq v1),(aq v2)] ax (TE N v1 v2):=
 fw Tryz.func157 (gA [[],[],[]] (fU λ_=>bj λh2=>gR [[f0 h2],[]]))
def TN(N:Nat)(v1:aV):ak4 aR->Nat->ak6 Int
 |[],_=>
  some (0:Int)
 |v6::v7,v4=>
  (yV N v1 v6).bind λv8=>
  bif v8 then
   (TN N v1 v7 (v4+1))
  else
   some (1:Int)
def uB(N:Nat)(v1:aV)(v2:ak4 aR):ak6 Int:=
 (uK N v1).bind λv3=>
 bif (v3 !=0)then
  some v3
 else
  TN N v1 v2 0
theorem zM{N v1 v2}:KO 303 [(bX v1),(.d (.sl (dV v2)))] aq (uB N v1 v2):=
 fw Tryz.func303 (au λv3 J=>gA [[],[(4,cK GP J)],[]] (bj λh2=>gA [[f0 h2],[(4,oL v2 lV)]] (gT wU 1 v2 λh4=>dP 1 [] [2,13,14,15] 1 (λv4=>⟨24,[(2,(.ptr 0 0)),(13,(.d (.sl (dV v2)))),(14,(aq (v2.length:Int))),(15,(aq (v4:Int)))],[.cells (bX v1).cells]⟩) (λv4 h5 f1=>gR [[],[f0 (bK h5)],[]]) (λv4 v6 v7 h5 f1 aG=>au λv8 h6=>gA [[],[t0 (bJ h5)],[(1,oE (pM (bm h5)))],[(7,cK Ki h6)]] (ft λh7=>gb aG () [[f0 (cH h7)],[(2,oq (bS h5 rfl h4))]] h5)))))
def wX(N:Nat)(v1:Int64)(v2:Int64):ak6 (aR×Int):=
 bif (v2.toInt==0)then
  some (dA,(4:Int))
 else
  (xg N v1).bind λv3=>
  (xg N v2).bind λv4=>
  (Gg N v3 v4).bind λv5=>
  bif (v5 !=0)then
  Option.bind (bif (decide ((IntKind.u64.wrap ((v3).tdiv v5))>2147483647))then some true else some (decide ((IntKind.u64.wrap ((v4).tdiv v5))>2147483647))) λv6=>
  bif v6 then
   some (dA,(3:Int))
  else
   bif ((decide (v1.toInt<0))==(decide (v2.toInt<0)))then
    some ((⟨(Int64.ofInt (IntKind.u64.wrap ((v3).tdiv v5))),(Int64.ofInt (IntKind.u64.wrap ((v4).tdiv v5)))⟩:aR),(0:Int))
   else
    some ((⟨(-(Int64.ofInt (IntKind.u64.wrap ((v3).tdiv v5)))),(Int64.ofInt (IntKind.u64.wrap ((v4).tdiv v5)))⟩:aR),(0:Int))
  else none
theorem DQ{N v1 v2}:KO 300 [(bG v1),(bG v2)] (λr=> .aW [(bx r.1),(aq r.2)]) (wX N v1 v2):=
 fw Tryz.func300 (gA [[],[]] (bj λJ=>au λv3 h2=>au λv4 h3=>au λv5 h4=>dh λh5=>gA [[f0 J],[],[(4,cK Ox h2),(10,cK Ox h3)],[(7,cK P1 h4)],[(7,⟨_,_, .nz (b:=v5) (bne_iff_ne.1 h5)⟩),(16,⟨_,_, .nz (b:=v5) (bne_iff_ne.1 h5)⟩)]] (gG (λv6=>[(36,(ax v6))]) (λ_=>[.cells ir]) (aw (λh7=>gE [(2,bT h7)] []) λh7=>gE [(2,bF h7)] []) λv6=>fU λ_=>aw (λaO=>gR [[f0 (cH aO)],[(5,⟨_,_, .eq (jt (IntKind.u64.wrap ((v3).tdiv v5)))⟩),(11,⟨_,_, .eq (jt (IntKind.u64.wrap ((v4).tdiv v5)))⟩)]]) λaO=>gR [[t0 (dq aO)],[(5,⟨_,_, .eq (jt (IntKind.u64.wrap ((v3).tdiv v5)))⟩),(8,⟨_,_, .eq (sW (Int64.ofInt (IntKind.u64.wrap ((v3).tdiv v5))))⟩),(14,⟨_,_, .eq (jt (IntKind.u64.wrap ((v4).tdiv v5)))⟩)]])))
def T7(N:Nat)(v1:aV)(v2:aR):ak6 (aR×Int):=
 Option.bind (uB N v1 [v2]) λv3=>
 bif (v3 !=0)then
  some (dA,v3)
 else
  bif (decide ((0:Int)<=v1.cB))then
  Option.bind (wX N v2.xN (Int64.ofInt ((1:Int)*2^(min (v1.cB).toNat (IntKind.bits .i64))))) λv4=>
  some (v4.1,v4.2)
  else none
theorem af4{N v1 v2}:KO 278 [(bX v1),(bx v2)] (λr=> .aW [(bx r.1),(aq r.2)]) (T7 N v1 v2):=
 fw Tryz.func278 (au λv3 J=>gA [[],[(10,cK zM J)],[]] (bj λh2=>dh λh3=>au λv4 h4=>gR [[f0 h2],[(13,⟨_,_, .nn (b:=v1.cB) (of_decide_eq_true h3)⟩),(14,⟨_,_, .eq (jt ((1:Int)*2^(min (v1.cB).toNat (IntKind.bits .i64))))⟩),(16,cK DQ h4)]]))
def Ux(N:Nat)(v1:aV)(v2:aR):ak6 aR:=
 bif (v1.cg==2)then
  (T7 N v1 v2).bind λv3=>
  some v3.1
 else
  some v2
theorem aeD{N v1 v2}:KO 239 [(bX v1),(bx v2)] bx (Ux N v1 v2):=
 fw Tryz.func239 (gA [[],[]] (lC λJ=>au λv3 h2=>gR [[t0 J],[(7,cK af4 h2)],[]]))
def Nu(N:Nat)(v3:Int64):ak6 Int64:=
 some v3
def Yc(N:Nat)(v1:aR):ak6 Int64:=
 (la N v1).bind λv2=>
 bif v2 then
  bif (v1.xD.toInt !=0)then
  bif (decide ((Int64.ofInt ((v1.xN.toInt).tmod v1.xD.toInt)).toInt<0))then
   Nu N ((Int64.ofInt ((v1.xN.toInt).tdiv v1.xD.toInt))-(1:Int64))
  else
   Nu N (Int64.ofInt ((v1.xN.toInt).tdiv v1.xD.toInt))
  else none
 else
  some (0:Int64)
theorem ajf{N v1}:KO 240 [(bx v1)] bG (Yc N v1):=
 fw Tryz.func240 (au λv2 J=>gA [[],[(4,cK mw J)]] (ft λh2=>dh λh3=>k8 1 [[f0 (cH h2)],[(13,⟨_,_, .nz (b:=v1.xD.toInt) (bne_iff_ne.1 h3)⟩),(14,⟨_,_, .eq (jt ((v1.xN.toInt).tdiv v1.xD.toInt))⟩)],[(13,⟨_,_, .nz (b:=v1.xD.toInt) (bne_iff_ne.1 h3)⟩),(14,⟨_,_, .eq (JM v1.xN v1.xD.toInt)⟩)]] [3] 1 (λ(v3:Int64)=>⟨21,[(3,(bG v3))],[.cells (bx v1).cells]⟩) (Nu N) (λf1 aG=>aw (λh4=>gm aG ((Int64.ofInt ((v1.xN.toInt).tdiv v1.xD.toInt))-(1:Int64)) [[t0 h4],[(5,⟨_,_, .eq (vC (Int64.ofInt ((v1.xN.toInt).tdiv v1.xD.toInt)) (1:Int64))⟩)]]) λh4=>gm aG (Int64.ofInt ((v1.xN.toInt).tdiv v1.xD.toInt)) [[f0 h4]]) (λv3=>gR [[]])))
def Mw(N:Nat)(v1:Int):ak6 Bool:=
 Option.bind (bif (decide (v1>=1))then some (decide (v1<=4))else some false) λv2=>
 some v2
theorem Ql{N v1}:KO 304 [(aq v1)] ax (Mw N v1):=
 fw Tryz.func304 (gA [[]] (gG (λv2=>[(2,(ax v2))]) (λ_=>[]) (aw (λJ=>gE [(2,bT J)] []) λJ=>gE [(2,bF J)] []) λv2=>gR []))
def N6(N:Nat)(v1:Int64):ak6 Int:=
 bif (decide (v1.toInt<0))then
  some (IntKind.u64.wrap (0-(IntKind.u64.wrap v1.toInt)))
 else
  some (IntKind.u64.wrap v1.toInt)
theorem WX{N v1}:KO 321 [(bG v1)] (λr=> .d (.v (.int .u64 r))) (N6 N v1):=
 fw Tryz.func321 (gA [[],[]] (bj λJ=>gR [[f0 J],[]]))
def RL(N:Nat)(v1 v2:Int)(v3:Bool)(v4:Int):ak6 Int:=bif v2 !=0then some (uW v1 v2 v3 v4)else none
theorem af3{N v1 v2 v3 v4 r}(U:RL N v1 v2 v3 v4=some r):fX Tryz.prog 320 [(.d (.v (.int .u64 v1))),(.d (.v (.int .u64 v2))),(ax v3),(aq v4)] (·=(.d (.v (.int .u64 r)))):=agY v1 v2 v3 v4 r U
def GJ(N:Nat)(v1:Int64)(v2:Int64)(v3:Int):ak6 (Int64×Int):=
 (Mw N v3).bind λv4=>
 bif v4 then
  bif (v2.toInt==0)then
   some ((0:Int64),(4:Int))
  else
   (N6 N v1).bind λv5=>
   (N6 N v2).bind λv6=>
   Option.bind (RL N v5 v6 (!((decide (v1.toInt<0))==(decide (v2.toInt<0)))) v3) λv7=>
   bif ((decide (v1.toInt<0))==(decide (v2.toInt<0)))then
    bif (decide (v7>=9223372036854775808))then
     some ((0:Int64),(3:Int))
    else
     some ((Int64.ofInt v7),(0:Int))
   else
    some ((Int64.ofInt (IntKind.u64.wrap (0-v7))),(0:Int))
 else
  some ((0:Int64),(1:Int))
theorem Oi{N v1 v2 v3}:KO 298 [(bG v1),(bG v2),(aq v3)] (λr=> .aW [(bG r.1),(aq r.2)]) (GJ N v1 v2 v3):=
 fw Tryz.func298 (au λv4 J=>gA [[],[(4,cK Ql J)]] (ft λh2=>gA [[f0 (cH h2)],[]] (bj λh3=>au λv5 h4=>au λv6 h5=>au λv7 h6=>gA [[f0 h3],[],[(4,cK WX h4),(10,cK WX h5),(19,cL (af3 h6))],[]] (aw (λh7=>gA [[f0 (cH h7)],[]] (bj λh8=>gR [[f0 h8],[(5,⟨_,_, .eq (jt v7)⟩)]])) λh7=>gR [[t0 (dq h7)],[(8,⟨_,_, .eq (jt (IntKind.u64.wrap (0-v7)))⟩)]]))))
def Uf(N:Nat)(v1:aR)(v2:Int)(v3:Int):ak6 (Int64×Int):=
 (la N v1).bind λv4=>
 Option.bind (bif v4 then(bif (decide (v2<0))then some true else(bif (decide (v2>30))then some true else (Mw N v3).bind λv5=>
 some (!v5)))else some true) λv6=>
 bif v6 then
  some ((0:Int64),(1:Int))
 else
  bif (decide ((0:Int)<=(IntKind.u64.wrap v2)))then
  Option.bind (GJ N (Int64.ofInt (v1.xN.toInt*2^(min ((IntKind.u64.wrap v2)).toNat (IntKind.bits .i64)))) v1.xD v3) λv7=>
  some (v7.1,v7.2)
  else none
theorem ae8{N v1 v2 v3}:KO 279 [(bx v1),(aq v2),(aq v3)] (λr=> .aW [(bG r.1),(aq r.2)]) (Uf N v1 v2 v3):=
 fw Tryz.func279 (gA [[]] (au λv4 J=>gG (λv6=>[(23,(ax v6))]) (λ_=>[.cells (bx v1).cells]) (c9 (4,cK mw J) (aw (λh2=>cr (3,bF (cH h2)) (aw (λh3=>gE [(7,bT h3),(11,bT rfl)] []) λh3=>cr (7,bF h3) (aw (λh4=>gE [(11,bT h4)] []) λh4=>au λv5 h5=>gE [(11,bF h4)] [(40,cK Ql h5)]))) λh2=>gE [(3,bT (dq h2)),(7,bT rfl),(11,bT rfl)] [])) λv6=>bj λh7=>dh λh8=>au λv7 h9=>gR [[f0 h7],[(13,⟨_,_, .nn (b:=(IntKind.u64.wrap v2)) (of_decide_eq_true h8)⟩),(14,⟨_,_, .eq (jt (v1.xN.toInt*2^(min ((IntKind.u64.wrap v2)).toNat (IntKind.bits .i64))))⟩),(25,cK Oi h9)]]))
def XQ(N:Nat)(v1:Int64)(v2:Int)(v3:Int):ak6 (Int64×Bool):=
 (Bv N v2).bind λv4=>
 Option.bind (bif v4 then(bif (v3 !=1)then some (v3 !=2)else some false)else some true) λv5=>
 bif v5 then
  some ((0:Int64),false)
 else
  (F7 N v2).bind λv6=>
  (Ij N v2).bind λv7=>
  Option.bind (bif (decide (v1.toInt>=v6.toInt))then some (decide (v1.toInt<=v7.toInt))else some false) λv8=>
  bif v8 then
   some (v1,false)
  else
   Option.bind (bif (v3==1)then some (decide (v1.toInt<v6.toInt))else some false) λv9=>
   bif v9 then
    some (v6,true)
   else
    bif (v3==1)then
     some (v7,true)
    else
     bif (decide ((0:Int)<=(IntKind.u64.wrap (aK ((64:Int)-v2)))))then
     some ((Int64.ofInt (((Int64.ofInt (IntKind.u64.wrap ((IntKind.u64.wrap v1.toInt)*2^(min ((IntKind.u64.wrap (aK ((64:Int)-v2)))).toNat (IntKind.bits .u64))))).toInt).fdiv (2^(min ((IntKind.u64.wrap (aK ((64:Int)-v2)))).toNat (IntKind.bits .i64))))),true)
     else none
theorem ZZ{N v1 v2 v3}:KO 305 [(bG v1),(aq v2),(aq v3)] (λr=> .aW [(bG r.1),(ax r.2)]) (XQ N v1 v2 v3):=
 fw Tryz.func305 (gA [[]] (au λv4 J=>gG (λv5=>[(21,(ax v5))]) (λ_=>[]) (c9 (4,cK NG J) (aw (λh2=>cr (3,bF (cH h2)) (aw (λh3=>gE [(6,bT h3)] [(28,bT h3)]) λh3=>gE [(6,bF h3)] [(28,bF h3)])) λh2=>gE [(3,bT (dq h2)),(6,uN)] [])) λv5=>bj λh5=>au λv6 h6=>au λv7 h7=>gA [[f0 h5],[(4,cK TD h6),(10,cK Qt h7)]] (gG (λv8=>[(26,(ax v8))]) (λ_=>[]) (aw (λh8=>gE [(3,bT h8)] []) λh8=>gE [(3,bF h8)] []) λv8=>bj λaO=>gA [[f0 aO]] (gG (λv9=>[(36,(ax v9))]) (λ_=>[]) (aw (λaY=>gE [(2,bT aY)] []) λaY=>gE [(2,bF aY)] []) λv9=>fU λ_=>bj λbZ=>dh λbM=>gR [[f0 bZ],[],[(10,⟨_,_, .nn (b:=(IntKind.u64.wrap (aK ((64:Int)-v2)))) (of_decide_eq_true bM)⟩),(14,⟨_,_, .eq (jt (IntKind.u64.wrap ((IntKind.u64.wrap v1.toInt)*2^(min ((IntKind.u64.wrap (aK ((64:Int)-v2)))).toNat (IntKind.bits .u64)))))⟩),(19,⟨_,_, .nn (b:=(IntKind.u64.wrap (aK ((64:Int)-v2)))) (of_decide_eq_true bM)⟩),(20,⟨_,_, .eq (Qw (Int64.ofInt (IntKind.u64.wrap ((IntKind.u64.wrap v1.toInt)*2^(min ((IntKind.u64.wrap (aK ((64:Int)-v2)))).toNat (IntKind.bits .u64))))) (min ((IntKind.u64.wrap (aK ((64:Int)-v2)))).toNat (IntKind.bits .i64)))⟩)]]))))
def uX(N:Nat)(v1:aV)(v2:Int64):ak6 aR:=
 (XQ N v2 v1.cE v1.c8).bind λv3=>
 some (⟨v3.1,(1:Int64)⟩:aR)
theorem yM{N v1 v2}:KO 280 [(bX v1),(bG v2)] bx (uX N v1 v2):=
 fw Tryz.func280 (au λv3 J=>gR [[],[(16,cK ZZ J)],[]])
def US(N:Nat)(v1:aV)(v2:aR):ak6 (aR×Int):=
 (uK N v1).bind λv3=>
 bif (v3 !=0)then
  some (dA,v3)
 else
  (Uf N v2 v1.cB v1.cY).bind λv4=>
  Option.bind (bif (v4.2 !=0)then some true else (la N v2).bind λv5=>
  some (!v5)) λv6=>
  bif v6 then
   some (dA,(1:Int))
  else
   (uX N v1 v4.1).bind λv7=>
   some (v7,(0:Int))
theorem aio{N v1 v2}:KO 241 [(bX v1),(bx v2)] (λr=> .aW [(bx r.1),(aq r.2)]) (US N v1 v2):=
 fw Tryz.func241 (au λv3 J=>gA [[],[(4,cK GP J)],[]] (bj λh2=>au λv4 h3=>gA [[f0 h2],[(16,cK ae8 h3)]] (gG (λv6=>[(30,(ax v6))]) (λ_=>[.cells (bX v1).cells, .cells (bx v2).cells, .cells ir]) (aw (λh4=>gE [(2,bT h4)] []) λh4=>au λv5 h5=>gE [(2,bF h4)] [(13,cK mw h5)]) λv6=>bj λh7=>au λv7 h8=>gR [[f0 h7],[(7,cK yM h8)]])))
def Sf(N:Nat)(v1:aV)(v2:aV)(v3:aR):ak6 (aR×Int):=
 (lB N v1).bind λv4=>
 Option.bind (bif (v4 !=0)then some true else (lB N v2).bind λv5=>
 some (v5 !=0)) λv6=>
 bif v6 then
  some (dA,(10:Int))
 else
  (ou N v1 v3).bind λv7=>
  bif v7 then
   (Ux N v1 v3).bind λv8=>
   bif (v2.cg==3)then
    (Yc N v8).bind λv9=>
    some ((⟨v9,(1:Int64)⟩:aR),(0:Int))
   else
    bif (v2.cg==2)then
     (US N v2 v8).bind λv10=>
     some (v10.1,v10.2)
    else
     some (v8,(0:Int))
  else
   some (dA,(1:Int))
theorem acV{N v1 v2 v3}:KO 160 [(bX v1),(bX v2),(bx v3)] (λr=> .aW [(bx r.1),(aq r.2)]) (Sf N v1 v2 v3):=
 fw Tryz.func160 (gA [[]] (au λv4 J=>gG (λv6=>[(9,(ax v6))]) (λ_=>[.cells (bX v1).cells, .cells (bX v2).cells, .cells (bx v3).cells, .cells ir]) (c9 (4,cK nR J) (aw (λh2=>gE [(3,bT h2)] []) λh2=>au λv5 h3=>gE [(3,bF h2)] [(16,cK nR h3)])) λv6=>bj λh5=>au λv7 h6=>gA [[f0 h5],[(7,cK sL h6)]] (ft λh7=>au λv8 h8=>gA [[f0 (cH h7)],[(7,cK aeD h8)],[],[]] (aw (λh9=>au λv9 aO=>gR [[t0 h9],[(4,cK ajf aO)]]) λh9=>gA [[f0 h9],[]] (lC λaY=>au λv10 aT=>gR [[t0 aY],[(7,cK aio aT)]])))))
def QZ(N:Nat)(v1:aV)(v2:Int64)(v3:Int64):ak6 (Int64×Int):=
 some ((-v2),(0:Int))
theorem acX{N v1 v2 v3}:KO 294 [(bX v1),(bG v2),(bG v3)] (λr=> .aW [(bG r.1),(aq r.2)]) (QZ N v1 v2 v3):=
 fw Tryz.func294 (gR [[],[(5,⟨_,_, .eq (sW v2)⟩)]])
def VP(N:Nat)(v1:aV)(v2:aR)(v3:aR):ak6 (aR×Int):=
 Option.bind (uB N v1 ([v2,v3])) λv4=>
 bif (v4 !=0)then
  some (dA,v4)
 else
  (QZ N v1 v2.xN v3.xN).bind λv5=>
  bif (v5.2 !=0)then
   some (dA,v5.2)
  else
   (uX N v1 v5.1).bind λv6=>
   some (v6,(0:Int))
theorem ais{N v1 v2 v3}:KP 293 [(.agg [(.fn 294 [])]),(bX v1),(bx v2),(bx v3)] [] (λr=> .aW [(bx r.1),(aq r.2)]) (λ_=>[]) (VP N v1 v2 v3):=
 fh 0 Tryz.func293 (au λv4 J=>gA [[],[(13,cK zM J)],[]] (aw (λh2=>gH [[t0 h2],[]]) λh2=>au λv5 h3=>gA [[f0 h2],[(22,cK acX h3)],[]] (aw (λh4=>gH [[t0 h4],[]]) λh4=>au λv6 h5=>gH [[f0 h4],[(7,cK yM h5)]])))
def Uu(N:Nat)(v1:aV)(v2:aR):ak6 (aR×Int):=
 (VP N v1 v2 v2).bind λv3=>
 some (v3.1,v3.2)
theorem acD{N v1 v2}:KO 264 [(bX v1),(bx v2)] (λr=> .aW [(bx r.1),(aq r.2)]) (Uu N v1 v2):=
 fw Tryz.func264 (au λv3 J=>gR [[],[(13,oQ [(.agg [(.fn 294 [])]),(bX v1),(bx v2),(bx v2)] [.cells (bX v1).cells, .cells (bx v2).cells, .cells ir] [] (ais _ J))]])
def Va(N:Nat)(v1:aV)(v2:aR):ak6 (aR×Int):=
 bif (v1.cg==2)then
  (Uu N v1 v2).bind λv3=>
  some (v3.1,v3.2)
 else
  some ((⟨(-v2.xN),v2.xD⟩:aR),(0:Int))
theorem afa{N v1 v2}:KO 206 [(bX v1),(bx v2)] (λr=> .aW [(bx r.1),(aq r.2)]) (Va N v1 v2):=
 fw Tryz.func206 (gA [[],[]] (aw (λJ=>au λv3 h2=>gR [[t0 J],[(7,cK acD h2)]]) λJ=>gR [[f0 J],[(8,⟨_,_, .eq (sW v2.xN)⟩)]]))
def WN(N:Nat)(v1:Int)(v2:Int64)(v3:Int64):ak6 (aR×Int):=
 bif (v1==4)then
  Option.bind (s8 N (v2+v3)) λv4=>
  bif v4 then
   some ((⟨(v2+v3),(1:Int64)⟩:aR),(0:Int))
  else
   some (dA,(3:Int))
 else
  bif (v1==5)then
   Option.bind (s8 N (v2-v3)) λv5=>
   bif v5 then
    some ((⟨(v2-v3),(1:Int64)⟩:aR),(0:Int))
   else
    some (dA,(3:Int))
  else
   bif (v1==6)then
    Option.bind (s8 N (v2*v3)) λv6=>
    bif v6 then
     some ((⟨(v2*v3),(1:Int64)⟩:aR),(0:Int))
    else
     some (dA,(3:Int))
   else
    bif (v3.toInt==0)then
     some (dA,(4:Int))
    else
     bif (v3.toInt !=0)then
     Option.bind (bif ((Int64.ofInt ((v2.toInt).tmod v3.toInt)).toInt !=0)then some (!((decide (v2.toInt<0))==(decide (v3.toInt<0))))else some false) λv7=>
     bif v7 then
      Option.bind (s8 N ((Int64.ofInt ((v2.toInt).tdiv v3.toInt))-(1:Int64))) λv8=>
      bif v8 then
       some ((⟨((Int64.ofInt ((v2.toInt).tdiv v3.toInt))-(1:Int64)),(1:Int64)⟩:aR),(0:Int))
      else
       some (dA,(3:Int))
     else
      Option.bind (s8 N (Int64.ofInt ((v2.toInt).tdiv v3.toInt))) λv9=>
      bif v9 then
       some ((⟨(Int64.ofInt ((v2.toInt).tdiv v3.toInt)),(1:Int64)⟩:aR),(0:Int))
      else
       some (dA,(3:Int))
     else none
theorem ac4{N v1 v2 v3}:KO 265 [(aq v1),(bG v2),(bG v3)] (λr=> .aW [(bx r.1),(aq r.2)]) (WN N v1 v2 v3):=
 fw Tryz.func265 (gA [[],[],[],[]] (aw (λJ=>au λv4 h2=>gA [[t0 J],[(8,⟨_,_, .eq (Fj v2 v3)⟩)],[(4,cK yC h2)]] (mD λh3=>gR [[t0 (dq h3)],[]])) λJ=>gA [[f0 J],[]] (aw (λh4=>au λv5 h5=>gA [[t0 h4],[(8,⟨_,_, .eq (vC v2 v3)⟩)],[(4,cK yC h5)]] (mD λh6=>gR [[t0 (dq h6)],[]])) λh4=>gA [[f0 h4],[]] (aw (λh7=>au λv6 h8=>gA [[t0 h7],[(8,⟨_,_, .eq (ml v2 v3)⟩)],[(4,cK yC h8)]] (mD λh9=>gR [[t0 (dq h9)],[]])) λh7=>gA [[f0 h7],[]] (bj λaO=>dh λaY=>gA [[f0 aO],[(7,⟨_,_, .nz (b:=v3.toInt) (bne_iff_ne.1 aY)⟩),(8,⟨_,_, .eq (jt ((v2.toInt).tdiv v3.toInt))⟩)]] (gG (λv7=>[(26,(ax v7))]) (λ_=>[.cells ir]) (c9 (7,⟨_,_, .nz (b:=v3.toInt) (bne_iff_ne.1 aY)⟩) (c9 (8,⟨_,_, .eq (JM v2 v3.toInt)⟩) (aw (λaT=>gE [(4,bT aT)] []) λaT=>gE [(4,bF aT)] []))) λv7=>aw (λbZ=>au λv8 bM=>gA [[t0 bZ],[(5,⟨_,_, .eq (vC (Int64.ofInt ((v2.toInt).tdiv v3.toInt)) (1:Int64))⟩)],[(4,cK yC bM)]] (mD λcn=>gR [[t0 (dq cn)],[]])) λbZ=>au λv9 dj=>gA [[f0 bZ],[(4,cK yC dj)]] (mD λeC=>gR [[t0 (dq eC)],[]])))))))
def VZ(N:Nat)(v1:aV)(v2:Int64)(v3:Int64):ak6 (Int64×Int):=
 some ((v2+v3),(0:Int))
theorem ahx{N v1 v2 v3}:KO 295 [(bX v1),(bG v2),(bG v3)] (λr=> .aW [(bG r.1),(aq r.2)]) (VZ N v1 v2 v3):=
 fw Tryz.func295 (gR [[],[(8,⟨_,_, .eq (Fj v2 v3)⟩)]])
def RD(N:Nat)(v1:aV)(v2:aR)(v3:aR):ak6 (aR×Int):=
 Option.bind (uB N v1 ([v2,v3])) λv4=>
 bif (v4 !=0)then
  some (dA,v4)
 else
  (VZ N v1 v2.xN v3.xN).bind λv5=>
  bif (v5.2 !=0)then
   some (dA,v5.2)
  else
   (uX N v1 v5.1).bind λv6=>
   some (v6,(0:Int))
theorem abf{N v1 v2 v3}:KP 293 [(.agg [(.fn 295 [])]),(bX v1),(bx v2),(bx v3)] [] (λr=> .aW [(bx r.1),(aq r.2)]) (λ_=>[]) (RD N v1 v2 v3):=
 fh 0 Tryz.func293 (au λv4 J=>gA [[],[(13,cK zM J)],[]] (aw (λh2=>gH [[t0 h2],[]]) λh2=>au λv5 h3=>gA [[f0 h2],[(22,cK ahx h3)],[]] (aw (λh4=>gH [[t0 h4],[]]) λh4=>au λv6 h5=>gH [[f0 h4],[(7,cK yM h5)]])))
def Rt(N:Nat)(v1:aV)(v2:aR)(v3:aR):ak6 (aR×Int):=
 (RD N v1 v2 v3).bind λv4=>
 some (v4.1,v4.2)
theorem ajR{N v1 v2 v3}:KO 266 [(bX v1),(bx v2),(bx v3)] (λr=> .aW [(bx r.1),(aq r.2)]) (Rt N v1 v2 v3):=
 fw Tryz.func266 (au λv4 J=>gR [[],[(13,oQ [(.agg [(.fn 295 [])]),(bX v1),(bx v2),(bx v3)] [.cells (bX v1).cells, .cells (bx v2).cells, .cells (bx v3).cells, .cells ir] [] (abf _ J))]])
def Xa(N:Nat)(v1:aV)(v2:Int64)(v3:Int64):ak6 (Int64×Int):=
 some ((v2-v3),(0:Int))
theorem abg{N v1 v2 v3}:KO 296 [(bX v1),(bG v2),(bG v3)] (λr=> .aW [(bG r.1),(aq r.2)]) (Xa N v1 v2 v3):=
 fw Tryz.func296 (gR [[],[(8,⟨_,_, .eq (vC v2 v3)⟩)]])
def UN(N:Nat)(v1:aV)(v2:aR)(v3:aR):ak6 (aR×Int):=
 Option.bind (uB N v1 ([v2,v3])) λv4=>
 bif (v4 !=0)then
  some (dA,v4)
 else
  (Xa N v1 v2.xN v3.xN).bind λv5=>
  bif (v5.2 !=0)then
   some (dA,v5.2)
  else
   (uX N v1 v5.1).bind λv6=>
   some (v6,(0:Int))
theorem ahC{N v1 v2 v3}:KP 293 [(.agg [(.fn 296 [])]),(bX v1),(bx v2),(bx v3)] [] (λr=> .aW [(bx r.1),(aq r.2)]) (λ_=>[]) (UN N v1 v2 v3):=
 fh 0 Tryz.func293 (au λv4 J=>gA [[],[(13,cK zM J)],[]] (aw (λh2=>gH [[t0 h2],[]]) λh2=>au λv5 h3=>gA [[f0 h2],[(22,cK abg h3)],[]] (aw (λh4=>gH [[t0 h4],[]]) λh4=>au λv6 h5=>gH [[f0 h4],[(7,cK yM h5)]])))
def S4(N:Nat)(v1:aV)(v2:aR)(v3:aR):ak6 (aR×Int):=
 (UN N v1 v2 v3).bind λv4=>
 some (v4.1,v4.2)
theorem aam{N v1 v2 v3}:KO 267 [(bX v1),(bx v2),(bx v3)] (λr=> .aW [(bx r.1),(aq r.2)]) (S4 N v1 v2 v3):=
 fw Tryz.func267 (au λv4 J=>gR [[],[(13,oQ [(.agg [(.fn 296 [])]),(bX v1),(bx v2),(bx v3)] [.cells (bX v1).cells, .cells (bx v2).cells, .cells (bx v3).cells, .cells ir] [] (ahC _ J))]])
def Uy(N:Nat)(v1:aV)(v2:Int64)(v3:Int64):ak6 (Int64×Int):=
 bif (decide ((0:Int)<=v1.cB))then
 Option.bind (GJ N (v2*v3) (Int64.ofInt ((1:Int)*2^(min (v1.cB).toNat (IntKind.bits .i64)))) v1.cY) λv4=>
 some (v4.1,v4.2)
 else none
theorem aaz{N v1 v2 v3}:KO 297 [(bX v1),(bG v2),(bG v3)] (λr=> .aW [(bG r.1),(aq r.2)]) (Uy N v1 v2 v3):=
 fw Tryz.func297 (dh λJ=>au λv4 h2=>gR [[],[(8,⟨_,_, .eq (ml v2 v3)⟩),(16,⟨_,_, .nn (b:=v1.cB) (of_decide_eq_true J)⟩),(17,⟨_,_, .eq (jt ((1:Int)*2^(min (v1.cB).toNat (IntKind.bits .i64))))⟩),(25,cK Oi h2)]])
def Rm(N:Nat)(v1:aV)(v2:aR)(v3:aR):ak6 (aR×Int):=
 Option.bind (uB N v1 ([v2,v3])) λv4=>
 bif (v4 !=0)then
  some (dA,v4)
 else
  (Uy N v1 v2.xN v3.xN).bind λv5=>
  bif (v5.2 !=0)then
   some (dA,v5.2)
  else
   (uX N v1 v5.1).bind λv6=>
   some (v6,(0:Int))
theorem ajU{N v1 v2 v3}:KP 293 [(.agg [(.fn 297 [])]),(bX v1),(bx v2),(bx v3)] [] (λr=> .aW [(bx r.1),(aq r.2)]) (λ_=>[]) (Rm N v1 v2 v3):=
 fh 0 Tryz.func293 (au λv4 J=>gA [[],[(13,cK zM J)],[]] (aw (λh2=>gH [[t0 h2],[]]) λh2=>au λv5 h3=>gA [[f0 h2],[(22,cK aaz h3)],[]] (aw (λh4=>gH [[t0 h4],[]]) λh4=>au λv6 h5=>gH [[f0 h4],[(7,cK yM h5)]])))
def Tk(N:Nat)(v1:aV)(v2:aR)(v3:aR):ak6 (aR×Int):=
 (Rm N v1 v2 v3).bind λv4=>
 some (v4.1,v4.2)
theorem ae2{N v1 v2 v3}:KO 268 [(bX v1),(bx v2),(bx v3)] (λr=> .aW [(bx r.1),(aq r.2)]) (Tk N v1 v2 v3):=
 fw Tryz.func268 (au λv4 J=>gR [[],[(13,oQ [(.agg [(.fn 297 [])]),(bX v1),(bx v2),(bx v3)] [.cells (bX v1).cells, .cells (bx v2).cells, .cells (bx v3).cells, .cells ir] [] (ajU _ J))]])
def PZ(N:Nat)(v1:aV)(v2:Int64)(v3:Int64):ak6 (Int64×Int):=
 bif (decide ((0:Int)<=v1.cB))then
 Option.bind (GJ N (Int64.ofInt (v2.toInt*2^(min (v1.cB).toNat (IntKind.bits .i64)))) v3 v1.cY) λv4=>
 some (v4.1,v4.2)
 else none
theorem adF{N v1 v2 v3}:KO 299 [(bX v1),(bG v2),(bG v3)] (λr=> .aW [(bG r.1),(aq r.2)]) (PZ N v1 v2 v3):=
 fw Tryz.func299 (dh λJ=>au λv4 h2=>gR [[],[(10,⟨_,_, .nn (b:=v1.cB) (of_decide_eq_true J)⟩),(11,⟨_,_, .eq (jt (v2.toInt*2^(min (v1.cB).toNat (IntKind.bits .i64))))⟩),(22,cK Oi h2)]])
def QQ(N:Nat)(v1:aV)(v2:aR)(v3:aR):ak6 (aR×Int):=
 Option.bind (uB N v1 ([v2,v3])) λv4=>
 bif (v4 !=0)then
  some (dA,v4)
 else
  (PZ N v1 v2.xN v3.xN).bind λv5=>
  bif (v5.2 !=0)then
   some (dA,v5.2)
  else
   (uX N v1 v5.1).bind λv6=>
   some (v6,(0:Int))
theorem aao{N v1 v2 v3}:KP 293 [(.agg [(.fn 299 [])]),(bX v1),(bx v2),(bx v3)] [] (λr=> .aW [(bx r.1),(aq r.2)]) (λ_=>[]) (QQ N v1 v2 v3):=
 fh 0 Tryz.func293 (au λv4 J=>gA [[],[(13,cK zM J)],[]] (aw (λh2=>gH [[t0 h2],[]]) λh2=>au λv5 h3=>gA [[f0 h2],[(22,cK adF h3)],[]] (aw (λh4=>gH [[t0 h4],[]]) λh4=>au λv6 h5=>gH [[f0 h4],[(7,cK yM h5)]])))
def Q3(N:Nat)(v1:aV)(v2:aR)(v3:aR):ak6 (aR×Int):=
 (QQ N v1 v2 v3).bind λv4=>
 some (v4.1,v4.2)
theorem ab4{N v1 v2 v3}:KO 269 [(bX v1),(bx v2),(bx v3)] (λr=> .aW [(bx r.1),(aq r.2)]) (Q3 N v1 v2 v3):=
 fw Tryz.func269 (au λv4 J=>gR [[],[(13,oQ [(.agg [(.fn 299 [])]),(bX v1),(bx v2),(bx v3)] [.cells (bX v1).cells, .cells (bx v2).cells, .cells (bx v3).cells, .cells ir] [] (aao _ J))]])
def Qa(N:Nat)(v1:aR)(v2:aR):ak6 (aR×Int):=
 (la N v1).bind λv3=>
 Option.bind (bif v3 then (la N v2).bind λv4=>
 some (!v4)else some true) λv5=>
 bif v5 then
  some (dA,(1:Int))
 else
  Option.bind (wX N ((v1.xN*v2.xD)+(v2.xN*v1.xD)) (v1.xD*v2.xD)) λv6=>
  some (v6.1,v6.2)
theorem aej{N v1 v2}:KO 270 [(bx v1),(bx v2)] (λr=> .aW [(bx r.1),(aq r.2)]) (Qa N v1 v2):=
 fw Tryz.func270 (gA [[]] (au λv3 J=>gG (λv5=>[(13,(ax v5))]) (λ_=>[.cells (bx v1).cells, .cells (bx v2).cells, .cells ir]) (c9 (4,cK mw J) (aw (λh2=>au λv4 h3=>gE [(3,bF (cH h2))] [(16,cK mw h3)]) λh2=>gE [(3,bT (dq h2))] [])) λv5=>bj λh5=>au λv6 h6=>gR [[f0 h5],[(14,⟨_,_, .eq (ml v1.xN v2.xD)⟩),(29,⟨_,_, .eq (ml v2.xN v1.xD)⟩),(32,⟨_,_, .eq (Fj (v1.xN*v2.xD) (v2.xN*v1.xD))⟩),(47,⟨_,_, .eq (ml v1.xD v2.xD)⟩),(49,cK DQ h6)]]))
def P5(N:Nat)(v1:aR)(v2:aR):ak6 (aR×Int):=
 (la N v1).bind λv3=>
 Option.bind (bif v3 then (la N v2).bind λv4=>
 some (!v4)else some true) λv5=>
 bif v5 then
  some (dA,(1:Int))
 else
  Option.bind (wX N ((v1.xN*v2.xD)-(v2.xN*v1.xD)) (v1.xD*v2.xD)) λv6=>
  some (v6.1,v6.2)
theorem aiS{N v1 v2}:KO 271 [(bx v1),(bx v2)] (λr=> .aW [(bx r.1),(aq r.2)]) (P5 N v1 v2):=
 fw Tryz.func271 (gA [[]] (au λv3 J=>gG (λv5=>[(13,(ax v5))]) (λ_=>[.cells (bx v1).cells, .cells (bx v2).cells, .cells ir]) (c9 (4,cK mw J) (aw (λh2=>au λv4 h3=>gE [(3,bF (cH h2))] [(16,cK mw h3)]) λh2=>gE [(3,bT (dq h2))] [])) λv5=>bj λh5=>au λv6 h6=>gR [[f0 h5],[(14,⟨_,_, .eq (ml v1.xN v2.xD)⟩),(29,⟨_,_, .eq (ml v2.xN v1.xD)⟩),(32,⟨_,_, .eq (vC (v1.xN*v2.xD) (v2.xN*v1.xD))⟩),(47,⟨_,_, .eq (ml v1.xD v2.xD)⟩),(49,cK DQ h6)]]))
def V4(N:Nat)(v1:aR)(v2:aR):ak6 (aR×Int):=
 (la N v1).bind λv3=>
 Option.bind (bif v3 then (la N v2).bind λv4=>
 some (!v4)else some true) λv5=>
 bif v5 then
  some (dA,(1:Int))
 else
  Option.bind (wX N (v1.xN*v2.xN) (v1.xD*v2.xD)) λv6=>
  some (v6.1,v6.2)
theorem Y5{N v1 v2}:KO 272 [(bx v1),(bx v2)] (λr=> .aW [(bx r.1),(aq r.2)]) (V4 N v1 v2):=
 fw Tryz.func272 (gA [[]] (au λv3 J=>gG (λv5=>[(13,(ax v5))]) (λ_=>[.cells (bx v1).cells, .cells (bx v2).cells, .cells ir]) (c9 (4,cK mw J) (aw (λh2=>au λv4 h3=>gE [(3,bF (cH h2))] [(16,cK mw h3)]) λh2=>gE [(3,bT (dq h2))] [])) λv5=>bj λh5=>au λv6 h6=>gR [[f0 h5],[(14,⟨_,_, .eq (ml v1.xN v2.xN)⟩),(29,⟨_,_, .eq (ml v1.xD v2.xD)⟩),(31,cK DQ h6)]]))
def QE(N:Nat)(v1:aR)(v2:aR):ak6 (aR×Int):=
 (la N v1).bind λv3=>
 Option.bind (bif v3 then (la N v2).bind λv4=>
 some (!v4)else some true) λv5=>
 bif v5 then
  some (dA,(1:Int))
 else
  Option.bind (wX N (v1.xN*v2.xD) (v1.xD*v2.xN)) λv6=>
  some (v6.1,v6.2)
theorem aff{N v1 v2}:KO 273 [(bx v1),(bx v2)] (λr=> .aW [(bx r.1),(aq r.2)]) (QE N v1 v2):=
 fw Tryz.func273 (gA [[]] (au λv3 J=>gG (λv5=>[(13,(ax v5))]) (λ_=>[.cells (bx v1).cells, .cells (bx v2).cells, .cells ir]) (c9 (4,cK mw J) (aw (λh2=>au λv4 h3=>gE [(3,bF (cH h2))] [(16,cK mw h3)]) λh2=>gE [(3,bT (dq h2))] [])) λv5=>bj λh5=>au λv6 h6=>gR [[f0 h5],[(14,⟨_,_, .eq (ml v1.xN v2.xD)⟩),(29,⟨_,_, .eq (ml v1.xD v2.xN)⟩),(31,cK DQ h6)]]))
def XW(N:Nat)(v1:Int)(v2:aV)(v3:aR)(v4:aR):ak6 (aR×Int):=
 bif (v2.cg==3)then
  (WN N v1 v3.xN v4.xN).bind λv5=>
  some (v5.1,v5.2)
 else
  Option.bind (bif (v1==4)then some (v2.cg==2)else some false) λv6=>
  bif v6 then
   (Rt N v2 v3 v4).bind λv7=>
   some (v7.1,v7.2)
  else
   Option.bind (bif (v1==5)then some (v2.cg==2)else some false) λv8=>
   bif v8 then
    (S4 N v2 v3 v4).bind λv9=>
    some (v9.1,v9.2)
   else
    Option.bind (bif (v1==6)then some (v2.cg==2)else some false) λv10=>
    bif v10 then
     (Tk N v2 v3 v4).bind λv11=>
     some (v11.1,v11.2)
    else
     bif (v2.cg==2)then
      (Q3 N v2 v3 v4).bind λv12=>
      some (v12.1,v12.2)
     else
      bif (v1==4)then
       (Qa N v3 v4).bind λaA=>
       some (aA.1,aA.2)
      else
       bif (v1==5)then
        (P5 N v3 v4).bind λaE=>
        some (aE.1,aE.2)
       else
        bif (v1==6)then
         (V4 N v3 v4).bind λaP=>
         some (aP.1,aP.2)
        else
         (QE N v3 v4).bind λbC=>
         some (bC.1,bC.2)
def M6(v2:aV)(v3:aR)(v4:aR)(l:ak4 ao):ak4 ao:= .cells (bX v2).cells:: .cells (bx v3).cells:: .cells (bx v4).cells:: .cells ir::l
theorem ZS{N v1 v2 v3 v4}:KO 207 [(aq v1),(bX v2),(bx v3),(bx v4)] (λr=> .aW [(bx r.1),(aq r.2)]) (XW N v1 v2 v3 v4):=
 fw Tryz.func207 (gA [[],[],[]] (aw (λJ=>au λv5 h2=>gR [[t0 J],[(16,cK ac4 h2)]]) λJ=>gA [[f0 J]] (gG (λv6=>[(26,(ax v6))]) (λ_=>(M6 v2 v3 v4 [])) (aw (λh3=>gE [(2,bT h3)] []) λh3=>gE [(2,bF h3)] []) λv6=>aw (λh5=>au λv7 h6=>gR [[t0 h5],[(10,cK ajR h6)]]) λh5=>gA [[f0 h5]] (gG (λv8=>[(38,(ax v8))]) (λ_=>(M6 v2 v3 v4 [])) (aw (λh7=>gE [(2,bT h7)] []) λh7=>gE [(2,bF h7)] []) λv8=>aw (λh9=>au λv9 aO=>gR [[t0 h9],[(10,cK aam aO)]]) λh9=>gA [[f0 h9]] (gG (λv10=>[(50,(ax v10))]) (λ_=>(M6 v2 v3 v4 [])) (aw (λaY=>gE [(2,bT aY)] []) λaY=>gE [(2,bF aY)] []) λv10=>aw (λbN=>au λv11 bZ=>gR [[t0 bN],[(10,cK ae2 bZ)]]) λbN=>gA [[f0 bN],[]] (aw (λbM=>au λv12 cn=>gR [[t0 bM],[(10,cK ab4 cn)]]) λbM=>gA [[f0 bM],[]] (aw (λdj=>au λaA eC=>gR [[t0 dj],[(7,cK aej eC)]]) λdj=>gA [[f0 dj],[]] (aw (λfu=>au λaE dD=>gR [[t0 fu],[(7,cK aiS dD)]]) λfu=>gA [[f0 fu],[]] (aw (λfW=>au λaP iu=>gR [[t0 fW],[(7,cK Y5 iu)]]) λfW=>au λbC fe=>gR [[f0 fW],[(7,cK aff fe)]])))))))))
def M9(N:Nat)(v2:aV)(v3:aR)(v4:aR)(v1:Int)(v11:Bool):ak6 (aR×Int):=
 bif v11 then
  (Js N v2 v3 v4).bind λv12=>
  Option.bind (bif ((decide (v12>0))==(v1==9))then some (v12 !=0)else some false) λaA=>
  bif aA then
   some (v4,(0:Int))
  else
   some (v3,(0:Int))
 else
  (XW N v1 v2 v3 v4).bind λaE=>
  some (aE.1,aE.2)
def F8(N:Nat)(v1:Int)(v2:aV)(v3:aR)(v4:aR):ak6 (aR×Int):=
 Option.bind (bif (decide (v1<4))then some true else some (decide (v1>10))) λv5=>
 bif v5 then
  some (dA,(1:Int))
 else
  (lB N v2).bind λv6=>
  bif (v6 !=0)then
   some (dA,(10:Int))
  else
   (ou N v2 v3).bind λv7=>
   Option.bind (bif v7 then(bif (v1 !=8)then (ou N v2 v4).bind λv8=>
   some (!v8)else some false)else some true) λv9=>
   bif v9 then
    some (dA,(1:Int))
   else
    bif (v1==8)then
     (Va N v2 v3).bind λv10=>
     some (v10.1,v10.2)
    else
     bif (v1==9)then
      M9 N v2 v3 v4 v1 (v1==9)
     else
      M9 N v2 v3 v4 v1 (v1==10)
def Gv(v2:aV)(v3:aR)(v4:aR)(l:ak4 ao):ak4 ao:= .cells (bX v2).cells:: .cells (bx v3).cells:: .cells (bx v4).cells:: .cells ir::l
theorem Jr{N v1 v2 v3 v4}:KO 120 [(aq v1),(bX v2),(bx v3),(bx v4)] (λr=> .aW [(bx r.1),(aq r.2)]) (F8 N v1 v2 v3 v4):=
 fw Tryz.func120 (gA [[]] (gG (λv5=>[(11,(ax v5))]) (λ_=>(Gv v2 v3 v4 [])) (aw (λJ=>gE [(2,bT J)] []) λJ=>gE [(2,bF J)] []) λv5=>bj λh3=>au λv6 h4=>gA [[f0 h3],[(4,cK nR h4)]] (bj λh5=>gA [[f0 h5]] (au λv7 h6=>gG (λv9=>[(24,(ax v9))]) (λ_=>(Gv v2 v3 v4 [])) (c9 (7,cK sL h6) (aw (λh7=>cr (4,bF (cH h7)) (aw (λh8=>au λv8 h9=>gE [(7,bT h8)] [(31,cK sL h9),(37,bT h8)]) λh8=>gE [(7,bF h8)] [(37,bF h8)])) λh7=>gE [(4,bT (dq h7)),(7,uN)] [])) λv9=>bj λaY=>gA [[f0 aY],[],[]] (aw (λaT=>au λv10 bN=>gR [[t0 aT],[(7,cK afa bN)]]) λaT=>k8 1 [[f0 aT],[]] [0,5,6,7,8,48] 4 (λ(v11:Bool)=>⟨73,[(0,(aq v1)),(5,(.ptr 0 0)),(6,(.ptr 1 0)),(7,(.ptr 2 0)),(8,(.ptr 3 0)),(48,(ax v11))],(Gv v2 v3 v4 [])⟩) (M9 N v2 v3 v4 v1) (λf1 aG=>aw (λdD=>gm aG (v1==9) [[t0 dD]]) λdD=>gm aG (v1==10) [[f0 dD],[]]) (λv11=>aw (λbZ=>au λv12 bM=>gA [[t0 bZ],[(10,cK UH bM)]] (gG (λaA=>[(63,(ax aA))]) (λ_=>(Gv v2 v3 v4 [])) (aw (λcn=>gE [(5,bT cn)] []) λcn=>gE [(5,bF cn)] []) λaA=>bj λeC=>gR [[f0 eC],[]])) λbZ=>au λaE fu=>gR [[f0 bZ],[(13,cK ZS fu)]]))))))
end Go.Proofs.YtnnapanbbbcalaaGreatDoor
