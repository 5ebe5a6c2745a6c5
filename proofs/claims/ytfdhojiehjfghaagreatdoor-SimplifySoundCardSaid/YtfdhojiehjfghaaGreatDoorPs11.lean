/-
  Part 11 of the proof: PE1, PE2, PE3.
-/
import Derived.Test.YtfdhojiehjfghaaGreatDoorPs10
namespace Go.Proofs.YtfdhojiehjfghaaGreatDoor
open Go.RowKit
set_option maxRecDepth 100000
set_option maxHeartbeats 0
set_option linter.unusedVariables false
theorem k00{α β γ:Type}{a:Option α}{b:α->Option β}{f:α->β->Option γ}{r:γ}(h:Option.bind a (λx=>Option.bind (b x) (f x))=some r):∃x,a=some x/\∃y,b x=some y/\f x y=some r:=have⟨x,p,h⟩:=b8 h;have⟨y,q,h⟩:=b8 h;⟨x,p,y,q,h⟩
theorem yq{α β:Type}{P:α->β->Prop}(a:α)(b:β)(h:P a b:=by kernel_rfl):∃a b,P a b:=⟨a,b,h⟩
def dI:aP:=⟨(0:Int64),[]⟩
def bZ:aB:=⟨(0:Int64),(0:Int64)⟩
def dZ:aF:=⟨(0:Int),(0:Int),(0:Int),(0:Int),(0:Int)⟩
def fg:an:=⟨(0:Int),(bs []),bZ,dZ,dI,[],[]⟩
def iW:anD AV:=[(au (0:Int)),(bu (bs [])),(aT (0:Int64)),(aT (0:Int64)),(au (0:Int)),(au (0:Int)),(au (0:Int)),(au (0:Int)),(au (0:Int)),(aT (0:Int64)),(.d (.v (.slice none 0 0))),(.d (.v (.slice none 0 0))),(.d (.v (.slice none 0 0)))]
def Lr(v:an)(r:anD AV):anD AV:=(au v.aq)::(bu v.aO)::(aT v.bg.xN)::(aT v.bg.xD)::(au v.aD.aL)::(au v.aD.bY)::(au v.aD.bM)::(au v.aD.b5)::(au v.aD.bK)::r
def xc(N:Nat)(v2:Int)(sD:an->Int->anF Int):anD an->Nat->Int->anF Int
 |[],_,v12=>
  some v12
 |v10::v11,v8,v12=>
  bif (decide (v12<=v2))then
   Option.bind (sD v10 (aS (v2-v12))) λaW=>
   (λsF=>xc N v2 sD v11 (v8+1) sF) (aS (v12+aW))
  else
   some v12
def GF(N:Nat)(uH:Int->anF Int)(v2:Int):anD aP->Nat->Int->anF Int
 |[],_,aU=>
  uH aU
 |fO::b6,bX,aU=>
  bif (decide (aU<=v2))then
   (λEa=>GF N uH v2 b6 (bX+1) Ea) (aS (aU+(fO.xL.length:Int)))
  else
   uH aU
def AI(N:Nat)(v2:Int)(sD:an->Int->anF Int):anD an->Nat->Int->anF Int
 |[],_,fi=>
  some fi
 |v21::jU,cD,fi=>
  bif (decide (fi<=v2))then
   Option.bind (sD v21 (aS (v2-fi))) λv24=>
   (λahX=>AI N v2 sD jU (cD+1) ahX) (aS (fi+v24))
  else
   some fi
def Ad(N:Nat)(v2:Int)(sD:an->Int->anF Int)(v1:an):anD aN->Nat->Int->anF Int
 |[],_,v7=>
  xc N v2 sD v1.aw 0 v7
 |v5::v6,v3,v7=>
  bif (decide (v7<=v2))then
   GF N (λdV=>Ad N v2 sD v1 v6 (v3+1) dV) v2 v5.aZ 0 (aS ((aS (v7+(v5.aM.xL.length:Int)))+(v5.aZ.length:Int)))
  else
   AI N v2 sD v1.aw 0 v7
def rJ(N:Nat):Nat->an->Int->anF Int
 |0,_,_=>none
 |d+1,v1,v2=>
  Ad N v2 (rJ N d) v1 v1.xIdx 0 (aS ((aS ((1:Int)+(v1.aM.xL.length:Int)))+(v1.xIdx.length:Int)))
def Lb(N:Nat)(v1:an)(v2:Int):anF Int:=rJ N N v1 v2
theorem ahk(N:Nat):∀d:Nat,(∀{v1:an}{v2:Int},KO 7 [(aA v1),(au v2)] au (rJ N d v1 v2)):=by
 intro d
 induction d with
 |zero=>intro v1 v2 r J;rw[rJ]at J;cases J
 |succ d ih=>
  have Zp:= @ih;intro v1 v2;rw[rJ];exact fw Tryz.func7 (gA [[],[(10,oL v1.aM.xL fc),(22,oL v1.xIdx fU)],[]] (gB vj 0 11 v1.xIdx λh2=>q9 1 [] [1,2,5,6] 1 (λv3(v7:Int)=>⟨101,[(1,(au v2)),(2,(.ptr 0 0)),(5,(au v7)),(6,(au (v3:Int)))],[.cells (aA v1).cells]⟩) (λv3 v7 h3 f1=>gA [[(10,oL v1.xIdx fU),(18,bF (dv h3)),(21,bF (dv h3)),(24,bF (dv h3)),(28,bF (dv h3))],[(0,bF rfl)],[]] (gB rY 0 12 v1.aw λh5=>q9 2 [] [1,2,5,8] 1 (λv8(v12:Int)=>⟨101,[(1,(au v2)),(2,(.ptr 0 0)),(5,(au v12)),(8,(au (v8:Int)))],[.cells (aA v1).cells]⟩) (λv8 v12 h6 f2=>gR [[(10,oL v1.aw fS),(18,bF (dv h6)),(21,bF (dv h6)),(24,bF (dv h6)),(28,bF (dv h6))],[(0,bF rfl)],[]]) (λv8 v10 v11 v12 h6 f2 fY=>gA [[(10,oL v1.aw fS),(18,bT (dt h6)),(21,bT (dt h6)),(24,bT (dt h6)),(28,bT (dt h6))]] (ky λh7=>ax λaW h8=>gb fY (aS (v12+aW)) [[(0,bT h7)],[(13,oE (cn (cO h6))),(28,cK Zp h8)],[(5,oq (dR h6 rfl h5))]] h6)))) (λv3 v5 v6 v7 h3 f1 aK=>gA [[(10,oL v1.xIdx fU),(18,bT (dt h3)),(21,bT (dt h3)),(24,bT (dt h3)),(28,bT (dt h3))]] (ay (λh9=>gA [[(0,bT h9)],[(13,oE (kC (cO h3))),(25,oL v5.aM.xL fc),(40,oE (kC (cO h3))),(49,oL v5.aZ gW)],[]] (ZR (λ_=>(YC 0 11 (cH v1.xIdx) (by kernel_rfl) ·)) λbk=>have bo:=Km gW (aaI (j:=3) (d:= .sl (ew v5.aZ)) bk (kC (cO h3)) rfl);q9 3 [] [1,2,5,6,7] 1 (λbX(aU:Int)=>⟨101,[(1,(au v2)),(2,(.ptr 0 0)),(5,(au aU)),(6,(au (v3:Int))),(7,(au (bX:Int)))],[.cells (aA v1).cells]⟩) (λbX aU bJ f3=>gb aK aU [[(13,oE (kC (cO h3))),(22,oL v5.aZ gW),(30,bF (dv bJ)),(33,bF (dv bJ)),(36,bF (dv bJ)),(40,bF (dv bJ))],[(0,bF rfl)],[(5,oq (dR h3 rfl h2))]] h3) (λbX fO b6 aU bJ f3 qu=>gA [[(13,oE (kC (cO h3))),(22,oL v5.aZ gW),(30,bT (dt bJ)),(33,bT (dt bJ)),(36,bT (dt bJ)),(40,bT (dt bJ))]] (ay (λcf=>gb qu (aS (aU+(fO.xL.length:Int))) [[(0,bT cf)],[(13,oE (kC (cO h3))),(25,oE (uE (cO bJ))),(34,oL fO.xL fc)],[(5,oq (dR bJ rfl bo))]] bJ) λcf=>gb aK aU [[(0,bF cf)],[(5,oq (dR h3 rfl h2))]] h3)))) λh9=>gA [[(0,bF h9)],[]] (gB rY 0 12 v1.aw λcq=>q9 4 [] [1,2,5,8] 1 (λcD(fi:Int)=>⟨101,[(1,(au v2)),(2,(.ptr 0 0)),(5,(au fi)),(8,(au (cD:Int)))],[.cells (aA v1).cells]⟩) (λcD fi bH f4=>gR [[(10,oL v1.aw fS),(18,bF (dv bH)),(21,bF (dv bH)),(24,bF (dv bH)),(28,bF (dv bH))],[(0,bF rfl)],[]]) (λcD v21 jU fi bH f4 yy=>gA [[(10,oL v1.aw fS),(18,bT (dt bH)),(21,bT (dt bH)),(24,bT (dt bH)),(28,bT (dt bH))]] (ky λcE=>ax λv24 cY=>gb yy (aS (fi+v24)) [[(0,bT cE)],[(13,oE (cn (cO bH))),(28,cK Zp cY)],[(5,oq (dR bH rfl cq))]] bH)))))))
theorem aaX{N v1 v2}:KO 7 [(aA v1),(au v2)] au (Lb N v1 v2):=(ahk N N)
def Ix(N:Nat)(v1:anE):anF aP:=
 some (⟨(0:Int64),[(⟨v1,(1:Int64)⟩:bf)]⟩:aP)
theorem QQ{N v1}:KO 23 [(bu v1)] cz (Ix N v1):=
 fw Tryz.func23 (gR [[],[]])
def CO(N:Nat)(v1:aF)(v2:Int64):anF an:=
 some (⟨(1:Int),(bs []),(⟨v2,(1:Int64)⟩:aB),v1,dI,[],[]⟩:an)
theorem IS{N v1 v2}:KO 25 [(cB v1),(aT v2)] aA (CO N v1 v2):=
 fw Tryz.func25 (gR [[],[]])
def CM(N:Nat)(v1:Int)(v2:an)(v3:an):anF an:=
 some (⟨v1,(bs []),bZ,dZ,dI,[],[v2,v3]⟩:an)
theorem F5{N v1 v2 v3}:KO 24 [(au v1),(aA v2),(aA v3)] aA (CM N v1 v2 v3):=
 fw Tryz.func24 (gR [[],[(11,⟨_,_, .eq (congrArg AV.full (iH [v2,v3]).symm)⟩)]])
def OQ(N:Nat)(v1:aF):anF Bool:=
 some ((v1.aL==v1.aL)&&((v1.bY==0)&&((v1.bM==0)&&((v1.b5==0)&&((v1.bK==0)&&true)))))
theorem abu{N v1}:KO 51 [(cB v1)] aC (OQ N v1):=
 fw Tryz.func51 (gR [[],[]])
def uX(N:Nat)(v1:aF):anF Int:=
 Option.bind (bif (decide (v1.b5>=1))then(bif (decide (v1.b5<=4))then(bif (v1.bK==1)then some true else some (v1.bK==2))else some false)else some false) λv2=>
 Option.bind (bif (v1.aL !=2)then some true else(bif (decide (v1.bY<2))then some true else(bif (decide (v1.bY>31))then some true else(bif (decide (v1.bM<0))then some true else(bif (decide (v1.bM>30))then some true else some (!v2)))))) λv3=>
 bif v3 then
  some (10:Int)
 else
  some (0:Int)
theorem Jz{N v1}:KO 52 [(cB v1)] au (uX N v1):=
 fw Tryz.func52 (gA [[]] (gG (λv2=>[(3,(aC v2))]) (λ_=>[.cells (cB v1).cells]) (ay (λh1=>cm (3,bT h1) (ay (λh2=>cm (8,bT h2) (ay (λh3=>gE [(12,bT h3)] [(49,bT h3)]) λh3=>gE [(12,bF h3)] [(49,bF h3)])) λh2=>gE [(8,bF h2),(12,uN)] [])) λh1=>gE [(3,bF h1),(8,bF rfl),(12,uN)] []) λv2=>gG (λv3=>[(48,(aC v3))]) (λ_=>[.cells (cB v1).cells]) (ay (λh5=>gE [(3,bT h5),(8,bT rfl),(13,bT rfl),(18,bT rfl),(23,bT rfl)] []) λh5=>cm (3,bF h5) (ay (λh6=>gE [(8,bT h6),(13,bT rfl),(18,bT rfl),(23,bT rfl)] []) λh6=>cm (8,bF h6) (ay (λh7=>gE [(13,bT h7),(18,bT rfl),(23,bT rfl)] []) λh7=>cm (13,bF h7) (ay (λh8=>gE [(18,bT h8),(23,bT rfl)] []) λh8=>cm (18,bF h8) (ay (λh9=>gE [(23,bT h9)] []) λh9=>gE [(23,bF h9)] []))))) λv3=>bN λbo=>gR [[f0 bo],[]]))
def Ks(N:Nat)(v1:aF)(v2:Bool):anF Int:=
 bif v2 then
  (OQ N v1).bind λv3=>
  bif v3 then
   some (0:Int)
  else
   some (10:Int)
 else
  bif (v1.aL==2)then
   (uX N v1).bind λv4=>
   bif (v4==0)then
    some (0:Int)
   else
    some (10:Int)
  else
   some (10:Int)
def nf(N:Nat)(v1:aF):anF Int:=
 bif (v1.aL==1)then
  Ks N v1 (v1.aL==1)
 else
  Ks N v1 (v1.aL==3)
theorem qT{N v1}:KO 27 [(cB v1)] au (nf N v1):=
 fw Tryz.func27 (lH 1 [[],[],[]] [1,4,5] 1 (λ(v2:Bool)=>⟨15,[(1,(.ptr 0 0)),(4,(au v1.aL)),(5,(aC v2))],[.cells (cB v1).cells]⟩) (Ks N v1) (λf1 aK=>ay (λh7=>gm aK (v1.aL==1) [[t0 h7]]) λh7=>gm aK (v1.aL==3) [[f0 h7],[]]) (λv2=>ay (λh1=>ax λv3 h2=>gA [[t0 h1],[(4,cK abu h2)]] (bN λh3=>gR [[f0 h3],[]])) λh1=>gA [[f0 h1],[]] (ky λh4=>ax λv4 h5=>gA [[t0 h4],[(4,cK Jz h5)]] (bN λh6=>gR [[f0 h6],[]]))))
def Gj(N:Nat)(Yq:an->Int->anF Int)(v2:Int):anD an->Nat->Int->anF Int
 |[],_,v7=>
  some v7
 |v5::v6,v3,v7=>
  Option.bind (Yq v5 (aS (v2-(1:Int)))) λv8=>
  (λdV=>Gj N Yq v2 v6 (v3+1) dV) (if(aS ((1:Int)+v8))>v7 then(aS ((1:Int)+v8))else v7)
def qU(N:Nat):Nat->an->Int->anF Int
 |0,_,_=>none
 |d+1,v1,v2=>
  bif (decide (v2<=1))then
   some v2
  else
   Gj N (qU N d) v2 v1.aw 0 (1:Int)
def O2(N:Nat)(v1:an)(v2:Int):anF Int:=qU N N v1 v2
theorem aml(N:Nat):∀d:Nat,(∀{v1:an}{v2:Int},KO 91 [(aA v1),(au v2)] au (qU N d v1 v2)):=by
 intro d
 induction d with
 |zero=>intro v1 v2 r J;rw[qU]at J;cases J
 |succ d ih=>
  have afH:= @ih;intro v1 v2;rw[qU];exact fw Tryz.func91 (gA [[],[]] (bN λh1=>gA [[(0,bF h1)],[],[(7,oL v1.aw fS)]] (gT rY 12 v1.aw λh3=>q9 1 [] [1,5,12,13,14] 1 (λv3(v7:Int)=>⟨27,[(1,(au v2)),(5,(au v7)),(12,(.d (.sl (dh v1.aw)))),(13,(au (v1.aw.length:Int))),(14,(au (v3:Int)))],[.cells (aA v1).cells]⟩) (λv3 v7 h4 f1=>gR [[],[(0,bF (dv h4))],[]]) (λv3 v5 v6 v7 h4 f1 aK=>ax λv8 h5=>gb aK (if(aS ((1:Int)+v8))>v7 then(aS ((1:Int)+v8))else v7) [[],[(0,bT (dt h4))],[(1,oE (cn (cO h4)))],[(13,cK afH h5)],[(2,oq (dR h4 rfl h3))]] h4))))
theorem aga{N v1 v2}:KO 91 [(aA v1),(au v2)] au (O2 N v1 v2):=(aml N N)
def NO(N:Nat)(v1:an):anF Int:=
 Option.bind (O2 N v1 (41:Int)) λv2=>
 some v2
theorem adM{N v1}:KO 53 [(aA v1)] au (NO N v1):=
 fw Tryz.func53 (ax λv2 h1=>gR [[],[(4,cK aga h1)]])
def Jd(N:Nat)(v1:an):anF an:=some v1
theorem SB{N v1 r}(J:Jd N v1=some r):gn Tryz.prog 36 [(aA v1)] (·=(.fn 62 [(.ba [dd r] 0 0)])):=by
 cases J;exact af6 v1
def tI(N:Nat):anD an->Int->anF Int
 |[],v3=>
  some v3
 |_::v5,v3=>
  bif (decide ((aS (v3+(1:Int)))>2000))then
   some (aS (v3+(1:Int)))
  else
   (λdV=>tI N v5 dV) (aS (v3+(1:Int)))
def D6(N:Nat)(v1:an):anF Int:=
 (Jd N v1).bind λv2=>
 tI N (dq v2) (0:Int)
def CC(v1:an)(v3:Int)(l:anD ao):anD ao:= .cells (aA v1).cells:: .cells [(au (aS (v3+(1:Int))))]::l
def tb(v1:an)(v3:Int)(l:anD ao):anD ao:= .cells (aA v1).cells:: .cells [(au v3)]::l
def rb(v1:an)(l:anD ao):anD ao:= .cells (aA v1).cells:: .cells [(au (0:Int))]::l
theorem akH{N v1 r}(J:D6 N v1=some r):KF 13 [(aA v1)] (au r):=by
 rw[D6]at J;refine Ar Tryz.func13 rfl (by kernel_rfl) ?_;refine jZ [0] 0 (amY _) (s':=⟨12,[(0,(aA v1))],[]⟩) (by kernel_rfl) ?_;refine aR ?_;refine rg [] [(1,(.ptr 0 0))] [.cells (aA v1).cells] (by kernel_rfl) ?_;refine aR ?_;refine rg [] [(3,(.ptr 1 0))] (rb v1 []) (by kernel_rfl) ?_;refine aR ?_;refine aR ?_;obtain⟨v2,h1,J⟩:=b8 J;refine rg [(4,cL (SB h1))] [(5,(.fn 62 [(.ba [dd v2] 0 0)]))] (rb v1 []) (by kernel_rfl) ?_;refine la ?_;refine jZ [3,5] 2 (amV rfl) (s':=⟨12,[(3,(.ptr 1 0)),(5,(.fn 62 [(.ba [dd v2] 0 0)]))],(rb v1 [])⟩) (by kernel_rfl) ?_;refine OH (m:=2) (enc:=aA) (xs:=(dq v2)) (by kernel_rfl) (RZ v2) (λ(v3:Int)=>(tb v1 v3 [])) (λ(v3:Int) l=>tI N l v3=some r) (0:Int) (by kernel_rfl) J (by rintro v3;rfl) (by rintro v3;kernel_rfl) (by kernel_rfl) rfl ?_ ?_
 ·rintro v3 v4 v5 J h2 jX jG
  try dsimp only at J
  rw[tI]at J;refine jZ [3] 3 (amY _) (s':=⟨12,[(3,(.ptr 1 0))],(tb v1 v3 [.lp .ready 6 jX jG (dH 12 [(3,(.ptr 1 0)),(5,(.fn 62 [(.ba [dd v2] 0 0)]))])])⟩) (by kernel_rfl) ?_;refine fj ?_;refine cw ?_;refine⟨(tb v1 v3 []),[],rfl,(by kernel_rfl),?_⟩;refine jZ [3] 3 (amV rfl) (s':=⟨12,[(3,(.ptr 1 0))],(tb v1 v3 [.lp .busy 6 jX jG (dH 12 [(3,(.ptr 1 0)),(5,(.fn 62 [(.ba [dd v2] 0 0)]))])])⟩) (by kernel_rfl) ?_;refine la ?_;refine aR ?_;refine rg [] [] (CC v1 v3 [.lp .busy 6 jX jG (dH 12 [(3,(.ptr 1 0)),(5,(.fn 62 [(.ba [dd v2] 0 0)]))])]) (by kernel_rfl) ?_;refine aR ?_;refine rg [] [(10,(aC (decide ((aS (v3+(1:Int)))>2000))))] (CC v1 v3 [.lp .busy 6 jX jG (dH 12 [(3,(.ptr 1 0)),(5,(.fn 62 [(.ba [dd v2] 0 0)]))])]) (by kernel_rfl) ?_;rcases gq (decide ((aS (v3+(1:Int)))>2000))with h3|h3
  ·replace J:=(gg h3).symm.trans J;refine aw_cond_h (t:=(decide ((aS (v3+(1:Int)))>2000))) (by kernel_rfl) h3 ?_;refine x9 (ahp rfl ?_);refine al1 (CC v1 v3 []) rfl (by kernel_rfl) (by kernel_rfl) ?_;refine(B5 rfl ?_);refine cw ?_;refine aR ?_;refine rg [] [(2,(au (aS (v3+(1:Int)))))] (CC v1 v3 [.gone]) (by kernel_rfl) ?_;refine dz ?_;have hr:=am6 J;subst hr;exact jI (by kernel_rfl)
  replace J:=(gu h3).symm.trans J;refine gZ (t:=(decide ((aS (v3+(1:Int)))>2000))) (by kernel_rfl) h3 ?_;refine fj ?_;refine oJ ?_;refine KY (CC v1 v3 []) rfl (by kernel_rfl) (by kernel_rfl) ?_;exact⟨(aS (v3+(1:Int))),(by kernel_rfl),J⟩
 rintro v3 J
 try dsimp only at J
 rw[tI]at J;refine oJ ?_;refine cw ?_;refine aR ?_;refine rg [] [(2,(au v3))] (tb v1 v3 [.gone]) (by kernel_rfl) ?_;refine dz ?_;have hr:=am6 J;subst hr;exact jI (by kernel_rfl)
def D9(N:Nat)(v1:aP):anF Bool:=
 Option.bind (bif (v1.xK.toInt==0)then some ((v1.xL.length:Int)==0)else some false) λv2=>
 some v2
theorem X5{N v1}:KO 153 [(cz v1)] aC (D9 N v1):=
 fw Tryz.func153 (gA [[]] (gG (λv2=>[(2,(aC v2))]) (λ_=>[.cells (cz v1).cells]) (ay (λh1=>gE [(3,bT h1)] [(19,oL v1.xL fc)]) λh1=>gE [(3,bF h1)] []) λv2=>gR []))
def Ja(N:Nat)(v1:aN):anF Bool:=
 bif (bL v1.bI==bL (bs []))then
  some ((v1.aZ.length:Int)==0)
 else
  (D9 N v1.aM).bind λv2=>
  some v2
theorem alb{N v1}:KO 156 [(gh v1)] aC (Ja N v1):=
 fw Tryz.func156 (gA [[],[]] (ay (λh1=>gR [[t0 h1],[(7,oL v1.aZ gW)]]) λh1=>ax λv2 h2=>gR [[f0 h1],[(7,cK X5 h2)]]))
def Ro(N:Nat)(v1:aN):anF Bool:=
 (Ja N v1).bind λv2=>
 some (!v2)
theorem aiN{N v1}:KO 155 [(gh v1)] aC (Ro N v1):=
 fw Tryz.func155 (ax λv2 h1=>gR [[],[(4,cK alb h1)]])
def Gt(N:Nat):anD aN->Nat->anF Int
 |[],_=>
  some (-1:Int)
 |v4::v5,v2=>
  (Ro N v4).bind λv6=>
  bif v6 then
   some (v2:Int)
  else
   (Gt N v5 (v2+1))
def LJ(N:Nat)(v1:anD aN):anF Int:=
 Gt N v1 0
theorem akr{N v1}:KP 216 [(.d (.sl (cH v1))),(.fn 155 [])] [] au (λ_=>[]) (LJ N v1):=
 fh 0 Tryz.func216 (gA [[],[(4,oL v1 fU)]] (gT vj 0 v1 λh2=>js 1 [] [0,1,7,8] 0 (λv2=>⟨19,[(0,(.d (.sl (cH v1)))),(1,(.fn 155 [])),(7,(au (v1.length:Int))),(8,(au (v2:Int)))],[]⟩) (λv2 h3 f1=>gH [[],[f0 (dv h3)],[]]) (λv2 v4 v5 h3 f1 aK=>ax λv6 h4=>gA [[],[t0 (dt h3)],[],[(10,oE (kC (cO h3))),(16,cK aiN h4)]] (ay (λh5=>gH [[t0 h5],[]]) λh5=>gb aK () [[f0 h5],[(2,oq (dR h3 rfl h2))]] h3))))
def J2(N:Nat)(v1:anD aN):anF Bool:=
 (LJ N v1).bind λv2=>
 some (decide (v2>=0))
theorem ak8{N v1}:KP 154 [(.d (.sl (cH v1))),(.fn 155 [])] [] aC (λ_=>[]) (J2 N v1):=
 fh 0 Tryz.func154 (ax λv2 h1=>gH [[],[(7,oQ [(.d (.sl (cH v1))),(.fn 155 [])] [] [] (akr _ h1))]])
def I2(N:Nat)(v1:an):anF Bool:=
 Option.bind (bif (v1.aq==1)then some true else some (v1.aq==12)) λv2=>
 Option.bind (bif (decide (v1.aq<1))then some true else some (decide (v1.aq>18))) λv3=>
 bif v3 then
  some false
 else
  Option.bind (bif (v1.aq==1)then some false else some (!((v1.bg.xN.toInt==(0:Int64).toInt)&&((v1.bg.xD.toInt==(0:Int64).toInt)&&true)))) λv4=>
  bif v4 then
   some false
  else
   Option.bind (bif v2 then some false else some (!((v1.aD.aL==0)&&((v1.aD.bY==0)&&((v1.aD.bM==0)&&((v1.aD.b5==0)&&((v1.aD.bK==0)&&true))))))) λv5=>
   bif v5 then
    some false
   else
    Option.bind (bif (v1.aq==2)then some false else (D9 N v1.aM).bind λv6=>
    some (!v6)) λv7=>
    bif v7 then
     some false
    else
     Option.bind (bif (v1.aq==3)then some false else(bif (bL v1.aO==bL (bs []))then some (decide ((v1.xIdx.length:Int)>0))else some true)) λv8=>
     bif v8 then
      some false
     else
      (J2 N v1.xIdx).bind λv9=>
      some (!v9)
def nQ(v1:an)(l:anD ao):anD ao:= .cells (aA v1).cells::l
theorem ajR{N v1}:KO 92 [(aA v1)] aC (I2 N v1):=
 fw Tryz.func92 (gA [[]] (gG (λv2=>[(3,(aC (v1.aq==1))),(4,(aC v2))]) (λ_=>(nQ v1 [])) (ay (λh1=>gE [(6,bT h1)] []) λh1=>gE [(6,bF h1)] []) λv2=>gA [[]] (gG (λv3=>[(24,(aC v3))]) (λ_=>(nQ v1 [])) (ay (λh3=>gE [(3,bT h3)] []) λh3=>gE [(3,bF h3)] []) λv3=>bN λh5=>gA [[f0 h5]] (gG (λv4=>[(33,(aC v4))]) (λ_=>(nQ v1 [])) (ay (λh6=>gE [(2,bF (du h6))] []) λh6=>gE [(2,bT (dD h6))] []) λv4=>bN λh8=>gA [[f0 h8]] (gG (λv5=>[(42,(aC v5))]) (λ_=>(nQ v1 [])) (ay (λh9=>gE [(2,bF (du h9))] []) λh9=>gE [(2,bT (dD h9))] []) λv5=>bN λbo=>gA [[f0 bo]] (gG (λv7=>[(51,(aC v7))]) (λ_=>(nQ v1 [])) (ay (λbJ=>gE [(2,bF (du bJ))] []) λbJ=>ax λv6 cf=>gE [(2,bT (dD bJ))] [(16,cK X5 cf)]) λv7=>bN λcq=>gA [[f0 cq]] (gG (λv8=>[(60,(aC v8))]) (λ_=>(nQ v1 [])) (ay (λbH=>gE [(2,bF (du bH)),(6,uN)] []) λbH=>cm (2,bT (dD bH)) (ay (λcE=>gE [(6,bF (du cE))] [(28,oL v1.xIdx fU),(34,bF (du cE))]) λcE=>gE [(6,bT (dD cE))] [(34,bT (dD cE))])) λv8=>bN λdC=>ax λv9 dj=>gR [[f0 dC],[(7,oQ [(.d (.sl (cH v1.xIdx))),(.fn 155 [])] (nQ v1 []) [] (ak8 _ dj))]])))))))
def DF(N:Nat)(v1:Int):anF Bool:=
 Option.bind (bif (decide (v1>=97))then some (decide (v1<=122))else some false) λv2=>
 some v2
theorem Vo{N v1}:KO 132 [(.d (.v (.int .i32 v1)))] aC (DF N v1):=
 fw Tryz.func132 (gA [[]] (gG (λv2=>[(2,(aC v2))]) (λ_=>[]) (ay (λh1=>gE [(2,bT h1)] []) λh1=>gE [(2,bF h1)] []) λv2=>gR []))
def HG(N:Nat)(v1:Int):anF Bool:=
 Option.bind (bif (decide (v1>=48))then some (decide (v1<=57))else some false) λv2=>
 some v2
theorem acK{N v1}:KO 199 [(.d (.v (.int .i32 v1)))] aC (HG N v1):=
 fw Tryz.func199 (gA [[]] (gG (λv2=>[(2,(aC v2))]) (λ_=>[]) (ay (λh1=>gE [(2,bT h1)] []) λh1=>gE [(2,bF h1)] []) λv2=>gR []))
def Ga(N:Nat)(v1:Int):anF Bool:=
 (DF N v1).bind λv2=>
 Option.bind (bif v2 then some true else (HG N v1).bind λv3=>
 (bif v3 then some true else some (v1==95))) λv4=>
 some v4
theorem aiF{N v1}:KO 134 [(.d (.v (.int .i32 v1)))] aC (Ga N v1):=
 fw Tryz.func134 (gA [[]] (ax λv2 h1=>gG (λv4=>[(2,(aC v4))]) (λ_=>[]) (cP (4,cK Vo h1) (ay (λh2=>gE [(2,bT h2),(6,bT rfl)] []) λh2=>ax λv3 h3=>cm (2,bF h2) (cP (13,cK acK h3) (ay (λh4=>gE [(6,bT h4)] []) λh4=>gE [(6,bF h4)] [])))) λv4=>gR []))
def Ey(N:Nat)(v1:anE):Nat->Int->anF Int
 |0,_=>none
 |v2+1,v3=>
  Option.bind (bif (decide (v3<(v1.size:Int)))then bif (decide ((0:Int)<=v3))then
  Option.bind (v1[(v3).toNat]?) λv4=>
  Option.bind (Ga N (IntKind.i32.wrap (v4.toNat:Int))) λv5=>
  some v5
  else none else some false) λv6=>
  bif v6 then
   (λdV=>Ey N v1 v2 dV) (aS (v3+(1:Int)))
  else
   some v3
def HL(N:Nat)(v1:anE):anF Int:=
 Ey N v1 N (0:Int)
theorem abJ{N v1}:KP 133 [(bu v1),(.fn 134 [])] [] au (λ_=>[]) (HL N v1):=
 fh 0 Tryz.func133 (TL 1 [[],[]] [0,1,5] 0 (λ(v3:Int)=>⟨21,[(0,(bu v1)),(1,(.fn 134 [])),(5,(au v3))],[]⟩) (Ey N v1) (λv2 v3 f1 aK=>gG (λv6=>[(17,(aC v6))]) (λ_=>[]) (ay (λh1=>gy λh3=>ax λv4 h2=>ax λv5 h4=>gE [(4,bT h1)] [(25,⟨_,_, .ch (i:=v3) (of_decide_eq_true h3) h2⟩),(31,cK aiF h4)]) λh1=>gE [(4,bF h1)] []) λv6=>ay (λh6=>PK aK (aS (v3+(1:Int))) [[t0 h6],[]]) λh6=>gH [[f0 h6],[]]))
def QU(N:Nat):anF (anD anE):=some nL
theorem ahw{N r}(J:QU N=some r):gn Tryz.prog 200 [] (·=(.d (.sl (mR r)))):=by
 cases J;exact aly
def JT(N:Nat)(v2:anE):anD anE->Nat->anF Int
 |[],_=>
  some (-1:Int)
 |v5::v6,v3=>
  bif (bL v2==bL v5)then
   some (v3:Int)
  else
   (JT N v2 v6 (v3+1))
def PY(N:Nat)(v1:anD anE)(v2:anE):anF Int:=
 JT N v2 v1 0
theorem acE{N v1 v2}:KO 79 [(.d (.sl (mR v1))),(bu v2)] au (PY N v1 v2):=
 fw Tryz.func79 (gA [[],[(4,oL v1 Vn)]] (gT ZI 0 v1 λh2=>js 1 [] [0,1,7,8] 0 (λv3=>⟨19,[(0,(.d (.sl (mR v1)))),(1,(bu v2)),(7,(au (v1.length:Int))),(8,(au (v3:Int)))],[]⟩) (λv3 h3 f1=>gR [[],[f0 (dv h3)],[]]) (λv3 v5 v6 h3 f1 aK=>gA [[],[t0 (dt h3)],[],[(10,oE (aht (cO h3)))]] (bN λh4=>gb aK () [[f0 h4],[(2,oq (dR h3 rfl h2))]] h3))))
def Mr(N:Nat)(v1:anD anE)(v2:anE):anF Bool:=
 (PY N v1 v2).bind λv3=>
 some (decide (v3>=0))
theorem age{N v1 v2}:KO 45 [(.d (.sl (mR v1))),(bu v2)] aC (Mr N v1 v2):=
 fw Tryz.func45 (ax λv3 h1=>gR [[],[(7,cK acE h1)]])
def GG(N:Nat)(v1:anE):anF Bool:=
 (QU N).bind λv2=>
 (Mr N v2 v1).bind λv3=>
 some v3
theorem amf{N v1}:KO 135 [(bu v1)] aC (GG N v1):=
 fw Tryz.func135 (ax λv2 h1=>ax λv3 h2=>gR [[],[(1,cL (ahw h1)),(7,cK age h2)]])
def Bj(N:Nat)(v1:anE):anF Bool:=
 Option.bind (bif (bL v1==bL (bs []))then some false else(bif (decide ((v1.size:Int)<=16))then Option.bind (v1[0]?) λv2=>
 Option.bind (DF N (IntKind.i32.wrap (v2.toNat:Int))) λv3=>
 (bif v3 then (HL N v1).bind λv4=>
 (bif (v4==(v1.size:Int))then (GG N v1).bind λv5=>
 some (!v5)else some false)else some false)else some false)) λv6=>
 some v6
theorem Sr{N v1}:KO 72 [(bu v1)] aC (Bj N v1):=
 fw Tryz.func72 (gA [[]] (gG (λv6=>[(2,(aC v6))]) (λ_=>[]) (ay (λh1=>gE [(2,bF (du h1)),(7,bF rfl),(13,bF rfl),(20,bF rfl)] []) λh1=>cm (2,bT (dD h1)) (ay (λh2=>ax λv2 h3=>ax λv3 h4=>cm (7,bT h2) (cP (28,⟨_,_, .ch (i:=0) (by decide) h3⟩) (cP (34,cK Vo h4) (ay (λh5=>ax λv4 h6=>cm (13,bT h5) (cP (46,oQ [(bu v1),(.fn 134 [])] [] [] (abJ _ h6)) (ay (λh7=>ax λv5 h8=>gE [(20,bT h7)] [(67,cK amf h8)]) λh7=>gE [(20,bF h7)] []))) λh5=>gE [(13,bF h5),(20,bF rfl)] [])))) λh2=>gE [(7,bF h2),(13,bF rfl),(20,bF rfl)] [])) λv6=>gR []))
def JH(N:Nat)(v1:aN):anF Bool:=
 Option.bind (bif (bL v1.bI==bL (bs []))then some false else (Bj N v1.bI).bind λv2=>
 some (!v2)) λv3=>
 some v3
theorem ag5{N v1}:KO 157 [(gh v1)] aC (JH N v1):=
 fw Tryz.func157 (gA [[]] (gG (λv3=>[(2,(aC v3))]) (λ_=>[.cells (gh v1).cells]) (ay (λh1=>gE [(3,bF (du h1))] []) λh1=>ax λv2 h2=>gE [(3,bT (dD h1))] [(19,cK Sr h2)]) λv3=>gR []))
def IK(N:Nat):anD aN->Nat->anF Int
 |[],_=>
  some (-1:Int)
 |v4::v5,v2=>
  (JH N v4).bind λv6=>
  bif v6 then
   some (v2:Int)
  else
   (IK N v5 (v2+1))
def P2(N:Nat)(v1:anD aN):anF Int:=
 IK N v1 0
theorem ad2{N v1}:KP 216 [(.d (.sl (cH v1))),(.fn 157 [])] [] au (λ_=>[]) (P2 N v1):=
 fh 0 Tryz.func216 (gA [[],[(4,oL v1 fU)]] (gT vj 0 v1 λh2=>js 1 [] [0,1,7,8] 0 (λv2=>⟨19,[(0,(.d (.sl (cH v1)))),(1,(.fn 157 [])),(7,(au (v1.length:Int))),(8,(au (v2:Int)))],[]⟩) (λv2 h3 f1=>gH [[],[f0 (dv h3)],[]]) (λv2 v4 v5 h3 f1 aK=>ax λv6 h4=>gA [[],[t0 (dt h3)],[],[(10,oE (kC (cO h3))),(16,cK ag5 h4)]] (ay (λh5=>gH [[t0 h5],[]]) λh5=>gb aK () [[f0 h5],[(2,oq (dR h3 rfl h2))]] h3))))
def OL(N:Nat)(v1:anD aN):anF Bool:=
 (P2 N v1).bind λv2=>
 some (decide (v2>=0))
theorem acU{N v1}:KP 154 [(.d (.sl (cH v1))),(.fn 157 [])] [] aC (λ_=>[]) (OL N v1):=
 fh 0 Tryz.func154 (ax λv2 h1=>gH [[],[(7,oQ [(.d (.sl (cH v1))),(.fn 157 [])] [] [] (ad2 _ h1))]])
def I1(N:Nat)(v1:an):anF Bool:=
 Option.bind (bif (v1.aq==3)then (Bj N v1.aO).bind λv2=>
 some (!v2)else some false) λv3=>
 bif v3 then
  some false
 else
  (OL N v1.xIdx).bind λv4=>
  some (!v4)
theorem ZF{N v1}:KO 93 [(aA v1)] aC (I1 N v1):=
 fw Tryz.func93 (gA [[]] (gG (λv3=>[(11,(aC v3))]) (λ_=>[.cells (aA v1).cells]) (ay (λh1=>ax λv2 h2=>gE [(3,bT h1)] [(19,cK Sr h2)]) λh1=>gE [(3,bF h1)] []) λv3=>bN λh4=>ax λv4 h5=>gR [[f0 h4],[(7,oQ [(.d (.sl (cH v1.xIdx))),(.fn 157 [])] [.cells (aA v1).cells] [] (acU _ h5))]]))
def Eu(N:Nat)(v1:Int)(v3:Bool):anF Int:=
 bif v3 then
  some (1:Int)
 else
  bif (v1==11)then
   some (3:Int)
  else
   some (2:Int)
def Dd(N:Nat)(v1:Int)(v2:Bool):anF Int:=
 bif v2 then
  some (0:Int)
 else
  bif (v1==8)then
   Eu N v1 (v1==8)
  else
   bif (v1==12)then
    Eu N v1 (v1==12)
   else
    Eu N v1 (v1==18)
def Kj(N:Nat)(v1:Int):anF Int:=
 bif (v1==1)then
  Dd N v1 (v1==1)
 else
  bif (v1==2)then
   Dd N v1 (v1==2)
  else
   Dd N v1 (v1==3)
theorem aeL{N v1}:KO 158 [(au v1)] au (Kj N v1):=
 fw Tryz.func158 (lH 1 [[],[],[]] [3,4] 0 (λ(v2:Bool)=>⟨14,[(3,(au v1)),(4,(aC v2))],[]⟩) (Dd N v1) (λf1 aK=>ay (λh6=>gm aK (v1==1) [[t0 h6]]) λh6=>gA [[f0 h6],[]] (ay (λh7=>gm aK (v1==2) [[t0 h7]]) λh7=>gm aK (v1==3) [[f0 h7],[]])) (λv2=>bN λh1=>lH 2 [[f0 h1],[]] [3,8] 0 (λ(v3:Bool)=>⟨14,[(3,(au v1)),(8,(aC v3))],[]⟩) (Eu N v1) (λf2 fY=>ay (λh4=>gm fY (v1==8) [[t0 h4]]) λh4=>gA [[f0 h4],[]] (ay (λh5=>gm fY (v1==12) [[t0 h5]]) λh5=>gm fY (v1==18) [[f0 h5],[]])) (λv3=>gF λ_=>bN λh3=>gR [[f0 h3],[]])))
def Nx(N:Nat)(v1:aN):anF Bool:=
 some (decide ((v1.aZ.length:Int)>6))
theorem adG{N v1}:KO 159 [(gh v1)] aC (Nx N v1):=
 fw Tryz.func159 (gR [[],[(7,oL v1.aZ gW)]])
def HH(N:Nat):anD aN->Nat->anF Int
 |[],_=>
  some (-1:Int)
 |v4::v5,v2=>
  (Nx N v4).bind λv6=>
  bif v6 then
   some (v2:Int)
  else
   (HH N v5 (v2+1))
def MM(N:Nat)(v1:anD aN):anF Int:=
 HH N v1 0
theorem abr{N v1}:KP 216 [(.d (.sl (cH v1))),(.fn 159 [])] [] au (λ_=>[]) (MM N v1):=
 fh 0 Tryz.func216 (gA [[],[(4,oL v1 fU)]] (gT vj 0 v1 λh2=>js 1 [] [0,1,7,8] 0 (λv2=>⟨19,[(0,(.d (.sl (cH v1)))),(1,(.fn 159 [])),(7,(au (v1.length:Int))),(8,(au (v2:Int)))],[]⟩) (λv2 h3 f1=>gH [[],[f0 (dv h3)],[]]) (λv2 v4 v5 h3 f1 aK=>ax λv6 h4=>gA [[],[t0 (dt h3)],[],[(10,oE (kC (cO h3))),(16,cK adG h4)]] (ay (λh5=>gH [[t0 h5],[]]) λh5=>gb aK () [[f0 h5],[(2,oq (dR h3 rfl h2))]] h3))))
def KA(N:Nat)(v1:anD aN):anF Bool:=
 (MM N v1).bind λv2=>
 some (decide (v2>=0))
theorem aes{N v1}:KP 154 [(.d (.sl (cH v1))),(.fn 159 [])] [] aC (λ_=>[]) (KA N v1):=
 fh 0 Tryz.func154 (ax λv2 h1=>gH [[],[(7,oQ [(.d (.sl (cH v1))),(.fn 159 [])] [] [] (abr _ h1))]])
def FN(N:Nat)(v1:an):anF Bool:=
 (Kj N v1.aq).bind λv2=>
 Option.bind (bif ((v1.aw.length:Int) !=v2)then some true else some (decide ((v1.xIdx.length:Int)>6))) λv3=>
 bif v3 then
  some false
 else
  (KA N v1.xIdx).bind λv4=>
  some (!v4)
theorem adB{N v1}:KO 94 [(aA v1)] aC (FN N v1):=
 fw Tryz.func94 (gA [[]] (ax λv2 h1=>gG (λv3=>[(15,(aC v3))]) (λ_=>[.cells (aA v1).cells]) (cP (7,oL v1.aw fS) (cP (16,cK aeL h1) (ay (λh2=>gE [(7,bT h2)] []) λh2=>gE [(7,bF h2)] [(31,oL v1.xIdx fU)]))) λv3=>bN λh4=>ax λv4 h5=>gR [[f0 h4],[(7,oQ [(.d (.sl (cH v1.xIdx))),(.fn 159 [])] [.cells (aA v1).cells] [] (aes _ h5))]]))
def yt(N:Nat)(v1:an):anF Bool:=
 Option.bind (bif (decide ((13:Int)<=v1.aq))then some (decide (v1.aq<=18))else some false) λv2=>
 some v2
theorem ND{N v1}:KO 31 [(aA v1)] aC (yt N v1):=
 fw Tryz.func31 (gA [[]] (gG (λv2=>[(2,(aC v2))]) (λ_=>[.cells (aA v1).cells]) (ay (λh1=>gE [(3,bT h1)] []) λh1=>gE [(3,bF h1)] []) λv2=>gR []))
def Cy(N:Nat)(v1:Int)(v2:Int)(v3:Bool):anF Bool:=
 bif v3 then
  some true
 else
  Option.bind (bif (v1==11)then some (v2==0)else some false) λv4=>
  some v4
def H3(N:Nat)(v1:Int)(v2:Int):anF Bool:=
 bif (v1==16)then
  Cy N v1 v2 (v1==16)
 else
  bif (v1==17)then
   Cy N v1 v2 (v1==17)
  else
   Cy N v1 v2 (v1==18)
theorem aa2{N v1 v2}:KO 160 [(au v1),(au v2)] aC (H3 N v1 v2):=
 fw Tryz.func160 (lH 1 [[],[],[]] [0,1,6] 0 (λ(v3:Bool)=>⟨16,[(0,(au v1)),(1,(au v2)),(6,(aC v3))],[]⟩) (Cy N v1 v2) (λf1 aK=>ay (λh4=>gm aK (v1==16) [[t0 h4]]) λh4=>gA [[f0 h4],[]] (ay (λh5=>gm aK (v1==17) [[t0 h5]]) λh5=>gm aK (v1==18) [[f0 h5],[]])) (λv3=>bN λh1=>gA [[f0 h1]] (gG (λv4=>[(4,(aC v4))]) (λ_=>[]) (ay (λh2=>gE [(2,bT h2)] []) λh2=>gE [(2,bF h2)] []) λv4=>gR [])))
def FL(N:Nat)(v1:an):anD an->Nat->anF Bool
 |[],_=>
  some true
 |v7::v8,v5=>
  (yt N v7).bind λv9=>
  Option.bind (H3 N v1.aq (v5:Int)) λv10=>
  bif (v9==v10)then
   (FL N v1 v8 (v5+1))
  else
   some false
def G5(N:Nat)(v1:an):anF Bool:=
 Option.bind (bif (v1.aq==1)then (nf N v1.aD).bind λv2=>
 some (v2 !=0)else(bif (v1.aq==12)then (nf N v1.aD).bind λv3=>
 some (v3 !=0)else some false)) λv4=>
 bif v4 then
  some false
 else
  FL N v1 v1.aw 0
theorem aea{N v1}:KO 95 [(aA v1)] aC (G5 N v1):=
 fw Tryz.func95 (gA [[]] (gG (λv4=>[(18,(aC v4))]) (λ_=>[.cells (aA v1).cells]) (ay (λh1=>ax λv2 h2=>gE [(3,bT h1),(8,bT rfl)] [(34,cK qT h2)]) λh1=>cm (3,bF h1) (ay (λh3=>ax λv3 h4=>gE [(8,bT h3)] [(34,cK qT h4)]) λh3=>gE [(8,bF h3)] [])) λv4=>bN λh6=>gA [[f0 h6],[(7,oL v1.aw fS)]] (gT rY 20 v1.aw λh8=>js 1 [] [1,20,21,22] 1 (λv5=>⟨35,[(1,(.ptr 0 0)),(20,(.d (.sl (dh v1.aw)))),(21,(au (v1.aw.length:Int))),(22,(au (v5:Int)))],[.cells (aA v1).cells]⟩) (λv5 h9 f1=>gR [[],[f0 (dv h9)],[]]) (λv5 v7 v8 h9 f1 aK=>ax λv9 bk=>ax λv10 bo=>gA [[],[t0 (dt h9)],[(4,oE (cn (cO h9)))],[(4,cK ND bk),(16,cK aa2 bo)]] (mu λbJ=>gb aK () [[f0 (du bJ)],[(2,oq (dR h9 rfl h8))]] h9)))))
def zU(N:Nat)(v1:Int):anF Bool:=
 Option.bind (bif (decide (v1>=2))then some (decide (v1<=31))else some false) λv2=>
 some v2
theorem Q2{N v1}:KO 269 [(au v1)] aC (zU N v1):=
 fw Tryz.func269 (gA [[]] (gG (λv2=>[(2,(aC v2))]) (λ_=>[]) (ay (λh1=>gE [(2,bT h1)] []) λh1=>gE [(2,bF h1)] []) λv2=>gR []))
def Ch(N:Nat)(v1:Int):anF Int64:=
 (zU N v1).bind λv2=>
 bif v2 then
  bif (decide ((0:Int)<=(IntKind.u64.wrap (aS (v1-(1:Int))))))then
  some (-(Int64.ofInt ((1:Int)*2^(min ((IntKind.u64.wrap (aS (v1-(1:Int))))).toNat (IntKind.bits .i64)))))
  else none
 else
  some (0:Int64)
theorem Tc{N v1}:KO 217 [(au v1)] aT (Ch N v1):=
 fw Tryz.func217 (ax λv2 h1=>gA [[],[(4,cK Q2 h1)]] (mu λh2=>gy λh3=>gR [[f0 (du h2)],[(10,⟨_,_, .nn (b:=(IntKind.u64.wrap (aS (v1-(1:Int))))) (of_decide_eq_true h3)⟩),(11,⟨_,_, .eq (iZ ((1:Int)*2^(min ((IntKind.u64.wrap (aS (v1-(1:Int))))).toNat (IntKind.bits .i64))))⟩),(14,⟨_,_, .eq (HV (Int64.ofInt ((1:Int)*2^(min ((IntKind.u64.wrap (aS (v1-(1:Int))))).toNat (IntKind.bits .i64)))))⟩)]]))
def Bw(N:Nat)(v1:Int):anF Int64:=
 (zU N v1).bind λv2=>
 bif v2 then
  bif (decide ((0:Int)<=(IntKind.u64.wrap (aS (v1-(1:Int))))))then
  some ((Int64.ofInt ((1:Int)*2^(min ((IntKind.u64.wrap (aS (v1-(1:Int))))).toNat (IntKind.bits .i64))))-(1:Int64))
  else none
 else
  some (0:Int64)
theorem Xx{N v1}:KO 218 [(au v1)] aT (Bw N v1):=
 fw Tryz.func218 (ax λv2 h1=>gA [[],[(4,cK Q2 h1)]] (mu λh2=>gy λh3=>gR [[f0 (du h2)],[(10,⟨_,_, .nn (b:=(IntKind.u64.wrap (aS (v1-(1:Int))))) (of_decide_eq_true h3)⟩),(11,⟨_,_, .eq (iZ ((1:Int)*2^(min ((IntKind.u64.wrap (aS (v1-(1:Int))))).toNat (IntKind.bits .i64))))⟩),(14,⟨_,_, .eq (wy (Int64.ofInt ((1:Int)*2^(min ((IntKind.u64.wrap (aS (v1-(1:Int))))).toNat (IntKind.bits .i64)))) (1:Int64))⟩)]]))
def s9(N:Nat)(v1:aF)(v2:aB):anF Bool:=
 (uX N v1).bind λv3=>
 Option.bind (bif (v3==0)then(bif (v2.xD.toInt==1)then (Ch N v1.bY).bind λv4=>
 (bif (decide (v2.xN.toInt>=v4.toInt))then (Bw N v1.bY).bind λv5=>
 some (decide (v2.xN.toInt<=v5.toInt))else some false)else some false)else some false) λv6=>
 some v6
theorem PZ{N v1 v2}:KO 161 [(cB v1),(a7 v2)] aC (s9 N v1 v2):=
 fw Tryz.func161 (gA [[]] (ax λv3 h1=>gG (λv6=>[(4,(aC v6))]) (λ_=>[.cells (cB v1).cells, .cells (a7 v2).cells]) (cP (4,cK Jz h1) (ay (λh2=>cm (3,bT h2) (ay (λh3=>ax λv4 h4=>cm (8,bT h3) (cP (40,cK Tc h4) (ay (λh5=>ax λv5 h6=>gE [(16,bT h5)] [(64,cK Xx h6)]) λh5=>gE [(16,bF h5)] []))) λh3=>gE [(8,bF h3),(16,bF rfl)] [])) λh2=>gE [(3,bF h2),(8,bF rfl),(16,bF rfl)] [])) λv6=>gR []))
def pN(N:Nat)(v1:Int64):anF Bool:=
 Option.bind (bif (decide (v1.toInt>=(-2147483647:Int)))then some (decide (v1.toInt<=2147483647))else some false) λv2=>
 some v2
theorem zw{N v1}:KO 162 [(aT v1)] aC (pN N v1):=
 fw Tryz.func162 (gA [[]] (gG (λv2=>[(2,(aC v2))]) (λ_=>[]) (ay (λh1=>gE [(2,bT h1)] []) λh1=>gE [(2,bF h1)] []) λv2=>gR []))
def Rb(N:Nat)(v1:Int64):anF Bool:=
 Option.bind (bif (decide (v1.toInt>=(-2147483647:Int)))then some (decide (v1.toInt<=2147483647))else some false) λv2=>
 some v2
theorem ah5{N v1}:KO 219 [(aT v1)] aC (Rb N v1):=
 fw Tryz.func219 (gA [[]] (gG (λv2=>[(2,(aC v2))]) (λ_=>[]) (ay (λh1=>gE [(2,bT h1)] []) λh1=>gE [(2,bF h1)] []) λv2=>gR []))
def yO(N:Nat)(v1:Int64):anF Int:=
 bif (decide (v1.toInt<0))then
  some (IntKind.u64.wrap (0-(IntKind.u64.wrap v1.toInt)))
 else
  some (IntKind.u64.wrap v1.toInt)
theorem Pd{N v1}:KO 221 [(aT v1)] (λr=> .d (.v (.int .u64 r))) (yO N v1):=
 fw Tryz.func221 (gA [[],[]] (bN λh1=>gR [[f0 h1],[]]))
def Dx(N:Nat):Nat->Int->Int->anF Int
 |0,_,_=>none
 |v3+1,v4,v5=>
  bif (v5 !=0)then
   (λdV iU=>Dx N v3 dV iU) v5 ((v4).tmod v5)
  else
   some v4
def Ck(N:Nat)(v1:Int)(v2:Int):anF Int:=
 Dx N N v1 v2
theorem Ys{N v1 v2}:KO 220 [(.d (.v (.int .u64 v1))),(.d (.v (.int .u64 v2)))] (λr=> .d (.v (.int .u64 r))) (Ck N v1 v2):=
 fw Tryz.func220 (gf2 1 [[]] [0,1] 0 (λ(v4:Int)(v5:Int)=>⟨12,[(0,(.d (.v (.int .u64 v4)))),(1,(.d (.v (.int .u64 v5))))],[]⟩) (Dx N) (λv3 v4 v5 f1 aK=>gA [[]] (ky λh1=>PK aK (v5,((v4).tmod v5)) [[t0 h1],[(10,⟨_,_, .nz (b:=v5) (bne_iff_ne.1 h1)⟩)]])))
def jO(N:Nat)(v1:aB):anF Bool:=
 Option.bind (bif (decide (v1.xD.toInt>=1))then(bif (decide (v1.xD.toInt<=2147483647))then (Rb N v1.xN).bind λv2=>
 (bif v2 then (yO N v1.xN).bind λv3=>
 Option.bind (Ck N v3 (IntKind.u64.wrap v1.xD.toInt)) λv4=>
 some (v4==1)else some false)else some false)else some false) λv5=>
 some v5
theorem mW{N v1}:KO 163 [(a7 v1)] aC (jO N v1):=
 fw Tryz.func163 (gA [[]] (gG (λv5=>[(2,(aC v5))]) (λ_=>[.cells (a7 v1).cells]) (ay (λh1=>cm (3,bT h1) (ay (λh2=>ax λv2 h3=>cm (8,bT h2) (cP (34,cK ah5 h3) (ay (λh4=>ax λv3 h5=>ax λv4 h6=>gE [(13,bT h4)] [(49,cK Pd h5),(61,cK Ys h6)]) λh4=>gE [(13,bF h4)] []))) λh2=>gE [(8,bF h2),(13,bF rfl)] [])) λh1=>gE [(3,bF h1),(8,bF rfl),(13,bF rfl)] []) λv5=>gR []))
def ox(N:Nat)(v1:aF)(v2:aB):anF Bool:=
 (nf N v1).bind λv3=>
 bif (v3 !=0)then
  some false
 else
  bif (v1.aL==2)then
   (s9 N v1 v2).bind λv4=>
   some v4
  else
   bif (v1.aL==3)then
    Option.bind (bif (v2.xD.toInt==1)then (pN N v2.xN).bind λv5=>
    some v5 else some false) λv6=>
    some v6
   else
    (jO N v2).bind λv7=>
    some v7
theorem xu{N v1 v2}:KO 96 [(cB v1),(a7 v2)] aC (ox N v1 v2):=
 fw Tryz.func96 (ax λv3 h1=>gA [[],[(4,cK qT h1)]] (bN λh2=>gA [[f0 h2],[],[]] (ay (λh3=>ax λv4 h4=>gR [[t0 h3],[(7,cK PZ h4)]]) λh3=>gA [[f0 h3],[]] (ay (λh5=>gA [[t0 h5]] (gG (λv6=>[(4,(aC v6))]) (λ_=>[.cells (cB v1).cells, .cells (a7 v2).cells]) (ay (λh6=>ax λv5 h7=>gE [(3,bT h6)] [(19,cK zw h7)]) λh6=>gE [(3,bF h6)] []) λv6=>gR [])) λh5=>ax λv7 h9=>gR [[f0 h5],[(4,cK mW h9)]]))))
def Lz(N:Nat)(v1:an):anF an:=some v1
theorem alp{N v1 r}(J:Lz N v1=some r):gn Tryz.prog 97 [(aA v1)] (·=(.fn 164 [(.ba [dd r] 0 0)])):=by
 cases J;exact agl v1
def ia(N:Nat)(v2:Bool):anF Bool:=
 bif v2 then
  some true
 else
  some false
def Jc(N:Nat)(v1:anE):anF Bool:=
 bif (bL v1==bL (bs [115,105,122,101]))then
  ia N (bL v1==bL (bs [115,105,122,101]))
 else
  bif (bL v1==bL (bs [119,104,101,114,101]))then
   ia N (bL v1==bL (bs [119,104,101,114,101]))
  else
   bif (bL v1==bL (bs [105,110]))then
    ia N (bL v1==bL (bs [105,110]))
   else
    bif (bL v1==bL (bs [100,101,102]))then
     ia N (bL v1==bL (bs [100,101,102]))
    else
     bif (bL v1==bL (bs [111,117,116]))then
      ia N (bL v1==bL (bs [111,117,116]))
     else
      bif (bL v1==bL (bs [115,117,109]))then
       ia N (bL v1==bL (bs [115,117,109]))
      else
       bif (bL v1==bL (bs [112,114,111,100]))then
        ia N (bL v1==bL (bs [112,114,111,100]))
       else
        bif (bL v1==bL (bs [109,105,110]))then
         ia N (bL v1==bL (bs [109,105,110]))
        else
         bif (bL v1==bL (bs [109,97,120]))then
          ia N (bL v1==bL (bs [109,97,120]))
         else
          bif (bL v1==bL (bs [115,99,97,110]))then
           ia N (bL v1==bL (bs [115,99,97,110]))
          else
           bif (bL v1==bL (bs [111,118,101,114]))then
            ia N (bL v1==bL (bs [111,118,101,114]))
           else
            bif (bL v1==bL (bs [105,102]))then
             ia N (bL v1==bL (bs [105,102]))
            else
             bif (bL v1==bL (bs [99,97,115,116]))then
              ia N (bL v1==bL (bs [99,97,115,116]))
             else
              bif (bL v1==bL (bs [102,114,97,99]))then
               ia N (bL v1==bL (bs [102,114,97,99]))
              else
               bif (bL v1==bL (bs [105,110,116]))then
                ia N (bL v1==bL (bs [105,110,116]))
               else
                bif (bL v1==bL (bs [102,105,120]))then
                 ia N (bL v1==bL (bs [102,105,120]))
                else
                 bif (bL v1==bL (bs [99,101,105,108]))then
                  ia N (bL v1==bL (bs [99,101,105,108]))
                 else
                  bif (bL v1==bL (bs [102,108,111,111,114]))then
                   ia N (bL v1==bL (bs [102,108,111,111,114]))
                  else
                   bif (bL v1==bL (bs [122,101,114,111]))then
                    ia N (bL v1==bL (bs [122,101,114,111]))
                   else
                    bif (bL v1==bL (bs [101,118,101,110]))then
                     ia N (bL v1==bL (bs [101,118,101,110]))
                    else
                     bif (bL v1==bL (bs [115,97,116]))then
                      ia N (bL v1==bL (bs [115,97,116]))
                     else
                      ia N (bL v1==bL (bs [119,114,97,112]))
theorem ZD{N v1}:KO 222 [(bu v1)] aC (Jc N v1):=
 fw Tryz.func222 (lH 1 [[],[],[]] [4] 0 (λ(v2:Bool)=>⟨27,[(4,(aC v2))],[]⟩) (ia N) (λf1 aK=>ay (λh2=>gm aK (bL v1==bL (bs [115,105,122,101])) [[t0 h2]]) λh2=>gA [[f0 h2],[]] (ay (λh3=>gm aK (bL v1==bL (bs [119,104,101,114,101])) [[t0 h3]]) λh3=>gA [[f0 h3],[]] (ay (λh4=>gm aK (bL v1==bL (bs [105,110])) [[t0 h4]]) λh4=>gA [[f0 h4],[]] (ay (λh5=>gm aK (bL v1==bL (bs [100,101,102])) [[t0 h5]]) λh5=>gA [[f0 h5],[]] (ay (λh6=>gm aK (bL v1==bL (bs [111,117,116])) [[t0 h6]]) λh6=>gA [[f0 h6],[]] (ay (λh7=>gm aK (bL v1==bL (bs [115,117,109])) [[t0 h7]]) λh7=>gA [[f0 h7],[]] (ay (λh8=>gm aK (bL v1==bL (bs [112,114,111,100])) [[t0 h8]]) λh8=>gA [[f0 h8],[]] (ay (λh9=>gm aK (bL v1==bL (bs [109,105,110])) [[t0 h9]]) λh9=>gA [[f0 h9],[]] (ay (λbk=>gm aK (bL v1==bL (bs [109,97,120])) [[t0 bk]]) λbk=>gA [[f0 bk],[]] (ay (λbo=>gm aK (bL v1==bL (bs [115,99,97,110])) [[t0 bo]]) λbo=>gA [[f0 bo],[]] (ay (λbJ=>gm aK (bL v1==bL (bs [111,118,101,114])) [[t0 bJ]]) λbJ=>gA [[f0 bJ],[]] (ay (λcf=>gm aK (bL v1==bL (bs [105,102])) [[t0 cf]]) λcf=>gA [[f0 cf],[]] (ay (λct=>gm aK (bL v1==bL (bs [99,97,115,116])) [[t0 ct]]) λct=>gA [[f0 ct],[]] (ay (λcq=>gm aK (bL v1==bL (bs [102,114,97,99])) [[t0 cq]]) λcq=>gA [[f0 cq],[]] (ay (λbH=>gm aK (bL v1==bL (bs [105,110,116])) [[t0 bH]]) λbH=>gA [[f0 bH],[]] (ay (λcE=>gm aK (bL v1==bL (bs [102,105,120])) [[t0 cE]]) λcE=>gA [[f0 cE],[]] (ay (λcY=>gm aK (bL v1==bL (bs [99,101,105,108])) [[t0 cY]]) λcY=>gA [[f0 cY],[]] (ay (λdC=>gm aK (bL v1==bL (bs [102,108,111,111,114])) [[t0 dC]]) λdC=>gA [[f0 dC],[]] (ay (λdj=>gm aK (bL v1==bL (bs [122,101,114,111])) [[t0 dj]]) λdj=>gA [[f0 dj],[]] (ay (λfx=>gm aK (bL v1==bL (bs [101,118,101,110])) [[t0 fx]]) λfx=>gA [[f0 fx],[]] (ay (λiz=>gm aK (bL v1==bL (bs [115,97,116])) [[t0 iz]]) λiz=>gm aK (bL v1==bL (bs [119,114,97,112])) [[f0 iz],[]]))))))))))))))))))))) (λv2=>bN λh1=>gR [[f0 h1],[]]))
def zO(N:Nat)(v1:anE):Nat->Int->anF Bool
 |0,_=>none
 |v5+1,v6=>
  bif (decide (v6<(v1.size:Int)))then
   bif (decide ((0:Int)<=v6))then
   Option.bind (v1[(v6).toNat]?) λv7=>
   Option.bind (bif (decide ((v7.toNat:Int)<97))then(bif (decide ((v7.toNat:Int)<48))then some ((v7.toNat:Int) !=95)else(bif (decide ((v7.toNat:Int)>57))then some ((v7.toNat:Int) !=95)else some false))else(bif (decide ((v7.toNat:Int)>122))then(bif (decide ((v7.toNat:Int)<48))then some ((v7.toNat:Int) !=95)else(bif (decide ((v7.toNat:Int)>57))then some ((v7.toNat:Int) !=95)else some false))else some false)) λv8=>
   bif v8 then
    some false
   else
    (λdV=>zO N v1 v5 dV) (aS (v6+(1:Int)))
   else none
  else
   some true
def F2(N:Nat)(v1:anE):anF Bool:=
 Option.bind (bif (decide ((v1.size:Int)<1))then some true else(bif (decide ((v1.size:Int)>16))then some true else (Jc N v1).bind λv2=>
 (bif v2 then some true else Option.bind (v1[0]?) λv3=>
 (bif (decide ((v3.toNat:Int)<97))then some true else some (decide ((v3.toNat:Int)>122)))))) λv4=>
 bif v4 then
  some false
 else
  zO N v1 N (0:Int)
theorem aif{N v1}:KO 165 [(bu v1)] aC (F2 N v1):=
 fw Tryz.func165 (gA [[]] (gG (λv4=>[(26,(aC v4))]) (λ_=>[]) (ay (λh1=>gE [(3,bT h1),(8,bT rfl),(12,bT rfl),(17,bT rfl)] []) λh1=>cm (3,bF h1) (ay (λh2=>gE [(8,bT h2),(12,bT rfl),(17,bT rfl)] []) λh2=>ax λv2 h3=>cm (8,bF h2) (cP (31,cK ZD h3) (ay (λh4=>gE [(12,bT h4),(17,bT rfl)] []) λh4=>ax λv3 h5=>cm (12,bF h4) (cP (43,⟨_,_, .ch (i:=0) (by decide) h5⟩) (ay (λh6=>gE [(17,bT h6)] []) λh6=>gE [(17,bF h6)] [(58,⟨_,_, .ch (i:=0) (by decide) h5⟩)])))))) λv4=>bN λh8=>TL 1 [[f0 h8],[]] [0,28,29] 0 (λ(v6:Int)=>⟨54,[(0,(bu v1)),(28,(au (v1.size:Int))),(29,(au v6))],[]⟩) (zO N v1) (λv5 v6 f1 aK=>gA [[]] (ky λh9=>gy λbo=>ax λv7 bk=>gA [[t0 h9],[],[(7,⟨_,_, .ch (i:=v6) (of_decide_eq_true bo) bk⟩)]] (gG (λv8=>[(52,(aC v8))]) (λ_=>[]) (ay (λbJ=>cm (2,bT bJ) (cm (6,bT rfl) (ay (λcf=>gE [(9,bT cf),(14,bT rfl)] [(37,bT cf)]) λcf=>cm (9,bF cf) (cP (37,bF cf) (ay (λct=>gE [(14,bT ct)] []) λct=>gE [(14,bF ct)] []))))) λbJ=>cm (2,bF bJ) (ay (λcq=>cm (6,bT cq) (ay (λbH=>gE [(9,bT bH),(14,bT rfl)] [(37,bT bH)]) λbH=>cm (9,bF bH) (cP (37,bF bH) (ay (λcE=>gE [(14,bT cE)] []) λcE=>gE [(14,bF cE)] [])))) λcq=>gE [(6,bF cq),(9,uN),(14,bF rfl)] [])) λv8=>bN λdC=>PK aK (aS (v6+(1:Int))) [[f0 dC],[]])))))
def HI(N:Nat)(v1:aP):anD bf->Nat->anF Int
 |[],_=>
  some (0:Int)
 |v4::v5,v2=>
  (F2 N v4.aO).bind λv6=>
  Option.bind (bif v6 then(bif (v4.cA.toInt==0)then some true else(bif (decide ((v2:Int)>0))then bif (decide ((0:Int)<=(aS ((v2:Int)-(1:Int)))))then
  Option.bind (v1.xL[((aS ((v2:Int)-(1:Int)))).toNat]?) λv7=>
  some (!(Op.bytesLess (bL v7.aO) (bL v4.aO)))
  else none else some false))else some true) λv8=>
  bif v8 then
   some (1:Int)
  else
   (HI N v1 v5 (v2+1))
def wm(N:Nat)(v1:aP):anF Int:=
 HI N v1 v1.xL 0
theorem Di{N v1}:KO 98 [(cz v1)] au (wm N v1):=
 fw Tryz.func98 (gA [[],[(7,oL v1.xL fc)]] (gT vP 6 v1.xL λh2=>js 1 [] [1,6,7,8] 1 (λv2=>⟨39,[(1,(.ptr 0 0)),(6,(.d (.sl (cC v1.xL)))),(7,(au (v1.xL.length:Int))),(8,(au (v2:Int)))],[.cells (cz v1).cells]⟩) (λv2 h3 f1=>gR [[],[f0 (dv h3)],[]]) (λv2 v4 v5 h3 f1 aK=>gA [[],[t0 (dt h3)],[(4,oE (jM (cO h3)))]] (ax λv6 h4=>gG (λv8=>[(37,(aC v8))]) (λ_=>[.cells (cz v1).cells, .cells (oF v4).cells]) (cP (7,cK aif h4) (ay (λh5=>cm (4,bF (du h5)) (ay (λh6=>gE [(9,bT h6),(12,uN)] []) λh6=>cm (9,bF h6) (ay (λh7=>gy λh9=>ax λv7 h8=>gE [(12,bT h7)] [(52,⟨_,_, .el (xs:=cC v1.xL) (i:=(aS ((v2:Int)-(1:Int)))) (of_decide_eq_true h9) (jM h8)⟩),(70,bT h7)]) λh7=>gE [(12,bF h7)] [(70,bF h7)]))) λh5=>gE [(4,bT (dD h5)),(9,bT rfl),(12,uN)] [])) λv8=>bN λbo=>gb aK () [[f0 bo],[(2,oq (dR h3 rfl h2))]] h3))))
def tY(N:Nat):anD aP->anF Int
 |[]=>
  some (0:Int)
 |v9::v10=>
  (wm N v9).bind λv11=>
  bif (v11 !=0)then
   some (1:Int)
  else
   (tY N v10)
def Da(N:Nat)(v1:an):anF Int:=
 (I2 N v1).bind λv2=>
 bif v2 then
  (I1 N v1).bind λv3=>
  bif v3 then
   (FN N v1).bind λv4=>
   bif v4 then
    (G5 N v1).bind λv5=>
    bif v5 then
     Option.bind (bif (v1.aq==1)then (ox N v1.aD v1.bg).bind λv6=>
     some (!v6)else some false) λv7=>
     bif v7 then
      some (1:Int)
     else
      (Lz N v1).bind λv8=>
      tY N (pg v8)
    else
     some (10:Int)
   else
    some (11:Int)
  else
   some (7:Int)
 else
  some (5:Int)
def lg(v1:an)(l:anD ao):anD ao:= .cells (aA v1).cells:: .cells [(au (0:Int))]::l
def vW(v1:an)(l:anD ao):anD ao:= .cells (aA v1).cells::l
theorem acz{N v1 r}(J:Da N v1=some r):KF 54 [(aA v1)] (au r):=by
 rw[Da]at J;refine Ar Tryz.func54 rfl (by kernel_rfl) ?_;refine jZ [0] 0 (amY _) (s':=⟨38,[(0,(aA v1))],[]⟩) (by kernel_rfl) ?_;refine aR ?_;refine rg [] [(1,(.ptr 0 0)),(2,(.ptr 1 0))] (lg v1 []) (by kernel_rfl) ?_;refine aR ?_;refine la ?_;refine aR ?_;obtain⟨v2,h1,J⟩:=b8 J;refine rg [(4,cK ajR h1)] [(4,(aC (!v2)))] (lg v1 []) (by kernel_rfl) ?_;rcases gq v2 with h2|h2
 ·replace J:=(gg h2).symm.trans J;refine gZ (t:=(!v2)) (by kernel_rfl) (du h2) ?_;refine aR ?_;obtain⟨v3,h3,J⟩:=b8 J;refine rg [(4,cK ZF h3)] [(8,(aC (!v3)))] (lg v1 []) (by kernel_rfl) ?_;rcases gq v3 with h4|h4
  ·replace J:=(gg h4).symm.trans J;refine gZ (t:=(!v3)) (by kernel_rfl) (du h4) ?_;refine aR ?_;obtain⟨v4,h5,J⟩:=b8 J;refine rg [(4,cK adB h5)] [(12,(aC (!v4)))] (lg v1 []) (by kernel_rfl) ?_;rcases gq v4 with h6|h6
   ·replace J:=(gg h6).symm.trans J;refine gZ (t:=(!v4)) (by kernel_rfl) (du h6) ?_;refine aR ?_;obtain⟨v5,h7,J⟩:=b8 J;refine rg [(4,cK aea h7)] [(16,(aC (!v5)))] (lg v1 []) (by kernel_rfl) ?_;rcases gq v5 with h8|h8
    ·replace J:=(gg h8).symm.trans J;refine gZ (t:=(!v5)) (by kernel_rfl) (du h8) ?_;refine aR ?_;obtain⟨v7,bo,J⟩:=b8 J;refine L6 [(20,(aC v7))] (lg v1 []) ?_ ?_
     ·rcases gq (v1.aq==1)with h9|h9
      ·replace bo:=(gg h9).symm.trans bo;obtain⟨v6,bk,bo⟩:=b8 bo;have he:=am6 bo;subst he;exact⟨[(12,bT h9),(15,bT h9),(18,bT h9),(21,bT h9),(24,bT h9),(25,cK xu bk),(27,bT h9),(31,bT h9)],by kernel_rfl⟩
      replace bo:=(gu h9).symm.trans bo;have he:=am6 bo;subst he;exact⟨[(12,bF h9),(15,bF h9),(18,bF h9),(21,bF h9),(24,bF h9),(27,bF h9),(31,bF h9)],by kernel_rfl⟩
     rcases gq v7 with bJ|bJ
     ·replace J:=(gg bJ).symm.trans J;refine aw_cond_h (t:=v7) (by kernel_rfl) bJ ?_;refine aR ?_;refine rg [] [] (vW v1 [.cells [(au (1:Int))]]) (by kernel_rfl) ?_;refine dz (gO (dO ?_));have hr:=am6 J;subst hr;exact jI (by kernel_rfl)
     replace J:=(gu bJ).symm.trans J;refine gZ (t:=v7) (by kernel_rfl) bJ ?_;refine fj ?_;refine oJ ?_;refine cw ?_;refine aR ?_;refine aR ?_;obtain⟨v8,cf,J⟩:=b8 J;refine rg [(4,cL (alp cf))] [(33,(.fn 164 [(.ba [dd v8] 0 0)]))] (lg v1 []) (by kernel_rfl) ?_;refine la ?_;refine jZ [2,33] 2 (amV rfl) (s':=⟨38,[(2,(.ptr 1 0)),(33,(.fn 164 [(.ba [dd v8] 0 0)]))],(lg v1 [])⟩) (by kernel_rfl) ?_;refine OH (m:=2) (enc:=cz) (xs:=(pg v8)) (by kernel_rfl) (ad5 v8) (λ(_:Unit)=>(lg v1 [])) (λ(_:Unit) l=>tY N l=some r) () (by kernel_rfl) J (by rintro _;rfl) (by rintro _;kernel_rfl) (by kernel_rfl) rfl ?_ ?_
     ·rintro _ v9 v10 J ct jX jG
      try dsimp only at J
      rw[tY]at J;refine jZ [2,34] 3 (amY _) (s':=⟨38,[(2,(.ptr 1 0)),(34,(cz v9))],(lg v1 [.lp .ready 34 jX jG (dH 38 [(2,(.ptr 1 0)),(33,(.fn 164 [(.ba [dd v8] 0 0)]))])])⟩) (by kernel_rfl) ?_;refine re [] [(3,(.ptr 3 0))] (lg v1 [.lp .ready 34 jX jG (dH 38 [(2,(.ptr 1 0)),(33,(.fn 164 [(.ba [dd v8] 0 0)]))]), .cells (cz v9).cells]) (by kernel_rfl) ?_;refine cw ?_;refine⟨(lg v1 []),[.cells (cz v9).cells],rfl,(by kernel_rfl),?_⟩;refine jZ [2,3] 4 (amV rfl) (s':=⟨38,[(2,(.ptr 1 0)),(3,(.ptr 3 0))],(lg v1 [.lp .busy 34 jX jG (dH 38 [(2,(.ptr 1 0)),(33,(.fn 164 [(.ba [dd v8] 0 0)]))]), .cells (cz v9).cells])⟩) (by kernel_rfl) ?_;refine la ?_;refine aR ?_;obtain⟨v11,cq,J⟩:=b8 J;refine rg [(4,cK Di cq)] [(37,(aC (v11 !=0)))] (lg v1 [.lp .busy 34 jX jG (dH 38 [(2,(.ptr 1 0)),(33,(.fn 164 [(.ba [dd v8] 0 0)]))]), .cells (cz v9).cells]) (by kernel_rfl) ?_;rcases gq (v11 !=0)with bH|bH
      ·replace J:=(gg bH).symm.trans J;refine aw_cond_h (t:=(v11 !=0)) (by kernel_rfl) bH ?_;refine aR ?_;refine rg [] [] (vW v1 [.cells [(au (1:Int))], .lp .busy 34 jX jG (dH 38 [(2,(.ptr 1 0)),(33,(.fn 164 [(.ba [dd v8] 0 0)]))]), .cells (cz v9).cells]) (by kernel_rfl) ?_;refine dz (gO ?_);refine XF (vW v1 [.cells [(au (1:Int))]]) rfl (by kernel_rfl) (by kernel_rfl) ?_;refine(gO (dO ?_));have hr:=am6 J;subst hr;exact jI (by kernel_rfl)
      replace J:=(gu bH).symm.trans J;refine gZ (t:=(v11 !=0)) (by kernel_rfl) bH ?_;refine fj ?_;refine oJ ?_;refine KY (lg v1 []) rfl (by kernel_rfl) (by kernel_rfl) ?_;exact⟨(),(by kernel_rfl),J⟩
     rintro _ J
     try dsimp only at J
     rw[tY]at J;refine oJ ?_;refine cw ?_;refine aR ?_;refine rg [] [] (lg v1 [.gone]) (by kernel_rfl) ?_;refine dz ?_;have hr:=am6 J;subst hr;exact jI (by kernel_rfl)
    replace J:=(gu h8).symm.trans J;refine aw_cond_h (t:=(!v5)) (by kernel_rfl) (dD h8) ?_;refine aR ?_;refine rg [] [] (vW v1 [.cells [(au (10:Int))]]) (by kernel_rfl) ?_;refine dz (gO (dO ?_));have hr:=am6 J;subst hr;exact jI (by kernel_rfl)
   replace J:=(gu h6).symm.trans J;refine aw_cond_h (t:=(!v4)) (by kernel_rfl) (dD h6) ?_;refine aR ?_;refine rg [] [] (vW v1 [.cells [(au (11:Int))]]) (by kernel_rfl) ?_;refine dz (gO (dO ?_));have hr:=am6 J;subst hr;exact jI (by kernel_rfl)
  replace J:=(gu h4).symm.trans J;refine aw_cond_h (t:=(!v3)) (by kernel_rfl) (dD h4) ?_;refine aR ?_;refine rg [] [] (vW v1 [.cells [(au (7:Int))]]) (by kernel_rfl) ?_;refine dz (gO (dO ?_));have hr:=am6 J;subst hr;exact jI (by kernel_rfl)
 replace J:=(gu h2).symm.trans J;refine aw_cond_h (t:=(!v2)) (by kernel_rfl) (dD h2) ?_;refine aR ?_;refine rg [] [] (vW v1 [.cells [(au (5:Int))]]) (by kernel_rfl) ?_;refine dz (gO (dO ?_));have hr:=am6 J;subst hr;exact jI (by kernel_rfl)
def xV(N:Nat):anD an->anF Int
 |[]=>
  some (0:Int)
 |v5::v6=>
  (Da N v5).bind λv7=>
  bif (v7 !=0)then
   some v7
  else
   (xV N v6)
def zR(N:Nat)(v1:an):anF Int:=
 (NO N v1).bind λv2=>
 bif (decide (v2>40))then
  some (13:Int)
 else
  (D6 N v1).bind λv3=>
  bif (decide (v3>2000))then
   some (2:Int)
  else
   (Jd N v1).bind λv4=>
   xV N (dq v4)
def ov(v1:an)(l:anD ao):anD ao:= .cells (aA v1).cells:: .cells [(au (0:Int))]::l
def OP(v1:an)(jX:Code)(jG:Code)(v4:an)(v5:an)(l:anD ao):anD ao:=ov v1 (.lp .busy 13 jX jG (dH 19 [(2,(.ptr 1 0)),(12,(.fn 62 [(.ba [dd v4] 0 0)]))]):: .cells (aA v5).cells::l)
def Ee(v1:an)(l:anD ao):anD ao:= .cells (aA v1).cells::l
theorem Tu{N v1 r}(J:zR N v1=some r):KF 28 [(aA v1)] (au r):=by
 rw[zR]at J;refine Ar Tryz.func28 rfl (by kernel_rfl) ?_;refine jZ [0] 0 (amY _) (s':=⟨19,[(0,(aA v1))],[]⟩) (by kernel_rfl) ?_;refine aR ?_;refine rg [] [(1,(.ptr 0 0)),(2,(.ptr 1 0))] (ov v1 []) (by kernel_rfl) ?_;refine aR ?_;refine aR ?_;obtain⟨v2,h1,J⟩:=b8 J;refine rg [(4,cK adM h1)] [(7,(aC (decide (v2>40))))] (ov v1 []) (by kernel_rfl) ?_;rcases gq (decide (v2>40))with h2|h2
 ·replace J:=(gg h2).symm.trans J;refine aw_cond_h (t:=(decide (v2>40))) (by kernel_rfl) h2 ?_;refine aR ?_;refine rg [] [] (Ee v1 [.cells [(au (13:Int))]]) (by kernel_rfl) ?_;refine dz (dO ?_);have hr:=am6 J;subst hr;exact jI (by kernel_rfl)
 replace J:=(gu h2).symm.trans J;refine gZ (t:=(decide (v2>40))) (by kernel_rfl) h2 ?_;refine fj ?_;refine cw ?_;refine aR ?_;refine aR ?_;obtain⟨v3,h3,J⟩:=b8 J;refine rg [(4,cL (akH h3))] [(10,(aC (decide (v3>2000))))] (ov v1 []) (by kernel_rfl) ?_;rcases gq (decide (v3>2000))with h4|h4
 ·replace J:=(gg h4).symm.trans J;refine aw_cond_h (t:=(decide (v3>2000))) (by kernel_rfl) h4 ?_;refine aR ?_;refine rg [] [] (Ee v1 [.cells [(au (2:Int))]]) (by kernel_rfl) ?_;refine dz (dO ?_);have hr:=am6 J;subst hr;exact jI (by kernel_rfl)
 replace J:=(gu h4).symm.trans J;refine gZ (t:=(decide (v3>2000))) (by kernel_rfl) h4 ?_;refine fj ?_;refine cw ?_;refine aR ?_;refine aR ?_;obtain⟨v4,h5,J⟩:=b8 J;refine rg [(4,cL (SB h5))] [(12,(.fn 62 [(.ba [dd v4] 0 0)]))] (ov v1 []) (by kernel_rfl) ?_;refine la ?_;refine jZ [2,12] 2 (amV rfl) (s':=⟨19,[(2,(.ptr 1 0)),(12,(.fn 62 [(.ba [dd v4] 0 0)]))],(ov v1 [])⟩) (by kernel_rfl) ?_;refine OH (m:=2) (enc:=aA) (xs:=(dq v4)) (by kernel_rfl) (RZ v4) (λ(_:Unit)=>(ov v1 [])) (λ(_:Unit) l=>xV N l=some r) () (by kernel_rfl) J (by rintro _;rfl) (by rintro _;kernel_rfl) (by kernel_rfl) rfl ?_ ?_
 ·rintro _ v5 v6 J h6 jX jG
  try dsimp only at J
  rw[xV]at J;refine jZ [2,13] 3 (amY _) (s':=⟨19,[(2,(.ptr 1 0)),(13,(aA v5))],(ov v1 [.lp .ready 13 jX jG (dH 19 [(2,(.ptr 1 0)),(12,(.fn 62 [(.ba [dd v4] 0 0)]))])])⟩) (by kernel_rfl) ?_;refine re [] [(3,(.ptr 3 0))] (ov v1 [.lp .ready 13 jX jG (dH 19 [(2,(.ptr 1 0)),(12,(.fn 62 [(.ba [dd v4] 0 0)]))]), .cells (aA v5).cells]) (by kernel_rfl) ?_;refine cw ?_;refine⟨(ov v1 []),(Ee v5 []),rfl,(by kernel_rfl),?_⟩;refine jZ [2,3] 4 (amV rfl) (s':=⟨19,[(2,(.ptr 1 0)),(3,(.ptr 3 0))],(OP v1 jX jG v4 v5 [])⟩) (by kernel_rfl) ?_;refine la ?_;refine aR ?_;obtain⟨v7,h7,J⟩:=b8 J;refine rg [(4,cL (acz h7))] [(4,(au v7))] (OP v1 jX jG v4 v5 []) (by kernel_rfl) ?_;refine aR ?_;refine rg [] [(17,(aC (v7 !=0)))] (OP v1 jX jG v4 v5 []) (by kernel_rfl) ?_;rcases gq (v7 !=0)with h8|h8
  ·replace J:=(gg h8).symm.trans J;refine aw_cond_h (t:=(v7 !=0)) (by kernel_rfl) h8 ?_;refine aR ?_;refine rg [] [] (Ee v1 [.cells [(au v7)], .lp .busy 13 jX jG (dH 19 [(2,(.ptr 1 0)),(12,(.fn 62 [(.ba [dd v4] 0 0)]))]), .cells (aA v5).cells]) (by kernel_rfl) ?_;refine dz (gO ?_);refine XF (Ee v1 [.cells [(au v7)]]) rfl (by kernel_rfl) (by kernel_rfl) ?_;refine(gO (dO ?_));have hr:=am6 J;subst hr;exact jI (by kernel_rfl)
  replace J:=(gu h8).symm.trans J;refine gZ (t:=(v7 !=0)) (by kernel_rfl) h8 ?_;refine fj ?_;refine oJ ?_;refine KY (ov v1 []) rfl (by kernel_rfl) (by kernel_rfl) ?_;exact⟨(),(by kernel_rfl),J⟩
 rintro _ J
 try dsimp only at J
 rw[xV]at J;refine oJ ?_;refine cw ?_;refine aR ?_;refine rg [] [] (ov v1 [.gone]) (by kernel_rfl) ?_;refine dz ?_;have hr:=am6 J;subst hr;exact jI (by kernel_rfl)
def NA(N:Nat)(v1:anD bf):anF (anD bf):=bif Nat.ble (v1.length*24) 140737488355328 then some v1 else none
theorem aeM{N v1 r}(J:NA N v1=some r):gn Tryz.prog 57 [(.d (.sl (cC v1)))] (·=(.d (.sl (cC r)))):=by
 obtain⟨hb,rfl⟩:=dF J;have hc:=yz hb (by decide);exact aeR AN (by rw[fc];exact hc.1) (by rw[fc];exact hc.2)
def yM(N:Nat)(v1:aP):anF (aP×Int):=
 (NA N v1.xL).bind λv2=>
 some ((⟨v1.xK,v2⟩:aP),(0:Int))
theorem NJ{N v1}:KO 56 [(cz v1)] (λr=> .aQ [(cz r.1),(au r.2)]) (yM N v1):=
 fw Tryz.func56 (ax λv2 h1=>gR [[],[(13,cL (aeM h1))]])
def QS(N:Nat)(v1:anD aN):anF (anD aN):=bif Nat.ble (v1.length*72) 140737488355328 then some v1 else none
theorem aay{N v1 r}(J:QS N v1=some r):cp Tryz.prog 99 [(.d (.sl (cH v1)))] [] λr1 h1=>r1=(.vec 0 0 r.length r.length 4)/\h1=[.vec 73 4 (bG (r.map fG))]:=by
 obtain⟨hb,rfl⟩:=dF J;have hc:=yz hb (by decide);have h1:=aiD (xs:=cH v1) Vi (by rw[fU];exact hc.1) (by rw[fU];exact hc.2);have h2:bG (v1.map fG)=bG (cH v1):=by rw[sO]
 have h3:=fU (l:=v1);rw[h3]at h1;rw[h2];exact h1
def PN(N:Nat)(v1:anD aP):anF (anD aP):=bif Nat.ble (v1.length*32) 140737488355328 then some v1 else none
theorem acQ{N v1 r}(J:PN N v1=some r):cp Tryz.prog 100 [(.d (.sl (ew v1)))] [] λr1 h1=>r1=(.vec 0 0 r.length r.length 2)/\h1=[.vec 28 2 (bG (r.map lu))]:=by
 obtain⟨hb,rfl⟩:=dF J;have hc:=yz hb (by decide);have h1:=acP (xs:=ew v1) R3 (by rw[gW];exact hc.1) (by rw[gW];exact hc.2);have h2:bG (v1.map lu)=bG (ew v1):=by rw[th]
 have h3:=gW (l:=v1);rw[h3]at h1;rw[h2];exact h1
def LC(N:Nat)(v1:anD an):anF (anD an):=bif Nat.ble (v1.length*160) 140737488355328 then some v1 else none
theorem ahL{N v1 r}(J:LC N v1=some r):cp Tryz.prog 101 [(.d (.sl (dh v1)))] [] λr1 h1=>r1=(.vec 0 0 r.length r.length 13)/\h1=[.vec 32 13 (bG (r.map dd))]:=by
 obtain⟨hb,rfl⟩:=dF J;have hc:=yz hb (by decide);have h1:=afn (xs:=dh v1) L0 (by rw[fS];exact hc.1) (by rw[fS];exact hc.2);have h2:bG (v1.map dd)=bG (dh v1):=by rw[iH]
 have h3:=fS (l:=v1);rw[h3]at h1;rw[h2];exact h1
def uz(N:Nat)(v8:anD aN)(v3:anD aN)(v9:anD an)(v1:an)(v2:aP×Int)(EA:an->anF (an×Int)):anD an->Nat->(anD an)->anF (an×Int)
 |[],_,bX=>
  bif (Nat.beq v8.length v3.length)then
  bif (Nat.beq bX.length v9.length)then
  some ((⟨v1.aq,v1.aO,v1.bg,v1.aD,v2.1,v8,bX⟩:an),(0:Int))
  else none
  else none
 |v12::aW,v10,bX=>
  (EA v12).bind λb7=>
  bif (Nat.beq bX.length v9.length)then
  bif (decide ((v10:Int)<(v9.length:Int)))then
  Option.bind (bX[v10]?) λfO=>
  bif (b7.2 !=0)then
   some (fg,b7.2)
  else
   (λsF=>uz N v8 v3 v9 v1 v2 EA aW (v10+1) sF) (bX.set v10 b7.1)
  else none
  else none
def tZ(N:Nat)(cD:anD aP)(uH:(anD aN)->anF (an×Int))(v8:anD aN)(v4:Nat)(b6:aP×Int)(aU:aN):anD aP->Nat->(anD aP)->anF (an×Int)
 |[],_,v24=>
  bif (Nat.beq v24.length cD.length)then
  uH ((v8.set v4 (⟨b6.1,aU.bI,aU.aZ⟩:aN)).set v4 (⟨(⟨b6.1,aU.bI,aU.aZ⟩:aN).aM,(⟨b6.1,aU.bI,aU.aZ⟩:aN).bI,v24⟩:aN))
  else none
 |jU::fi,v20,v24=>
  (yM N jU).bind λrl=>
  bif (Nat.beq v24.length cD.length)then
  bif (decide ((v20:Int)<(cD.length:Int)))then
  Option.bind (v24[v20]?) λXj=>
  bif (rl.2 !=0)then
   some (fg,rl.2)
  else
   (λEa=>tZ N cD uH v8 v4 b6 aU fi (v20+1) Ea) (v24.set v20 rl.1)
  else none
  else none
def rO(N:Nat)(v1:an)(v3:anD aN)(v2:aP×Int)(EA:an->anF (an×Int)):anD aN->Nat->(anD aN)->anF (an×Int)
 |[],_,v8=>
  (LC N v1.aw).bind λv9=>
  uz N v8 v3 v9 v1 v2 EA v1.aw 0 v9
 |v6::v7,v4,v8=>
  (yM N v6.aM).bind λb6=>
  bif (Nat.beq v8.length v3.length)then
  bif (decide ((v4:Int)<(v3.length:Int)))then
  Option.bind (v8[v4]?) λaU=>
  bif (b6.2 !=0)then
   some (fg,b6.2)
  else
   (PN N v6.aZ).bind λcD=>
   bif (Nat.beq (v8.set v4 (⟨b6.1,aU.bI,aU.aZ⟩:aN)).length v3.length)then
   tZ N cD (λdV=>rO N v1 v3 v2 EA v7 (v4+1) dV) v8 v4 b6 aU v6.aZ 0 cD
   else none
  else none
  else none
def qQ(N:Nat):Nat->an->anF (an×Int)
 |0,_=>none
 |d+1,v1=>
  (yM N v1.aM).bind λv2=>
  bif (v2.2 !=0)then
   some (fg,v2.2)
  else
   (QS N v1.xIdx).bind λv3=>
   rO N v1 v3 v2 (qQ N d) v1.xIdx 0 v3
def KS(N:Nat)(v1:an):anF (an×Int):=qQ N N v1
def Pn(v1:an)(l:anD ao):anD ao:= .cells (aA v1).cells:: .cells iW::l
def FD(v1:an)(v2:aP×Int)(v3:anD aN)(l:anD ao):anD ao:=Pn v1 (.cells (Lr v1 [(aT v2.1.xK),(.d (.sl (cC v2.1.xL))),(.vec 3 0 v3.length v3.length 4),(.d (.sl (dh v1.aw)))])::l)
def R1(v1:an)(v2:aP×Int)(v3:anD aN)(v9:anD an)(v8:anD aN)(bX:anD an)(l:anD ao):anD ao:=Pn v1 (.cells (Lr v1 [(aT v2.1.xK),(.d (.sl (cC v2.1.xL))),(.vec 3 0 v3.length v3.length 4),(.vec 4 0 v9.length v9.length 13)]):: .vec 73 4 (bG (v8.map fG)):: .vec 32 13 (bG (bX.map dd))::l)
theorem aeY(N:Nat):∀d:Nat,(∀{v1:an}{r:an×Int},qQ N d v1=some r->KH 55 [(aA v1),(.fn 56 [])] [] (.aQ [(aA r.1),(au r.2)]) []):=by
 intro d
 induction d with
 |zero=>intro v1 r J;rw[qQ]at J;cases J
 |succ d ih=>
  have acq:= @ih;intro v1 r J;rw[qQ]at J;refine tF 0 Tryz.func55 ?_;obtain⟨v2,h1,J⟩:=b8 J;refine ft aX [[],[],[],[(10,cK NJ h1)],[]] ?_;apply bc J<;>intro h2 J
  ·cases J;exact iV aX [[(0,bT h2)],[]]
  obtain⟨v3,h3,J⟩:=b8 J;refine ft aX [[(0,bF h2)],[(7,oX eC (Ls (xs:=(v3.map fG)) eC) [(.d (.sl (cH v1.xIdx)))] (Pn v1 [.cells (Lr v1 [(aT v2.1.xK),(.d (.sl (cC v2.1.xL))),(.d (.sl (cH v1.xIdx))),(.d (.sl (dh v1.aw)))])]) [] (aay h3))],[(7,oL v1.xIdx fU)]] ?_;refine Kq vj 32 v1.xIdx λh5=> ?_;refine Bg aX 1 [] [1,2,4,6,32,33,34] 4 [] [(1,10),(1,11),(1,12)] (λ((v4,v5,v8):Nat×(anD aN)×(anD aN))=>⟨119,[(1,(.fn 56 [])),(2,(.ptr 0 0)),(4,(.ptr 1 0)),(6,(.ptr 2 0)),(32,(.d (.sl (cH v1.xIdx)))),(33,(au (v1.xIdx.length:Int))),(34,(au (v4:Int)))],(FD v1 v2 v3 [.vec 73 4 (bG (v8.map fG))])⟩) (λ((v4,v5,v8):Nat×(anD aN)×(anD aN))=>v1.xIdx.drop v4=v5/\rO N v1 v3 v2 (qQ N d) v5 v4 v8=some r) (λ((v4,v5,v8):Nat×(anD aN)×(anD aN))=>v5.length) (0,v1.xIdx,v3) ⟨rfl,J⟩ ?_ (ee:=[.mz (v3.map fG)]);rintro⟨v4,v5,v8⟩ ⟨h6,J⟩ f1 aK;cases v5 with
  |nil=>
   rw[rO]at J;obtain⟨v9,h7,J⟩:=b8 J;refine ft aX [[],[(0,bF (dv h6))],[(7,oX eC (Ls (xs:=(v9.map dd)) eC) [(.d (.sl (dh v1.aw)))] (FD v1 v2 v3 [.vec 73 4 (bG (v8.map fG))]) [] (ahL h7))],[(7,oL v1.aw fS)]] ?_;refine Kq rY 96 v1.aw λh9=> ?_;refine Bg aX 2 [] [1,4,6,96,97,98] 5 [] [(1,10),(1,11),(1,12)] (λ((v10,v11,bX):Nat×(anD an)×(anD an))=>⟨119,[(1,(.fn 56 [])),(4,(.ptr 1 0)),(6,(.ptr 2 0)),(96,(.d (.sl (dh v1.aw)))),(97,(au (v1.aw.length:Int))),(98,(au (v10:Int)))],(R1 v1 v2 v3 v9 v8 bX [])⟩) (λ((v10,v11,bX):Nat×(anD an)×(anD an))=>v1.aw.drop v10=v11/\uz N v8 v3 v9 v1 v2 (qQ N d) v11 v10 bX=some r) (λ((v10,v11,bX):Nat×(anD an)×(anD an))=>v11.length) (0,v1.aw,v9) ⟨rfl,J⟩ ?_ (ee:=[.mz (v8.map fG), .mz (v9.map dd)]);rintro⟨v10,v11,bX⟩ ⟨bk,J⟩ f2 fY;cases v11 with
   |nil=>
    rw[uz]at J;obtain⟨bo,J⟩:=lN J;obtain⟨bJ,J⟩:=lN J;refine ft aX [[],[(0,bF (dv bk))]] ?_;refine JQ [4,6] 3 (cH v8) v3.length 1 73 4 [.mz (v8.map fG), .mz (bX.map dd)] (Ki (am1 bo)) (sO _) (GX (λ_=>rfl) _) ?_;refine JQ [4,6] 4 (dh bX) v9.length 1 32 13 [.mz (bX.map dd)] (Ki (am1 bJ)) (iH _) (GX (λ_=>rfl) _) ?_;cases J;exact iV aX [[]]
   |cons v12 aW=>
    rw[uz]at J;obtain⟨b7,cf,J⟩:=b8 J;obtain⟨ct,J⟩:=lN J;obtain⟨cq,J⟩:=lN J;obtain⟨fO,bH,J⟩:=b8 J;refine ft aX [[],[(0,bT (dt bk))],[(4,oE (cn (cO bk)))],[(16,oQ [(aA v12),(.fn 56 [])] (R1 v1 v2 v3 v9 v8 bX [.cells (aA v12).cells]) [] (acq cf)),(28,⟨_,_, .pr (.ix v10) (Al (qd (f:=dd) (am1 ct)) (Int.natCast_nonneg _) (of_decide_eq_true cq) (anf _))⟩),(31,⟨_,_, .pr (.st ((dd fO).map AV.d) (bG ((bX.set v10 b7.1).map dd))) (IT (f:=dd) (j:=0) (y:=b7.1) (zs:=[(au b7.1.aq),(bu b7.1.aO),(aT b7.1.bg.xN),(aT b7.1.bg.xD),(au b7.1.aD.aL),(au b7.1.aD.bY),(au b7.1.aD.bM),(au b7.1.aD.b5),(au b7.1.aD.bK),(aT b7.1.aM.xK),(.d (.sl (cC b7.1.aM.xL))),(.d (.sl (cH b7.1.xIdx))),(.d (.sl (dh b7.1.aw)))]) (am1 ct) bH rfl)⟩)],[]] ?_;apply bc J<;>intro cE J
    ·cases J;exact iV aX [[(0,bT cE)],[]]
    exact Fq aX fY (v10+1,aW,(bX.set v10 b7.1)) [[(0,bF cE)],[(2,oq (dR bk rfl h9))]] ⟨oc bk,J⟩ (ee:=[.mz (v8.map fG), .mz ((bX.set v10 b7.1).map dd)])
  |cons v6 v7=>
   rw[rO]at J;obtain⟨b6,cY,J⟩:=b8 J;obtain⟨dC,J⟩:=lN J;obtain⟨dj,J⟩:=lN J;obtain⟨aU,fx,J⟩:=b8 J;refine ft aX [[],[(0,bT (dt h6))],[(4,oE (kC (cO h6)))],[(19,cK NJ cY),(31,⟨_,_, .pr (.ix v4) (Al (qd (f:=fG) (am1 dC)) (Int.natCast_nonneg _) (of_decide_eq_true dj) (anf _))⟩),(34,⟨_,_, .pr .no trivial⟩),(37,⟨_,_, .pr (.st ((fG aU).map AV.d) (bG ((v8.set v4 (⟨b6.1,aU.bI,aU.aZ⟩:aN)).map fG))) (IT (f:=fG) (j:=0) (y:=(⟨b6.1,aU.bI,aU.aZ⟩:aN)) (zs:=[(aT b6.1.xK),(.d (.sl (cC b6.1.xL)))]) (am1 dC) fx rfl)⟩)],[]] ?_;apply bc J<;>intro iz J
   ·cases J;exact iV aX [[(0,bT iz)],[]]
   obtain⟨cD,iB,J⟩:=b8 J;obtain⟨kh,J⟩:=lN J;refine ft aX [[(0,bF iz)],[(16,oX eC (Ls (xs:=(cD.map lu)) eC) [(.d (.sl (ew v6.aZ)))] (FD v1 v2 v3 [.vec 73 4 (bG ((v8.set v4 (⟨b6.1,aU.bI,aU.aZ⟩:aN)).map fG)), .cells (gh v6).cells]) [] (acQ iB)),(19,⟨_,_, .pr (.ix v4) (Al (qd (f:=fG) (am1 kh)) (Int.natCast_nonneg _) (of_decide_eq_true dj) (anf _))⟩),(22,⟨_,_, .pr .no trivial⟩),(25,⟨_,_, .pr (.st ((fG (⟨b6.1,aU.bI,aU.aZ⟩:aN)).map AV.d) ((bG ((v8.set v4 (⟨b6.1,aU.bI,aU.aZ⟩:aN)).map fG)).set v4 [(aT (⟨b6.1,aU.bI,aU.aZ⟩:aN).aM.xK),(.d (.sl (cC (⟨b6.1,aU.bI,aU.aZ⟩:aN).aM.xL))),(bu (⟨b6.1,aU.bI,aU.aZ⟩:aN).bI),(.vec 5 0 cD.length cD.length 2)])) (alC (f:=fG) (j:=3) (r:=[(aT (⟨b6.1,aU.bI,aU.aZ⟩:aN).aM.xK),(.d (.sl (cC (⟨b6.1,aU.bI,aU.aZ⟩:aN).aM.xL))),(bu (⟨b6.1,aU.bI,aU.aZ⟩:aN).bI),(.vec 5 0 cD.length cD.length 2)]) (zs:=[(.vec 5 0 cD.length cD.length 2)]) (am1 kh) (SY fx) rfl)⟩)],[(7,oL v6.aZ gW)]] ?_;refine Kq Ij 64 v6.aZ λFc=> ?_;refine Bg aX 3 [] [1,2,4,6,8,32,33,34,64,65,66] 6 [] [(1,10),(1,11),(1,12)] (λ((v20,v21,v24):Nat×(anD aP)×(anD aP))=>⟨119,[(1,(.fn 56 [])),(2,(.ptr 0 0)),(4,(.ptr 1 0)),(6,(.ptr 2 0)),(8,(au (v4:Int))),(32,(.d (.sl (cH v1.xIdx)))),(33,(au (v1.xIdx.length:Int))),(34,(au (v4:Int))),(64,(.d (.sl (ew v6.aZ)))),(65,(au (v6.aZ.length:Int))),(66,(au (v20:Int)))],(FD v1 v2 v3 [.vec 73 4 ((bG ((v8.set v4 (⟨b6.1,aU.bI,aU.aZ⟩:aN)).map fG)).set v4 [(aT (⟨b6.1,aU.bI,aU.aZ⟩:aN).aM.xK),(.d (.sl (cC (⟨b6.1,aU.bI,aU.aZ⟩:aN).aM.xL))),(bu (⟨b6.1,aU.bI,aU.aZ⟩:aN).bI),(.vec 5 0 cD.length cD.length 2)]), .cells (gh v6).cells, .vec 28 2 (bG (v24.map lu))])⟩) (λ((v20,v21,v24):Nat×(anD aP)×(anD aP))=>v6.aZ.drop v20=v21/\tZ N cD (λdV=>rO N v1 v3 v2 (qQ N d) v7 (v4+1) dV) v8 v4 b6 aU v21 v20 v24=some r) (λ((v20,v21,v24):Nat×(anD aP)×(anD aP))=>v21.length) (0,v6.aZ,cD) ⟨rfl,J⟩ ?_ (ee:=[.row ((v8.set v4 (⟨b6.1,aU.bI,aU.aZ⟩:aN)).map fG) v4 [(aT (⟨b6.1,aU.bI,aU.aZ⟩:aN).aM.xK),(.d (.sl (cC (⟨b6.1,aU.bI,aU.aZ⟩:aN).aM.xL))),(bu (⟨b6.1,aU.bI,aU.aZ⟩:aN).bI),(.vec 5 0 cD.length cD.length 2)], .mz (cD.map lu)])
   rintro⟨v20,v21,v24⟩ ⟨rV,J⟩ f3 qu;cases v21 with
   |nil=>
    rw[tZ]at J;obtain⟨Bc,J⟩:=lN J;refine ft aX [[],[(0,bF (dv rV))]] ?_;refine JQ [1,2,4,6,32,33,34] 5 (ew v24) cD.length 0 28 2 [.row fG (v8.set v4 (⟨b6.1,aU.bI,aU.aZ⟩:aN)) v4 [(aT (⟨b6.1,aU.bI,aU.aZ⟩:aN).aM.xK),(.d (.sl (cC (⟨b6.1,aU.bI,aU.aZ⟩:aN).aM.xL))),(bu (⟨b6.1,aU.bI,aU.aZ⟩:aN).bI),(.vec 5 0 cD.length cD.length 2)] (⟨(⟨b6.1,aU.bI,aU.aZ⟩:aN).aM,(⟨b6.1,aU.bI,aU.aZ⟩:aN).bI,v24⟩:aN) 1, .mz (v24.map lu)] (Ki (am1 Bc)) (th _) (GX (λ_=>rfl) _) ?_;exact Fq aX aK (v4+1,v7,((v8.set v4 (⟨b6.1,aU.bI,aU.aZ⟩:aN)).set v4 (⟨(⟨b6.1,aU.bI,aU.aZ⟩:aN).aM,(⟨b6.1,aU.bI,aU.aZ⟩:aN).bI,v24⟩:aN))) [[(2,oq (dR h6 rfl h5))]] ⟨oc h6,J⟩ (ee:=[.mz (((v8.set v4 (⟨b6.1,aU.bI,aU.aZ⟩:aN)).set v4 (⟨(⟨b6.1,aU.bI,aU.aZ⟩:aN).aM,(⟨b6.1,aU.bI,aU.aZ⟩:aN).bI,v24⟩:aN)).map fG)])
   |cons jU fi=>
    rw[tZ]at J;obtain⟨rl,MD,J⟩:=b8 J;obtain⟨RV,J⟩:=lN J;obtain⟨h31,J⟩:=lN J;obtain⟨Xj,h32,J⟩:=b8 J;refine ft aX [[],[(0,bT (dt rV))],[(4,oE (uE (cO rV)))],[(10,⟨_,_, .pr (.ix v4) (Al (akL (i:=v4) (r:=[(aT (⟨b6.1,aU.bI,aU.aZ⟩:aN).aM.xK),(.d (.sl (cC (⟨b6.1,aU.bI,aU.aZ⟩:aN).aM.xL))),(bu (⟨b6.1,aU.bI,aU.aZ⟩:aN).bI),(.vec 5 0 cD.length cD.length 2)]) (f:=fG) (am1 kh)) (Int.natCast_nonneg _) (of_decide_eq_true dj) (anf _))⟩),(13,⟨_,_, .pr .no trivial⟩),(16,⟨_,_, .pr (.el [(aT (⟨b6.1,aU.bI,aU.aZ⟩:aN).aM.xK),(.d (.sl (cC (⟨b6.1,aU.bI,aU.aZ⟩:aN).aM.xL))),(bu (⟨b6.1,aU.bI,aU.aZ⟩:aN).bI),(.vec 5 0 cD.length cD.length 2)]) (afB (f:=fG) [(aT (⟨b6.1,aU.bI,aU.aZ⟩:aN).aM.xK),(.d (.sl (cC (⟨b6.1,aU.bI,aU.aZ⟩:aN).aM.xL))),(bu (⟨b6.1,aU.bI,aU.aZ⟩:aN).bI),(.vec 5 0 cD.length cD.length 2)] (am1 kh) (SY fx))⟩),(28,cK NJ MD),(40,⟨_,_, .pr (.ix v20) (Al (qd (f:=lu) (am1 RV)) (Int.natCast_nonneg _) (of_decide_eq_true h31) (anf _))⟩),(43,⟨_,_, .pr (.st ((lu Xj).map AV.d) (bG ((v24.set v20 rl.1).map lu))) (IT (f:=lu) (j:=0) (y:=rl.1) (zs:=[(aT rl.1.xK),(.d (.sl (cC rl.1.xL)))]) (am1 RV) h32 rfl)⟩)],[]] ?_
    apply bc J<;>intro KI J
    ·cases J;exact iV aX [[(0,bT KI)],[]]
    exact Fq aX qu (v20+1,fi,(v24.set v20 rl.1)) [[(0,bF KI)],[(2,oq (dR rV rfl Fc))]] ⟨oc rV,J⟩ (ee:=[.row ((v8.set v4 (⟨b6.1,aU.bI,aU.aZ⟩:aN)).map fG) v4 [(aT (⟨b6.1,aU.bI,aU.aZ⟩:aN).aM.xK),(.d (.sl (cC (⟨b6.1,aU.bI,aU.aZ⟩:aN).aM.xL))),(bu (⟨b6.1,aU.bI,aU.aZ⟩:aN).bI),(.vec 5 0 cD.length cD.length 2)], .mz ((v24.set v20 rl.1).map lu)])
theorem ZU{N v1 r}(J:KS N v1=some r):KH 55 [(aA v1),(.fn 56 [])] [] (.aQ [(aA r.1),(au r.2)]) []:=(aeY N N) J
def vM(N:Nat)(v1:an):anF an:=
 (KS N v1).bind λv2=>
 some v2.1
theorem Wj{N v1}:KO 29 [(aA v1)] aA (vM N v1):=
 fw Tryz.func29 (ax λv2 h1=>gR [[],[(4,oQ [(aA v1),(.fn 56 [])] [.cells (aA v1).cells, .cells iW] [] (ZU h1))],[]])
def wI(N:Nat)(v2:Bool):anF Bool:=
 bif v2 then
  some true
 else
  some false
def PS(N:Nat)(v1:fb):anF Bool:=
 bif (v1.yE.aq==4)then
  wI N (v1.yE.aq==4)
 else
  bif (v1.yE.aq==5)then
   wI N (v1.yE.aq==5)
  else
   bif (v1.yE.aq==6)then
    wI N (v1.yE.aq==6)
   else
    bif (v1.yE.aq==7)then
     wI N (v1.yE.aq==7)
    else
     bif (v1.yE.aq==9)then
      wI N (v1.yE.aq==9)
     else
      wI N (v1.yE.aq==10)
theorem XN{N v1}:KO 166 [(cQ v1)] aC (PS N v1):=
 fw Tryz.func166 (lH 1 [[],[],[]] [6] 1 (λ(v2:Bool)=>⟨13,[(6,(aC v2))],[.cells (cQ v1).cells]⟩) (wI N) (λf1 aK=>ay (λh2=>gm aK (v1.yE.aq==4) [[t0 h2]]) λh2=>gA [[f0 h2],[]] (ay (λh3=>gm aK (v1.yE.aq==5) [[t0 h3]]) λh3=>gA [[f0 h3],[]] (ay (λh4=>gm aK (v1.yE.aq==6) [[t0 h4]]) λh4=>gA [[f0 h4],[]] (ay (λh5=>gm aK (v1.yE.aq==7) [[t0 h5]]) λh5=>gA [[f0 h5],[]] (ay (λh6=>gm aK (v1.yE.aq==9) [[t0 h6]]) λh6=>gm aK (v1.yE.aq==10) [[f0 h6],[]]))))) (λv2=>bN λh1=>gR [[f0 h1],[]]))
def Hp(N:Nat)(v1:aF):anD aB->Nat->anF Int
 |[],_=>
  some (0:Int)
 |v6::v7,v4=>
  (s9 N v1 v6).bind λv8=>
  bif v8 then
   (Hp N v1 v7 (v4+1))
  else
   some (1:Int)
def qN(N:Nat)(v1:aF)(v2:anD aB):anF Int:=
 (uX N v1).bind λv3=>
 bif (v3 !=0)then
  some v3
 else
  Hp N v1 v2 0
theorem AR{N v1 v2}:KO 304 [(cB v1),(.d (.sl (kf v2)))] au (qN N v1 v2):=
 fw Tryz.func304 (ax λv3 h1=>gA [[],[(4,cK Jz h1)],[]] (bN λh2=>gA [[f0 h2],[(4,oL v2 JC)]] (gT VH 1 v2 λh4=>js 1 [] [2,13,14,15] 1 (λv4=>⟨24,[(2,(.ptr 0 0)),(13,(.d (.sl (kf v2)))),(14,(au (v2.length:Int))),(15,(au (v4:Int)))],[.cells (cB v1).cells]⟩) (λv4 h5 f1=>gR [[],[f0 (dv h5)],[]]) (λv4 v6 v7 h5 f1 aK=>ax λv8 h6=>gA [[],[t0 (dt h5)],[(1,oE (Is (cO h5)))],[(7,cK PZ h6)]] (mu λh7=>gb aK () [[f0 (du h7)],[(2,oq (dR h5 rfl h4))]] h5)))))
def LI(N:Nat)(v1:aF)(v2:Int64)(v3:Int64):anF (Int64×Int):=
 some ((-v2),(0:Int))
theorem aaK{N v1 v2 v3}:KO 310 [(cB v1),(aT v2),(aT v3)] (λr=> .aQ [(aT r.1),(au r.2)]) (LI N v1 v2 v3):=
 fw Tryz.func310 (gR [[],[(5,⟨_,_, .eq (HV v2)⟩)]])
def Cd:gv:=⟨dZ,false⟩
def lA:anD AV:=[(aT (0:Int64)),(aT (0:Int64))]
def KG:anD AV:=[(au (0:Int)),(au (0:Int)),(au (0:Int)),(au (0:Int)),(au (0:Int)),(aC false)]
def Db:anD AV:=[(aT (0:Int64)),(.d (.v (.slice none 0 0)))]
def cf1(v:aF)(r:anD AV):anD AV:=(au v.aL)::(au v.bY)::(au v.bM)::(au v.b5)::(au v.bK)::r
def Nq(N:Nat)(v1:Int64)(v2:Int)(v3:Int):anF (Int64×Bool):=
 (zU N v2).bind λv4=>
 Option.bind (bif v4 then(bif (v3 !=1)then some (v3 !=2)else some false)else some true) λv5=>
 bif v5 then
  some ((0:Int64),false)
 else
  (Ch N v2).bind λv6=>
  (Bw N v2).bind λv7=>
  Option.bind (bif (decide (v1.toInt>=v6.toInt))then some (decide (v1.toInt<=v7.toInt))else some false) λv8=>
  bif v8 then
   some (v1,false)
  else
   Option.bind (bif (v3==1)then some (decide (v1.toInt<v6.toInt))else some false) λv9=>
   bif v9 then
    some (v6,true)
   else
    bif (v3==1)then
     some (v7,true)
    else
     bif (decide ((0:Int)<=(IntKind.u64.wrap (aS ((64:Int)-v2)))))then
     some ((Int64.ofInt (((Int64.ofInt (IntKind.u64.wrap ((IntKind.u64.wrap v1.toInt)*2^(min ((IntKind.u64.wrap (aS ((64:Int)-v2)))).toNat (IntKind.bits .u64))))).toInt).fdiv (2^(min ((IntKind.u64.wrap (aS ((64:Int)-v2)))).toNat (IntKind.bits .i64))))),true)
     else none
theorem ajz{N v1 v2 v3}:KO 308 [(aT v1),(au v2),(au v3)] (λr=> .aQ [(aT r.1),(aC r.2)]) (Nq N v1 v2 v3):=
 fw Tryz.func308 (gA [[]] (ax λv4 h1=>gG (λv5=>[(21,(aC v5))]) (λ_=>[]) (cP (4,cK Q2 h1) (ay (λh2=>cm (3,bF (du h2)) (ay (λh3=>gE [(6,bT h3)] [(28,bT h3)]) λh3=>gE [(6,bF h3)] [(28,bF h3)])) λh2=>gE [(3,bT (dD h2)),(6,uN)] [])) λv5=>bN λh5=>ax λv6 h6=>ax λv7 h7=>gA [[f0 h5],[(4,cK Tc h6),(10,cK Xx h7)]] (gG (λv8=>[(26,(aC v8))]) (λ_=>[]) (ay (λh8=>gE [(3,bT h8)] []) λh8=>gE [(3,bF h8)] []) λv8=>bN λbk=>gA [[f0 bk]] (gG (λv9=>[(36,(aC v9))]) (λ_=>[]) (ay (λbo=>gE [(2,bT bo)] []) λbo=>gE [(2,bF bo)] []) λv9=>gF λ_=>bN λct=>gy λcq=>gR [[f0 ct],[],[(10,⟨_,_, .nn (b:=(IntKind.u64.wrap (aS ((64:Int)-v2)))) (of_decide_eq_true cq)⟩),(14,⟨_,_, .eq (iZ (IntKind.u64.wrap ((IntKind.u64.wrap v1.toInt)*2^(min ((IntKind.u64.wrap (aS ((64:Int)-v2)))).toNat (IntKind.bits .u64)))))⟩),(19,⟨_,_, .nn (b:=(IntKind.u64.wrap (aS ((64:Int)-v2)))) (of_decide_eq_true cq)⟩),(20,⟨_,_, .eq (RM (Int64.ofInt (IntKind.u64.wrap ((IntKind.u64.wrap v1.toInt)*2^(min ((IntKind.u64.wrap (aS ((64:Int)-v2)))).toNat (IntKind.bits .u64))))) (min ((IntKind.u64.wrap (aS ((64:Int)-v2)))).toNat (IntKind.bits .i64)))⟩)]]))))
def om(N:Nat)(v1:aF)(v2:Int64):anF aB:=
 (Nq N v2 v1.bY v1.bK).bind λv3=>
 some (⟨v3.1,(1:Int64)⟩:aB)
theorem zc{N v1 v2}:KO 252 [(cB v1),(aT v2)] a7 (om N v1 v2):=
 fw Tryz.func252 (ax λv3 h1=>gR [[],[(16,cK ajz h1)],[]])
def K3(N:Nat)(v1:aF)(v2:aB)(v3:aB):anF (aB×Int):=
 Option.bind (qN N v1 ([v2,v3])) λv4=>
 bif (v4 !=0)then
  some (bZ,v4)
 else
  (LI N v1 v2.xN v3.xN).bind λv5=>
  bif (v5.2 !=0)then
   some (bZ,v5.2)
  else
   (om N v1 v5.1).bind λv6=>
   some (v6,(0:Int))
theorem acu{N v1 v2 v3}:KP 309 [(.agg [(.fn 310 [])]),(cB v1),(a7 v2),(a7 v3)] [] (λr=> .aQ [(a7 r.1),(au r.2)]) (λ_=>[]) (K3 N v1 v2 v3):=
 fh 0 Tryz.func309 (ax λv4 h1=>gA [[],[(13,cK AR h1)],[]] (ay (λh2=>gH [[t0 h2],[]]) λh2=>ax λv5 h3=>gA [[f0 h2],[(22,cK aaK h3)],[]] (ay (λh4=>gH [[t0 h4],[]]) λh4=>ax λv6 h5=>gH [[f0 h4],[(7,cK zc h5)]])))
def Fo(N:Nat)(v1:aF)(v2:aB):anF (aB×Int):=
 (K3 N v1 v2 v2).bind λv3=>
 some (v3.1,v3.2)
theorem acN{N v1 v2}:KO 253 [(cB v1),(a7 v2)] (λr=> .aQ [(a7 r.1),(au r.2)]) (Fo N v1 v2):=
 fw Tryz.func253 (ax λv3 h1=>gR [[],[(13,oQ [(.agg [(.fn 310 [])]),(cB v1),(a7 v2),(a7 v2)] [.cells (cB v1).cells, .cells (a7 v2).cells, .cells lA] [] (acu _ h1))]])
def Hy(N:Nat)(v1:aF)(v2:aB):anF (aB×Int):=
 bif (v1.aL==2)then
  (Fo N v1 v2).bind λv3=>
  some (v3.1,v3.2)
 else
  some ((⟨(-v2.xN),v2.xD⟩:aB),(0:Int))
theorem alJ{N v1 v2}:KO 197 [(cB v1),(a7 v2)] (λr=> .aQ [(a7 r.1),(au r.2)]) (Hy N v1 v2):=
 fw Tryz.func197 (gA [[],[]] (ay (λh1=>ax λv3 h2=>gR [[t0 h1],[(7,cK acN h2)]]) λh1=>gR [[f0 h1],[(8,⟨_,_, .eq (HV v2.xN)⟩)]]))
def AO(N:Nat)(v1:Int64)(v2:Int64):anF Int:=
 bif (decide (v1.toInt<v2.toInt))then
  some (-1:Int)
 else
  bif (decide (v1.toInt>v2.toInt))then
   some (1:Int)
  else
   some (0:Int)
theorem LQ{N v1 v2}:KO 249 [(aT v1),(aT v2)] au (AO N v1 v2):=
 fw Tryz.func249 (gA [[],[]] (gF λ_=>bN λh2=>gR [[f0 h2],[]]))
def KD(N:Nat)(v1:aB)(v2:aB):anF Int:=
 (jO N v1).bind λv3=>
 Option.bind (bif v3 then (jO N v2).bind λv4=>
 some v4 else some false) λv5=>
 bif v5 then
  Option.bind (AO N (v1.xN*v2.xD) (v2.xN*v1.xD)) λv6=>
  some v6
 else
  (AO N v1.xN v2.xN).bind λv7=>
  bif (v7 !=0)then
   some v7
  else
   (AO N v1.xD v2.xD).bind λv8=>
   some v8
theorem agK{N v1 v2}:KO 185 [(a7 v1),(a7 v2)] au (KD N v1 v2):=
 fw Tryz.func185 (gA [[]] (ax λv3 h1=>gG (λv5=>[(11,(aC v5))]) (λ_=>[.cells (a7 v1).cells, .cells (a7 v2).cells]) (cP (4,cK mW h1) (ay (λh2=>ax λv4 h3=>gE [(2,bT h2)] [(13,cK mW h3)]) λh2=>gE [(2,bF h2)] [])) λv5=>ay (λh5=>ax λv6 h6=>gR [[t0 h5],[(14,⟨_,_, .eq (mh v1.xN v2.xD)⟩),(29,⟨_,_, .eq (mh v2.xN v1.xD)⟩),(31,cK LQ h6)]]) λh5=>ax λv7 h7=>gA [[f0 h5],[(13,cK LQ h7)],[]] (bN λh8=>ax λv8 h9=>gR [[f0 h8],[(13,cK LQ h9)]])))
def zy(N:Nat)(v1:aF)(v2:aB)(v3:aB):anF Int:=
 (ox N v1 v2).bind λv4=>
 Option.bind (bif v4 then (ox N v1 v3).bind λv5=>
 some (!v5)else some true) λv6=>
 bif v6 then
  some (0:Int)
 else
  bif (v1.aL==1)then
   (KD N v2 v3).bind λv7=>
   some v7
  else
   bif (decide (v2.xN.toInt<v3.xN.toInt))then
    some (-1:Int)
   else
    bif (decide (v2.xN.toInt>v3.xN.toInt))then
     some (1:Int)
    else
     some (0:Int)
theorem PQ{N v1 v2 v3}:KO 123 [(cB v1),(a7 v2),(a7 v3)] au (zy N v1 v2 v3):=
 fw Tryz.func123 (gA [[]] (ax λv4 h1=>gG (λv6=>[(7,(aC v6))]) (λ_=>[.cells (cB v1).cells, .cells (a7 v2).cells, .cells (a7 v3).cells]) (cP (7,cK xu h1) (ay (λh2=>ax λv5 h3=>gE [(4,bF (du h2))] [(22,cK xu h3)]) λh2=>gE [(4,bT (dD h2))] [])) λv6=>gF λ_=>ay (λh6=>ax λv7 h7=>gR [[t0 h6],[(7,cK agK h7)]]) λh6=>gA [[f0 h6],[]] (gF λ_=>bN λh9=>gR [[f0 h9],[]])))
def CX(N:Nat)(v1:Int)(v2:Int64)(v3:Int64):anF (aB×Int):=
 bif (v1==4)then
  Option.bind (pN N (v2+v3)) λv4=>
  bif v4 then
   some ((⟨(v2+v3),(1:Int64)⟩:aB),(0:Int))
  else
   some (bZ,(3:Int))
 else
  bif (v1==5)then
   Option.bind (pN N (v2-v3)) λv5=>
   bif v5 then
    some ((⟨(v2-v3),(1:Int64)⟩:aB),(0:Int))
   else
    some (bZ,(3:Int))
  else
   bif (v1==6)then
    Option.bind (pN N (v2*v3)) λv6=>
    bif v6 then
     some ((⟨(v2*v3),(1:Int64)⟩:aB),(0:Int))
    else
     some (bZ,(3:Int))
   else
    bif (v3.toInt==0)then
     some (bZ,(4:Int))
    else
     bif (v3.toInt !=0)then
     Option.bind (bif ((Int64.ofInt ((v2.toInt).tmod v3.toInt)).toInt !=0)then some (!((decide (v2.toInt<0))==(decide (v3.toInt<0))))else some false) λv7=>
     bif v7 then
      Option.bind (pN N ((Int64.ofInt ((v2.toInt).tdiv v3.toInt))-(1:Int64))) λv8=>
      bif v8 then
       some ((⟨((Int64.ofInt ((v2.toInt).tdiv v3.toInt))-(1:Int64)),(1:Int64)⟩:aB),(0:Int))
      else
       some (bZ,(3:Int))
     else
      Option.bind (pN N (Int64.ofInt ((v2.toInt).tdiv v3.toInt))) λv9=>
      bif v9 then
       some ((⟨(Int64.ofInt ((v2.toInt).tdiv v3.toInt)),(1:Int64)⟩:aB),(0:Int))
      else
       some (bZ,(3:Int))
     else none
theorem abE{N v1 v2 v3}:KO 254 [(au v1),(aT v2),(aT v3)] (λr=> .aQ [(a7 r.1),(au r.2)]) (CX N v1 v2 v3):=
 fw Tryz.func254 (gA [[],[],[],[]] (ay (λh1=>ax λv4 h2=>gA [[t0 h1],[(8,⟨_,_, .eq (CI v2 v3)⟩)],[(4,cK zw h2)]] (rM λh3=>gR [[t0 (dD h3)],[]])) λh1=>gA [[f0 h1],[]] (ay (λh4=>ax λv5 h5=>gA [[t0 h4],[(8,⟨_,_, .eq (wy v2 v3)⟩)],[(4,cK zw h5)]] (rM λh6=>gR [[t0 (dD h6)],[]])) λh4=>gA [[f0 h4],[]] (ay (λh7=>ax λv6 h8=>gA [[t0 h7],[(8,⟨_,_, .eq (mh v2 v3)⟩)],[(4,cK zw h8)]] (rM λh9=>gR [[t0 (dD h9)],[]])) λh7=>gA [[f0 h7],[]] (bN λbk=>gy λbo=>gA [[f0 bk],[(7,⟨_,_, .nz (b:=v3.toInt) (bne_iff_ne.1 bo)⟩),(8,⟨_,_, .eq (iZ ((v2.toInt).tdiv v3.toInt))⟩)]] (gG (λv7=>[(26,(aC v7))]) (λ_=>[.cells lA]) (cP (7,⟨_,_, .nz (b:=v3.toInt) (bne_iff_ne.1 bo)⟩) (cP (8,⟨_,_, .eq (Yi v2 v3.toInt)⟩) (ay (λbJ=>gE [(4,bT bJ)] []) λbJ=>gE [(4,bF bJ)] []))) λv7=>ay (λct=>ax λv8 cq=>gA [[t0 ct],[(5,⟨_,_, .eq (wy (Int64.ofInt ((v2.toInt).tdiv v3.toInt)) (1:Int64))⟩)],[(4,cK zw cq)]] (rM λbH=>gR [[t0 (dD bH)],[]])) λct=>ax λv9 cE=>gA [[f0 ct],[(4,cK zw cE)]] (rM λcY=>gR [[t0 (dD cY)],[]])))))))
def NF(N:Nat)(v1:aF)(v2:Int64)(v3:Int64):anF (Int64×Int):=
 some ((v2+v3),(0:Int))
theorem aaZ{N v1 v2 v3}:KO 311 [(cB v1),(aT v2),(aT v3)] (λr=> .aQ [(aT r.1),(au r.2)]) (NF N v1 v2 v3):=
 fw Tryz.func311 (gR [[],[(8,⟨_,_, .eq (CI v2 v3)⟩)]])
def No(N:Nat)(v1:aF)(v2:aB)(v3:aB):anF (aB×Int):=
 Option.bind (qN N v1 ([v2,v3])) λv4=>
 bif (v4 !=0)then
  some (bZ,v4)
 else
  (NF N v1 v2.xN v3.xN).bind λv5=>
  bif (v5.2 !=0)then
   some (bZ,v5.2)
  else
   (om N v1 v5.1).bind λv6=>
   some (v6,(0:Int))
theorem aki{N v1 v2 v3}:KP 309 [(.agg [(.fn 311 [])]),(cB v1),(a7 v2),(a7 v3)] [] (λr=> .aQ [(a7 r.1),(au r.2)]) (λ_=>[]) (No N v1 v2 v3):=
 fh 0 Tryz.func309 (ax λv4 h1=>gA [[],[(13,cK AR h1)],[]] (ay (λh2=>gH [[t0 h2],[]]) λh2=>ax λv5 h3=>gA [[f0 h2],[(22,cK aaZ h3)],[]] (ay (λh4=>gH [[t0 h4],[]]) λh4=>ax λv6 h5=>gH [[f0 h4],[(7,cK zc h5)]])))
def CS(N:Nat)(v1:aF)(v2:aB)(v3:aB):anF (aB×Int):=
 (No N v1 v2 v3).bind λv4=>
 some (v4.1,v4.2)
theorem agx{N v1 v2 v3}:KO 255 [(cB v1),(a7 v2),(a7 v3)] (λr=> .aQ [(a7 r.1),(au r.2)]) (CS N v1 v2 v3):=
 fw Tryz.func255 (ax λv4 h1=>gR [[],[(13,oQ [(.agg [(.fn 311 [])]),(cB v1),(a7 v2),(a7 v3)] [.cells (cB v1).cells, .cells (a7 v2).cells, .cells (a7 v3).cells, .cells lA] [] (aki _ h1))]])
def Rg(N:Nat)(v1:aF)(v2:Int64)(v3:Int64):anF (Int64×Int):=
 some ((v2-v3),(0:Int))
theorem ah6{N v1 v2 v3}:KO 312 [(cB v1),(aT v2),(aT v3)] (λr=> .aQ [(aT r.1),(au r.2)]) (Rg N v1 v2 v3):=
 fw Tryz.func312 (gR [[],[(8,⟨_,_, .eq (wy v2 v3)⟩)]])
def LF(N:Nat)(v1:aF)(v2:aB)(v3:aB):anF (aB×Int):=
 Option.bind (qN N v1 ([v2,v3])) λv4=>
 bif (v4 !=0)then
  some (bZ,v4)
 else
  (Rg N v1 v2.xN v3.xN).bind λv5=>
  bif (v5.2 !=0)then
   some (bZ,v5.2)
  else
   (om N v1 v5.1).bind λv6=>
   some (v6,(0:Int))
theorem akg{N v1 v2 v3}:KP 309 [(.agg [(.fn 312 [])]),(cB v1),(a7 v2),(a7 v3)] [] (λr=> .aQ [(a7 r.1),(au r.2)]) (λ_=>[]) (LF N v1 v2 v3):=
 fh 0 Tryz.func309 (ax λv4 h1=>gA [[],[(13,cK AR h1)],[]] (ay (λh2=>gH [[t0 h2],[]]) λh2=>ax λv5 h3=>gA [[f0 h2],[(22,cK ah6 h3)],[]] (ay (λh4=>gH [[t0 h4],[]]) λh4=>ax λv6 h5=>gH [[f0 h4],[(7,cK zc h5)]])))
def Cl(N:Nat)(v1:aF)(v2:aB)(v3:aB):anF (aB×Int):=
 (LF N v1 v2 v3).bind λv4=>
 some (v4.1,v4.2)
theorem afT{N v1 v2 v3}:KO 256 [(cB v1),(a7 v2),(a7 v3)] (λr=> .aQ [(a7 r.1),(au r.2)]) (Cl N v1 v2 v3):=
 fw Tryz.func256 (ax λv4 h1=>gR [[],[(13,oQ [(.agg [(.fn 312 [])]),(cB v1),(a7 v2),(a7 v3)] [.cells (cB v1).cells, .cells (a7 v2).cells, .cells (a7 v3).cells, .cells lA] [] (akg _ h1))]])
def Fu(N:Nat)(v1:Int):anF Bool:=
 Option.bind (bif (decide (v1>=1))then some (decide (v1<=4))else some false) λv2=>
 some v2
theorem UH{N v1}:KO 306 [(au v1)] aC (Fu N v1):=
 fw Tryz.func306 (gA [[]] (gG (λv2=>[(2,(aC v2))]) (λ_=>[]) (ay (λh1=>gE [(2,bT h1)] []) λh1=>gE [(2,bF h1)] []) λv2=>gR []))
def C8(N:Nat)(v1:Int64):anF Int:=
 bif (decide (v1.toInt<0))then
  some (IntKind.u64.wrap (0-(IntKind.u64.wrap v1.toInt)))
 else
  some (IntKind.u64.wrap v1.toInt)
theorem Xy{N v1}:KO 354 [(aT v1)] (λr=> .d (.v (.int .u64 r))) (C8 N v1):=
 fw Tryz.func354 (gA [[],[]] (bN λh1=>gR [[f0 h1],[]]))
def Oa(N:Nat)(v1 v2:Int)(v3:Bool)(v4:Int):anF Int:=bif v2 !=0then some (sG v1 v2 v3 v4)else none
theorem adw{N v1 v2 v3 v4 r}(J:Oa N v1 v2 v3 v4=some r):gn Tryz.prog 353 [(.d (.v (.int .u64 v1))),(.d (.v (.int .u64 v2))),(aC v3),(au v4)] (·=(.d (.v (.int .u64 r)))):=ZV v1 v2 v3 v4 r J
def Am(N:Nat)(v1:Int64)(v2:Int64)(v3:Int):anF (Int64×Int):=
 (Fu N v3).bind λv4=>
 bif v4 then
  bif (v2.toInt==0)then
   some ((0:Int64),(4:Int))
  else
   (C8 N v1).bind λv5=>
   (C8 N v2).bind λv6=>
   Option.bind (Oa N v5 v6 (!((decide (v1.toInt<0))==(decide (v2.toInt<0)))) v3) λv7=>
   bif ((decide (v1.toInt<0))==(decide (v2.toInt<0)))then
    bif (decide (v7>=9223372036854775808))then
     some ((0:Int64),(3:Int))
    else
     some ((Int64.ofInt v7),(0:Int))
   else
    some ((Int64.ofInt (IntKind.u64.wrap (0-v7))),(0:Int))
 else
  some ((0:Int64),(1:Int))
theorem PV{N v1 v2 v3}:KO 307 [(aT v1),(aT v2),(au v3)] (λr=> .aQ [(aT r.1),(au r.2)]) (Am N v1 v2 v3):=
 fw Tryz.func307 (ax λv4 h1=>gA [[],[(4,cK UH h1)]] (mu λh2=>gA [[f0 (du h2)],[]] (bN λh3=>ax λv5 h4=>ax λv6 h5=>ax λv7 h6=>gA [[f0 h3],[],[(4,cK Xy h4),(10,cK Xy h5),(19,cL (adw h6))],[]] (ay (λh7=>gA [[f0 (du h7)],[]] (bN λh8=>gR [[f0 h8],[(5,⟨_,_, .eq (iZ v7)⟩)]])) λh7=>gR [[t0 (dD h7)],[(8,⟨_,_, .eq (iZ (IntKind.u64.wrap (0-v7)))⟩)]]))))
def N8(N:Nat)(v1:aF)(v2:Int64)(v3:Int64):anF (Int64×Int):=
 bif (decide ((0:Int)<=v1.bM))then
 Option.bind (Am N (v2*v3) (Int64.ofInt ((1:Int)*2^(min (v1.bM).toNat (IntKind.bits .i64)))) v1.b5) λv4=>
 some (v4.1,v4.2)
 else none
theorem aet{N v1 v2 v3}:KO 313 [(cB v1),(aT v2),(aT v3)] (λr=> .aQ [(aT r.1),(au r.2)]) (N8 N v1 v2 v3):=
 fw Tryz.func313 (gy λh1=>ax λv4 h2=>gR [[],[(8,⟨_,_, .eq (mh v2 v3)⟩),(16,⟨_,_, .nn (b:=v1.bM) (of_decide_eq_true h1)⟩),(17,⟨_,_, .eq (iZ ((1:Int)*2^(min (v1.bM).toNat (IntKind.bits .i64))))⟩),(25,cK PV h2)]])
def MW(N:Nat)(v1:aF)(v2:aB)(v3:aB):anF (aB×Int):=
 Option.bind (qN N v1 ([v2,v3])) λv4=>
 bif (v4 !=0)then
  some (bZ,v4)
 else
  (N8 N v1 v2.xN v3.xN).bind λv5=>
  bif (v5.2 !=0)then
   some (bZ,v5.2)
  else
   (om N v1 v5.1).bind λv6=>
   some (v6,(0:Int))
theorem amm{N v1 v2 v3}:KP 309 [(.agg [(.fn 313 [])]),(cB v1),(a7 v2),(a7 v3)] [] (λr=> .aQ [(a7 r.1),(au r.2)]) (λ_=>[]) (MW N v1 v2 v3):=
 fh 0 Tryz.func309 (ax λv4 h1=>gA [[],[(13,cK AR h1)],[]] (ay (λh2=>gH [[t0 h2],[]]) λh2=>ax λv5 h3=>gA [[f0 h2],[(22,cK aet h3)],[]] (ay (λh4=>gH [[t0 h4],[]]) λh4=>ax λv6 h5=>gH [[f0 h4],[(7,cK zc h5)]])))
def Ei(N:Nat)(v1:aF)(v2:aB)(v3:aB):anF (aB×Int):=
 (MW N v1 v2 v3).bind λv4=>
 some (v4.1,v4.2)
theorem akV{N v1 v2 v3}:KO 257 [(cB v1),(a7 v2),(a7 v3)] (λr=> .aQ [(a7 r.1),(au r.2)]) (Ei N v1 v2 v3):=
 fw Tryz.func257 (ax λv4 h1=>gR [[],[(13,oQ [(.agg [(.fn 313 [])]),(cB v1),(a7 v2),(a7 v3)] [.cells (cB v1).cells, .cells (a7 v2).cells, .cells (a7 v3).cells, .cells lA] [] (amm _ h1))]])
def Mf(N:Nat)(v1:aF)(v2:Int64)(v3:Int64):anF (Int64×Int):=
 bif (decide ((0:Int)<=v1.bM))then
 Option.bind (Am N (Int64.ofInt (v2.toInt*2^(min (v1.bM).toNat (IntKind.bits .i64)))) v3 v1.b5) λv4=>
 some (v4.1,v4.2)
 else none
theorem ahH{N v1 v2 v3}:KO 314 [(cB v1),(aT v2),(aT v3)] (λr=> .aQ [(aT r.1),(au r.2)]) (Mf N v1 v2 v3):=
 fw Tryz.func314 (gy λh1=>ax λv4 h2=>gR [[],[(10,⟨_,_, .nn (b:=v1.bM) (of_decide_eq_true h1)⟩),(11,⟨_,_, .eq (iZ (v2.toInt*2^(min (v1.bM).toNat (IntKind.bits .i64))))⟩),(22,cK PV h2)]])
def Rj(N:Nat)(v1:aF)(v2:aB)(v3:aB):anF (aB×Int):=
 Option.bind (qN N v1 ([v2,v3])) λv4=>
 bif (v4 !=0)then
  some (bZ,v4)
 else
  (Mf N v1 v2.xN v3.xN).bind λv5=>
  bif (v5.2 !=0)then
   some (bZ,v5.2)
  else
   (om N v1 v5.1).bind λv6=>
   some (v6,(0:Int))
theorem ZX{N v1 v2 v3}:KP 309 [(.agg [(.fn 314 [])]),(cB v1),(a7 v2),(a7 v3)] [] (λr=> .aQ [(a7 r.1),(au r.2)]) (λ_=>[]) (Rj N v1 v2 v3):=
 fh 0 Tryz.func309 (ax λv4 h1=>gA [[],[(13,cK AR h1)],[]] (ay (λh2=>gH [[t0 h2],[]]) λh2=>ax λv5 h3=>gA [[f0 h2],[(22,cK ahH h3)],[]] (ay (λh4=>gH [[t0 h4],[]]) λh4=>ax λv6 h5=>gH [[f0 h4],[(7,cK zc h5)]])))
def CG(N:Nat)(v1:aF)(v2:aB)(v3:aB):anF (aB×Int):=
 (Rj N v1 v2 v3).bind λv4=>
 some (v4.1,v4.2)
theorem afy{N v1 v2 v3}:KO 258 [(cB v1),(a7 v2),(a7 v3)] (λr=> .aQ [(a7 r.1),(au r.2)]) (CG N v1 v2 v3):=
 fw Tryz.func258 (ax λv4 h1=>gR [[],[(13,oQ [(.agg [(.fn 314 [])]),(cB v1),(a7 v2),(a7 v3)] [.cells (cB v1).cells, .cells (a7 v2).cells, .cells (a7 v3).cells, .cells lA] [] (ZX _ h1))]])
def uc(N:Nat)(v1:Int64)(v2:Int64):anF (aB×Int):=
 bif (v2.toInt==0)then
  some (bZ,(4:Int))
 else
  (yO N v1).bind λv3=>
  (yO N v2).bind λv4=>
  (Ck N v3 v4).bind λv5=>
  bif (v5 !=0)then
  Option.bind (bif (decide ((IntKind.u64.wrap ((v3).tdiv v5))>2147483647))then some true else some (decide ((IntKind.u64.wrap ((v4).tdiv v5))>2147483647))) λv6=>
  bif v6 then
   some (bZ,(3:Int))
  else
   bif ((decide (v1.toInt<0))==(decide (v2.toInt<0)))then
    some ((⟨(Int64.ofInt (IntKind.u64.wrap ((v3).tdiv v5))),(Int64.ofInt (IntKind.u64.wrap ((v4).tdiv v5)))⟩:aB),(0:Int))
   else
    some ((⟨(-(Int64.ofInt (IntKind.u64.wrap ((v3).tdiv v5)))),(Int64.ofInt (IntKind.u64.wrap ((v4).tdiv v5)))⟩:aB),(0:Int))
  else none
theorem EM{N v1 v2}:KO 305 [(aT v1),(aT v2)] (λr=> .aQ [(a7 r.1),(au r.2)]) (uc N v1 v2):=
 fw Tryz.func305 (gA [[],[]] (bN λh1=>ax λv3 h2=>ax λv4 h3=>ax λv5 h4=>gy λh5=>gA [[f0 h1],[],[(4,cK Pd h2),(10,cK Pd h3)],[(7,cK Ys h4)],[(7,⟨_,_, .nz (b:=v5) (bne_iff_ne.1 h5)⟩),(16,⟨_,_, .nz (b:=v5) (bne_iff_ne.1 h5)⟩)]] (gG (λv6=>[(36,(aC v6))]) (λ_=>[.cells lA]) (ay (λh7=>gE [(2,bT h7)] []) λh7=>gE [(2,bF h7)] []) λv6=>gF λ_=>ay (λbk=>gR [[f0 (du bk)],[(5,⟨_,_, .eq (iZ (IntKind.u64.wrap ((v3).tdiv v5)))⟩),(11,⟨_,_, .eq (iZ (IntKind.u64.wrap ((v4).tdiv v5)))⟩)]]) λbk=>gR [[t0 (dD bk)],[(5,⟨_,_, .eq (iZ (IntKind.u64.wrap ((v3).tdiv v5)))⟩),(8,⟨_,_, .eq (HV (Int64.ofInt (IntKind.u64.wrap ((v3).tdiv v5))))⟩),(14,⟨_,_, .eq (iZ (IntKind.u64.wrap ((v4).tdiv v5)))⟩)]])))
def DK(N:Nat)(v1:aB)(v2:aB):anF (aB×Int):=
 (jO N v1).bind λv3=>
 Option.bind (bif v3 then (jO N v2).bind λv4=>
 some (!v4)else some true) λv5=>
 bif v5 then
  some (bZ,(1:Int))
 else
  Option.bind (uc N ((v1.xN*v2.xD)+(v2.xN*v1.xD)) (v1.xD*v2.xD)) λv6=>
  some (v6.1,v6.2)
theorem ab5{N v1 v2}:KO 259 [(a7 v1),(a7 v2)] (λr=> .aQ [(a7 r.1),(au r.2)]) (DK N v1 v2):=
 fw Tryz.func259 (gA [[]] (ax λv3 h1=>gG (λv5=>[(13,(aC v5))]) (λ_=>[.cells (a7 v1).cells, .cells (a7 v2).cells, .cells lA]) (cP (4,cK mW h1) (ay (λh2=>ax λv4 h3=>gE [(3,bF (du h2))] [(16,cK mW h3)]) λh2=>gE [(3,bT (dD h2))] [])) λv5=>bN λh5=>ax λv6 h6=>gR [[f0 h5],[(14,⟨_,_, .eq (mh v1.xN v2.xD)⟩),(29,⟨_,_, .eq (mh v2.xN v1.xD)⟩),(32,⟨_,_, .eq (CI (v1.xN*v2.xD) (v2.xN*v1.xD))⟩),(47,⟨_,_, .eq (mh v1.xD v2.xD)⟩),(49,cK EM h6)]]))
def Bn(N:Nat)(v1:aB)(v2:aB):anF (aB×Int):=
 (jO N v1).bind λv3=>
 Option.bind (bif v3 then (jO N v2).bind λv4=>
 some (!v4)else some true) λv5=>
 bif v5 then
  some (bZ,(1:Int))
 else
  Option.bind (uc N ((v1.xN*v2.xD)-(v2.xN*v1.xD)) (v1.xD*v2.xD)) λv6=>
  some (v6.1,v6.2)
theorem abS{N v1 v2}:KO 260 [(a7 v1),(a7 v2)] (λr=> .aQ [(a7 r.1),(au r.2)]) (Bn N v1 v2):=
 fw Tryz.func260 (gA [[]] (ax λv3 h1=>gG (λv5=>[(13,(aC v5))]) (λ_=>[.cells (a7 v1).cells, .cells (a7 v2).cells, .cells lA]) (cP (4,cK mW h1) (ay (λh2=>ax λv4 h3=>gE [(3,bF (du h2))] [(16,cK mW h3)]) λh2=>gE [(3,bT (dD h2))] [])) λv5=>bN λh5=>ax λv6 h6=>gR [[f0 h5],[(14,⟨_,_, .eq (mh v1.xN v2.xD)⟩),(29,⟨_,_, .eq (mh v2.xN v1.xD)⟩),(32,⟨_,_, .eq (wy (v1.xN*v2.xD) (v2.xN*v1.xD))⟩),(47,⟨_,_, .eq (mh v1.xD v2.xD)⟩),(49,cK EM h6)]]))
def Eb(N:Nat)(v1:aB)(v2:aB):anF (aB×Int):=
 (jO N v1).bind λv3=>
 Option.bind (bif v3 then (jO N v2).bind λv4=>
 some (!v4)else some true) λv5=>
 bif v5 then
  some (bZ,(1:Int))
 else
  Option.bind (uc N (v1.xN*v2.xN) (v1.xD*v2.xD)) λv6=>
  some (v6.1,v6.2)
theorem ajA{N v1 v2}:KO 261 [(a7 v1),(a7 v2)] (λr=> .aQ [(a7 r.1),(au r.2)]) (Eb N v1 v2):=
 fw Tryz.func261 (gA [[]] (ax λv3 h1=>gG (λv5=>[(13,(aC v5))]) (λ_=>[.cells (a7 v1).cells, .cells (a7 v2).cells, .cells lA]) (cP (4,cK mW h1) (ay (λh2=>ax λv4 h3=>gE [(3,bF (du h2))] [(16,cK mW h3)]) λh2=>gE [(3,bT (dD h2))] [])) λv5=>bN λh5=>ax λv6 h6=>gR [[f0 h5],[(14,⟨_,_, .eq (mh v1.xN v2.xN)⟩),(29,⟨_,_, .eq (mh v1.xD v2.xD)⟩),(31,cK EM h6)]]))
def Eo(N:Nat)(v1:aB)(v2:aB):anF (aB×Int):=
 (jO N v1).bind λv3=>
 Option.bind (bif v3 then (jO N v2).bind λv4=>
 some (!v4)else some true) λv5=>
 bif v5 then
  some (bZ,(1:Int))
 else
  Option.bind (uc N (v1.xN*v2.xD) (v1.xD*v2.xN)) λv6=>
  some (v6.1,v6.2)
theorem aaa{N v1 v2}:KO 262 [(a7 v1),(a7 v2)] (λr=> .aQ [(a7 r.1),(au r.2)]) (Eo N v1 v2):=
 fw Tryz.func262 (gA [[]] (ax λv3 h1=>gG (λv5=>[(13,(aC v5))]) (λ_=>[.cells (a7 v1).cells, .cells (a7 v2).cells, .cells lA]) (cP (4,cK mW h1) (ay (λh2=>ax λv4 h3=>gE [(3,bF (du h2))] [(16,cK mW h3)]) λh2=>gE [(3,bT (dD h2))] [])) λv5=>bN λh5=>ax λv6 h6=>gR [[f0 h5],[(14,⟨_,_, .eq (mh v1.xN v2.xD)⟩),(29,⟨_,_, .eq (mh v1.xD v2.xN)⟩),(31,cK EM h6)]]))
def Ho(N:Nat)(v1:Int)(v2:aF)(v3:aB)(v4:aB):anF (aB×Int):=
 bif (v2.aL==3)then
  (CX N v1 v3.xN v4.xN).bind λv5=>
  some (v5.1,v5.2)
 else
  Option.bind (bif (v1==4)then some (v2.aL==2)else some false) λv6=>
  bif v6 then
   (CS N v2 v3 v4).bind λv7=>
   some (v7.1,v7.2)
  else
   Option.bind (bif (v1==5)then some (v2.aL==2)else some false) λv8=>
   bif v8 then
    (Cl N v2 v3 v4).bind λv9=>
    some (v9.1,v9.2)
   else
    Option.bind (bif (v1==6)then some (v2.aL==2)else some false) λv10=>
    bif v10 then
     (Ei N v2 v3 v4).bind λv11=>
     some (v11.1,v11.2)
    else
     bif (v2.aL==2)then
      (CG N v2 v3 v4).bind λv12=>
      some (v12.1,v12.2)
     else
      bif (v1==4)then
       (DK N v3 v4).bind λaW=>
       some (aW.1,aW.2)
      else
       bif (v1==5)then
        (Bn N v3 v4).bind λbX=>
        some (bX.1,bX.2)
       else
        bif (v1==6)then
         (Eb N v3 v4).bind λb7=>
         some (b7.1,b7.2)
        else
         (Eo N v3 v4).bind λfO=>
         some (fO.1,fO.2)
def P4(v2:aF)(v3:aB)(v4:aB)(l:anD ao):anD ao:= .cells (cB v2).cells:: .cells (a7 v3).cells:: .cells (a7 v4).cells:: .cells lA::l
theorem aax{N v1 v2 v3 v4}:KO 198 [(au v1),(cB v2),(a7 v3),(a7 v4)] (λr=> .aQ [(a7 r.1),(au r.2)]) (Ho N v1 v2 v3 v4):=
 fw Tryz.func198 (gA [[],[],[]] (ay (λh1=>ax λv5 h2=>gR [[t0 h1],[(16,cK abE h2)]]) λh1=>gA [[f0 h1]] (gG (λv6=>[(26,(aC v6))]) (λ_=>(P4 v2 v3 v4 [])) (ay (λh3=>gE [(2,bT h3)] []) λh3=>gE [(2,bF h3)] []) λv6=>ay (λh5=>ax λv7 h6=>gR [[t0 h5],[(10,cK agx h6)]]) λh5=>gA [[f0 h5]] (gG (λv8=>[(38,(aC v8))]) (λ_=>(P4 v2 v3 v4 [])) (ay (λh7=>gE [(2,bT h7)] []) λh7=>gE [(2,bF h7)] []) λv8=>ay (λh9=>ax λv9 bk=>gR [[t0 h9],[(10,cK afT bk)]]) λh9=>gA [[f0 h9]] (gG (λv10=>[(50,(aC v10))]) (λ_=>(P4 v2 v3 v4 [])) (ay (λbo=>gE [(2,bT bo)] []) λbo=>gE [(2,bF bo)] []) λv10=>ay (λcf=>ax λv11 ct=>gR [[t0 cf],[(10,cK akV ct)]]) λcf=>gA [[f0 cf],[]] (ay (λcq=>ax λv12 bH=>gR [[t0 cq],[(10,cK afy bH)]]) λcq=>gA [[f0 cq],[]] (ay (λcE=>ax λaW cY=>gR [[t0 cE],[(7,cK ab5 cY)]]) λcE=>gA [[f0 cE],[]] (ay (λdC=>ax λbX dj=>gR [[t0 dC],[(7,cK abS dj)]]) λdC=>gA [[f0 dC],[]] (ay (λfx=>ax λb7 iz=>gR [[t0 fx],[(7,cK ajA iz)]]) λfx=>ax λfO iB=>gR [[f0 fx],[(7,cK aaa iB)]])))))))))
def yB(N:Nat)(v2:aF)(v3:aB)(v4:aB)(v1:Int)(v11:Bool):anF (aB×Int):=
 bif v11 then
  (zy N v2 v3 v4).bind λv12=>
  Option.bind (bif ((decide (v12>0))==(v1==9))then some (v12 !=0)else some false) λaW=>
  bif aW then
   some (v4,(0:Int))
  else
   some (v3,(0:Int))
 else
  (Ho N v1 v2 v3 v4).bind λbX=>
  some (bX.1,bX.2)
def xJ(N:Nat)(v1:Int)(v2:aF)(v3:aB)(v4:aB):anF (aB×Int):=
 Option.bind (bif (decide (v1<4))then some true else some (decide (v1>10))) λv5=>
 bif v5 then
  some (bZ,(1:Int))
 else
  (nf N v2).bind λv6=>
  bif (v6 !=0)then
   some (bZ,(10:Int))
  else
   (ox N v2 v3).bind λv7=>
   Option.bind (bif v7 then(bif (v1 !=8)then (ox N v2 v4).bind λv8=>
   some (!v8)else some false)else some true) λv9=>
   bif v9 then
    some (bZ,(1:Int))
   else
    bif (v1==8)then
     (Hy N v2 v3).bind λv10=>
     some (v10.1,v10.2)
    else
     bif (v1==9)then
      yB N v2 v3 v4 v1 (v1==9)
     else
      yB N v2 v3 v4 v1 (v1==10)
def FB(v2:aF)(v3:aB)(v4:aB)(l:anD ao):anD ao:= .cells (cB v2).cells:: .cells (a7 v3).cells:: .cells (a7 v4).cells:: .cells lA::l
theorem Ly{N v1 v2 v3 v4}:KO 127 [(au v1),(cB v2),(a7 v3),(a7 v4)] (λr=> .aQ [(a7 r.1),(au r.2)]) (xJ N v1 v2 v3 v4):=
 fw Tryz.func127 (gA [[]] (gG (λv5=>[(11,(aC v5))]) (λ_=>(FB v2 v3 v4 [])) (ay (λh1=>gE [(2,bT h1)] []) λh1=>gE [(2,bF h1)] []) λv5=>bN λh3=>ax λv6 h4=>gA [[f0 h3],[(4,cK qT h4)]] (bN λh5=>gA [[f0 h5]] (ax λv7 h6=>gG (λv9=>[(24,(aC v9))]) (λ_=>(FB v2 v3 v4 [])) (cP (7,cK xu h6) (ay (λh7=>cm (4,bF (du h7)) (ay (λh8=>ax λv8 h9=>gE [(7,bT h8)] [(31,cK xu h9),(37,bT h8)]) λh8=>gE [(7,bF h8)] [(37,bF h8)])) λh7=>gE [(4,bT (dD h7)),(7,uN)] [])) λv9=>bN λbo=>gA [[f0 bo],[],[]] (ay (λbJ=>ax λv10 cf=>gR [[t0 bJ],[(7,cK alJ cf)]]) λbJ=>lH 1 [[f0 bJ],[]] [0,5,6,7,8,48] 4 (λ(v11:Bool)=>⟨73,[(0,(au v1)),(5,(.ptr 0 0)),(6,(.ptr 1 0)),(7,(.ptr 2 0)),(8,(.ptr 3 0)),(48,(aC v11))],(FB v2 v3 v4 [])⟩) (yB N v2 v3 v4 v1) (λf1 aK=>ay (λdj=>gm aK (v1==9) [[t0 dj]]) λdj=>gm aK (v1==10) [[f0 dj],[]]) (λv11=>ay (λct=>ax λv12 cq=>gA [[t0 ct],[(10,cK PQ cq)]] (gG (λaW=>[(63,(aC aW))]) (λ_=>(FB v2 v3 v4 [])) (ay (λbH=>gE [(5,bT bH)] []) λbH=>gE [(5,bF bH)] []) λaW=>bN λcY=>gR [[f0 cY],[]])) λct=>ax λbX dC=>gR [[f0 ct],[(13,cK aax dC)]]))))))
def ta(N:Nat)(v1:aF)(v2:aB):anF an:=
 some (⟨(1:Int),(bs []),v2,v1,dI,[],[]⟩:an)
theorem D0{N v1 v2}:KO 167 [(cB v1),(a7 v2)] aA (ta N v1 v2):=
 fw Tryz.func167 (gR [[],[]])
def BR(N:Nat)(v1:fb):anF (an×Bool):=
 (PS N v1).bind λv2=>
 Option.bind (bif v2 then some false else some (v1.yE.aq !=8)) λv3=>
 bif v3 then
  some (fg,false)
 else
  Option.bind (v1.yE.aw[0]?) λv4=>
  bif (decide ((0:Int)<=(aS ((v1.yE.aw.length:Int)-(1:Int)))))then
  Option.bind (v1.yE.aw[((aS ((v1.yE.aw.length:Int)-(1:Int)))).toNat]?) λv5=>
  Option.bind (bif (v4.aq !=1)then some true else(bif (v5.aq !=1)then some true else some (!((v4.aD.aL==v5.aD.aL)&&((v4.aD.bY==v5.aD.bY)&&((v4.aD.bM==v5.aD.bM)&&((v4.aD.b5==v5.aD.b5)&&((v4.aD.bK==v5.aD.bK)&&true)))))))) λv6=>
  bif v6 then
   some (fg,false)
  else
   (xJ N v1.yE.aq v4.aD v4.bg v5.bg).bind λv7=>
   (ta N v4.aD v7.1).bind λv8=>
   some (v8,(v7.2==0))
  else none
theorem ais{N v1}:KO 103 [(cQ v1)] (λr=> .aQ [(aA r.1),(aC r.2)]) (BR N v1):=
 fw Tryz.func103 (gA [[]] (ax λv2 h1=>gG (λv3=>[(16,(aC v3))]) (λ_=>[.cells (cQ v1).cells, .cells iW]) (cP (4,cK XN h1) (ay (λh2=>gE [(3,bF (du h2))] []) λh2=>gE [(3,bT (dD h2))] [])) λv3=>bN λh4=>ax λv4 h5=>gy λh7=>ax λv5 h6=>gA [[f0 h4],[(10,oE (k:=0) (cn h5))],[(19,oL v1.yE.aw fS),(25,⟨_,_, .el (xs:=dh v1.yE.aw) (i:=(aS ((v1.yE.aw.length:Int)-(1:Int)))) (of_decide_eq_true h7) (cn h6)⟩)]] (gG (λv6=>[(47,(aC v6))]) (λ_=>[.cells (cQ v1).cells, .cells iW, .cells (aA v4).cells, .cells (aA v5).cells]) (ay (λh8=>gE [(3,bT h8),(8,bT rfl)] []) λh8=>cm (3,bF h8) (ay (λh9=>gE [(8,bT h9)] []) λh9=>gE [(8,bF h9)] [])) λv6=>bN λbo=>ax λv7 bJ=>ax λv8 cf=>gR [[f0 bo],[(28,cK Ly bJ)],[(10,cK D0 cf)]])))
def C0(N:Nat)(v9:an×Bool)(v10:anE)(v11:Int)(v12:anE)(aW:Int64)(bX:Int64)(b7:Int)(fO:Int)(b6:Int)(aU:Int)(cD:Int)(v20:Int64)(v21:anD bf)(jU:anD aN)(fi:anD an):anF (Bool×anE×an):=
 some (v9.2,v10,(⟨v11,v12,(⟨aW,bX⟩:aB),(⟨b7,fO,b6,aU,cD⟩:aF),(⟨v20,v21⟩:aP),jU,fi⟩:an))
def ym(N:Nat)(v1:fb)(v2:anE)(v3:anE)(v4:Int)(v5:anE)(v6:aB)(v7:aF)(v8:Int64):anF (Bool×anE×an):=
 (BR N v1).bind λv9=>
 bif v9.2 then
  C0 N v9 v2 v9.1.aq v9.1.aO v9.1.bg.xN v9.1.bg.xD v9.1.aD.aL v9.1.aD.bY v9.1.aD.bM v9.1.aD.b5 v9.1.aD.bK v9.1.aM.xK v9.1.aM.xL v9.1.xIdx v9.1.aw
 else
  C0 N v9 v3 v4 v5 v6.xN v6.xD v7.aL v7.bY v7.bM v7.b5 v7.bK v8 [] [] []
theorem aiK{N v1 v2 v3 v4 v5 v6 v7 v8 r}(J:ym N v1 v2 v3 v4 v5 v6 v7 v8=some r):KH 102 [(cQ v1),(.fn 103 []),(bu v2),(.ptr 0 0),(.ptr 1 0)] ([.cells [(bu v3)], .cells ((au v4)::(bu v5)::(aT v6.xN)::(aT v6.xD)::cf1 v7 [(aT v8),(.d (.v (.slice none 0 0))),(.d (.v (.slice none 0 0))),(.d (.v (.slice none 0 0)))])]) (aC r.1) ([.cells [(bu r.2.1)], .cells (aA r.2.2).cells]):=by
 rw[ym]at J;refine tF 2 Tryz.func102 ?_;obtain⟨v9,h1,J⟩:=b8 J;refine Dq aX 1 [[],[(7,cK ais h1)],[]] [12] 4 (λ((v10,v11,v12,aW,bX,b7,fO,b6,aU,cD,v20,v21,jU,fi):anE×Int×anE×Int64×Int64×Int×Int×Int×Int×Int×Int64×(anD bf)×(anD aN)×(anD an))=>⟨27,[(12,(aC v9.2))],[.cells [(bu v10)], .cells [(au v11),(bu v12),(aT aW),(aT bX),(au b7),(au fO),(au b6),(au aU),(au cD),(aT v20),(.d (.sl (cC v21))),(.d (.sl (cH jU))),(.d (.sl (dh fi)))], .cells (cQ v1).cells, .cells (aA v9.1).cells]⟩) (λ((v10,v11,v12,aW,bX,b7,fO,b6,aU,cD,v20,v21,jU,fi):anE×Int×anE×Int64×Int64×Int×Int×Int×Int×Int×Int64×(anD bf)×(anD aN)×(anD an))=>C0 N v9 v10 v11 v12 aW bX b7 fO b6 aU cD v20 v21 jU fi=some r) ?_ ?_
 ·intro f1 aK;apply bc J<;>intro h2 J
  ·exact lf aX aK (v2,v9.1.aq,v9.1.aO,v9.1.bg.xN,v9.1.bg.xD,v9.1.aD.aL,v9.1.aD.bY,v9.1.aD.bM,v9.1.aD.b5,v9.1.aD.bK,v9.1.aM.xK,v9.1.aM.xL,v9.1.xIdx,v9.1.aw) [[(0,bT h2)],[]] J
  exact lf aX aK (v3,v4,v5,v6.xN,v6.xD,v7.aL,v7.bY,v7.bM,v7.b5,v7.bK,v8,[],[],[]) [[(0,bF h2)]] J
 rintro⟨v10,v11,v12,aW,bX,b7,fO,b6,aU,cD,v20,v21,jU,fi⟩ J
 try dsimp only at J
 rw[C0]at J;cases J;exact iV aX [[]]
def KE(N:Nat)(v1:aF)(v2:aB):anF (aB×Int):=
 Option.bind (qN N v1 [v2]) λv3=>
 bif (v3 !=0)then
  some (bZ,v3)
 else
  bif (decide ((0:Int)<=v1.bM))then
  Option.bind (uc N v2.xN (Int64.ofInt ((1:Int)*2^(min (v1.bM).toNat (IntKind.bits .i64))))) λv4=>
  some (v4.1,v4.2)
  else none
theorem aix{N v1 v2}:KO 250 [(cB v1),(a7 v2)] (λr=> .aQ [(a7 r.1),(au r.2)]) (KE N v1 v2):=
 fw Tryz.func250 (ax λv3 h1=>gA [[],[(10,cK AR h1)],[]] (bN λh2=>gy λh3=>ax λv4 h4=>gR [[f0 h2],[(13,⟨_,_, .nn (b:=v1.bM) (of_decide_eq_true h3)⟩),(14,⟨_,_, .eq (iZ ((1:Int)*2^(min (v1.bM).toNat (IntKind.bits .i64))))⟩),(16,cK EM h4)]]))
def Jq(N:Nat)(v1:aF)(v2:aB):anF aB:=
 bif (v1.aL==2)then
  (KE N v1 v2).bind λv3=>
  some v3.1
 else
  some v2
theorem aaw{N v1 v2}:KO 194 [(cB v1),(a7 v2)] a7 (Jq N v1 v2):=
 fw Tryz.func194 (gA [[],[]] (ky λh1=>ax λv3 h2=>gR [[t0 h1],[(7,cK aix h2)],[]]))
def Ko(N:Nat)(v3:Int64):anF Int64:=
 some v3
def Bv(N:Nat)(v1:aB):anF Int64:=
 (jO N v1).bind λv2=>
 bif v2 then
  bif (v1.xD.toInt !=0)then
  bif (decide ((Int64.ofInt ((v1.xN.toInt).tmod v1.xD.toInt)).toInt<0))then
   Ko N ((Int64.ofInt ((v1.xN.toInt).tdiv v1.xD.toInt))-(1:Int64))
  else
   Ko N (Int64.ofInt ((v1.xN.toInt).tdiv v1.xD.toInt))
  else none
 else
  some (0:Int64)
theorem ajV{N v1}:KO 195 [(a7 v1)] aT (Bv N v1):=
 fw Tryz.func195 (ax λv2 h1=>gA [[],[(4,cK mW h1)]] (mu λh2=>gy λh3=>lH 1 [[f0 (du h2)],[(13,⟨_,_, .nz (b:=v1.xD.toInt) (bne_iff_ne.1 h3)⟩),(14,⟨_,_, .eq (iZ ((v1.xN.toInt).tdiv v1.xD.toInt))⟩)],[(13,⟨_,_, .nz (b:=v1.xD.toInt) (bne_iff_ne.1 h3)⟩),(14,⟨_,_, .eq (Yi v1.xN v1.xD.toInt)⟩)]] [3] 1 (λ(v3:Int64)=>⟨21,[(3,(aT v3))],[.cells (a7 v1).cells]⟩) (Ko N) (λf1 aK=>ay (λh4=>gm aK ((Int64.ofInt ((v1.xN.toInt).tdiv v1.xD.toInt))-(1:Int64)) [[t0 h4],[(5,⟨_,_, .eq (wy (Int64.ofInt ((v1.xN.toInt).tdiv v1.xD.toInt)) (1:Int64))⟩)]]) λh4=>gm aK (Int64.ofInt ((v1.xN.toInt).tdiv v1.xD.toInt)) [[f0 h4]]) (λv3=>gR [[]])))
def N5(N:Nat)(v1:aB)(v2:Int)(v3:Int):anF (Int64×Int):=
 (jO N v1).bind λv4=>
 Option.bind (bif v4 then(bif (decide (v2<0))then some true else(bif (decide (v2>30))then some true else (Fu N v3).bind λv5=>
 some (!v5)))else some true) λv6=>
 bif v6 then
  some ((0:Int64),(1:Int))
 else
  bif (decide ((0:Int)<=(IntKind.u64.wrap v2)))then
  Option.bind (Am N (Int64.ofInt (v1.xN.toInt*2^(min ((IntKind.u64.wrap v2)).toNat (IntKind.bits .i64)))) v1.xD v3) λv7=>
  some (v7.1,v7.2)
  else none
theorem aiL{N v1 v2 v3}:KO 251 [(a7 v1),(au v2),(au v3)] (λr=> .aQ [(aT r.1),(au r.2)]) (N5 N v1 v2 v3):=
 fw Tryz.func251 (gA [[]] (ax λv4 h1=>gG (λv6=>[(23,(aC v6))]) (λ_=>[.cells (a7 v1).cells]) (cP (4,cK mW h1) (ay (λh2=>cm (3,bF (du h2)) (ay (λh3=>gE [(7,bT h3),(11,bT rfl)] []) λh3=>cm (7,bF h3) (ay (λh4=>gE [(11,bT h4)] []) λh4=>ax λv5 h5=>gE [(11,bF h4)] [(40,cK UH h5)]))) λh2=>gE [(3,bT (dD h2)),(7,bT rfl),(11,bT rfl)] [])) λv6=>bN λh7=>gy λh8=>ax λv7 h9=>gR [[f0 h7],[(13,⟨_,_, .nn (b:=(IntKind.u64.wrap v2)) (of_decide_eq_true h8)⟩),(14,⟨_,_, .eq (iZ (v1.xN.toInt*2^(min ((IntKind.u64.wrap v2)).toNat (IntKind.bits .i64))))⟩),(25,cK PV h9)]]))
def EB(N:Nat)(v1:aF)(v2:aB):anF (aB×Int):=
 (uX N v1).bind λv3=>
 bif (v3 !=0)then
  some (bZ,v3)
 else
  (N5 N v2 v1.bM v1.b5).bind λv4=>
  Option.bind (bif (v4.2 !=0)then some true else (jO N v2).bind λv5=>
  some (!v5)) λv6=>
  bif v6 then
   some (bZ,(1:Int))
  else
   (om N v1 v4.1).bind λv7=>
   some (v7,(0:Int))
theorem ab7{N v1 v2}:KO 196 [(cB v1),(a7 v2)] (λr=> .aQ [(a7 r.1),(au r.2)]) (EB N v1 v2):=
 fw Tryz.func196 (ax λv3 h1=>gA [[],[(4,cK Jz h1)],[]] (bN λh2=>ax λv4 h3=>gA [[f0 h2],[(16,cK aiL h3)]] (gG (λv6=>[(30,(aC v6))]) (λ_=>[.cells (cB v1).cells, .cells (a7 v2).cells, .cells lA]) (ay (λh4=>gE [(2,bT h4)] []) λh4=>ax λv5 h5=>gE [(2,bF h4)] [(13,cK mW h5)]) λv6=>bN λh7=>ax λv7 h8=>gR [[f0 h7],[(7,cK zc h8)]])))
def AF(N:Nat)(v1:aF)(v2:aF)(v3:aB):anF (aB×Int):=
 (nf N v1).bind λv4=>
 Option.bind (bif (v4 !=0)then some true else (nf N v2).bind λv5=>
 some (v5 !=0)) λv6=>
 bif v6 then
  some (bZ,(10:Int))
 else
  (ox N v1 v3).bind λv7=>
  bif v7 then
   (Jq N v1 v3).bind λv8=>
   bif (v2.aL==3)then
    (Bv N v8).bind λv9=>
    some ((⟨v9,(1:Int64)⟩:aB),(0:Int))
   else
    bif (v2.aL==2)then
     (EB N v2 v8).bind λv10=>
     some (v10.1,v10.2)
    else
     some (v8,(0:Int))
  else
   some (bZ,(1:Int))
theorem X1{N v1 v2 v3}:KO 126 [(cB v1),(cB v2),(a7 v3)] (λr=> .aQ [(a7 r.1),(au r.2)]) (AF N v1 v2 v3):=
 fw Tryz.func126 (gA [[]] (ax λv4 h1=>gG (λv6=>[(9,(aC v6))]) (λ_=>[.cells (cB v1).cells, .cells (cB v2).cells, .cells (a7 v3).cells, .cells lA]) (cP (4,cK qT h1) (ay (λh2=>gE [(3,bT h2)] []) λh2=>ax λv5 h3=>gE [(3,bF h2)] [(16,cK qT h3)])) λv6=>bN λh5=>ax λv7 h6=>gA [[f0 h5],[(7,cK xu h6)]] (mu λh7=>ax λv8 h8=>gA [[f0 (du h7)],[(7,cK aaw h8)],[],[]] (ay (λh9=>ax λv9 bk=>gR [[t0 h9],[(4,cK ajV bk)]]) λh9=>gA [[f0 h9],[]] (ky λbo=>ax λv10 bJ=>gR [[t0 bo],[(7,cK ab7 bJ)]])))))
def wW(N:Nat)(v1:gv)(v2:gv):anF gv:=
 bif v1.cW then
  some v1
 else
  some v2
theorem Yj{N v1 v2}:KO 115 [(lO v1),(lO v2)] lO (wW N v1 v2):=
 fw Tryz.func115 (gA [[],[]] (bN λh1=>gR [[f0 h1],[]]))
def xn(N:Nat)(v1:an)(nX:an->anF gv)(v10:Bool):anF gv:=
 bif v10 then
  Option.bind (v1.aw[0]?) λv11=>
  (nX v11).bind λv12=>
  Option.bind (v1.aw[1]?) λaW=>
  (nX aW).bind λbX=>
  (wW N v12 bX).bind λb7=>
  some b7
 else
  some Cd
def Of(N:Nat)(v1:an)(nX:an->anF gv)(v2:Bool):anF gv:=
 bif v2 then
  some (⟨v1.aD,true⟩:gv)
 else
  bif (v1.aq==2)then
   some (⟨(⟨(3:Int),(0:Int),(0:Int),(0:Int),(0:Int)⟩:aF),true⟩:gv)
  else
   bif (v1.aq==8)then
    Option.bind (v1.aw[0]?) λv3=>
    (nX v3).bind λv4=>
    some v4
   else
    bif (v1.aq==11)then
     Option.bind (v1.aw[1]?) λv5=>
     (nX v5).bind λv6=>
     Option.bind (bif v6.cW then Option.bind (v1.aw[2]?) λv7=>
     (nX v7).bind λv8=>
     some (((v6.yT.aL==v8.yT.aL)&&((v6.yT.bY==v8.yT.bY)&&((v6.yT.bM==v8.yT.bM)&&((v6.yT.b5==v8.yT.b5)&&((v6.yT.bK==v8.yT.bK)&&true)))))&&((v6.cW==v8.cW)&&true))else some false) λv9=>
     bif v9 then
      some v6
     else
      some Cd
    else
     bif (v1.aq==4)then
      xn N v1 nX (v1.aq==4)
     else
      bif (v1.aq==5)then
       xn N v1 nX (v1.aq==5)
      else
       bif (v1.aq==6)then
        xn N v1 nX (v1.aq==6)
       else
        bif (v1.aq==7)then
         xn N v1 nX (v1.aq==7)
        else
         bif (v1.aq==9)then
          xn N v1 nX (v1.aq==9)
         else
          xn N v1 nX (v1.aq==10)
def lr(N:Nat):Nat->an->anF gv
 |0,_=>none
 |d+1,v1=>
  bif (v1.aq==1)then
   Of N v1 (lr N d) (v1.aq==1)
  else
   Of N v1 (lr N d) (v1.aq==12)
def q7(N:Nat)(v1:an):anF gv:=lr N N v1
def Mc(v1:an)(l:anD ao):anD ao:= .cells (aA v1).cells:: .cells KG::l
theorem aeG(N:Nat):∀d:Nat,(∀{v1:an},KO 114 [(aA v1)] lO (lr N d v1)):=by
 intro d
 induction d with
 |zero=>intro v1 r J;rw[lr]at J;cases J
 |succ d ih=>
  have DT:= @ih;intro v1;rw[lr];exact fw Tryz.func114 (lH 1 [[],[],[]] [1,2,5,6] 2 (λ(v2:Bool)=>⟨61,[(1,(.ptr 0 0)),(2,(.ptr 1 0)),(5,(au v1.aq)),(6,(aC v2))],(Mc v1 [])⟩) (Of N v1 (lr N d)) (λf1 aK=>ay (λnp=>gm aK (v1.aq==1) [[(0,bT np)]]) λnp=>gm aK (v1.aq==12) [[(0,bF np)],[]]) (λv2=>gF λ_=>gF λ_=>ay (λh3=>ax λv3 h4=>ax λv4 h5=>gR [[(0,bT h3)],[(7,oE (k:=0) (cn h4)),(13,cK DT h5)]]) λh3=>gA [[(0,bF h3)],[]] (ay (λh6=>ax λv5 h7=>ax λv6 h8=>gA [[(0,bT h6)],[(7,oE (k:=1) (cn h7)),(13,cK DT h8)]] (gG (λv9=>[(40,(aC v9))]) (λ_=>(Mc v1 [.cells (lO v6).cells])) (ay (λh9=>ax λv7 bk=>ax λv8 bo=>gE [(2,bT h9)] [(19,oE (k:=2) (cn bk)),(25,cK DT bo)]) λh9=>gE [(2,bF h9)] []) λv9=>bN λcf=>gR [[(0,bF cf)],[]])) λh6=>lH 2 [[(0,bF h6)],[]] [1,2,42] 2 (λ(v10:Bool)=>⟨61,[(1,(.ptr 0 0)),(2,(.ptr 1 0)),(42,(aC v10))],(Mc v1 [])⟩) (xn N v1 (lr N d)) (λf2 fY=>ay (λdj=>gm fY (v1.aq==4) [[(0,bT dj)]]) λdj=>gA [[(0,bF dj)],[]] (ay (λfx=>gm fY (v1.aq==5) [[(0,bT fx)]]) λfx=>gA [[(0,bF fx)],[]] (ay (λiz=>gm fY (v1.aq==6) [[(0,bT iz)]]) λiz=>gA [[(0,bF iz)],[]] (ay (λiB=>gm fY (v1.aq==7) [[(0,bT iB)]]) λiB=>gA [[(0,bF iB)],[]] (ay (λkh=>gm fY (v1.aq==9) [[(0,bT kh)]]) λkh=>gm fY (v1.aq==10) [[(0,bF kh)],[]]))))) (λv10=>ky λct=>ax λv11 cq=>ax λv12 bH=>ax λaW cE=>ax λbX cY=>ax λb7 dC=>gR [[(0,bT ct)],[(7,oE (k:=0) (cn cq)),(13,cK DT bH),(22,oE (k:=1) (cn cE)),(28,cK DT cY),(31,cK Yj dC)]]))))
theorem Ig{N v1}:KO 114 [(aA v1)] lO (q7 N v1):=(aeG N N)
def Gr(N:Nat)(v1:fb):anF (an×Bool):=
 bif (v1.yE.aq !=12)then
  some (fg,false)
 else
  Option.bind (v1.yE.aw[0]?) λv2=>
  bif (v2.aq==1)then
   (AF N v2.aD v1.yE.aD v2.bg).bind λv3=>
   (ta N v1.yE.aD v3.1).bind λv4=>
   some (v4,(v3.2==0))
  else
   (q7 N v2).bind λv5=>
   Option.bind (bif v5.cW then some ((v5.yT.aL==v1.yE.aD.aL)&&((v5.yT.bY==v1.yE.aD.bY)&&((v5.yT.bM==v1.yE.aD.bM)&&((v5.yT.b5==v1.yE.aD.b5)&&((v5.yT.bK==v1.yE.aD.bK)&&true)))))else some false) λv6=>
   some (v2,v6)
theorem afV{N v1}:KO 104 [(cQ v1)] (λr=> .aQ [(aA r.1),(aC r.2)]) (Gr N v1):=
 fw Tryz.func104 (gA [[],[]] (bN λh1=>ax λv2 h2=>gA [[f0 h1],[(10,oE (k:=0) (cn h2))],[]] (ay (λh3=>ax λv3 h4=>ax λv4 h5=>gR [[t0 h3],[(22,cK X1 h4)],[(13,cK D0 h5)]]) λh3=>ax λv5 h6=>gA [[f0 h3],[(4,cK Ig h6)]] (gU 5 (λv6=>[(3,(aC v6))]) (λ_=>[.cells (cQ v1).cells, .cells (aA v2).cells, .cells (aA v2).cells, .cells (lO v5).cells]) (ay (λh7=>gE [(3,bT h7)] []) λh7=>gE [(3,bF h7)] []) λv6=>gR []))))
def OJ(N:Nat)(v5:an×Bool)(v6:anE)(v7:an):anF (Bool×anE×an):=
 some (v5.2,v6,v7)
def Qy(N:Nat)(v1:fb)(v2:anE)(v3:anE)(v4:an):anF (Bool×anE×an):=
 (Gr N v1).bind λv5=>
 bif v5.2 then
  OJ N v5 v2 v5.1
 else
  OJ N v5 v3 v4
theorem aa8{N v1 v2 v3 v4}:KP 102 [(cQ v1),(.fn 104 []),(bu v2),(.ptr 0 0),(.ptr 1 0)] [.cells [(bu v3)], .cells (aA v4).cells] (λr=>aC r.1) (λr=>[.cells [(bu r.2.1)], .cells (aA r.2.2).cells]) (Qy N v1 v2 v3 v4):=
 fh 2 Tryz.func102 (ax λv5 h1=>qg 1 [[],[(7,cK afV h1)],[]] [12] 4 (λ(v6:anE)(v7:an)=>⟨27,[(12,(aC v5.2))],[.cells [(bu v6)], .cells (aA v7).cells, .cells (cQ v1).cells, .cells (aA v5.1).cells]⟩) (OJ N v5) (λf1 aK=>ay (λh2=>gm aK (v2,v5.1) [[t0 h2],[]]) λh2=>gm aK (v3,v4) [[f0 h2]]) (λv6 v7=>gH [[]]))
def Mu(N:Nat)(v1:Int64):anF aP:=
 some (⟨v1,[]⟩:aP)
theorem alz{N v1}:KO 270 [(aT v1)] cz (Mu N v1):=
 fw Tryz.func270 (gR [[],[]])
def sJ(N:Nat)(v1:an):anF (aP×Bool):=
 bif (v1.aq==2)then
  some (v1.aM,true)
 else
  Option.bind (bif (v1.aq==1)then some (v1.aD.aL==3)else some false) λv2=>
  bif v2 then
   (Mu N v1.bg.xN).bind λv3=>
   some (v3,true)
  else
   some (dI,false)
theorem Jw{N v1}:KO 223 [(aA v1)] (λr=> .aQ [(cz r.1),(aC r.2)]) (sJ N v1):=
 fw Tryz.func223 (gA [[],[]] (bN λh1=>gA [[f0 h1]] (gG (λv2=>[(10,(aC v2))]) (λ_=>[.cells (aA v1).cells, .cells Db]) (ay (λh2=>gE [(3,bT h2)] []) λh2=>gE [(3,bF h2)] []) λv2=>ky λh4=>ax λv3 h5=>gR [[t0 h4],[(10,cK alz h5)]])))
def uB(N:Nat)(v1:Int64):anF Int:=
 bif (decide (v1.toInt<0))then
  some (IntKind.u64.wrap (0-(IntKind.u64.wrap v1.toInt)))
 else
  some (IntKind.u64.wrap v1.toInt)
theorem B4{N v1}:KO 187 [(aT v1)] (λr=> .d (.v (.int .u64 r))) (uB N v1):=
 fw Tryz.func187 (gA [[],[]] (bN λh1=>gR [[f0 h1],[]]))
def DW(N:Nat)(v1:Int)(v2:Int):anF (Int×Int):=
 some ((IntKind.u64.wrap ((IntKind.u64.wrap ((IntKind.u64.wrap (((v1).fdiv (2^(min ((32:Int)).toNat (IntKind.bits .u64))))*((v2).fdiv (2^(min ((32:Int)).toNat (IntKind.bits .u64))))))+(((IntKind.u64.wrap ((IntKind.u64.wrap (((v1).fdiv (2^(min ((32:Int)).toNat (IntKind.bits .u64))))*(IntKind.u64.wrap ((BitVec.ofInt (IntKind.bits .u64) v2&&&BitVec.ofInt (IntKind.bits .u64) (4294967295:Int)).toNat:Int))))+(((IntKind.u64.wrap ((IntKind.u64.wrap ((BitVec.ofInt (IntKind.bits .u64) v1&&&BitVec.ofInt (IntKind.bits .u64) (4294967295:Int)).toNat:Int))*(IntKind.u64.wrap ((BitVec.ofInt (IntKind.bits .u64) v2&&&BitVec.ofInt (IntKind.bits .u64) (4294967295:Int)).toNat:Int))))).fdiv (2^(min ((32:Int)).toNat (IntKind.bits .u64))))))).fdiv (2^(min ((32:Int)).toNat (IntKind.bits .u64))))))+(((IntKind.u64.wrap ((IntKind.u64.wrap ((IntKind.u64.wrap ((BitVec.ofInt (IntKind.bits .u64) v1&&&BitVec.ofInt (IntKind.bits .u64) (4294967295:Int)).toNat:Int))*((v2).fdiv (2^(min ((32:Int)).toNat (IntKind.bits .u64))))))+(IntKind.u64.wrap ((BitVec.ofInt (IntKind.bits .u64) (IntKind.u64.wrap ((IntKind.u64.wrap (((v1).fdiv (2^(min ((32:Int)).toNat (IntKind.bits .u64))))*(IntKind.u64.wrap ((BitVec.ofInt (IntKind.bits .u64) v2&&&BitVec.ofInt (IntKind.bits .u64) (4294967295:Int)).toNat:Int))))+(((IntKind.u64.wrap ((IntKind.u64.wrap ((BitVec.ofInt (IntKind.bits .u64) v1&&&BitVec.ofInt (IntKind.bits .u64) (4294967295:Int)).toNat:Int))*(IntKind.u64.wrap ((BitVec.ofInt (IntKind.bits .u64) v2&&&BitVec.ofInt (IntKind.bits .u64) (4294967295:Int)).toNat:Int))))).fdiv (2^(min ((32:Int)).toNat (IntKind.bits .u64))))))&&&BitVec.ofInt (IntKind.bits .u64) (4294967295:Int)).toNat:Int))))).fdiv (2^(min ((32:Int)).toNat (IntKind.bits .u64)))))),(IntKind.u64.wrap (v1*v2)))
theorem XE{N v1 v2}:KO 190 [(.d (.v (.int .u64 v1))),(.d (.v (.int .u64 v2)))] (λr=> .aQ [(.d (.v (.int .u64 r.1))),(.d (.v (.int .u64 r.2)))]) (DW N v1 v2):=
 fw Tryz.func190 (gR [[],[],[(4,⟨_,_, .nn (b:=32) (by decide)⟩),(19,⟨_,_, .nn (b:=32) (by decide)⟩)],[(10,⟨_,_, .nn (b:=32) (by decide)⟩)],[(4,⟨_,_, .nn (b:=32) (by decide)⟩),(10,⟨_,_, .nn (b:=32) (by decide)⟩),(19,⟨_,_, .nn (b:=32) (by decide)⟩),(28,⟨_,_, .nn (b:=32) (by decide)⟩)]])
def Co(N:Nat)(v1:Int64)(v2:Int64):anF (Int64×Bool):=
 (uB N v1).bind λv3=>
 (uB N v2).bind λv4=>
 (DW N v3 v4).bind λv5=>
 Option.bind (bif (v5.1 !=0)then some true else(bif (decide (v5.2>9223372036854775808))then some true else(bif (v5.2==9223372036854775808)then some (!(!((decide (v1.toInt<0))==(decide (v2.toInt<0)))))else some false))) λv6=>
 bif v6 then
  some ((0:Int64),false)
 else
  bif ((decide (v1.toInt<0))==(decide (v2.toInt<0)))then
   some ((Int64.ofInt v5.2),true)
  else
   some ((Int64.ofInt (IntKind.u64.wrap (0-v5.2))),true)
theorem T5{N v1 v2}:KO 226 [(aT v1),(aT v2)] (λr=> .aQ [(aT r.1),(aC r.2)]) (Co N v1 v2):=
 fw Tryz.func226 (ax λv3 h1=>ax λv4 h2=>ax λv5 h3=>gA [[],[(4,cK B4 h1),(10,cK B4 h2),(13,cK XE h3)],[]] (gG (λv6=>[(22,(aC v6))]) (λ_=>[]) (ay (λh4=>gE [(2,bT h4),(6,bT rfl),(9,uN)] []) λh4=>cm (2,bF h4) (ay (λh5=>gE [(6,bT h5),(9,uN)] []) λh5=>cm (6,bF h5) (ay (λh6=>gE [(9,bT h6)] [(37,bT h6)]) λh6=>gE [(9,bF h6)] [(37,bF h6)]))) λv6=>gF λ_=>ay (λh9=>gR [[f0 (du h9)],[(5,⟨_,_, .eq (iZ v5.2)⟩)]]) λh9=>gR [[t0 (dD h9)],[(8,⟨_,_, .eq (iZ (IntKind.u64.wrap (0-v5.2)))⟩)]]))
def CT(N:Nat)(v4:Int64×Bool)(v2:Int64):anD bf->Nat->Bool->(anD bf)->anF (aP×Int)
 |[],_,v9,v10=>
  bif v9 then
   some ((⟨v4.1,v10⟩:aP),(0:Int))
  else
   some (dI,(3:Int))
 |v7::v8,v5,v9,v10=>
  (Co N v7.cA v2).bind λv11=>
  (bif v9 then some v11.2 else some false).bind λv12=>
  bif (Nat.ble ((v10.length+1)*24) 140737488355328)then
  (λdV iU=>CT N v4 v2 v8 (v5+1) dV iU) v12 (v10++[(⟨v7.aO,v11.1⟩:bf)])
  else none
def vm(N:Nat)(v1:aP)(v2:Int64):anF (aP×Int):=
 (wm N v1).bind λv3=>
 bif (v3 !=0)then
  some (dI,(1:Int))
 else
  bif (v2.toInt==0)then
   some (dI,(0:Int))
  else
   (Co N v1.xK v2).bind λv4=>
   CT N v4 v2 v1.xL 0 v4.2 []
theorem L2{N v1 v2}:KO 170 [(cz v1),(aT v2)] (λr=> .aQ [(cz r.1),(au r.2)]) (vm N v1 v2):=
 fw Tryz.func170 (ax λv3 h1=>gA [[],[(4,cK Di h1)]] (gF λ_=>bN λh3=>ax λv4 h4=>gA [[f0 h3],[(10,cK T5 h4)],[],[(7,oL v1.xL fc)]] (li (λ_=>(VL 2 1 133 2 [] (.inr (by kernel_rfl)) ·)) (gT vP 30 v1.xL λh6=>gx2 1 [] [1,4,7,8,30,31,32] 4 [] [(1,1)] (λv5(v9:Bool)(v10:(anD bf))=>⟨61,[(1,(aT v2)),(4,(.ptr 1 0)),(7,(aC v9)),(8,(.ptr 2 0)),(30,(.d (.sl (cC v1.xL)))),(31,(au (v1.xL.length:Int))),(32,(au (v5:Int)))],[.cells (cz v1).cells, .cells Db, .cells [(aT v4.1),(.own 3 (cC v10))], .front 133 2 v10.length]⟩) (λv5 v9 v10 h7 f1=>gA [[],[f0 (dv h7)],[]] (rM λh8=>gR [[t0 (dD h8)],[]])) (λv5 v7 v8 v9 v10 h7 f1 aK=>ax λv11 h9=>gA [[],[t0 (dt h7)],[(1,oE (jM (cO h7)))],[(10,cK T5 h9)]] (gG (λv12=>[(7,(aC v12))]) (λ_=>[.cells (cz v1).cells, .cells Db, .cells [(aT v4.1),(.own 3 (cC v10))], .front 133 2 v10.length, .cells (oF v7).cells]) (ay (λbk=>gE [(1,bT bk)] []) λbk=>gE [(1,bF bk)] []) λv12=>gy λbJ=>SO aK (v12,(v10++[(⟨v7.aO,v11.1⟩:bf)])) [[(22,oA vP v10 ([(⟨v7.aO,v11.1⟩:bf)]) bJ)],[(2,oq (dR h7 rfl h6))]] h7))))))
def C2(N:Nat)(v1:Int64)(v2:Int64):anF (Int64×Bool):=
 some ((v1+v2),((decide ((v1+v2).toInt>v1.toInt))==(decide (v2.toInt>0))))
theorem R2{N v1 v2}:KO 271 [(aT v1),(aT v2)] (λr=> .aQ [(aT r.1),(aC r.2)]) (C2 N v1 v2):=
 fw Tryz.func271 (gR [[],[(8,⟨_,_, .eq (CI v1 v2)⟩)],[]])
def Ah(N:Nat)(v1:anE)(v2:Int64)(v3:Int64)(v4:Bool)(v5:Int64)(v6:anD bf):anF (Bool×(anD bf)):=
 (C2 N v2 v3).bind λv7=>
 (bif v4 then some v7.2 else some false).bind λv8=>
 bif (v7.1.toInt !=0)then
  bif (Nat.ble ((v6.length+1)*24) 140737488355328)then
  some (v8,(v6++[(⟨v1,v7.1⟩:bf)]))
  else none
 else
  some (v8,v6)
theorem Lj{N v1 v2 v3 v4 v5 v6}:KP 273 [(bu v1),(aT v2),(aT v3),(.ptr 0 0),(.ptr 1 0)] [.cells [(aC v4)], .cells [(aT v5),(.own 2 (cC v6))], .front 133 2 v6.length] (λ_=> .aQ []) (λr=>[.cells [(aC r.1)], .cells [(aT v5),(.own 2 (cC r.2))], .front 133 2 r.2.length]) (Ah N v1 v2 v3 v4 v5 v6):=
 fh 3 Tryz.func273 (ax λv7 h1=>gA [[(7,cK R2 h1)]] (gG (λ_=>[]) (λv8=>[.cells [(aC v8)], .cells [(aT v5),(.own 2 (cC v6))], .front 133 2 v6.length]) (ay (λh2=>gE [(1,bT h2)] []) λh2=>gE [(1,bF h2)] []) λv8=>gA [[]] (ay (λh4=>gy λh5=>gH [[t0 h4],[(19,oA vP v6 ([(⟨v1,v7.1⟩:bf)]) h5)]]) λh4=>gH [[f0 h4]])))
def mQ(N:Nat)(v4:Int64):Nat->(anD bf)->(anD bf)->Bool->(anD bf)->anF (Bool×(anD bf))
 |0,_,_,_,_=>none
 |v5+1,v6,v7,v8,v9=>
  Option.bind (bif (decide ((v6.length:Int)>0))then some true else some (decide ((v7.length:Int)>0))) λv10=>
  bif v10 then
   Option.bind (bif ((v7.length:Int)==0)then some true else(bif (decide ((v6.length:Int)>0))then Option.bind (v6[0]?) λv11=>
   Option.bind (v7[0]?) λv12=>
   some (Op.bytesLess (bL v11.aO) (bL v12.aO))else some false)) λaW=>
   bif aW then
    Option.bind (v6[0]?) λbX=>
    Option.bind (Ah N bX.aO bX.cA (0:Int64) v8 v4 v9) λb7=>
    bif (decide (1<=v6.length))then
    (λdV iU wu EV=>mQ N v4 v5 dV iU wu EV) (v6.drop 1) v7 b7.1 b7.2
    else none
   else
    Option.bind (bif ((v6.length:Int)==0)then some true else Option.bind (v7[0]?) λfO=>
    Option.bind (v6[0]?) λb6=>
    some (Op.bytesLess (bL fO.aO) (bL b6.aO))) λaU=>
    bif aU then
     Option.bind (v7[0]?) λcD=>
     Option.bind (Ah N cD.aO (0:Int64) cD.cA v8 v4 v9) λv20=>
     bif (decide (1<=v7.length))then
     (λdV iU wu EV=>mQ N v4 v5 dV iU wu EV) v6 (v7.drop 1) v20.1 v20.2
     else none
    else
     Option.bind (v6[0]?) λv21=>
     Option.bind (v7[0]?) λjU=>
     (Ah N v21.aO v21.cA jU.cA v8 v4 v9).bind λfi=>
     bif (decide (1<=v6.length))then
     bif (decide (1<=v7.length))then
     (λdV iU wu EV=>mQ N v4 v5 dV iU wu EV) (v6.drop 1) (v7.drop 1) fi.1 fi.2
     else none
     else none
  else
   some (v8,v9)
def FU(N:Nat)(v1:anD bf)(v2:anD bf)(v3:Bool)(v4:Int64):anF (Bool×(anD bf)):=
 mQ N v4 N v1 v2 v3 []
def wc(v8:Bool)(v4:Int64)(v9:anD bf)(l:anD ao):anD ao:= .cells [(aC v8)]:: .cells [(aT v4),(.own 2 (cC v9))]:: .front 133 2 v9.length::l
def N2(b7:Bool×(anD bf))(v4:Int64)(l:anD ao):anD ao:= .cells [(aC b7.1)]:: .cells [(aT v4),(.own 2 (cC b7.2))]:: .front 133 2 b7.2.length::l
theorem ajk{N v1 v2 v3 v4 r}(J:FU N v1 v2 v3 v4=some r):KH 272 [(.d (.sl (cC v1))),(.d (.sl (cC v2))),(.fn 273 [(.ptr 0 0),(.ptr 1 0)])] ([.cells [(aC v3)], .cells [(aT v4),(.d (.v (.slice none 0 0)))]]) (.aQ []) ([.cells [(aC r.1)], .cells [(aT v4),(.own 2 (cC r.2))], .front 133 2 r.2.length]):=by
 rw[FU]at J;refine tF 3 Tryz.func272 ?_;refine VL 1 1 133 2 [] (.inr (by kernel_rfl)) ?_;refine KC aX 1 [] [0,1,2] 3 (λ((v5,v6,v7,v8,v9):Nat×(anD bf)×(anD bf)×Bool×(anD bf))=>⟨91,[(0,(.d (.sl (cC v6)))),(1,(.d (.sl (cC v7)))),(2,(.fn 273 [(.ptr 0 0),(.ptr 1 0)]))],(wc v8 v4 v9 [])⟩) (λ((v5,v6,v7,v8,v9):Nat×(anD bf)×(anD bf)×Bool×(anD bf))=>mQ N v4 v5 v6 v7 v8 v9=some r) (λ((v5,v6,v7,v8,v9):Nat×(anD bf)×(anD bf)×Bool×(anD bf))=>v5) (N,v1,v2,v3,[]) J ?_;rintro⟨v5,v6,v7,v8,v9⟩ J f1 aK
 try dsimp only at J
 cases v5 with
 |zero=>
  rw[mQ]at J;cases J
 |succ v5=>
  rw[mQ]at J;obtain⟨v10,h2,J⟩:=b8 J;refine tr aX [(13,(aC v10))] (wc v8 v4 v9 []) ?_ ?_
  ·apply bc h2<;>intro h1 h2
   ·cases h2;exact yq [(3,bT h1)] [(4,oL v6 fc)]
   cases h2;exact yq [(3,bF h1)] [(4,oL v6 fc),(16,oL v7 fc)]
  apply bc J<;>intro h3 J
  ·refine ft aX [[(0,bT h3)]] ?_;obtain⟨aW,h8,J⟩:=b8 J;refine tr aX [(32,(aC aW))] (wc v8 v4 v9 []) ?_ ?_
   ·apply bc h8<;>intro h4 h8
    ·cases h8;exact yq [(3,bT h4),(7,uN)] [(4,oL v7 fc)]
    apply bc h8<;>intro h5 h8
    ·obtain⟨v11,h6,v12,h7,h8⟩:=k00 h8;cases h8;exact yq [(3,bF h4),(7,bT h5)] [(4,oL v7 fc),(16,oL v6 fc),(28,oE (k:=0) (jM h6)),(40,oE (k:=0) (jM h7)),(52,bT h5)]
    cases h8;exact yq [(3,bF h4),(7,bF h5)] [(4,oL v7 fc),(16,oL v6 fc),(52,bF h5)]
   apply bc J<;>intro h9 J
   ·refine ft aX [[(0,bT h9)]] ?_;obtain⟨bX,bk,b7,bo,J⟩:=k00 J;refine sE aX [(7,oE (k:=0) (jM bk)),(19,oE (k:=0) (jM bk)),(28,oR [(bu bX.aO),(aT bX.cA),(aT (0:Int64)),(.ptr 0 0),(.ptr 1 0)] (wc v8 v4 v9 []) [0,1,2] (Lj _ bo))] [] (N2 b7 v4 []) ?_;obtain⟨bJ,J⟩:=lN J;exact Ec aX aK (v5,(v6.drop 1),v7,b7.1,b7.2) [[(4,⟨_,_, .BH (xs:=cC v6) (lo:=1) (by decide) (by rw[fc];exact(of_decide_eq_true bJ)) AN G4⟩)]] J
   refine ft aX [[(0,bF h9)]] ?_;obtain⟨aU,bH,J⟩:=b8 J;refine tr aX [(64,(aC aU))] (wc v8 v4 v9 []) ?_ ?_
   ·apply bc bH<;>intro cf bH
    ·cases bH;exact yq [(3,bT cf)] [(4,oL v6 fc)]
    obtain⟨fO,ct,b6,cq,bH⟩:=k00 bH;cases bH;exact yq [(3,bF cf)] [(4,oL v6 fc),(16,oE (k:=0) (jM ct)),(28,oE (k:=0) (jM cq))]
   apply bc J<;>intro cE J
   ·refine ft aX [[(0,bT cE)]] ?_;obtain⟨cD,cY,v20,dC,J⟩:=k00 J;refine sE aX [(7,oE (k:=0) (jM cY)),(19,oE (k:=0) (jM cY)),(28,oR [(bu cD.aO),(aT (0:Int64)),(aT cD.cA),(.ptr 0 0),(.ptr 1 0)] (wc v8 v4 v9 []) [0,1,2] (Lj _ dC))] [] (N2 v20 v4 []) ?_;obtain⟨dj,J⟩:=lN J;exact Ec aX aK (v5,v6,(v7.drop 1),v20.1,v20.2) [[(4,⟨_,_, .BH (xs:=cC v7) (lo:=1) (by decide) (by rw[fc];exact(of_decide_eq_true dj)) AN G4⟩)]] J
   refine ft aX [[(0,bF cE)]] ?_;obtain⟨v21,fx,jU,iz,J⟩:=k00 J;obtain⟨fi,iB,J⟩:=b8 J;refine sE aX [(7,oE (k:=0) (jM fx)),(19,oE (k:=0) (jM fx)),(31,oE (k:=0) (jM iz)),(40,oR [(bu v21.aO),(aT v21.cA),(aT jU.cA),(.ptr 0 0),(.ptr 1 0)] (wc v8 v4 v9 []) [0,1,2] (Lj _ iB))] [] (N2 fi v4 []) ?_;obtain⟨kh,J⟩:=lN J;obtain⟨np,J⟩:=lN J;exact Ec aX aK (v5,(v6.drop 1),(v7.drop 1),fi.1,fi.2) [[(4,⟨_,_, .BH (xs:=cC v6) (lo:=1) (by decide) (by rw[fc];exact(of_decide_eq_true kh)) AN G4⟩),(10,⟨_,_, .BH (xs:=cC v7) (lo:=1) (by decide) (by rw[fc];exact(of_decide_eq_true np)) AN G4⟩)]] J
  cases J;exact iV aX [[(0,bF h3)]]
def wG(N:Nat)(v1:aP)(v2:aP):anF (aP×Int):=
 (wm N v1).bind λv3=>
 Option.bind (bif (v3 !=0)then some true else (wm N v2).bind λv4=>
 some (v4 !=0)) λv5=>
 bif v5 then
  some (dI,(1:Int))
 else
  (C2 N v1.xK v2.xK).bind λv6=>
  (FU N v1.xL v2.xL v6.2 v6.1).bind λv7=>
  bif v7.1 then
   some ((⟨v6.1,v7.2⟩:aP),(0:Int))
  else
   some (dI,(3:Int))
theorem TF{N v1 v2}:KO 225 [(cz v1),(cz v2)] (λr=> .aQ [(cz r.1),(au r.2)]) (wG N v1 v2):=
 fw Tryz.func225 (gA [[]] (ax λv3 h1=>gG (λv5=>[(15,(aC v5))]) (λ_=>[.cells (cz v1).cells, .cells (cz v2).cells, .cells Db]) (cP (4,cK Di h1) (ay (λh2=>gE [(3,bT h2)] []) λh2=>ax λv4 h3=>gE [(3,bF h2)] [(16,cK Di h3)])) λv5=>bN λh5=>ax λv6 h6=>ax λv7 h7=>gA [[f0 h5],[],[],[(13,cK R2 h6)],[(16,oR [(.d (.sl (cC v1.xL))),(.d (.sl (cC v2.xL))),(.fn 273 [(.ptr 4 0),(.ptr 3 0)])] [.cells (cz v1).cells, .cells (cz v2).cells, .cells Db, .cells [(aT v6.1),(.d (.v (.slice none 0 0)))], .cells [(aC v6.2)]] [4,3] (ajk h7))],[]] (rM λh8=>gR [[t0 (dD h8)],[]])))
def yU(N:Nat)(v1:aP)(v2:aP):anF (aP×Bool):=
 Option.bind (vm N v2 (-1:Int64)) λv3=>
 bif (v3.2 !=0)then
  some (dI,false)
 else
  (wG N v1 v3.1).bind λv4=>
  some (v4.1,(v4.2==0))
theorem WV{N v1 v2}:KO 224 [(cz v1),(cz v2)] (λr=> .aQ [(cz r.1),(aC r.2)]) (yU N v1 v2):=
 fw Tryz.func224 (ax λv3 h1=>gA [[],[(4,cK L2 h1)],[]] (bN λh2=>ax λv4 h3=>gR [[f0 h2],[(7,cK TF h3)],[]]))
def C3(N:Nat)(v1:aP):anF an:=
 some (⟨(2:Int),(bs []),bZ,dZ,v1,[],[]⟩:an)
theorem GZ{N v1}:KO 171 [(cz v1)] aA (C3 N v1):=
 fw Tryz.func171 (gR [[],[]])
def HU(N:Nat)(v1:an):anF (an×Bool):=
 Option.bind (v1.aw[0]?) λv2=>
 (sJ N v2).bind λv3=>
 Option.bind (v1.aw[1]?) λv4=>
 (sJ N v4).bind λv5=>
 Option.bind (bif v3.2 then(bif v5.2 then(bif (v2.aq !=2)then some (v4.aq !=2)else some false)else some true)else some true) λv6=>
 bif v6 then
  some (fg,false)
 else
  bif (v1.aq==5)then
   (yU N v3.1 v5.1).bind λv7=>
   (C3 N v7.1).bind λv8=>
   some (v8,v7.2)
  else
   (wG N v3.1 v5.1).bind λv9=>
   (C3 N v9.1).bind λv10=>
   some (v10,(v9.2==0))
theorem aec{N v1}:KO 168 [(aA v1)] (λr=> .aQ [(aA r.1),(aC r.2)]) (HU N v1):=
 fw Tryz.func168 (ax λv2 h1=>ax λv3 h2=>ax λv4 h3=>ax λv5 h4=>gA [[],[(7,oE (k:=0) (cn h1)),(13,cK Jw h2)],[(7,oE (k:=1) (cn h3)),(13,cK Jw h4)]] (gG (λv6=>[(49,(aC v6))]) (λ_=>[.cells (aA v1).cells, .cells iW, .cells (cz v3.1).cells, .cells (cz v5.1).cells]) (ay (λh5=>cm (2,bF (du h5)) (ay (λh6=>cm (6,bF (du h6)) (cP (28,oE (k:=0) (cn h1)) (ay (λh7=>gE [(13,bT h7)] [(49,oE (k:=1) (cn h3)),(61,bT h7)]) λh7=>gE [(13,bF h7)] [(61,bF h7)]))) λh6=>gE [(6,bT (dD h6)),(13,uN)] [])) λh5=>gE [(2,bT (dD h5)),(6,bT rfl),(13,uN)] []) λv6=>gF λ_=>ay (λbk=>ax λv7 bo=>ax λv8 bJ=>gR [[t0 bk],[(7,cK WV bo)],[(4,cK GZ bJ)]]) λbk=>ax λv9 cf=>ax λv10 ct=>gR [[f0 bk],[(7,cK TF cf)],[(4,cK GZ ct)]]))
def E2(N:Nat)(v3:an)(v4:an):anF (an×Bool):=
 Option.bind (bif (v3.aq !=2)then some true else(bif (v4.aq !=1)then some true else some (v4.aD.aL !=3))) λv5=>
 bif v5 then
  some (fg,false)
 else
  (vm N v3.aM v4.bg.xN).bind λv6=>
  (C3 N v6.1).bind λv7=>
  some (v7,(v6.2==0))
def JG(N:Nat)(v1:an)(v2:an):anF (an×Bool):=
 bif (v1.aq==1)then
  E2 N v2 v1
 else
  E2 N v1 v2
theorem aiE{N v1 v2}:KO 169 [(aA v1),(aA v2)] (λr=> .aQ [(aA r.1),(aC r.2)]) (JG N v1 v2):=
 fw Tryz.func169 (alv 1 [[],[]] [2,3,4] 3 [] [(2,10),(2,11),(2,12)] (λ(v3:an)(v4:an)=>⟨41,[(2,(.ptr 0 0)),(3,(.ptr 1 0)),(4,(.ptr 2 0))],[.cells (aA v3).cells, .cells (aA v4).cells, .cells iW]⟩) (E2 N) (λf1 aK=>ay (λh7=>tU aK (v2,v1) [[t0 h7],[]]) λh7=>tU aK (v1,v2) [[f0 h7]]) (λv3 v4=>gG (λv5=>[(26,(aC v5))]) (λ_=>[.cells (aA v3).cells, .cells (aA v4).cells, .cells iW]) (ay (λh1=>gE [(3,bT h1),(8,bT rfl)] []) λh1=>cm (3,bF h1) (ay (λh2=>gE [(8,bT h2)] []) λh2=>gE [(8,bF h2)] [])) λv5=>bN λh4=>ax λv6 h5=>ax λv7 h6=>gR [[f0 h4],[(16,cK L2 h5)],[(4,cK GZ h6)]]))
def KB(N:Nat)(v1:fb)(v4:Bool):anF (an×Bool):=
 bif v4 then
  (HU N v1.yE).bind λv5=>
  some (v5.1,v5.2)
 else
  bif (v1.yE.aq==6)then
   Option.bind (v1.yE.aw[0]?) λv6=>
   Option.bind (v1.yE.aw[1]?) λv7=>
   (JG N v6 v7).bind λv8=>
   some (v8.1,v8.2)
  else
   bif (v1.yE.aq==8)then
    Option.bind (v1.yE.aw[0]?) λv9=>
    bif (v9.aq==2)then
     Option.bind (vm N v9.aM (-1:Int64)) λv10=>
     (C3 N v10.1).bind λv11=>
     some (v11,(v10.2==0))
    else
     some (fg,false)
   else
    some (fg,false)
def Hz(N:Nat)(v1:fb):anF (an×Bool):=
 bif (v1.yE.aq==2)then
  Option.bind (ta N (⟨(3:Int),(0:Int),(0:Int),(0:Int),(0:Int)⟩:aF) (⟨v1.yE.aM.xK,(1:Int64)⟩:aB)) λv2=>
  Option.bind (bif ((v1.yE.aM.xL.length:Int)==0)then(bif (decide (v1.yE.aM.xK.toInt>=(-2147483647:Int)))then some (decide (v1.yE.aM.xK.toInt<=2147483647))else some false)else some false) λv3=>
  some (v2,v3)
 else
  bif (v1.yE.aq==4)then
   KB N v1 (v1.yE.aq==4)
  else
   KB N v1 (v1.yE.aq==5)
theorem adX{N v1}:KO 105 [(cQ v1)] (λr=> .aQ [(aA r.1),(aC r.2)]) (Hz N v1):=
 fw Tryz.func105 (gA [[],[],[],[]] (ay (λh1=>gA [[t0 h1],[]] (ax λv2 h2=>gG (λv3=>[(3,(aC v3))]) (λ_=>[.cells (cQ v1).cells, .cells (aA v2).cells, .cells (aA v1.yE).cells]) (cP (10,cK D0 h2) (cP (22,oL v1.yE.aM.xL fc) (ay (λh3=>cm (9,bT h3) (ay (λh4=>gE [(13,bT h4)] []) λh4=>gE [(13,bF h4)] [])) λh3=>gE [(9,bF h3),(13,bF rfl)] []))) λv3=>gR [])) λh1=>TW 1 [[f0 h1],[]] [2,4,11,34] 3 [] [(1,10),(1,11),(1,12)] (λ(v4:Bool)=>⟨76,[(2,(.ptr 1 0)),(4,(.ptr 2 0)),(11,(au v1.yE.aq)),(34,(aC v4))],[.cells (cQ v1).cells, .cells iW, .cells (aA v1.yE).cells]⟩) (KB N v1) (λf1 aK=>ay (λcE=>tU aK (v1.yE.aq==4) [[t0 cE]]) λcE=>tU aK (v1.yE.aq==5) [[f0 cE],[]]) (λv4=>ay (λh6=>ax λv5 h7=>gR [[t0 h6],[(4,cK aec h7)]]) λh6=>gA [[f0 h6],[]] (ay (λh8=>ax λv6 h9=>ax λv7 bk=>ax λv8 bo=>gR [[t0 h8],[(7,oE (k:=0) (cn h9)),(19,oE (k:=1) (cn bk)),(25,cK aiE bo)]]) λh8=>gA [[f0 h8],[]] (ky λbJ=>ax λv9 cf=>gA [[t0 bJ],[(7,oE (k:=0) (cn cf))]] (ky λct=>ax λv10 cq=>ax λv11 bH=>gR [[t0 ct],[(7,oE (k:=0) (cn cf)),(16,cK L2 cq)],[(4,cK GZ bH)]]))))))
def Lv(N:Nat)(v5:an×Bool)(v6:anE)(v7:an):anF (Bool×anE×an):=
 some (v5.2,v6,v7)
def Q1(N:Nat)(v1:fb)(v2:anE)(v3:anE)(v4:an):anF (Bool×anE×an):=
 (Hz N v1).bind λv5=>
 bif v5.2 then
  Lv N v5 v2 v5.1
 else
  Lv N v5 v3 v4
theorem abV{N v1 v2 v3 v4}:KP 102 [(cQ v1),(.fn 105 []),(bu v2),(.ptr 0 0),(.ptr 1 0)] [.cells [(bu v3)], .cells (aA v4).cells] (λr=>aC r.1) (λr=>[.cells [(bu r.2.1)], .cells (aA r.2.2).cells]) (Q1 N v1 v2 v3 v4):=
 fh 2 Tryz.func102 (ax λv5 h1=>qg 1 [[],[(7,cK adX h1)],[]] [12] 4 (λ(v6:anE)(v7:an)=>⟨27,[(12,(aC v5.2))],[.cells [(bu v6)], .cells (aA v7).cells, .cells (cQ v1).cells, .cells (aA v5.1).cells]⟩) (Lv N v5) (λf1 aK=>ay (λh2=>gm aK (v2,v5.1) [[t0 h2],[]]) λh2=>gm aK (v3,v4) [[f0 h2]]) (λv6 v7=>gH [[]]))
def ye(N:Nat)(v1:Int)(v2:Int):anF Bool:=
 bif (v1==13)then
  some (decide (v2<0))
 else
  bif (v1==14)then
   some (decide (v2<=0))
  else
   some (v2==0)
theorem Gb{N v1 v2}:KO 274 [(au v1),(au v2)] aC (ye N v1 v2):=
 fw Tryz.func274 (gA [[],[],[]] (gF λ_=>bN λh2=>gR [[f0 h2],[]]))
def H8(N:Nat)(v1:Int):anF Bool:=
 some (v1 !=v1)
theorem Zb{N v1}:KO 322 [(au v1)] aC (H8 N v1):=
 fw Tryz.func322 (gR [[],[]])
def nY(N:Nat)(v1:Int)(v2:Int):anF Int:=
 (H8 N v1).bind λv3=>
 (H8 N v2).bind λv4=>
 bif v3 then
  bif v4 then
   some (0:Int)
  else
   some (-1:Int)
 else
  bif v4 then
   some (1:Int)
  else
   bif (decide (v1<v2))then
    some (-1:Int)
   else
    bif (decide (v1>v2))then
     some (1:Int)
    else
     some (0:Int)
theorem tc{N v1 v2}:KO 276 [(au v1),(au v2)] au (nY N v1 v2):=
 fw Tryz.func276 (ax λv3 h1=>ax λv4 h2=>gA [[],[(4,cK Zb h1)],[(4,cK Zb h2)],[]] (ay (λh3=>gA [[t0 h3],[]] (bN λh4=>gR [[f0 h4],[]])) λh3=>gA [[f0 h3],[]] (gF λ_=>gF λ_=>bN λh7=>gR [[f0 h7],[]])))
def Ct(N:Nat)(v1 v2:anE):anF Int:=some (Hn v1 v2)
theorem Q9{N v1 v2 r}(J:Ct N v1 v2=some r):gn Tryz.prog 277 [(bu v1),(bu v2)] (·=(au r)):=by
 cases J;exact ahz v1 v2
def GJ(N:Nat)(v1:Int64):anF Bool:=
 some (v1.toInt !=v1.toInt)
theorem Tt{N v1}:KO 324 [(aT v1)] aC (GJ N v1):=
 fw Tryz.func324 (gR [[],[]])
def BI(N:Nat)(v1:Int64)(v2:Int64):anF Int:=
 (GJ N v1).bind λv3=>
 (GJ N v2).bind λv4=>
 bif v3 then
  bif v4 then
   some (0:Int)
  else
   some (-1:Int)
 else
  bif v4 then
   some (1:Int)
  else
   bif (decide (v1.toInt<v2.toInt))then
    some (-1:Int)
   else
    bif (decide (v1.toInt>v2.toInt))then
     some (1:Int)
    else
     some (0:Int)
theorem Y6{N v1 v2}:KO 278 [(aT v1),(aT v2)] au (BI N v1 v2):=
 fw Tryz.func278 (ax λv3 h1=>ax λv4 h2=>gA [[],[(4,cK Tt h1)],[(4,cK Tt h2)],[]] (ay (λh3=>gA [[t0 h3],[]] (bN λh4=>gR [[f0 h4],[]])) λh3=>gA [[f0 h3],[]] (gF λ_=>gF λ_=>bN λh7=>gR [[f0 h7],[]])))
def Hb(N:Nat):anD Int->Nat->anF Int
 |[],_=>
  some (0:Int)
 |v4::v5,v2=>
  bif (v4 !=0)then
   some v4
  else
   (Hb N v5 (v2+1))
def EH(N:Nat)(v1:anD Int):anF Int:=
 Hb N v1 0
theorem Se{N v1}:KO 275 [(.d (.sl (iQ v1)))] au (EH N v1):=
 fw Tryz.func275 (gA [[],[],[(4,oL v1 uS)]] (gT F7 0 v1 λh2=>js 1 [] [3,6,7,8] 0 (λv2=>⟨18,[(3,(au (0:Int))),(6,(.d (.sl (iQ v1)))),(7,(au (v1.length:Int))),(8,(au (v2:Int)))],[]⟩) (λv2 h3 f1=>gR [[],[f0 (dv h3)],[]]) (λv2 v4 v5 h3 f1 aK=>gA [[],[t0 (dt h3)],[(1,oE (vF (cO h3)))],[]] (bN λh4=>gb aK () [[f0 h4],[(2,oq (dR h3 rfl h2))]] h3))))
def Hj(N:Nat)(v1:aF)(v2:aF):anF Int:=
 (nY N v1.aL v2.aL).bind λv3=>
 (nY N v1.bY v2.bY).bind λv4=>
 (nY N v1.bM v2.bM).bind λv5=>
 (nY N v1.b5 v2.b5).bind λv6=>
 (nY N v1.bK v2.bK).bind λv7=>
 Option.bind (EH N ([v3,v4,v5,v6,v7])) λv8=>
 some v8
theorem aeu{N v1 v2}:KO 279 [(cB v1),(cB v2)] au (Hj N v1 v2):=
 fw Tryz.func279 (ax λv3 h1=>ax λv4 h2=>ax λv5 h3=>ax λv6 h4=>ax λv7 h5=>ax λv8 h6=>gR [[],[(13,cK tc h1),(28,cK tc h2),(43,cK tc h3),(58,cK tc h4),(73,cK tc h5),(79,cK Se h6)]])
def Bl(N:Nat)(v1:Int64)(v2:Int64):anF Int:=
 bif (decide (v1.toInt<v2.toInt))then
  some (-1:Int)
 else
  bif (decide (v1.toInt>v2.toInt))then
   some (1:Int)
  else
   some (0:Int)
theorem Y2{N v1 v2}:KO 327 [(aT v1),(aT v2)] au (Bl N v1 v2):=
 fw Tryz.func327 (gA [[],[]] (gF λ_=>bN λh2=>gR [[f0 h2],[]]))
def Iw(N:Nat)(v1:bf)(v2:bf):anF Int:=
 bif (bL v1.aO==bL v2.aO)then
  (Bl N v1.cA v2.cA).bind λv3=>
  some v3
 else
  (Ct N v1.aO v2.aO).bind λv4=>
  some v4
theorem ae6{N v1 v2}:KO 326 [(oF v1),(oF v2)] au (Iw N v1 v2):=
 fw Tryz.func326 (gA [[],[]] (ay (λh1=>ax λv3 h2=>gR [[f0 (du h1)],[(13,cK Y2 h2)]]) λh1=>ax λv4 h3=>gR [[t0 (dD h1)],[(13,cL (Q9 h3))]]))
def yb(N:Nat)(v1:anD bf)(v2:anD bf):anD bf->Nat->anF Int
 |[],_=>
  bif (decide ((v1.length:Int)<(v2.length:Int)))then
   some (-1:Int)
  else
   some (0:Int)
 |v5::v6,v3=>
  bif (decide ((v3:Int)>=(v2.length:Int)))then
   some (1:Int)
  else
   Option.bind (v2[((v3:Int)).toNat]?) λv7=>
   (Iw N v5 v7).bind λv8=>
   bif (v8 !=0)then
    some v8
   else
    (yb N v1 v2 v6 (v3+1))
def Q8(N:Nat)(v1:anD bf)(v2:anD bf):anF Int:=
 yb N v1 v2 v1 0
theorem aa7{N v1 v2}:KP 325 [(.d (.sl (cC v1))),(.d (.sl (cC v2))),(.fn 326 [])] [] au (λ_=>[]) (Q8 N v1 v2):=
 fh 0 Tryz.func325 (gA [[],[(4,oL v1 fc)]] (gT vP 0 v1 λh2=>js 1 [] [0,1,2,11,12,13] 0 (λv3=>⟨39,[(0,(.d (.sl (cC v1)))),(1,(.d (.sl (cC v2)))),(2,(.fn 326 [])),(11,(.d (.sl (cC v1)))),(12,(au (v1.length:Int))),(13,(au (v3:Int)))],[]⟩) (λv3 h3 f1=>gA [[],[f0 (dv h3)],[(4,oL v1 fc),(10,oL v2 fc)]] (ay (λh4=>gH [[t0 h4],[]]) λh4=>gH [[f0 h4],[]])) (λv3 v5 v6 h3 f1 aK=>gA [[],[t0 (dt h3)],[(4,oE (jM (cO h3)))],[(7,oL v2 fc)]] (ay (λh5=>gH [[t0 h5],[]]) λh5=>ax λv7 h6=>ax λv8 h8=>gA [[f0 h5],[(7,oE (jM h6))],[(10,cK ae6 h8)],[]] (ay (λh9=>gH [[t0 h9],[]]) λh9=>gb aK () [[f0 h9],[(2,oq (dR h3 rfl h2))]] h3)))))
def zP(N:Nat)(v1:aP)(v2:aP):anF Int:=
 (Q8 N v1.xL v2.xL).bind λv3=>
 bif (v3 !=0)then
  some v3
 else
  (Bl N v1.xK v2.xK).bind λv4=>
  some v4
theorem Na{N v1 v2}:KO 280 [(cz v1),(cz v2)] au (zP N v1 v2):=
 fw Tryz.func280 (ax λv3 h1=>gA [[],[(13,oQ [(.d (.sl (cC v1.xL))),(.d (.sl (cC v2.xL))),(.fn 326 [])] [.cells (cz v1).cells, .cells (cz v2).cells] [] (aa7 _ h1))],[]] (bN λh2=>ax λv4 h3=>gR [[f0 h2],[(13,cK Y2 h3)]]))
def wJ(N:Nat)(v1:anD aP)(v2:anD aP):anD aP->Nat->anF Int
 |[],_=>
  bif (decide ((v1.length:Int)<(v2.length:Int)))then
   some (-1:Int)
  else
   some (0:Int)
 |v5::v6,v3=>
  bif (decide ((v3:Int)>=(v2.length:Int)))then
   some (1:Int)
  else
   Option.bind (v2[((v3:Int)).toNat]?) λv7=>
   (zP N v5 v7).bind λv8=>
   bif (v8 !=0)then
    some v8
   else
    (wJ N v1 v2 v6 (v3+1))
def O5(N:Nat)(v1:anD aP)(v2:anD aP):anF Int:=
 wJ N v1 v2 v1 0
theorem ak0{N v1 v2}:KP 359 [(.d (.sl (ew v1))),(.d (.sl (ew v2))),(.fn 280 [])] [] au (λ_=>[]) (O5 N v1 v2):=
 fh 0 Tryz.func359 (gA [[],[(4,oL v1 gW)]] (gT Ij 0 v1 λh2=>js 1 [] [0,1,2,11,12,13] 0 (λv3=>⟨39,[(0,(.d (.sl (ew v1)))),(1,(.d (.sl (ew v2)))),(2,(.fn 280 [])),(11,(.d (.sl (ew v1)))),(12,(au (v1.length:Int))),(13,(au (v3:Int)))],[]⟩) (λv3 h3 f1=>gA [[],[f0 (dv h3)],[(4,oL v1 gW),(10,oL v2 gW)]] (ay (λh4=>gH [[t0 h4],[]]) λh4=>gH [[f0 h4],[]])) (λv3 v5 v6 h3 f1 aK=>gA [[],[t0 (dt h3)],[(4,oE (uE (cO h3)))],[(7,oL v2 gW)]] (ay (λh5=>gH [[t0 h5],[]]) λh5=>ax λv7 h6=>ax λv8 h8=>gA [[f0 h5],[(7,oE (uE h6))],[(10,cK Na h8)],[]] (ay (λh9=>gH [[t0 h9],[]]) λh9=>gb aK () [[f0 h9],[(2,oq (dR h3 rfl h2))]] h3)))))
def Iy(N:Nat)(v1:anD aP)(v2:anD aP):anF Int:=
 Option.bind (nY N (v1.length:Int) (v2.length:Int)) λv3=>
 bif (v3 !=0)then
  some v3
 else
  (O5 N v1 v2).bind λv4=>
  some v4
theorem akb{N v1 v2}:KP 329 [(.d (.sl (ew v1))),(.d (.sl (ew v2))),(.fn 280 [])] [] au (λ_=>[]) (Iy N v1 v2):=
 fh 0 Tryz.func329 (ax λv3 h1=>gA [[],[(4,oL v1 gW),(10,oL v2 gW),(13,cK tc h1)],[]] (ay (λh2=>gH [[t0 h2],[]]) λh2=>ax λv4 h3=>gH [[f0 h2],[(10,oQ [(.d (.sl (ew v1))),(.d (.sl (ew v2))),(.fn 280 [])] [] [] (ak0 _ h3))]]))
def XU(v:an)(r:anD AV):anD AV:=(au v.aq)::(bu v.aO)::(aT v.bg.xN)::(aT v.bg.xD)::(au v.aD.aL)::(au v.aD.bY)::(au v.aD.bM)::(au v.aD.b5)::(au v.aD.bK)::(aT v.aM.xK)::(.d (.sl (cC v.aM.xL)))::(.d (.sl (cH v.xIdx)))::(.d (.sl (dh v.aw)))::r
def X7(v:gv)(r:anD AV):anD AV:=(au v.yT.aL)::(au v.yT.bY)::(au v.yT.bM)::(au v.yT.b5)::(au v.yT.bK)::(aC v.cW)::r
def Hd(N:Nat)(v1:aN)(v2:aN):anF Int:=
 (Ct N v1.bI v2.bI).bind λv3=>
 bif (v3 !=0)then
  some v3
 else
  (zP N v1.aM v2.aM).bind λv4=>
  bif (v4 !=0)then
   some v4
  else
   (Iy N v1.aZ v2.aZ).bind λv5=>
   some v5
theorem afD{N v1 v2}:KO 282 [(gh v1),(gh v2)] au (Hd N v1 v2):=
 fw Tryz.func282 (ax λv3 h1=>gA [[],[(13,cL (Q9 h1))],[]] (bN λh2=>ax λv4 h3=>gA [[f0 h2],[(13,cK Na h3)],[]] (bN λh4=>ax λv5 h5=>gR [[f0 h4],[(13,oQ [(.d (.sl (ew v1.aZ))),(.d (.sl (ew v2.aZ))),(.fn 280 [])] [.cells (gh v1).cells, .cells (gh v2).cells] [] (akb _ h5))]])))
def xF(N:Nat)(v1:anD aN)(v2:anD aN):anD aN->Nat->anF Int
 |[],_=>
  bif (decide ((v1.length:Int)<(v2.length:Int)))then
   some (-1:Int)
  else
   some (0:Int)
 |v5::v6,v3=>
  bif (decide ((v3:Int)>=(v2.length:Int)))then
   some (1:Int)
  else
   Option.bind (v2[((v3:Int)).toNat]?) λv7=>
   (Hd N v5 v7).bind λv8=>
   bif (v8 !=0)then
    some v8
   else
    (xF N v1 v2 v6 (v3+1))
def QN(N:Nat)(v1:anD aN)(v2:anD aN):anF Int:=
 xF N v1 v2 v1 0
theorem alr{N v1 v2}:KP 328 [(.d (.sl (cH v1))),(.d (.sl (cH v2))),(.fn 282 [])] [] au (λ_=>[]) (QN N v1 v2):=
 fh 0 Tryz.func328 (gA [[],[(4,oL v1 fU)]] (gT vj 0 v1 λh2=>js 1 [] [0,1,2,11,12,13] 0 (λv3=>⟨39,[(0,(.d (.sl (cH v1)))),(1,(.d (.sl (cH v2)))),(2,(.fn 282 [])),(11,(.d (.sl (cH v1)))),(12,(au (v1.length:Int))),(13,(au (v3:Int)))],[]⟩) (λv3 h3 f1=>gA [[],[f0 (dv h3)],[(4,oL v1 fU),(10,oL v2 fU)]] (ay (λh4=>gH [[t0 h4],[]]) λh4=>gH [[f0 h4],[]])) (λv3 v5 v6 h3 f1 aK=>gA [[],[t0 (dt h3)],[(4,oE (kC (cO h3)))],[(7,oL v2 fU)]] (ay (λh5=>gH [[t0 h5],[]]) λh5=>ax λv7 h6=>ax λv8 h8=>gA [[f0 h5],[(7,oE (kC h6))],[(10,cK afD h8)],[]] (ay (λh9=>gH [[t0 h9],[]]) λh9=>gb aK () [[f0 h9],[(2,oq (dR h3 rfl h2))]] h3)))))
def Jj(N:Nat)(v1:anD aN)(v2:anD aN):anF Int:=
 Option.bind (nY N (v1.length:Int) (v2.length:Int)) λv3=>
 bif (v3 !=0)then
  some v3
 else
  (QN N v1 v2).bind λv4=>
  some v4
theorem aaf{N v1 v2}:KP 281 [(.d (.sl (cH v1))),(.d (.sl (cH v2))),(.fn 282 [])] [] au (λ_=>[]) (Jj N v1 v2):=
 fh 0 Tryz.func281 (ax λv3 h1=>gA [[],[(4,oL v1 fU),(10,oL v2 fU),(13,cK tc h1)],[]] (ay (λh2=>gH [[t0 h2],[]]) λh2=>ax λv4 h3=>gH [[f0 h2],[(10,oQ [(.d (.sl (cH v1))),(.d (.sl (cH v2))),(.fn 282 [])] [] [] (alr _ h3))]]))
def wY(N:Nat)(v1:anD an)(v2:anD an)(Yf:an->an->anF Int):anD an->Nat->anF Int
 |[],_=>
  bif (decide ((v1.length:Int)<(v2.length:Int)))then
   some (-1:Int)
  else
   some (0:Int)
 |v5::v6,v3=>
  bif (decide ((v3:Int)>=(v2.length:Int)))then
   some (1:Int)
  else
   Option.bind (v2[((v3:Int)).toNat]?) λv7=>
   (Yf v5 v7).bind λv8=>
   bif (v8 !=0)then
    some v8
   else
    (wY N v1 v2 Yf v6 (v3+1))
mutual
def uK(N:Nat):Nat->an->an->anF Int
 |0,_,_=>none
 |d+1,v1,v2=>
  (nY N v1.aq v2.aq).bind λv3=>
  (Ct N v1.aO v2.aO).bind λv4=>
  (BI N v1.bg.xN v2.bg.xN).bind λv5=>
  (BI N v1.bg.xD v2.bg.xD).bind λv6=>
  (Hj N v1.aD v2.aD).bind λv7=>
  (zP N v1.aM v2.aM).bind λv8=>
  Option.bind (EH N ([v3,v4,v5,v6,v7,v8])) λv9=>
  bif (v9 !=0)then
   some v9
  else
   (Jj N v1.xIdx v2.xIdx).bind λv10=>
   bif (v10 !=0)then
    some v10
   else
    Option.bind ((EU N d) v1.aw v2.aw) λv11=>
    some v11
def EU(N:Nat):Nat->(anD an)->(anD an)->anF Int
 |0,_,_=>none
 |d+1,v1,v2=>
  Option.bind (nY N (v1.length:Int) (v2.length:Int)) λv3=>
  bif (v3 !=0)then
   some v3
  else
   Option.bind ((BY N d) v1 v2) λv4=>
   some v4
def BY(N:Nat):Nat->(anD an)->(anD an)->anF Int
 |0,_,_=>none
 |d+1,v1,v2=>
  wY N v1 v2 (uK N d) v1 0
end
def Ql(N:Nat)(v1:an)(v2:an):anF Int:=uK N N v1 v2
theorem ahy(N:Nat):∀d:Nat,(∀{v1:an}{v2:an},KO 228 [(aA v1),(aA v2)] au (uK N d v1 v2))/\(∀{v1:anD an}{v2:anD an},KP 283 [(.d (.sl (dh v1))),(.d (.sl (dh v2))),(.fn 228 [])] [] au (λ_=>[]) (EU N d v1 v2))/\(∀{v1:anD an}{v2:anD an},KP 330 [(.d (.sl (dh v1))),(.d (.sl (dh v2))),(.fn 228 [])] [] au (λ_=>[]) (BY N d v1 v2)):=by
 intro d
 induction d with
 |zero=>exact⟨(by intro v1 v2 r J;rw[uK]at J;cases J),(by intro v1 v2 r J;rw[EU]at J;cases J),(by intro v1 v2 r J;rw[BY]at J;cases J)⟩
 |succ d ih=>
  have aiQ:= @ih.1;have aaU:= @ih.2.1;have aiC:= @ih.2.2;refine⟨?_,?_,?_⟩
  ·intro v1 v2;rw[uK];exact fw Tryz.func228 (ax λv3 h1=>ax λv4 h2=>ax λv5 h3=>ax λv6 h4=>ax λv7 h5=>ax λv8 h6=>ax λv9 h7=>gA [[],[(13,cK tc h1),(28,cL (Q9 h2)),(49,cK Y6 h3),(70,cK Y6 h4),(85,cK aeu h5),(100,cK Na h6),(106,cK Se h7)],[]] (bN λh8=>ax λv10 h9=>gA [[(0,bF h8)],[(13,oQ [(.d (.sl (cH v1.xIdx))),(.d (.sl (cH v2.xIdx))),(.fn 282 [])] [.cells (aA v1).cells, .cells (aA v2).cells] [] (aaf _ h9))],[]] (bN λbk=>ax λv11 bo=>gR [[(0,bF bk)],[(13,oQ [(.d (.sl (dh v1.aw))),(.d (.sl (dh v2.aw))),(.fn 228 [])] [.cells (aA v1).cells, .cells (aA v2).cells] [] (aaU _ bo))]])))
  ·intro v1 v2;rw[EU];exact fh 0 Tryz.func283 (ax λv3 h1=>gA [[],[(4,oL v1 fS),(10,oL v2 fS),(13,cK tc h1)],[]] (ay (λh2=>gH [[(0,bT h2)],[]]) λh2=>ax λv4 h3=>gH [[(0,bF h2)],[(10,oQ [(.d (.sl (dh v1))),(.d (.sl (dh v2))),(.fn 228 [])] [] [] (aiC _ h3))]]))
  intro v1 v2;rw[BY];exact fh 0 Tryz.func330 (gA [[],[(4,oL v1 fS)]] (gT rY 0 v1 λh2=>js 1 [] [0,1,2,11,12,13] 0 (λv3=>⟨39,[(0,(.d (.sl (dh v1)))),(1,(.d (.sl (dh v2)))),(2,(.fn 228 [])),(11,(.d (.sl (dh v1)))),(12,(au (v1.length:Int))),(13,(au (v3:Int)))],[]⟩) (λv3 h3 f1=>gA [[],[(0,bF (dv h3))],[(4,oL v1 fS),(10,oL v2 fS)]] (ay (λh4=>gH [[(0,bT h4)],[]]) λh4=>gH [[(0,bF h4)],[]])) (λv3 v5 v6 h3 f1 aK=>gA [[],[(0,bT (dt h3))],[(4,oE (cn (cO h3)))],[(7,oL v2 fS)]] (ay (λh5=>gH [[(0,bT h5)],[]]) λh5=>ax λv7 h6=>ax λv8 h8=>gA [[(0,bF h5)],[(7,oE (cn h6))],[(10,cK aiQ h8)],[]] (ay (λh9=>gH [[(0,bT h9)],[]]) λh9=>gb aK () [[(0,bF h9)],[(2,oq (dR h3 rfl h2))]] h3)))))
theorem aiM{N v1 v2}:KO 228 [(aA v1),(aA v2)] au (Ql N v1 v2):=(ahy N N).1
def qK(N:Nat)(v1:an)(v2:an):anF Bool:=
 (Ql N v1 v2).bind λv3=>
 some (v3==0)
theorem EY{N v1 v2}:KO 173 [(aA v1),(aA v2)] aC (qK N v1 v2):=
 fw Tryz.func173 (ax λv3 h1=>gR [[],[(7,cK aiM h1)]])
def El(N:Nat)(v2:an)(v3:an)(v1:an):anF (Bool×Bool):=
 (qK N v2 v3).bind λv10=>
 bif v10 then
  some ((v1.aq !=13),true)
 else
  some (false,false)
def xq(N:Nat)(v1:an):anF (Bool×Bool):=
 Option.bind (v1.aw[0]?) λv2=>
 Option.bind (v1.aw[1]?) λv3=>
 Option.bind (bif (v2.aq==1)then(bif (v3.aq==1)then some ((v2.aD.aL==v3.aD.aL)&&((v2.aD.bY==v3.aD.bY)&&((v2.aD.bM==v3.aD.bM)&&((v2.aD.b5==v3.aD.b5)&&((v2.aD.bK==v3.aD.bK)&&true)))))else some false)else some false) λv4=>
 bif v4 then
  (zy N v2.aD v2.bg v3.bg).bind λv5=>
  (ye N v1.aq v5).bind λv6=>
  some (v6,true)
 else
  (sJ N v2).bind λv7=>
  (sJ N v3).bind λv8=>
  (bif v7.2 then some v8.2 else some false).bind λv9=>
  bif v9 then
   (yU N v7.1 v8.1).bind λv11=>
   Option.bind (bif v11.2 then some ((v11.1.xL.length:Int)==0)else some false) λv12=>
   bif v12 then
    bif (decide (v11.1.xK.toInt<0))then
     Option.bind (ye N v1.aq (-1:Int)) λaW=>
     some (aW,true)
    else
     bif (decide (v11.1.xK.toInt>0))then
      Option.bind (ye N v1.aq (1:Int)) λbX=>
      some (bX,true)
     else
      Option.bind (ye N v1.aq (0:Int)) λb7=>
      some (b7,true)
   else
    El N v2 v3 v1
  else
   El N v2 v3 v1
def EP(v1:an)(v2:an)(v3:an)(l:anD ao):anD ao:= .cells (aA v1).cells:: .cells (aA v2).cells:: .cells (aA v3).cells::l
theorem alK{N v1}:KO 227 [(aA v1)] (λr=> .aQ [(aC r.1),(aC r.2)]) (xq N v1):=
 fw Tryz.func227 (gA [[]] (ax λv2 h1=>ax λv3 h2=>li (λ_=>(yw 20 aX [(4,(.ptr 1 0)),(5,(.ptr 2 0))] (EP v1 v2 v3 []) ⟨[(7,oE (k:=0) (cn h1)),(19,oE (k:=1) (cn h2))],by kernel_rfl⟩ ·)) (gG (λv4=>[(35,(aC v4))]) (λ_=>(EP v1 v2 v3 [])) (ay (λh3=>cm (3,bT h3) (ay (λh4=>gE [(8,bT h4)] []) λh4=>gE [(8,bF h4)] [])) λh3=>gE [(3,bF h3),(8,bF rfl)] []) λv4=>ay (λh6=>ax λv5 h7=>ax λv6 h8=>gR [[t0 h6],[(25,cK PQ h7),(28,cK Gb h8)]]) λh6=>ax λv7 h9=>ax λv8 bk=>gA [[f0 h6],[(4,cK Jw h9)],[(4,cK Jw bk)]] (gG (λv9=>[(59,(aC v9))]) (λ_=>(EP v1 v2 v3 [.cells (cz v7.1).cells, .cells (cz v8.1).cells])) (ay (λbo=>gE [(1,bT bo)] []) λbo=>gE [(1,bF bo)] []) λv9=>gj0 1 [] [1,4,5] 5 ⟨91,[(1,(.ptr 0 0)),(4,(.ptr 1 0)),(5,(.ptr 2 0))],(EP v1 v2 v3 [.cells (cz v7.1).cells, .cells (cz v8.1).cells])⟩ (El N v2 v3 v1) (λf1 aK=>ay (λcq=>ax λv11 bH=>gA [[t0 cq],[(7,cK WV bH)]] (gG (λv12=>[(72,(aC v12))]) (λ_=>(EP v1 v2 v3 [.cells (cz v7.1).cells, .cells (cz v8.1).cells, .cells (cz v11.1).cells])) (ay (λcE=>gE [(1,bT cE)] [(13,oL v11.1.xL fc)]) λcE=>gE [(1,bF cE)] []) λv12=>ay (λdC=>gA [[t0 dC],[],[]] (ay (λdj=>ax λaW fx=>gR [[t0 dj],[],[(10,cK Gb fx)]]) λdj=>gA [[f0 dj],[]] (ay (λiz=>ax λbX iB=>gR [[t0 iz],[],[(10,cK Gb iB)]]) λiz=>ax λb7 kh=>gR [[f0 iz],[(10,cK Gb kh)]]))) λdC=>gm aK () [[f0 dC]])) λcq=>gm aK () [[f0 cq]]) (ax λv10 cf=>gA [[(7,cK EY cf)]] (bN λct=>gR [[f0 ct],[]]))))))
def O3(N:Nat)(v1:an)(AA:an->anF (Bool×Bool))(v7:Bool):anF (Bool×Bool):=
 bif v7 then
  Option.bind (v1.aw[0]?) λv8=>
  (AA v8).bind λv9=>
  Option.bind (v1.aw[1]?) λv10=>
  (AA v10).bind λv11=>
  Option.bind (bif v9.2 then(bif (v9.1==(v1.aq==17))then some true else(bif v11.2 then some (v11.1==(v1.aq==17))else some false))else(bif v11.2 then some (v11.1==(v1.aq==17))else some false)) λv12=>
  bif v12 then
   some ((v1.aq==17),true)
  else
   Option.bind (bif (v1.aq==17)then(bif v9.2 then some (false,v11.2)else some (false,false))else(bif v9.2 then some (v11.2,v11.2)else some (false,false))) λaW=>
   some (aW.1,aW.2)
 else
  some (false,false)
def Kf(N:Nat)(v1:an)(AA:an->anF (Bool×Bool))(v2:Bool):anF (Bool×Bool):=
 bif v2 then
  (xq N v1).bind λv3=>
  some (v3.1,v3.2)
 else
  bif (v1.aq==18)then
   Option.bind (v1.aw[0]?) λv4=>
   (AA v4).bind λv5=>
   Option.bind (bif v5.2 then some (!v5.1)else some false) λv6=>
   some (v6,v5.2)
  else
   bif (v1.aq==16)then
    O3 N v1 AA (v1.aq==16)
   else
    O3 N v1 AA (v1.aq==17)
def kt(N:Nat):Nat->an->anF (Bool×Bool)
 |0,_=>none
 |d+1,v1=>
  bif (v1.aq==13)then
   Kf N v1 (kt N d) (v1.aq==13)
  else
   bif (v1.aq==14)then
    Kf N v1 (kt N d) (v1.aq==14)
   else
    Kf N v1 (kt N d) (v1.aq==15)
def wX(N:Nat)(v1:an):anF (Bool×Bool):=kt N N v1
def A3(v1:an)(l:anD ao):anD ao:= .cells (aA v1).cells::l
theorem abK(N:Nat):∀d:Nat,(∀{v1:an},KO 172 [(aA v1)] (λr=> .aQ [(aC r.1),(aC r.2)]) (kt N d v1)):=by
 intro d
 induction d with
 |zero=>intro v1 r J;rw[kt]at J;cases J
 |succ d ih=>
  have Lu:= @ih;intro v1;rw[kt];exact fw Tryz.func172 (lH 1 [[],[],[]] [1,12,13] 1 (λ(v2:Bool)=>⟨86,[(1,(.ptr 0 0)),(12,(au v1.aq)),(13,(aC v2))],(A3 v1 [])⟩) (Kf N v1 (kt N d)) (λf1 aK=>ay (λkh=>gm aK (v1.aq==13) [[(0,bT kh)]]) λkh=>gA [[(0,bF kh)],[]] (ay (λnp=>gm aK (v1.aq==14) [[(0,bT np)]]) λnp=>gm aK (v1.aq==15) [[(0,bF np)],[]])) (λv2=>ay (λh1=>ax λv3 h2=>gR [[(0,bT h1)],[(4,cK alK h2)]]) λh1=>gA [[(0,bF h1)],[]] (ay (λh3=>ax λv4 h4=>ax λv5 h5=>gA [[(0,bT h3)],[(7,oE (k:=0) (cn h4)),(13,cK Lu h5)]] (gG (λv6=>[(2,(aC v6)),(3,(aC v5.2))]) (λ_=>(A3 v1 [])) (ay (λh6=>gE [(1,bT h6)] []) λh6=>gE [(1,bF h6)] []) λv6=>gR [])) λh3=>lH 2 [[(0,bF h3)],[]] [1,37] 1 (λ(v7:Bool)=>⟨86,[(1,(.ptr 0 0)),(37,(aC v7))],(A3 v1 [])⟩) (O3 N v1 (kt N d)) (λf2 fY=>ay (λiB=>gm fY (v1.aq==16) [[(0,bT iB)]]) λiB=>gm fY (v1.aq==17) [[(0,bF iB)],[]]) (λv7=>ky λh8=>ax λv8 h9=>ax λv9 bk=>ax λv10 bo=>ax λv11 bJ=>gA [[(0,bT h8)],[(7,oE (k:=0) (cn h9)),(13,cK Lu bk)],[(7,oE (k:=1) (cn bo)),(13,cK Lu bJ)],[]] (gG (λv12=>[(72,(aC v12))]) (λ_=>(A3 v1 [])) (ay (λcf=>cm (1,bT cf) (ay (λct=>gE [(6,bT ct),(8,uN)] []) λct=>cm (6,bF ct) (ay (λcq=>gE [(8,bT cq)] [(37,bT cq)]) λcq=>gE [(8,bF cq)] [(37,bF cq)]))) λcf=>cm (1,bF cf) (cm (6,bF rfl) (ay (λbH=>gE [(8,bT bH)] [(37,bT bH)]) λbH=>gE [(8,bF bH)] [(37,bF bH)]))) λv12=>bN λcY=>gA [[(0,bF cY)]] (gG (λaW=>[(2,(aC aW.1)),(3,(aC aW.2))]) (λ_=>(A3 v1 [])) (ay (λdC=>cm (2,bF (du dC)) (cm (5,bF rfl) (ay (λdj=>gE [(9,bT dj)] []) λdj=>gE [(9,bF dj)] []))) λdC=>cm (2,bT (dD dC)) (ay (λfx=>gE [(5,bT fx),(9,bT fx)] []) λfx=>gE [(5,bF fx),(9,bF fx)] [])) λaW=>gR []))))))
theorem Oe{N v1}:KO 172 [(aA v1)] (λr=> .aQ [(aC r.1),(aC r.2)]) (wX N v1):=(abK N N)
def JY(N:Nat)(v1:fb):anF (an×Bool):=
 bif (v1.yE.aq !=11)then
  some (fg,false)
 else
  Option.bind (v1.yE.aw[0]?) λv2=>
  (wX N v2).bind λv3=>
  bif v3.1 then
   Option.bind (v1.yE.aw[1]?) λv4=>
   some (v4,v3.2)
  else
   Option.bind (v1.yE.aw[2]?) λv5=>
   some (v5,v3.2)
theorem alm{N v1}:KO 106 [(cQ v1)] (λr=> .aQ [(aA r.1),(aC r.2)]) (JY N v1):=
 fw Tryz.func106 (gA [[],[]] (bN λh1=>ax λv2 h2=>ax λv3 h3=>gA [[f0 h1],[(10,oE (k:=0) (cn h2)),(16,cK Oe h3)],[]] (ay (λh4=>ax λv4 h5=>gR [[t0 h4],[(10,oE (k:=1) (cn h5))]]) λh4=>ax λv5 h6=>gR [[f0 h4],[(10,oE (k:=2) (cn h6))]])))
def Lt(N:Nat)(v5:an×Bool)(v6:anE)(v7:an):anF (Bool×anE×an):=
 some (v5.2,v6,v7)
def QF(N:Nat)(v1:fb)(v2:anE)(v3:anE)(v4:an):anF (Bool×anE×an):=
 (JY N v1).bind λv5=>
 bif v5.2 then
  Lt N v5 v2 v5.1
 else
  Lt N v5 v3 v4
theorem acS{N v1 v2 v3 v4}:KP 102 [(cQ v1),(.fn 106 []),(bu v2),(.ptr 0 0),(.ptr 1 0)] [.cells [(bu v3)], .cells (aA v4).cells] (λr=>aC r.1) (λr=>[.cells [(bu r.2.1)], .cells (aA r.2.2).cells]) (QF N v1 v2 v3 v4):=
 fh 2 Tryz.func102 (ax λv5 h1=>qg 1 [[],[(7,cK alm h1)],[]] [12] 4 (λ(v6:anE)(v7:an)=>⟨27,[(12,(aC v5.2))],[.cells [(bu v6)], .cells (aA v7).cells, .cells (cQ v1).cells, .cells (aA v5.1).cells]⟩) (Lt N v5) (λf1 aK=>ay (λh2=>gm aK (v2,v5.1) [[t0 h2],[]]) λh2=>gm aK (v3,v4) [[f0 h2]]) (λv6 v7=>gH [[]]))
def EI(N:Nat)(v1:fb)(v5:Bool):anF (an×Bool):=
 bif v5 then
  Option.bind (v1.yE.aw[0]?) λv6=>
  Option.bind (v1.yE.aw[1]?) λv7=>
  (qK N v6 v7).bind λv8=>
  some (v6,v8)
 else
  some (fg,false)
def Gy(N:Nat)(v1:fb):anF (an×Bool):=
 bif (v1.yE.aq==11)then
  Option.bind (v1.yE.aw[1]?) λv2=>
  Option.bind (v1.yE.aw[2]?) λv3=>
  (qK N v2 v3).bind λv4=>
  some (v2,v4)
 else
  bif (v1.yE.aq==9)then
   EI N v1 (v1.yE.aq==9)
  else
   bif (v1.yE.aq==10)then
    EI N v1 (v1.yE.aq==10)
   else
    bif (v1.yE.aq==16)then
     EI N v1 (v1.yE.aq==16)
    else
     EI N v1 (v1.yE.aq==17)
theorem agk{N v1}:KO 107 [(cQ v1)] (λr=> .aQ [(aA r.1),(aC r.2)]) (Gy N v1):=
 fw Tryz.func107 (gA [[],[],[]] (ay (λh1=>ax λv2 h2=>ax λv3 h3=>ax λv4 h4=>gR [[t0 h1],[(10,oE (k:=1) (cn h2)),(25,oE (k:=1) (cn h2)),(40,oE (k:=2) (cn h3)),(46,cK EY h4)]]) λh1=>TW 1 [[f0 h1],[]] [1,2,25] 2 [] [(1,10),(1,11),(1,12)] (λ(v5:Bool)=>⟨47,[(1,(.ptr 0 0)),(2,(.ptr 1 0)),(25,(aC v5))],[.cells (cQ v1).cells, .cells iW]⟩) (EI N v1) (λf1 aK=>ay (λh9=>tU aK (v1.yE.aq==9) [[t0 h9]]) λh9=>gA [[f0 h9],[]] (ay (λbk=>tU aK (v1.yE.aq==10) [[t0 bk]]) λbk=>gA [[f0 bk],[]] (ay (λbo=>tU aK (v1.yE.aq==16) [[t0 bo]]) λbo=>tU aK (v1.yE.aq==17) [[f0 bo],[]]))) (λv5=>ky λh5=>ax λv6 h6=>ax λv7 h7=>ax λv8 h8=>gR [[t0 h5],[(10,oE (k:=0) (cn h6)),(25,oE (k:=0) (cn h6)),(40,oE (k:=1) (cn h7)),(46,cK EY h8)]])))
def Nh(N:Nat)(v5:an×Bool)(v6:anE)(v7:an):anF (Bool×anE×an):=
 some (v5.2,v6,v7)
def Li(N:Nat)(v1:fb)(v2:anE)(v3:anE)(v4:an):anF (Bool×anE×an):=
 (Gy N v1).bind λv5=>
 bif v5.2 then
  Nh N v5 v2 v5.1
 else
  Nh N v5 v3 v4
theorem aaN{N v1 v2 v3 v4}:KP 102 [(cQ v1),(.fn 107 []),(bu v2),(.ptr 0 0),(.ptr 1 0)] [.cells [(bu v3)], .cells (aA v4).cells] (λr=>aC r.1) (λr=>[.cells [(bu r.2.1)], .cells (aA r.2.2).cells]) (Li N v1 v2 v3 v4):=
 fh 2 Tryz.func102 (ax λv5 h1=>qg 1 [[],[(7,cK agk h1)],[]] [12] 4 (λ(v6:anE)(v7:an)=>⟨27,[(12,(aC v5.2))],[.cells [(bu v6)], .cells (aA v7).cells, .cells (cQ v1).cells, .cells (aA v5.1).cells]⟩) (Nh N v5) (λf1 aK=>ay (λh2=>gm aK (v2,v5.1) [[t0 h2],[]]) λh2=>gm aK (v3,v4) [[f0 h2]]) (λv6 v7=>gH [[]]))
def y0(N:Nat)(v1:aF):anF aB:=
 (nf N v1).bind λv2=>
 bif (v2 !=0)then
  some bZ
 else
  some (⟨(0:Int64),(1:Int64)⟩:aB)
theorem Wx{N v1}:KO 177 [(cB v1)] a7 (y0 N v1):=
 fw Tryz.func177 (ax λv2 h1=>gA [[],[(4,cK qT h1)]] (bN λh2=>gR [[f0 h2],[]]))
def ku(N:Nat)(v1:an):anF Bool:=
 Option.bind (bif (v1.aq==1)then (y0 N v1.aD).bind λv2=>
 some ((v1.bg.xN.toInt==v2.xN.toInt)&&((v1.bg.xD.toInt==v2.xD.toInt)&&true))else some false) λv3=>
 some v3
theorem xO{N v1}:KO 174 [(aA v1)] aC (ku N v1):=
 fw Tryz.func174 (gA [[]] (gG (λv3=>[(2,(aC v3))]) (λ_=>[.cells (aA v1).cells]) (ay (λh1=>ax λv2 h2=>gE [(3,bT h1)] [(25,cK Wx h2)]) λh1=>gE [(3,bF h1)] []) λv3=>gR []))
def s6(N:Nat)(v1:Int)(v2:anD an):anF an:=
 some (⟨v1,(bs []),bZ,dZ,dI,[],v2⟩:an)
theorem wP{N v1 v2}:KO 175 [(au v1),(.d (.sl (dh v2)))] aA (s6 N v1 v2):=
 fw Tryz.func175 (gR [[],[]])
def FE(N:Nat)(v1:fb):anF (an×Bool):=
 (PS N v1).bind λv2=>
 bif v2 then
  Option.bind (v1.yE.aw[0]?) λv3=>
  Option.bind (v1.yE.aw[1]?) λv4=>
  bif (v1.yE.aq==4)then
   (ku N v4).bind λv5=>
   bif v5 then
    some (v3,true)
   else
    (ku N v3).bind λv6=>
    some (v4,v6)
  else
   bif (v1.yE.aq==5)then
    (ku N v4).bind λv7=>
    bif v7 then
     some (v3,true)
    else
     Option.bind (s6 N (8:Int) [v4]) λv8=>
     (ku N v3).bind λv9=>
     some (v8,v9)
   else
    bif (v1.yE.aq==6)then
     (ku N v4).bind λv10=>
     bif v10 then
      some (v4,true)
     else
      (ku N v3).bind λv11=>
      some (v3,v11)
    else
     bif (v1.yE.aq==7)then
      (ku N v3).bind λv12=>
      some (v3,v12)
     else
      some (fg,false)
 else
  some (fg,false)
theorem aby{N v1}:KO 108 [(cQ v1)] (λr=> .aQ [(aA r.1),(aC r.2)]) (FE N v1):=
 fw Tryz.func108 (ax λv2 h1=>gA [[],[(4,cK XN h1)]] (mu λh2=>gA [[f0 (du h2)]] (ax λv3 h3=>ax λv4 h4=>li (λ_=>(yw 20 aX [(4,(.ptr 2 0)),(5,(.ptr 3 0))] [.cells (cQ v1).cells, .cells iW, .cells (aA v3).cells, .cells (aA v4).cells] ⟨[(10,oE (k:=0) (cn h3)),(25,oE (k:=1) (cn h4))],by kernel_rfl⟩ ·)) (gA [[],[]] (ay (λh5=>ax λv5 h6=>gA [[t0 h5],[(4,cK xO h6)]] (bN λh7=>ax λv6 h8=>gR [[f0 h7],[(7,cK xO h8)]])) λh5=>gA [[f0 h5],[]] (ay (λh9=>ax λv7 bk=>gA [[t0 h9],[(4,cK xO bk)]] (bN λbo=>ax λv8 bJ=>ax λv9 cf=>gR [[f0 bo],[(5,⟨_,_, .eq (congrArg AV.full (iH [v4]).symm)⟩),(7,cK wP bJ),(13,cK xO cf)]])) λh9=>gA [[f0 h9],[]] (ay (λct=>ax λv10 cq=>gA [[t0 ct],[(4,cK xO cq)]] (bN λbH=>ax λv11 cE=>gR [[f0 bH],[(7,cK xO cE)]])) λct=>gA [[f0 ct],[]] (ky λcY=>ax λv12 dC=>gR [[t0 cY],[(7,cK xO dC)]]))))))))
def Rr(N:Nat)(v5:an×Bool)(v6:anE)(v7:an):anF (Bool×anE×an):=
 some (v5.2,v6,v7)
def MF(N:Nat)(v1:fb)(v2:anE)(v3:anE)(v4:an):anF (Bool×anE×an):=
 (FE N v1).bind λv5=>
 bif v5.2 then
  Rr N v5 v2 v5.1
 else
  Rr N v5 v3 v4
theorem ZB{N v1 v2 v3 v4}:KP 102 [(cQ v1),(.fn 108 []),(bu v2),(.ptr 0 0),(.ptr 1 0)] [.cells [(bu v3)], .cells (aA v4).cells] (λr=>aC r.1) (λr=>[.cells [(bu r.2.1)], .cells (aA r.2.2).cells]) (MF N v1 v2 v3 v4):=
 fh 2 Tryz.func102 (ax λv5 h1=>qg 1 [[],[(7,cK aby h1)],[]] [12] 4 (λ(v6:anE)(v7:an)=>⟨27,[(12,(aC v5.2))],[.cells [(bu v6)], .cells (aA v7).cells, .cells (cQ v1).cells, .cells (aA v5.1).cells]⟩) (Rr N v5) (λf1 aK=>ay (λh2=>gm aK (v2,v5.1) [[t0 h2],[]]) λh2=>gm aK (v3,v4) [[f0 h2]]) (λv6 v7=>gH [[]]))
def Ai(N:Nat)(v1:aF):anF (aB×Int):=
 (nf N v1).bind λv2=>
 bif (v2 !=0)then
  some (bZ,(10:Int))
 else
  bif (v1.aL !=2)then
   some ((⟨(1:Int64),(1:Int64)⟩:aB),(0:Int))
  else
   bif (decide ((0:Int)<=v1.bM))then
   Option.bind (s9 N v1 (⟨(Int64.ofInt ((1:Int)*2^(min (v1.bM).toNat (IntKind.bits .i64)))),(1:Int64)⟩:aB)) λv3=>
   bif v3 then
    some ((⟨(Int64.ofInt ((1:Int)*2^(min (v1.bM).toNat (IntKind.bits .i64)))),(1:Int64)⟩:aB),(0:Int))
   else
    some (bZ,(3:Int))
   else none
theorem RN{N v1}:KO 178 [(cB v1)] (λr=> .aQ [(a7 r.1),(au r.2)]) (Ai N v1):=
 fw Tryz.func178 (ax λv2 h1=>gA [[],[(4,cK qT h1)]] (gF λ_=>bN λh3=>gy λh4=>ax λv3 h5=>gA [[f0 h3],[(7,⟨_,_, .nn (b:=v1.bM) (of_decide_eq_true h4)⟩),(8,⟨_,_, .eq (iZ ((1:Int)*2^(min (v1.bM).toNat (IntKind.bits .i64))))⟩)],[(7,cK PZ h5)]] (rM λh6=>gR [[t0 (dD h6)],[]])))
def vr(N:Nat)(v1:an):anF Bool:=
 bif (v1.aq !=1)then
  some false
 else
  (Ai N v1.aD).bind λv2=>
  Option.bind (bif (v2.2==0)then some ((v1.bg.xN.toInt==v2.1.xN.toInt)&&((v1.bg.xD.toInt==v2.1.xD.toInt)&&true))else some false) λv3=>
  some v3
theorem VP{N v1}:KO 176 [(aA v1)] aC (vr N v1):=
 fw Tryz.func176 (gA [[],[]] (bN λh1=>ax λv2 h2=>gA [[f0 h1],[(7,cK RN h2)]] (gG (λv3=>[(2,(aC v3))]) (λ_=>[.cells (aA v1).cells, .cells (a7 v2.1).cells]) (ay (λh3=>gE [(2,bT h3)] []) λh3=>gE [(2,bF h3)] []) λv3=>gR [])))
def Hw(N:Nat)(v1:fb):anF (an×Bool):=
 Option.bind (bif (v1.yE.aq !=6)then some (v1.yE.aq !=7)else some false) λv2=>
 bif v2 then
  some (fg,false)
 else
  Option.bind (v1.yE.aw[0]?) λv3=>
  Option.bind (v1.yE.aw[1]?) λv4=>
  (vr N v4).bind λv5=>
  bif v5 then
   some (v3,true)
  else
   Option.bind (bif (v1.yE.aq==6)then (vr N v3).bind λv6=>
   some v6 else some false) λv7=>
   some (v4,v7)
def Wu(v1:fb)(l:anD ao):anD ao:= .cells (cQ v1).cells:: .cells iW::l
theorem ade{N v1}:KO 109 [(cQ v1)] (λr=> .aQ [(aA r.1),(aC r.2)]) (Hw N v1):=
 fw Tryz.func109 (gA [[]] (gG (λv2=>[(15,(aC v2))]) (λ_=>(Wu v1 [])) (ay (λh1=>gE [(4,bT h1)] []) λh1=>gE [(4,bF h1)] []) λv2=>bN λh3=>gA [[f0 h3]] (ax λv3 h4=>ax λv4 h5=>li (λ_=>(yw 20 aX [(4,(.ptr 2 0)),(5,(.ptr 3 0))] (Wu v1 [.cells (aA v3).cells, .cells (aA v4).cells]) ⟨[(10,oE (k:=0) (cn h4)),(25,oE (k:=1) (cn h5))],by kernel_rfl⟩ ·)) (ax λv5 h6=>gA [[(4,cK VP h6)]] (bN λh7=>gA [[f0 h7]] (gG (λv7=>[(3,(aC v7))]) (λ_=>[.cells (cQ v1).cells, .cells (aA v4).cells, .cells (aA v3).cells, .cells (aA v4).cells]) (ay (λh8=>ax λv6 h9=>gE [(5,bT h8)] [(22,cK VP h9)]) λh8=>gE [(5,bF h8)] []) λv7=>gR []))))))
def PW(N:Nat)(v5:an×Bool)(v6:anE)(v7:an):anF (Bool×anE×an):=
 some (v5.2,v6,v7)
def KK(N:Nat)(v1:fb)(v2:anE)(v3:anE)(v4:an):anF (Bool×anE×an):=
 (Hw N v1).bind λv5=>
 bif v5.2 then
  PW N v5 v2 v5.1
 else
  PW N v5 v3 v4
theorem aj6{N v1 v2 v3 v4}:KP 102 [(cQ v1),(.fn 109 []),(bu v2),(.ptr 0 0),(.ptr 1 0)] [.cells [(bu v3)], .cells (aA v4).cells] (λr=>aC r.1) (λr=>[.cells [(bu r.2.1)], .cells (aA r.2.2).cells]) (KK N v1 v2 v3 v4):=
 fh 2 Tryz.func102 (ax λv5 h1=>qg 1 [[],[(7,cK ade h1)],[]] [12] 4 (λ(v6:anE)(v7:an)=>⟨27,[(12,(aC v5.2))],[.cells [(bu v6)], .cells (aA v7).cells, .cells (cQ v1).cells, .cells (aA v5.1).cells]⟩) (PW N v5) (λf1 aK=>ay (λh2=>gm aK (v2,v5.1) [[t0 h2],[]]) λh2=>gm aK (v3,v4) [[f0 h2]]) (λv6 v7=>gH [[]]))
def Hh(N:Nat)(v1:fb):anF (an×Bool):=
 Option.bind (bif (v1.yE.aq !=5)then(bif (v1.yE.aq !=7)then some true else(bif v1.kM.cW then Option.bind (v1.yE.aw[0]?) λv2=>
 Option.bind (v1.yE.aw[1]?) λv3=>
 (qK N v2 v3).bind λv4=>
 some (!v4)else some true))else(bif v1.kM.cW then Option.bind (v1.yE.aw[0]?) λv5=>
 Option.bind (v1.yE.aw[1]?) λv6=>
 (qK N v5 v6).bind λv7=>
 some (!v7)else some true)) λv8=>
 bif v8 then
  some (fg,false)
 else
  bif (v1.yE.aq==5)then
   (y0 N v1.kM.yT).bind λv9=>
   (ta N v1.kM.yT v9).bind λv10=>
   some (v10,true)
  else
   (Ai N v1.kM.yT).bind λv11=>
   (ta N v1.kM.yT v11.1).bind λv12=>
   Option.bind (bif (v1.kM.yT.aL !=2)then some (v11.2==0)else some false) λaW=>
   some (v12,aW)
theorem acw{N v1}:KO 110 [(cQ v1)] (λr=> .aQ [(aA r.1),(aC r.2)]) (Hh N v1):=
 fw Tryz.func110 (gA [[]] (gG (λv8=>[(36,(aC v8))]) (λ_=>[.cells (cQ v1).cells, .cells iW]) (ay (λh1=>cm (4,bT h1) (ay (λh2=>gE [(10,bT h2),(16,bT rfl)] []) λh2=>cm (10,bF h2) (ay (λh3=>ax λv2 h4=>ax λv3 h5=>ax λv4 h6=>gE [(16,bF (du h3))] [(61,oE (k:=0) (cn h4)),(76,oE (k:=1) (cn h5)),(82,cK EY h6)]) λh3=>gE [(16,bT (dD h3))] []))) λh1=>cm (4,bF h1) (cm (10,bF rfl) (ay (λh7=>ax λv5 h8=>ax λv6 h9=>ax λv7 bk=>gE [(16,bF (du h7))] [(61,oE (k:=0) (cn h8)),(76,oE (k:=1) (cn h9)),(82,cK EY bk)]) λh7=>gE [(16,bT (dD h7))] []))) λv8=>bN λbJ=>gA [[f0 bJ],[],[]] (ay (λcf=>ax λv9 ct=>ax λv10 cq=>gR [[t0 cf],[(7,cK Wx ct),(10,cK D0 cq)]]) λcf=>ax λv11 bH=>gA [[f0 cf],[(4,cK RN bH)]] (ax λv12 cE=>gG (λaW=>[(3,(aC aW))]) (λ_=>[.cells (cQ v1).cells, .cells (aA v12).cells, .cells (cB v1.kM.yT).cells, .cells (a7 v11.1).cells]) (cP (7,cK D0 cE) (ay (λcY=>gE [(6,bT cY)] []) λcY=>gE [(6,bF cY)] [])) λaW=>gR []))))
def OX(N:Nat)(v5:an×Bool)(v6:anE)(v7:an):anF (Bool×anE×an):=
 some (v5.2,v6,v7)
def Ri(N:Nat)(v1:fb)(v2:anE)(v3:anE)(v4:an):anF (Bool×anE×an):=
 (Hh N v1).bind λv5=>
 bif v5.2 then
  OX N v5 v2 v5.1
 else
  OX N v5 v3 v4
theorem ad0{N v1 v2 v3 v4}:KP 102 [(cQ v1),(.fn 110 []),(bu v2),(.ptr 0 0),(.ptr 1 0)] [.cells [(bu v3)], .cells (aA v4).cells] (λr=>aC r.1) (λr=>[.cells [(bu r.2.1)], .cells (aA r.2.2).cells]) (Ri N v1 v2 v3 v4):=
 fh 2 Tryz.func102 (ax λv5 h1=>qg 1 [[],[(7,cK acw h1)],[]] [12] 4 (λ(v6:anE)(v7:an)=>⟨27,[(12,(aC v5.2))],[.cells [(bu v6)], .cells (aA v7).cells, .cells (cQ v1).cells, .cells (aA v5.1).cells]⟩) (OX N v5) (λf1 aK=>ay (λh2=>gm aK (v2,v5.1) [[t0 h2],[]]) λh2=>gm aK (v3,v4) [[f0 h2]]) (λv6 v7=>gH [[]]))
def JL(N:Nat)(v1:fb):anF (an×Bool):=
 Option.bind (bif v1.kM.cW then(bif (v1.kM.yT.aL==2)then(bif (v1.kM.yT.bK !=2)then some true else some ((v1.yE.aw.length:Int)==0))else some ((v1.yE.aw.length:Int)==0))else some true) λv2=>
 bif v2 then
  some (fg,false)
 else
  Option.bind (v1.yE.aw[0]?) λv3=>
  bif (decide ((0:Int)<=(aS ((v1.yE.aw.length:Int)-(1:Int)))))then
  Option.bind (v1.yE.aw[((aS ((v1.yE.aw.length:Int)-(1:Int)))).toNat]?) λv4=>
  Option.bind (bif (v1.yE.aq==8)then some (v3.aq==8)else some false) λv5=>
  bif v5 then
   Option.bind (v3.aw[0]?) λv6=>
   some (v6,true)
  else
   Option.bind (bif (v1.yE.aq==4)then some (v4.aq==8)else some false) λv7=>
   bif v7 then
    Option.bind (v4.aw[0]?) λv8=>
    Option.bind (s6 N (5:Int) ([v3,v8])) λv9=>
    some (v9,true)
   else
    Option.bind (bif (v1.yE.aq==4)then some (v3.aq==8)else some false) λv10=>
    bif v10 then
     Option.bind (v3.aw[0]?) λv11=>
     Option.bind (s6 N (5:Int) ([v4,v11])) λv12=>
     some (v12,true)
    else
     Option.bind (bif (v1.yE.aq==5)then some (v4.aq==8)else some false) λaW=>
     bif aW then
      Option.bind (v4.aw[0]?) λbX=>
      Option.bind (s6 N (4:Int) ([v3,bX])) λb7=>
      some (b7,true)
     else
      some (fg,false)
  else none
def YP(v1:fb)(l:anD ao):anD ao:= .cells (cQ v1).cells:: .cells iW::l
def Em(v1:fb)(v3:an)(v4:an)(l:anD ao):anD ao:=YP v1 (.cells (aA v3).cells:: .cells (aA v4).cells::l)
theorem ahv{N v1}:KO 111 [(cQ v1)] (λr=> .aQ [(aA r.1),(aC r.2)]) (JL N v1):=
 fw Tryz.func111 (gA [[]] (gG (λv2=>[(30,(aC v2))]) (λ_=>(YP v1 [])) (ay (λh1=>cm (4,bF (du h1)) (ay (λh2=>cm (10,bT h2) (cP (49,bT h2) (ay (λh3=>gE [(18,bT h3)] []) λh3=>gE [(18,bF h3)] [(67,oL v1.yE.aw fS)]))) λh2=>gE [(10,bF h2),(18,bF rfl)] [(49,bF h2),(67,oL v1.yE.aw fS)])) λh1=>gE [(4,bT (dD h1)),(10,uN),(18,bT rfl)] []) λv2=>bN λh5=>gA [[f0 h5]] (ax λv3 h6=>gy λh8=>ax λv4 h7=>li (λ_=>(yw 78 aX [(4,(.ptr 2 0)),(5,(.ptr 3 0))] (Em v1 v3 v4 []) ⟨[(10,oE (k:=0) (cn h6)),(34,oL v1.yE.aw fS),(40,⟨_,_, .el (xs:=dh v1.yE.aw) (i:=(aS ((v1.yE.aw.length:Int)-(1:Int)))) (of_decide_eq_true h8) (cn h7)⟩)],by kernel_rfl⟩ ·)) (gG (λv5=>[(47,(aC v5))]) (λ_=>(Em v1 v3 v4 [])) (ay (λh9=>gE [(4,bT h9)] []) λh9=>gE [(4,bF h9)] []) λv5=>ay (λbo=>ax λv6 bJ=>gR [[t0 bo],[(7,oE (k:=0) (cn bJ))]]) λbo=>gA [[f0 bo]] (gG (λv7=>[(61,(aC v7))]) (λ_=>(Em v1 v3 v4 [])) (ay (λcf=>gE [(4,bT cf)] []) λcf=>gE [(4,bF cf)] []) λv7=>ay (λcq=>ax λv8 bH=>ax λv9 cE=>gR [[t0 cq],[(10,oE (k:=0) (cn bH)),(17,⟨_,_, .eq (congrArg AV.full (iH [v3,v8]).symm)⟩),(19,cK wP cE)]]) λcq=>gA [[f0 cq]] (gG (λv10=>[(78,(aC v10))]) (λ_=>(Em v1 v3 v4 [])) (ay (λcY=>gE [(4,bT cY)] []) λcY=>gE [(4,bF cY)] []) λv10=>ay (λdj=>ax λv11 fx=>ax λv12 iz=>gR [[t0 dj],[(10,oE (k:=0) (cn fx)),(17,⟨_,_, .eq (congrArg AV.full (iH [v4,v11]).symm)⟩),(19,cK wP iz)]]) λdj=>gA [[f0 dj]] (gG (λaW=>[(95,(aC aW))]) (λ_=>(Em v1 v3 v4 [])) (ay (λiB=>gE [(4,bT iB)] []) λiB=>gE [(4,bF iB)] []) λaW=>ky λnp=>ax λbX Fc=>ax λb7 rV=>gR [[t0 np],[(10,oE (k:=0) (cn Fc)),(17,⟨_,_, .eq (congrArg AV.full (iH [v3,bX]).symm)⟩),(19,cK wP rV)]])))))))
def OD(N:Nat)(v5:an×Bool)(v6:anE)(v7:an):anF (Bool×anE×an):=
 some (v5.2,v6,v7)
def QL(N:Nat)(v1:fb)(v2:anE)(v3:anE)(v4:an):anF (Bool×anE×an):=
 (JL N v1).bind λv5=>
 bif v5.2 then
  OD N v5 v2 v5.1
 else
  OD N v5 v3 v4
theorem aip{N v1 v2 v3 v4}:KP 102 [(cQ v1),(.fn 111 []),(bu v2),(.ptr 0 0),(.ptr 1 0)] [.cells [(bu v3)], .cells (aA v4).cells] (λr=>aC r.1) (λr=>[.cells [(bu r.2.1)], .cells (aA r.2.2).cells]) (QL N v1 v2 v3 v4):=
 fh 2 Tryz.func102 (ax λv5 h1=>qg 1 [[],[(7,cK ahv h1)],[]] [12] 4 (λ(v6:anE)(v7:an)=>⟨27,[(12,(aC v5.2))],[.cells [(bu v6)], .cells (aA v7).cells, .cells (cQ v1).cells, .cells (aA v5.1).cells]⟩) (OD N v5) (λf1 aK=>ay (λh2=>gm aK (v2,v5.1) [[t0 h2],[]]) λh2=>gm aK (v3,v4) [[f0 h2]]) (λv6 v7=>gH [[]]))
def Hx(N:Nat)(v1:fb):anF (an×Bool):=
 Option.bind (bif (v1.yE.aq !=18)then some (v1.yE.aq !=11)else some false) λv2=>
 bif v2 then
  some (fg,false)
 else
  Option.bind (v1.yE.aw[0]?) λv3=>
  bif (v1.yE.aq==11)then
   bif (v3.aq !=18)then
    some (fg,false)
   else
    Option.bind (v3.aw[0]?) λv4=>
    Option.bind (v1.yE.aw[2]?) λv5=>
    Option.bind (v1.yE.aw[1]?) λv6=>
    Option.bind (s6 N (11:Int) ([v4,v5,v6])) λv7=>
    some (v7,true)
  else
   bif (v3.aq==18)then
    Option.bind (v3.aw[0]?) λv8=>
    some (v8,true)
   else
    bif (v3.aq==13)then
     Option.bind (v3.aw[1]?) λv9=>
     Option.bind (v3.aw[0]?) λv10=>
     Option.bind (s6 N (14:Int) ([v9,v10])) λv11=>
     some (v11,true)
    else
     bif (v3.aq==14)then
      Option.bind (v3.aw[1]?) λv12=>
      Option.bind (v3.aw[0]?) λaW=>
      Option.bind (s6 N (13:Int) ([v12,aW])) λbX=>
      some (bX,true)
     else
      some (fg,false)
theorem abb{N v1}:KO 112 [(cQ v1)] (λr=> .aQ [(aA r.1),(aC r.2)]) (Hx N v1):=
 fw Tryz.func112 (gA [[]] (gG (λv2=>[(14,(aC v2))]) (λ_=>[.cells (cQ v1).cells, .cells iW]) (ay (λh1=>gE [(4,bT h1)] []) λh1=>gE [(4,bF h1)] []) λv2=>bN λh3=>ax λv3 h4=>gA [[f0 h3],[(10,oE (k:=0) (cn h4))],[]] (ay (λh5=>gA [[t0 h5],[]] (bN λh6=>ax λv4 h7=>ax λv5 h8=>ax λv6 h9=>ax λv7 bk=>gR [[f0 h6],[(7,oE (k:=0) (cn h7)),(22,oE (k:=2) (cn h8)),(37,oE (k:=1) (cn h9)),(44,⟨_,_, .eq (congrArg AV.full (iH [v4,v5,v6]).symm)⟩),(46,cK wP bk)]])) λh5=>gA [[f0 h5],[]] (ay (λbo=>ax λv8 bJ=>gR [[t0 bo],[(7,oE (k:=0) (cn bJ))]]) λbo=>gA [[f0 bo],[]] (ay (λcf=>ax λv9 ct=>ax λv10 cq=>ax λv11 bH=>gR [[t0 cf],[(7,oE (k:=1) (cn ct)),(19,oE (k:=0) (cn cq)),(26,⟨_,_, .eq (congrArg AV.full (iH [v9,v10]).symm)⟩),(28,cK wP bH)]]) λcf=>gA [[f0 cf],[]] (ky λcE=>ax λv12 cY=>ax λaW dC=>ax λbX dj=>gR [[t0 cE],[(7,oE (k:=1) (cn cY)),(19,oE (k:=0) (cn dC)),(26,⟨_,_, .eq (congrArg AV.full (iH [v12,aW]).symm)⟩),(28,cK wP dj)]]))))))
def Nl(N:Nat)(v5:an×Bool)(v6:anE)(v7:an):anF (Bool×anE×an):=
 some (v5.2,v6,v7)
def Oo(N:Nat)(v1:fb)(v2:anE)(v3:anE)(v4:an):anF (Bool×anE×an):=
 (Hx N v1).bind λv5=>
 bif v5.2 then
  Nl N v5 v2 v5.1
 else
  Nl N v5 v3 v4
theorem agd{N v1 v2 v3 v4}:KP 102 [(cQ v1),(.fn 112 []),(bu v2),(.ptr 0 0),(.ptr 1 0)] [.cells [(bu v3)], .cells (aA v4).cells] (λr=>aC r.1) (λr=>[.cells [(bu r.2.1)], .cells (aA r.2.2).cells]) (Oo N v1 v2 v3 v4):=
 fh 2 Tryz.func102 (ax λv5 h1=>qg 1 [[],[(7,cK abb h1)],[]] [12] 4 (λ(v6:anE)(v7:an)=>⟨27,[(12,(aC v5.2))],[.cells [(bu v6)], .cells (aA v7).cells, .cells (cQ v1).cells, .cells (aA v5.1).cells]⟩) (Nl N v5) (λf1 aK=>ay (λh2=>gm aK (v2,v5.1) [[t0 h2],[]]) λh2=>gm aK (v3,v4) [[f0 h2]]) (λv6 v7=>gH [[]]))
def J5(N:Nat)(v1:fb):anF (an×Bool):=
 Option.bind (bif (v1.yE.aq !=16)then some (v1.yE.aq !=17)else some false) λv2=>
 bif v2 then
  some (fg,false)
 else
  Option.bind (v1.yE.aw[0]?) λv3=>
  (wX N v3).bind λv4=>
  Option.bind (bif v4.2 then some (v4.1==(v1.yE.aq==16))else some false) λv5=>
  bif v5 then
   Option.bind (v1.yE.aw[1]?) λv6=>
   some (v6,true)
  else
   Option.bind (v1.yE.aw[1]?) λv7=>
   (wX N v7).bind λv8=>
   Option.bind (bif v8.2 then some (v8.1==(v1.yE.aq==16))else some false) λv9=>
   some (v3,v9)
def SE(v1:fb)(l:anD ao):anD ao:= .cells (cQ v1).cells:: .cells iW::l
theorem ahT{N v1}:KO 113 [(cQ v1)] (λr=> .aQ [(aA r.1),(aC r.2)]) (J5 N v1):=
 fw Tryz.func113 (gA [[]] (gG (λv2=>[(18,(aC v2))]) (λ_=>(SE v1 [])) (ay (λh1=>gE [(4,bT h1)] []) λh1=>gE [(4,bF h1)] []) λv2=>bN λh3=>ax λv3 h4=>ax λv4 h5=>gA [[f0 h3],[],[(10,oE (k:=0) (cn h4)),(16,cK Oe h5)]] (gG (λv5=>[(38,(aC v5))]) (λ_=>(SE v1 [])) (ay (λh6=>gE [(1,bT h6)] []) λh6=>gE [(1,bF h6)] []) λv5=>ay (λh8=>ax λv6 h9=>gR [[t0 h8],[(10,oE (k:=1) (cn h9))]]) λh8=>ax λv7 bk=>ax λv8 bo=>gA [[f0 h8],[(10,oE (k:=1) (cn bk)),(16,cK Oe bo)]] (gG (λv9=>[(3,(aC v9))]) (λ_=>[.cells (cQ v1).cells, .cells (aA v3).cells]) (cP (10,oE (k:=0) (cn h4)) (ay (λbJ=>gE [(6,bT bJ)] []) λbJ=>gE [(6,bF bJ)] [])) λv9=>gR []))))
def KN(N:Nat)(v5:an×Bool)(v6:anE)(v7:an):anF (Bool×anE×an):=
 some (v5.2,v6,v7)
def OZ(N:Nat)(v1:fb)(v2:anE)(v3:anE)(v4:an):anF (Bool×anE×an):=
 (J5 N v1).bind λv5=>
 bif v5.2 then
  KN N v5 v2 v5.1
 else
  KN N v5 v3 v4
theorem ZS{N v1 v2 v3 v4}:KP 102 [(cQ v1),(.fn 113 []),(bu v2),(.ptr 0 0),(.ptr 1 0)] [.cells [(bu v3)], .cells (aA v4).cells] (λr=>aC r.1) (λr=>[.cells [(bu r.2.1)], .cells (aA r.2.2).cells]) (OZ N v1 v2 v3 v4):=
 fh 2 Tryz.func102 (ax λv5 h1=>qg 1 [[],[(7,cK ahT h1)],[]] [12] 4 (λ(v6:anE)(v7:an)=>⟨27,[(12,(aC v5.2))],[.cells [(bu v6)], .cells (aA v7).cells, .cells (cQ v1).cells, .cells (aA v5.1).cells]⟩) (KN N v5) (λf1 aK=>ay (λh2=>gm aK (v2,v5.1) [[t0 h2],[]]) λh2=>gm aK (v3,v4) [[f0 h2]]) (λv6 v7=>gH [[]]))
def ER(N:Nat)(v1:fb):anF (an×anE×Bool):=
 Option.bind (ym N v1 (bs [102,111,108,100]) (bs []) (0:Int) (bs []) bZ dZ (0:Int64)) λv2=>
 Option.bind (bif v2.1 then some (true,v2.2.2,v2.2.1)else Option.bind (Qy N v1 (bs [99,97,115,116]) v2.2.1 v2.2.2) λv3=>
 (bif v3.1 then some (true,v3.2.2,v3.2.1)else Option.bind (Q1 N v1 (bs [105,110,100,101,120]) v3.2.1 v3.2.2) λv4=>
 (bif v4.1 then some (true,v4.2.2,v4.2.1)else Option.bind (QF N v1 (bs [105,102]) v4.2.1 v4.2.2) λv5=>
 (bif v5.1 then some (true,v5.2.2,v5.2.1)else Option.bind (Li N v1 (bs [115,97,109,101]) v5.2.1 v5.2.2) λv6=>
 (bif v6.1 then some (true,v6.2.2,v6.2.1)else Option.bind (MF N v1 (bs [122,101,114,111]) v6.2.1 v6.2.2) λv7=>
 (bif v7.1 then some (true,v7.2.2,v7.2.1)else Option.bind (KK N v1 (bs [111,110,101]) v7.2.1 v7.2.2) λv8=>
 (bif v8.1 then some (true,v8.2.2,v8.2.1)else Option.bind (Ri N v1 (bs [99,97,110,99,101,108]) v8.2.1 v8.2.2) λv9=>
 (bif v9.1 then some (true,v9.2.2,v9.2.1)else Option.bind (QL N v1 (bs [110,101,103,97,116,101]) v9.2.1 v9.2.2) λv10=>
 (bif v10.1 then some (true,v10.2.2,v10.2.1)else Option.bind (Oo N v1 (bs [110,111,116]) v10.2.1 v10.2.2) λv11=>
 (bif v11.1 then some (true,v11.2.2,v11.2.1)else Option.bind (OZ N v1 (bs [108,111,103,105,99]) v11.2.1 v11.2.2) λv12=>
 some (v12.1,v12.2.2,v12.2.1))))))))))) λaW=>
 some (aW.2.1,aW.2.2,aW.1)
def Pe(v1:fb)(l:anD ao):anD ao:= .cells (cQ v1).cells:: .cells iW::l
def q8(v1:fb)(v2:Bool×anE×an)(l:anD ao):anD ao:=Pe v1 (.cells (aA v2.2.2).cells:: .cells [(bu v2.2.1)]::l)
theorem ac4{N v1}:KO 58 [(cQ v1)] (λr=> .aQ [(aA r.1),(bu r.2.1),(aC r.2.2)]) (ER N v1):=
 fw Tryz.func58 (gA [[],[],[]] (ax λv2 h1=>gG (λaW=>[(7,(aC aW.1))]) (λaW=>(Pe v1 [.cells (aA aW.2.1).cells, .cells [(bu aW.2.2)]])) (cP (4,oR [(cQ v1),(.fn 103 []),(bu (bs [102,111,108,100])),(.ptr 3 0),(.ptr 2 0)] (Pe v1 [.cells iW, .cells [(bu (bs []))]]) [3,2] (aiK h1)) (ay (λh2=>gE [(2,bT h2),(6,bT rfl),(10,bT rfl),(14,bT rfl),(18,bT rfl),(22,bT rfl),(26,bT rfl),(30,bT rfl),(34,bT rfl),(38,bT rfl)] []) λh2=>ax λv3 h3=>cm (2,bF h2) (cP (13,oR [(cQ v1),(.fn 104 []),(bu (bs [99,97,115,116])),(.ptr 3 0),(.ptr 2 0)] (q8 v1 v2 []) [3,2] (aa8 _ h3)) (ay (λh4=>gE [(6,bT h4),(10,bT rfl),(14,bT rfl),(18,bT rfl),(22,bT rfl),(26,bT rfl),(30,bT rfl),(34,bT rfl),(38,bT rfl)] []) λh4=>ax λv4 h5=>cm (6,bF h4) (cP (25,oR [(cQ v1),(.fn 105 []),(bu (bs [105,110,100,101,120])),(.ptr 3 0),(.ptr 2 0)] (q8 v1 v3 []) [3,2] (abV _ h5)) (ay (λh6=>gE [(10,bT h6),(14,bT rfl),(18,bT rfl),(22,bT rfl),(26,bT rfl),(30,bT rfl),(34,bT rfl),(38,bT rfl)] []) λh6=>ax λv5 h7=>cm (10,bF h6) (cP (37,oR [(cQ v1),(.fn 106 []),(bu (bs [105,102])),(.ptr 3 0),(.ptr 2 0)] (q8 v1 v4 []) [3,2] (acS _ h7)) (ay (λh8=>gE [(14,bT h8),(18,bT rfl),(22,bT rfl),(26,bT rfl),(30,bT rfl),(34,bT rfl),(38,bT rfl)] []) λh8=>ax λv6 h9=>cm (14,bF h8) (cP (49,oR [(cQ v1),(.fn 107 []),(bu (bs [115,97,109,101])),(.ptr 3 0),(.ptr 2 0)] (q8 v1 v5 []) [3,2] (aaN _ h9)) (ay (λbk=>gE [(18,bT bk),(22,bT rfl),(26,bT rfl),(30,bT rfl),(34,bT rfl),(38,bT rfl)] []) λbk=>ax λv7 bo=>cm (18,bF bk) (cP (61,oR [(cQ v1),(.fn 108 []),(bu (bs [122,101,114,111])),(.ptr 3 0),(.ptr 2 0)] (q8 v1 v6 []) [3,2] (ZB _ bo)) (ay (λbJ=>gE [(22,bT bJ),(26,bT rfl),(30,bT rfl),(34,bT rfl),(38,bT rfl)] []) λbJ=>ax λv8 cf=>cm (22,bF bJ) (cP (73,oR [(cQ v1),(.fn 109 []),(bu (bs [111,110,101])),(.ptr 3 0),(.ptr 2 0)] (q8 v1 v7 []) [3,2] (aj6 _ cf)) (ay (λct=>gE [(26,bT ct),(30,bT rfl),(34,bT rfl),(38,bT rfl)] []) λct=>ax λv9 cq=>cm (26,bF ct) (cP (85,oR [(cQ v1),(.fn 110 []),(bu (bs [99,97,110,99,101,108])),(.ptr 3 0),(.ptr 2 0)] (q8 v1 v8 []) [3,2] (ad0 _ cq)) (ay (λbH=>gE [(30,bT bH),(34,bT rfl),(38,bT rfl)] []) λbH=>ax λv10 cE=>cm (30,bF bH) (cP (97,oR [(cQ v1),(.fn 111 []),(bu (bs [110,101,103,97,116,101])),(.ptr 3 0),(.ptr 2 0)] (q8 v1 v9 []) [3,2] (aip _ cE)) (ay (λcY=>gE [(34,bT cY),(38,bT rfl)] []) λcY=>ax λv11 dC=>cm (34,bF cY) (cP (109,oR [(cQ v1),(.fn 112 []),(bu (bs [110,111,116])),(.ptr 3 0),(.ptr 2 0)] (q8 v1 v10 []) [3,2] (agd _ dC)) (ay (λdj=>gE [(38,bT dj)] []) λdj=>ax λv12 fx=>gE [(38,bF dj)] [(121,oR [(cQ v1),(.fn 113 []),(bu (bs [108,111,103,105,99])),(.ptr 3 0),(.ptr 2 0)] (q8 v1 v11 []) [3,2] (ZS _ fx))])))))))))))))))))))) λaW=>li (λ_=>(yw 2 aX [(3,(bu aW.2.2)),(4,(aC aW.1))] [.cells (cQ v1).cells, .cells (aA aW.2.1).cells, .cells (aA aW.2.1).cells, .cells [(bu aW.2.2)]] ⟨[],by kernel_rfl⟩ ·)) (gR [])))
def FP(N:Nat)(v1:an)(v5:Bool):anF gv:=
 bif v5 then
  Option.bind (v1.aw[0]?) λv6=>
  (q7 N v6).bind λv7=>
  Option.bind (v1.aw[1]?) λv8=>
  (q7 N v8).bind λv9=>
  (wW N v7 v9).bind λv10=>
  some v10
 else
  bif (v1.aq==12)then
   Option.bind (v1.aw[0]?) λv11=>
   (q7 N v11).bind λv12=>
   some v12
  else
   some Cd
def uF(N:Nat)(v2:gv)(v1:an)(v3:Int)(v4:Bool):anF gv:=
 bif v4 then
  some v2
 else
  bif (v1.aq==11)then
   bif (decide (v3>0))then
    some v2
   else
    some Cd
  else
   bif (v1.aq==13)then
    FP N v1 (v1.aq==13)
   else
    bif (v1.aq==14)then
     FP N v1 (v1.aq==14)
    else
     FP N v1 (v1.aq==15)
def P1(N:Nat)(v1:an)(v2:gv)(v3:Int):anF gv:=
 bif (v1.aq==4)then
  uF N v2 v1 v3 (v1.aq==4)
 else
  bif (v1.aq==5)then
   uF N v2 v1 v3 (v1.aq==5)
  else
   bif (v1.aq==6)then
    uF N v2 v1 v3 (v1.aq==6)
   else
    bif (v1.aq==7)then
     uF N v2 v1 v3 (v1.aq==7)
    else
     bif (v1.aq==9)then
      uF N v2 v1 v3 (v1.aq==9)
     else
      bif (v1.aq==10)then
       uF N v2 v1 v3 (v1.aq==10)
      else
       uF N v2 v1 v3 (v1.aq==8)
theorem aa4{N v1 v2 v3}:KO 59 [(aA v1),(lO v2),(au v3)] lO (P1 N v1 v2 v3):=
 fw Tryz.func59 (lH 1 [[],[],[]] [2,3,4,6,8,9] 3 (λ(v4:Bool)=>⟨46,[(2,(au v3)),(3,(.ptr 0 0)),(4,(.ptr 1 0)),(6,(.ptr 2 0)),(8,(au v1.aq)),(9,(aC v4))],[.cells (aA v1).cells, .cells (lO v2).cells, .cells KG]⟩) (uF N v2 v1 v3) (λf1 aK=>ay (λcq=>gm aK (v1.aq==4) [[t0 cq]]) λcq=>gA [[f0 cq],[]] (ay (λbH=>gm aK (v1.aq==5) [[t0 bH]]) λbH=>gA [[f0 bH],[]] (ay (λcE=>gm aK (v1.aq==6) [[t0 cE]]) λcE=>gA [[f0 cE],[]] (ay (λcY=>gm aK (v1.aq==7) [[t0 cY]]) λcY=>gA [[f0 cY],[]] (ay (λdC=>gm aK (v1.aq==9) [[t0 dC]]) λdC=>gA [[f0 dC],[]] (ay (λdj=>gm aK (v1.aq==10) [[t0 dj]]) λdj=>gm aK (v1.aq==8) [[f0 dj],[]])))))) (λv4=>gF λ_=>ay (λh2=>gA [[t0 h2],[]] (bN λh3=>gR [[f0 h3],[]])) λh2=>lH 2 [[f0 h2],[]] [3,6,8,23] 3 (λ(v5:Bool)=>⟨46,[(3,(.ptr 0 0)),(6,(.ptr 2 0)),(8,(au v1.aq)),(23,(aC v5))],[.cells (aA v1).cells, .cells (lO v2).cells, .cells KG]⟩) (FP N v1) (λf2 fY=>ay (λcf=>gm fY (v1.aq==13) [[t0 cf]]) λcf=>gA [[f0 cf],[]] (ay (λct=>gm fY (v1.aq==14) [[t0 ct]]) λct=>gm fY (v1.aq==15) [[f0 ct],[]])) (λv5=>ay (λh4=>ax λv6 h5=>ax λv7 h6=>ax λv8 h7=>ax λv9 h8=>ax λv10 h9=>gR [[t0 h4],[(7,oE (k:=0) (cn h5)),(13,cK Ig h6),(22,oE (k:=1) (cn h7)),(28,cK Ig h8),(31,cK Yj h9)]]) λh4=>gA [[f0 h4],[]] (ky λbk=>ax λv11 bo=>ax λv12 bJ=>gR [[t0 bk],[(7,oE (k:=0) (cn bo)),(13,cK Ig bJ)]]))))
def GI(N:Nat)(v1:an)(v2:gv)(YE:an->gv->anF (an×anE×Bool)):anD an->Nat->anF (an×anE×Bool)
 |[],_=>
  some (v1,(bs []),false)
 |v6::v7,v4=>
  Option.bind (P1 N v1 v2 (v4:Int)) λv8=>
  (YE v6 v8).bind λv9=>
  bif v9.2.2 then
   bif (Nat.ble (v1.aw.length*160) 140737488355328)then
   Option.bind (v1.aw[v4]?) λv10=>
   bif (Nat.beq (v1.aw.set v4 v9.1).length v1.aw.length)then
   some ((⟨v1.aq,v1.aO,v1.bg,v1.aD,v1.aM,v1.xIdx,(v1.aw.set v4 v9.1)⟩:an),v9.2.1,true)
   else none
   else none
  else
   (GI N v1 v2 YE v7 (v4+1))
def vA(N:Nat):Nat->an->gv->anF (an×anE×Bool)
 |0,_,_=>none
 |d+1,v1,v2=>
  Option.bind (ER N (⟨v1,v2⟩:fb)) λv3=>
  bif v3.2.2 then
   some (v3.1,v3.2.1,true)
  else
   GI N v1 v2 (vA N d) v1.aw 0
def Pg(N:Nat)(v1:an)(v2:gv):anF (an×anE×Bool):=vA N N v1 v2
theorem aiz(N:Nat):∀d:Nat,(∀{v1:an}{v2:gv},KO 30 [(aA v1),(lO v2)] (λr=> .aQ [(aA r.1),(bu r.2.1),(aC r.2.2)]) (vA N d v1 v2)):=by
 intro d
 induction d with
 |zero=>intro v1 v2 r J;rw[vA]at J;cases J
 |succ d ih=>
  have aj3:= @ih;intro v1 v2;rw[vA];exact fw Tryz.func30 (ax λv3 h1=>gA [[],[],[(4,cK ac4 h1)],[]] (bN λh2=>gA [[(0,bF h2)],[(7,oL v1.aw fS)]] (gT rY 30 v1.aw λh4=>gx0 1 [] [2,3,4,30,31,32] 5 [] [(2,10),(2,11),(2,12)] (λv4=>⟨63,[(2,(.ptr 0 0)),(3,(.ptr 1 0)),(4,(.ptr 2 0)),(30,(.d (.sl (dh v1.aw)))),(31,(au (v1.aw.length:Int))),(32,(au (v4:Int)))],[.cells (aA v1).cells, .cells (lO v2).cells, .cells iW, .cells (XU v1 (X7 v2 [])), .cells (aA v3.1).cells]⟩) (λv4 h5 f1=>gR [[],[(0,bF (dv h5))],[]]) (λv4 v6 v7 h5 f1 aK=>ax λv8 h6=>ax λv9 h7=>gA [[],[(0,bT (dt h5))],[(4,oE (cn (cO h5)))],[(13,cK aa4 h6),(16,cK aj3 h7)],[]] (ay (λh8=>gy λh9=>ax λv10 bk=>gy λbo=>gA [[(0,bF (du h8))],[],[(7,⟨_,_, .pr (.ap (bG (v1.aw.map dd)) (bG (v1.aw.map dd)) v1.aw.length v1.aw.length) (akI (f:=dd) (E:=v1.aw) (h:=[.cells (aA v1).cells, .cells (lO v2).cells, .cells iW, .cells (XU v1 (X7 v2 [])), .cells (aA v3.1).cells, .cells (aA v6).cells, .cells (aA v9.1).cells, .cells (aA v1).cells]) (k:=13) (cr:=160) (y:=(.d (.sl (dh v1.aw)))) (by rw[<-iH];exact L0) (congrArg some (iH _)) (yz h9 (by decide)).1 (yz h9 (by decide)).2).2⟩)],[(13,⟨_,_, .pr (.ix v4) (Al (qd (f:=dd) rfl) (Int.natCast_nonneg _) (of_decide_eq_true (dt h5)) (anf _))⟩),(16,⟨_,_, .pr (.st ((dd v10).map AV.d) (bG ((v1.aw.set v4 v9.1).map dd))) (IT (f:=dd) (j:=0) (y:=v9.1) (zs:=[(au v9.1.aq),(bu v9.1.aO),(aT v9.1.bg.xN),(aT v9.1.bg.xD),(au v9.1.aD.aL),(au v9.1.aD.bY),(au v9.1.aD.bM),(au v9.1.aD.b5),(au v9.1.aD.bK),(aT v9.1.aM.xK),(.d (.sl (cC v9.1.aM.xL))),(.d (.sl (cH v9.1.xIdx))),(.d (.sl (dh v9.1.aw)))]) rfl bk rfl)⟩)]] (li (λ_=>(JQ [4,14,16] 8 (dh (v1.aw.set v4 v9.1)) v1.aw.length 1 32 13 [.mz ((v1.aw.set v4 v9.1).map dd)] (Ki (am1 bo)) (iH _) (GX (λ_=>rfl) _) ·)) (gR [[]]))) λh8=>SO aK () [[(0,bT (dD h8))],[(2,oq (dR h5 rfl h4))]] h5)))))
theorem aff{N v1 v2}:KO 30 [(aA v1),(lO v2)] (λr=> .aQ [(aA r.1),(bu r.2.1),(aC r.2.2)]) (Pg N v1 v2):=(aiz N N)
def tO(N:Nat)(v1:aF)(v2:an):anF (an×anE×Bool):=
 (nf N v1).bind λv3=>
 Option.bind (bif (v3 !=0)then some true else (zR N v2).bind λv4=>
 some (v4 !=0)) λv5=>
 bif v5 then
  (vM N v2).bind λv6=>
  some (v6,(bs []),false)
 else
  (yt N v2).bind λv7=>
  Option.bind (Pg N v2 (⟨v1,(!v7)⟩:gv)) λv8=>
  (vM N v8.1).bind λv9=>
  some (v9,v8.2.1,v8.2.2)
theorem M9{N v1 v2}:KO 10 [(cB v1),(aA v2)] (λr=> .aQ [(aA r.1),(bu r.2.1),(aC r.2.2)]) (tO N v1 v2):=
 fw Tryz.func10 (gA [[]] (ax λv3 h1=>gG (λv5=>[(17,(aC v5))]) (λ_=>[.cells (cB v1).cells, .cells (aA v2).cells, .cells iW]) (cP (4,cK qT h1) (ay (λh2=>gE [(3,bT h2)] []) λh2=>ax λv4 h3=>gE [(3,bF h2)] [(16,cL (Tu h3))])) λv5=>ay (λh5=>ax λv6 h6=>gR [[t0 h5],[(4,cK Wj h6)]]) λh5=>ax λv7 h7=>ax λv8 h8=>ax λv9 h9=>gR [[f0 h5],[(10,cK ND h7),(19,cK aff h8)],[(4,cK Wj h9)]]))
def Sf(N:Nat)(v2:aP):anD bf->Nat->anF Bool
 |[],_=>
  some true
 |v6::v7,v4=>
  Option.bind (v2.xL[((v4:Int)).toNat]?) λv8=>
  bif ((bL v6.aO==bL v8.aO)&&((v6.cA.toInt==v8.cA.toInt)&&true))then
   (Sf N v2 v7 (v4+1))
  else
   some false
def Ik(N:Nat)(v1:aP)(v2:aP):anF Bool:=
 Option.bind (bif (v1.xK.toInt !=v2.xK.toInt)then some true else some ((v1.xL.length:Int) !=(v2.xL.length:Int))) λv3=>
 bif v3 then
  some false
 else
  Sf N v2 v1.xL 0
theorem Oq{N v1 v2}:KO 32 [(cz v1),(cz v2)] aC (Ik N v1 v2):=
 fw Tryz.func32 (gA [[]] (gG (λv3=>[(19,(aC v3))]) (λ_=>[.cells (cz v1).cells, .cells (cz v2).cells]) (ay (λh1=>gE [(5,bT h1)] []) λh1=>gE [(5,bF h1)] [(25,oL v1.xL fc),(34,oL v2.xL fc)]) λv3=>gF λ_=>gB vP 0 1 v1.xL λh5=>js 1 [] [2,3,5] 2 (λv4=>⟨38,[(2,(.ptr 0 0)),(3,(.ptr 1 0)),(5,(au (v4:Int)))],[.cells (cz v1).cells, .cells (cz v2).cells]⟩) (λv4 h6 f1=>gR [[(10,oL v1.xL fc)],[f0 (dv h6)],[]]) (λv4 v6 v7 h6 f1 aK=>ax λv8 h7=>gA [[(10,oL v1.xL fc)],[t0 (dt h6)],[(10,oE (jM (cO h6))),(25,oE (jM h7))]] (mu λh9=>gb aK () [[f0 (du h9)],[(5,oq (dR h6 rfl h5))]] h6))))
def WJ(N:Nat)(v2:anD aP):anD aP->Nat->anF Bool
 |[],_=>
  some true
 |v5::v6,v3=>
  Option.bind (v2[((v3:Int)).toNat]?) λv7=>
  (Ik N v5 v7).bind λv8=>
  bif v8 then
   (WJ N v2 v6 (v3+1))
  else
   some false
def S8(N:Nat)(v1:anD aP)(v2:anD aP):anF Bool:=
 bif ((v1.length:Int) !=(v2.length:Int))then
  some false
 else
  WJ N v2 v1 0
theorem acI{N v1 v2}:KO 116 [(.d (.sl (ew v1))),(.d (.sl (ew v2)))] aC (S8 N v1 v2):=
 fw Tryz.func116 (gA [[],[(4,oL v1 gW),(10,oL v2 gW)]] (gF λ_=>gT Ij 0 v1 λh3=>js 1 [] [0,1,5] 0 (λv3=>⟨27,[(0,(.d (.sl (ew v1)))),(1,(.d (.sl (ew v2)))),(5,(au (v3:Int)))],[]⟩) (λv3 h4 f1=>gR [[(7,oL v1 gW)],[f0 (dv h4)],[]]) (λv3 v5 v6 h4 f1 aK=>ax λv7 h5=>ax λv8 h7=>gA [[(7,oL v1 gW)],[t0 (dt h4)],[(7,oE (uE (cO h4))),(19,oE (uE h5)),(25,cK Oq h7)]] (mu λh8=>gb aK () [[f0 (du h8)],[(5,oq (dR h4 rfl h3))]] h4))))
def UE(N:Nat)(v1:aN)(v2:aN):anF Bool:=
 Option.bind (bif (bL v1.bI==bL v2.bI)then (Ik N v1.aM v2.aM).bind λv3=>
 (bif v3 then (S8 N v1.aZ v2.aZ).bind λv4=>
 some v4 else some false)else some false) λv5=>
 some v5
theorem acf{N v1 v2}:KO 60 [(gh v1),(gh v2)] aC (UE N v1 v2):=
 fw Tryz.func60 (gA [[]] (gG (λv5=>[(4,(aC v5))]) (λ_=>[.cells (gh v1).cells, .cells (gh v2).cells]) (ay (λh1=>ax λv3 h2=>cm (5,bT h1) (cP (31,cK Oq h2) (ay (λh3=>ax λv4 h4=>gE [(12,bT h3)] [(52,cK acI h4)]) λh3=>gE [(12,bF h3)] []))) λh1=>gE [(5,bF h1),(12,bF rfl)] []) λv5=>gR []))
def Zc(N:Nat)(v2:anD aN):anD aN->Nat->anF Bool
 |[],_=>
  some true
 |v5::v6,v3=>
  Option.bind (v2[((v3:Int)).toNat]?) λv7=>
  (UE N v5 v7).bind λv8=>
  bif v8 then
   (Zc N v2 v6 (v3+1))
  else
   some false
def TY(N:Nat)(v1:anD aN)(v2:anD aN):anF Bool:=
 bif ((v1.length:Int) !=(v2.length:Int))then
  some false
 else
  Zc N v2 v1 0
theorem ahr{N v1 v2}:KO 33 [(.d (.sl (cH v1))),(.d (.sl (cH v2)))] aC (TY N v1 v2):=
 fw Tryz.func33 (gA [[],[(4,oL v1 fU),(10,oL v2 fU)]] (gF λ_=>gT vj 0 v1 λh3=>js 1 [] [0,1,5] 0 (λv3=>⟨27,[(0,(.d (.sl (cH v1)))),(1,(.d (.sl (cH v2)))),(5,(au (v3:Int)))],[]⟩) (λv3 h4 f1=>gR [[(7,oL v1 fU)],[f0 (dv h4)],[]]) (λv3 v5 v6 h4 f1 aK=>ax λv7 h5=>ax λv8 h7=>gA [[(7,oL v1 fU)],[t0 (dt h4)],[(7,oE (kC (cO h4))),(19,oE (kC h5)),(25,cK acf h7)]] (mu λh8=>gb aK () [[f0 (du h8)],[(5,oq (dR h4 rfl h3))]] h4))))
def Wa(N:Nat)(v2:anD an)(UN:an->an->anF Bool):anD an->Nat->anF Bool
 |[],_=>
  some true
 |v5::v6,v3=>
  Option.bind (v2[((v3:Int)).toNat]?) λv7=>
  (UN v5 v7).bind λv8=>
  bif v8 then
   (Wa N v2 UN v6 (v3+1))
  else
   some false
mutual
def A4(N:Nat):Nat->an->an->anF Bool
 |0,_,_=>none
 |d+1,v1,v2=>
  Option.bind (bif (v1.aq==v2.aq)then(bif (bL v1.aO==bL v2.aO)then(bif ((v1.bg.xN.toInt==v2.bg.xN.toInt)&&((v1.bg.xD.toInt==v2.bg.xD.toInt)&&true))then(bif ((v1.aD.aL==v2.aD.aL)&&((v1.aD.bY==v2.aD.bY)&&((v1.aD.bM==v2.aD.bM)&&((v1.aD.b5==v2.aD.b5)&&((v1.aD.bK==v2.aD.bK)&&true)))))then (Ik N v1.aM v2.aM).bind λv3=>
  (bif v3 then (TY N v1.xIdx v2.xIdx).bind λv4=>
  (bif v4 then Option.bind ((I9 N d) v1.aw v2.aw) λv5=>
  some v5 else some false)else some false)else some false)else some false)else some false)else some false) λv6=>
  some v6
def I9(N:Nat):Nat->(anD an)->(anD an)->anF Bool
 |0,_,_=>none
 |d+1,v1,v2=>
  bif ((v1.length:Int) !=(v2.length:Int))then
   some false
  else
   Wa N v2 (A4 N d) v1 0
end
def zh(N:Nat)(v1:an)(v2:an):anF Bool:=A4 N N v1 v2
theorem ahU(N:Nat):∀d:Nat,(∀{v1:an}{v2:an},KO 11 [(aA v1),(aA v2)] aC (A4 N d v1 v2))/\(∀{v1:anD an}{v2:anD an},KO 34 [(.d (.sl (dh v1))),(.d (.sl (dh v2)))] aC (I9 N d v1 v2)):=by
 intro d
 induction d with
 |zero=>exact⟨(by intro v1 v2 r J;rw[A4]at J;cases J),(by intro v1 v2 r J;rw[I9]at J;cases J)⟩
 |succ d ih=>
  have ab0:= @ih.1;have aiU:= @ih.2;refine⟨?_,?_⟩
  ·intro v1 v2;rw[A4];exact fw Tryz.func11 (gA [[]] (gG (λv6=>[(4,(aC v6))]) (λ_=>[.cells (aA v1).cells, .cells (aA v2).cells]) (ay (λh1=>cm (5,bT h1) (ay (λh2=>cm (12,bT h2) (ay (λh3=>cm (19,bT h3) (ay (λh4=>ax λv3 h5=>cm (26,bT h4) (cP (94,cK Oq h5) (ay (λh6=>ax λv4 h7=>cm (33,bT h6) (cP (115,cK ahr h7) (ay (λh8=>ax λv5 h9=>gE [(40,bT h8)] [(136,cK aiU h9)]) λh8=>gE [(40,bF h8)] []))) λh6=>gE [(33,bF h6),(40,bF rfl)] []))) λh4=>gE [(26,bF h4),(33,bF rfl),(40,bF rfl)] [])) λh3=>gE [(19,bF h3),(26,bF rfl),(33,bF rfl),(40,bF rfl)] [])) λh2=>gE [(12,bF h2),(19,bF rfl),(26,bF rfl),(33,bF rfl),(40,bF rfl)] [])) λh1=>gE [(5,bF h1),(12,bF rfl),(19,bF rfl),(26,bF rfl),(33,bF rfl),(40,bF rfl)] []) λv6=>gR []))
  intro v1 v2;rw[I9];exact fw Tryz.func34 (gA [[],[(4,oL v1 fS),(10,oL v2 fS)]] (gF λ_=>gT rY 0 v1 λh3=>js 1 [] [0,1,5] 0 (λv3=>⟨27,[(0,(.d (.sl (dh v1)))),(1,(.d (.sl (dh v2)))),(5,(au (v3:Int)))],[]⟩) (λv3 h4 f1=>gR [[(7,oL v1 fS)],[(0,bF (dv h4))],[]]) (λv3 v5 v6 h4 f1 aK=>ax λv7 h5=>ax λv8 h7=>gA [[(7,oL v1 fS)],[(0,bT (dt h4))],[(7,oE (cn (cO h4))),(19,oE (cn h5)),(25,cK ab0 h7)]] (mu λh8=>gb aK () [[(0,bF (du h8))],[(5,oq (dR h4 rfl h3))]] h4))))
theorem DQ{N v1 v2}:KO 11 [(aA v1),(aA v2)] aC (zh N v1 v2):=(ahU N N).1
def zY(N:Nat)(v1:aF):Nat->Int->an->anF (an×Int)
 |0,_,_=>none
 |v3+1,v4,v5=>
  (tO N v1 v5).bind λv6=>
  bif v6.2.2 then
   (λdV iU=>zY N v1 v3 dV iU) (aS (v4+(1:Int))) v6.1
  else
   some (v6.1,v4)
def LN(N:Nat)(v1:aF)(v2:an):anF (an×Int):=
 zY N v1 N (0:Int) v2
theorem aeJ{N v1 v2}:KO 26 [(cB v1),(aA v2)] (λr=> .aQ [(aA r.1),(au r.2)]) (LN N v1 v2):=
 fw Tryz.func26 (aiq 1 [[],[]] [2,3,4,6] 3 [] [(2,10),(2,11),(2,12)] (λ(v4:Int)(v5:an)=>⟨24,[(2,(.ptr 0 0)),(3,(.ptr 1 0)),(4,(.ptr 2 0)),(6,(au v4))],[.cells (cB v1).cells, .cells (aA v5).cells, .cells iW]⟩) (zY N v1) (λv3 v4 v5 f1 aK=>ax λv6 h1=>gA [[(7,cK M9 h1)],[]] (mu λh2=>abz aK ((aS (v4+(1:Int))),v6.1) [[f0 (du h2)],[],[]])))
def xk(N:Nat)(v1:aF)(v2:an):anF an:=
 (LN N v1 v2).bind λv3=>
 some v3.1
theorem DD{N v1 v2}:KO 9 [(cB v1),(aA v2)] aA (xk N v1 v2):=
 fw Tryz.func9 (ax λv3 h1=>gR [[],[(7,cK aeJ h1)],[]])
def Lk(N:Nat):anD aN->Nat->Int->anF Int
 |[],_,v7=>
  some (aS ((1:Int)+v7))
 |v5::v6,v3,v7=>
  bif (bL v5.bI==bL (bs []))then
   (λsF=>Lk N v6 (v3+1) sF) v7
  else
   (λsF=>Lk N v6 (v3+1) sF) (aS (v7+(1:Int)))
def Xi(N:Nat)(Jo:an->anF Int):anD an->Nat->Int->anF Int
 |[],_,v12=>
  some (aS ((1:Int)+v12))
 |v10::v11,v8,v12=>
  (Jo v10).bind λaW=>
  (λEa=>Xi N Jo v11 (v8+1) Ea) (aS (v12+aW))
def QT(N:Nat)(v1:an)(Jo:an->anF Int)(v2:Bool):anF Int:=
 bif v2 then
  some (0:Int)
 else
  bif (v1.aq==3)then
   Lk N v1.xIdx 0 (0:Int)
  else
   Xi N Jo v1.aw 0 (0:Int)
def xt(N:Nat):Nat->an->anF Int
 |0,_=>none
 |d+1,v1=>
  bif (v1.aq==1)then
   QT N v1 (xt N d) (v1.aq==1)
  else
   QT N v1 (xt N d) (v1.aq==2)
def UZ(N:Nat)(v1:an):anF Int:=xt N N v1
theorem aeI(N:Nat):∀d:Nat,(∀{v1:an},KO 14 [(aA v1)] au (xt N d v1)):=by
 intro d
 induction d with
 |zero=>intro v1 r J;rw[xt]at J;cases J
 |succ d ih=>
  have acR:= @ih;intro v1;rw[xt];exact fw Tryz.func14 (lH 1 [[],[],[],[]] [1,3,9,10] 1 (λ(v2:Bool)=>⟨44,[(1,(.ptr 0 0)),(3,(au (0:Int))),(9,(au v1.aq)),(10,(aC v2))],[.cells (aA v1).cells]⟩) (QT N v1 (xt N d)) (λf1 aK=>ay (λbo=>gm aK (v1.aq==1) [[(0,bT bo)]]) λbo=>gm aK (v1.aq==2) [[(0,bF bo)],[]]) (λv2=>gF λ_=>ay (λh2=>gA [[(0,bT h2)],[(7,oL v1.xIdx fU)]] (gT vj 16 v1.xIdx λh4=>q9 2 [] [3,16,17,18] 1 (λv3(v7:Int)=>⟨44,[(3,(au v7)),(16,(.d (.sl (cH v1.xIdx)))),(17,(au (v1.xIdx.length:Int))),(18,(au (v3:Int)))],[.cells (aA v1).cells]⟩) (λv3 v7 h5 f2=>gR [[],[(0,bF (dv h5))],[]]) (λv3 v5 v6 v7 h5 f2 fY=>gA [[],[(0,bT (dt h5))],[(1,oE (kC (cO h5)))],[]] (ay (λh6=>gb fY v7 [[(0,bF (du h6))],[(2,oq (dR h5 rfl h4))]] h5) λh6=>gb fY (aS (v7+(1:Int))) [[(0,bT (dD h6))],[],[(2,oq (dR h5 rfl h4))]] h5)))) λh2=>gA [[(0,bF h2)],[(7,oL v1.aw fS)]] (gT rY 31 v1.aw λh8=>q9 3 [] [3,31,32,33] 1 (λv8(v12:Int)=>⟨44,[(3,(au v12)),(31,(.d (.sl (dh v1.aw)))),(32,(au (v1.aw.length:Int))),(33,(au (v8:Int)))],[.cells (aA v1).cells]⟩) (λv8 v12 h9 f3=>gR [[],[(0,bF (dv h9))],[]]) (λv8 v10 v11 v12 h9 f3 qu=>ax λaW bk=>gb qu (aS (v12+aW)) [[],[(0,bT (dt h9))],[(1,oE (cn (cO h9)))],[(7,cK acR bk)],[(2,oq (dR h9 rfl h8))]] h9))))
theorem adp{N v1}:KO 14 [(aA v1)] au (UZ N v1):=(aeI N N)
def AD(N:Nat):anF Bool:=
 Option.bind (Ix N (bs [105])) λv1=>
 Option.bind (CO N (⟨(1:Int),(0:Int),(0:Int),(0:Int),(0:Int)⟩:aF) (1:Int64)) λv2=>
 Option.bind (CM N (6:Int) (⟨(3:Int),(bs [97]),bZ,dZ,dI,[(⟨v1,(bs []),[]⟩:aN)],[]⟩:an) v2) λv3=>
 Option.bind (CO N (⟨(1:Int),(0:Int),(0:Int),(0:Int),(0:Int)⟩:aF) (0:Int64)) λv4=>
 Option.bind (CM N (4:Int) v3 v4) λv5=>
 Option.bind (tO N (⟨(1:Int),(0:Int),(0:Int),(0:Int),(0:Int)⟩:aF) v5) λv6=>
 Option.bind (Ix N (bs [105])) λv7=>
 Option.bind (Ix N (bs [105])) λv8=>
 Option.bind (bif v6.2.2 then(bif (bL v6.2.1==bL (bs [122,101,114,111]))then (zh N v6.1 v3).bind λv9=>
 (bif v9 then Option.bind (CO N (⟨(1:Int),(0:Int),(0:Int),(0:Int),(0:Int)⟩:aF) (0:Int64)) λv10=>
 Option.bind (CM N (4:Int) v3 v10) λv11=>
 Option.bind (xk N (⟨(1:Int),(0:Int),(0:Int),(0:Int),(0:Int)⟩:aF) v11) λv12=>
 Option.bind (zh N v12 (⟨(3:Int),(bs [97]),bZ,dZ,dI,[(⟨v1,(bs []),[]⟩:aN)],[]⟩:an)) λaW=>
 (bif aW then Option.bind (xk N (⟨(2:Int),(8:Int),(4:Int),(4:Int),(1:Int)⟩:aF) (⟨(8:Int),(bs []),bZ,dZ,dI,[],[(⟨(8:Int),(bs []),bZ,dZ,dI,[],[(⟨(3:Int),(bs [97]),bZ,dZ,dI,[(⟨v1,(bs []),[]⟩:aN)],[]⟩:an)]⟩:an)]⟩:an)) λbX=>
 Option.bind (zh N bX (⟨(8:Int),(bs []),bZ,dZ,dI,[],[(⟨(8:Int),(bs []),bZ,dZ,dI,[],[(⟨(3:Int),(bs [97]),bZ,dZ,dI,[(⟨v1,(bs []),[]⟩:aN)],[]⟩:an)]⟩:an)]⟩:an)) λb7=>
 (bif b7 then Option.bind (xk N (⟨(1:Int),(0:Int),(0:Int),(0:Int),(0:Int)⟩:aF) (⟨(8:Int),(bs []),bZ,dZ,dI,[],[(⟨(8:Int),(bs []),bZ,dZ,dI,[],[(⟨(3:Int),(bs [97]),bZ,dZ,dI,[(⟨v1,(bs []),[]⟩:aN)],[]⟩:an)]⟩:an)]⟩:an)) λfO=>
 Option.bind (zh N fO (⟨(3:Int),(bs [97]),bZ,dZ,dI,[(⟨v1,(bs []),[]⟩:aN)],[]⟩:an)) λb6=>
 (bif b6 then Option.bind (CO N (⟨(3:Int),(0:Int),(0:Int),(0:Int),(0:Int)⟩:aF) (2:Int64)) λaU=>
 Option.bind (CM N (4:Int) (⟨(2:Int),(bs []),bZ,dZ,v7,[],[]⟩:an) aU) λcD=>
 Option.bind (xk N (⟨(3:Int),(0:Int),(0:Int),(0:Int),(0:Int)⟩:aF) cD) λv20=>
 Option.bind (zh N v20 (⟨(2:Int),(bs []),bZ,dZ,(⟨(2:Int64),v8.xL⟩:aP),[],[]⟩:an)) λv21=>
 (bif v21 then (UZ N v3).bind λjU=>
 some (jU==2)else some false)else some false)else some false)else some false)else some false)else some false)else some false) λfi=>
 some fi
theorem PX{N}:KO 8 [] aC (AD N):=
 fw Tryz.func8 (ax λv1 h1=>ax λv2 h2=>ax λv3 h3=>ax λv4 h4=>ax λv5 h5=>ax λv6 h6=>ax λv7 h7=>ax λv8 h8=>gA [[],[],[],[(1,cK QQ h1)],[(7,cK IS h2),(10,cK F5 h3)],[(10,cK IS h4),(13,cK F5 h5),(16,cK M9 h6)],[(5,⟨_,_, .eq (congrArg AV.full (iH [(⟨(3:Int),(bs [97]),bZ,dZ,dI,[(⟨v1,(bs []),[]⟩:aN)],[]⟩:an)]).symm)⟩),(11,⟨_,_, .eq (congrArg AV.full (iH [(⟨(8:Int),(bs []),bZ,dZ,dI,[],[(⟨(3:Int),(bs [97]),bZ,dZ,dI,[(⟨v1,(bs []),[]⟩:aN)],[]⟩:an)]⟩:an)]).symm)⟩)],[(1,cK QQ h7)],[(1,cK QQ h8)],[]] (gG (λfi=>[(0,(aC fi))]) (λ_=>[.cells [(au (1:Int)),(au (0:Int)),(au (0:Int)),(au (0:Int)),(au (0:Int))], .cells [(au (3:Int)),(au (0:Int)),(au (0:Int)),(au (0:Int)),(au (0:Int))], .cells [(au (2:Int)),(au (8:Int)),(au (4:Int)),(au (4:Int)),(au (1:Int))], .cells [(au (3:Int)),(bu (bs [97])),(aT (0:Int64)),(aT (0:Int64)),(au (0:Int)),(au (0:Int)),(au (0:Int)),(au (0:Int)),(au (0:Int)),(aT (0:Int64)),(.d (.v (.slice none 0 0))),(.full (cH [(⟨v1,(bs []),[]⟩:aN)])),(.d (.v (.slice none 0 0)))], .cells (aA v3).cells, .cells (aA v6.1).cells, .cells [(au (8:Int)),(bu (bs [])),(aT (0:Int64)),(aT (0:Int64)),(au (0:Int)),(au (0:Int)),(au (0:Int)),(au (0:Int)),(au (0:Int)),(aT (0:Int64)),(.d (.v (.slice none 0 0))),(.d (.v (.slice none 0 0))),(.full (dh [(⟨(8:Int),(bs []),bZ,dZ,dI,[],[(⟨(3:Int),(bs [97]),bZ,dZ,dI,[(⟨v1,(bs []),[]⟩:aN)],[]⟩:an)]⟩:an)]))], .cells [(au (2:Int)),(bu (bs [])),(aT (0:Int64)),(aT (0:Int64)),(au (0:Int)),(au (0:Int)),(au (0:Int)),(au (0:Int)),(au (0:Int)),(aT v7.xK),(.d (.sl (cC v7.xL))),(.d (.v (.slice none 0 0))),(.d (.v (.slice none 0 0)))], .cells [(au (2:Int)),(.d (.sl (cC v8.xL)))]]) (ay (λh9=>cm (1,bT h9) (ay (λbk=>ax λv9 bo=>cm (5,bT bk) (cP (25,cK DQ bo) (ay (λbJ=>ax λv10 cf=>ax λv11 ct=>ax λv12 cq=>ax λaW bH=>cm (10,bT bJ) (cP (43,cK IS cf) (cP (46,cK F5 ct) (cP (49,cK DD cq) (cP (55,cK DQ bH) (ay (λcE=>ax λbX cY=>ax λb7 dC=>cm (20,bT cE) (cP (70,cK DD cY) (cP (76,cK DQ dC) (ay (λdj=>ax λfO fx=>ax λb6 iz=>cm (27,bT dj) (cP (91,cK DD fx) (cP (97,cK DQ iz) (ay (λiB=>ax λaU kh=>ax λcD np=>ax λv20 Fc=>ax λv21 rV=>cm (34,bT iB) (cP (115,cK IS kh) (cP (118,cK F5 np) (cP (121,cK DD Fc) (cP (130,cK DQ rV) (ay (λBc=>ax λjU MD=>gE [(45,bT Bc)] [(142,cK adp MD)]) λBc=>gE [(45,bF Bc)] [])))))) λiB=>gE [(34,bF iB),(45,bF rfl)] [])))) λdj=>gE [(27,bF dj),(34,bF rfl),(45,bF rfl)] [])))) λcE=>gE [(20,bF cE),(27,bF rfl),(34,bF rfl),(45,bF rfl)] [])))))) λbJ=>gE [(10,bF bJ),(20,bF rfl),(27,bF rfl),(34,bF rfl),(45,bF rfl)] []))) λbk=>gE [(5,bF bk),(10,bF rfl),(20,bF rfl),(27,bF rfl),(34,bF rfl),(45,bF rfl)] [])) λh9=>gE [(1,bF h9),(5,bF rfl),(10,bF rfl),(20,bF rfl),(27,bF rfl),(34,bF rfl),(45,bF rfl)] []) λfi=>gR []))
def FR(N:Nat)(v1:anD bp):anF ((anD bp)×(anD (anE×a8))):=
 some (v1,[])
def Uq(v1:anD bp)(l:anD ao):anD ao:= .cells [(.d (.sl (bq v1)))]:: .map (bU bR []):: .cells [(.mp 1)]::l
theorem Dm(N:Nat)(v1:anD bp)(r:(anD bp)×(anD (anE×a8)))(J:FR N v1=some r):KH 38 [(.d (.sl (bq v1)))] [] (.fn 69 [(.ptr 2 0),(.ptr 0 0)]) ([.cells [(.d (.sl (bq r.1)))], .map (bU bR r.2), .cells [(.mp 1)]]):=by
 rw[FR]at J;refine DA 3 Tryz.func38 rfl (by kernel_rfl) (amV rfl) ?_;refine w9 (s':=⟨6,[(0,(.d (.sl (bq v1))))],[]⟩) (by kernel_rfl) ?_;refine aR ?_;refine rg [] [(1,(.ptr 0 0))] [.cells [(.d (.sl (bq v1)))]] (by kernel_rfl) ?_;refine aR ?_;refine rg [] [(3,(.ptr 2 0))] (Uq v1 []) (by kernel_rfl) ?_;refine aR ?_;refine rg [] [(2,(.fn 69 [(.ptr 2 0),(.ptr 0 0)]))] (Uq v1 []) (by kernel_rfl) ?_;refine dz ?_;have hr:=am6 J;subst hr;exact uo (qH trivial (qH trivial (qH trivial pf))) (by kernel_rfl)
end Go.Proofs.YtfdhojiehjfghaaGreatDoor
