/-
  Part 12 of the proof.
-/
import Derived.Test.YtjploedinjiflaaGreatDoorPi11
import Derived.Laws.Bits64
set_option linter.defProp false
namespace Go.Proofs.YtjploedinjiflaaGreatDoor
open IntKind (u64 i64)
open Tryz
open Go.RowKit
set_option maxRecDepth 100000
set_option maxHeartbeats 0
set_option linter.unusedVariables false
def xr(N:Nat)(c:U aH)(d:(U aH)->(U (so×bo))->O (bo×Int))(b:aH×Int×(U (so×bo)))(a:Int)(e:Int64)(f:Int64):O (bo×Int):=bif (a !=0)then some (nQ,a)else bif (Nat.ble ((c.length+1)*16) 140737488355328)then d (c++[(⟨e,f⟩:aH)]) b.2.2 else none
def vD(N:Nat)(b:aF)(f:(U Int)×aQ×Int)(g:U aR)(h:(U Int)×Int)(i:(U aO)×(U (so×bo))):U (U Int)->(U aH)->(U (so×bo))->O (bo×Int)
 |[],c,_=>some ((⟨b.aw,f.1,c⟩:bo),(0:Int))
 |e::n,c,o=>(OY N b.aJ e g).bind λj=>(CL N b h.1 j i.1 o).bind λa=>(bif (a.2.1==0)then(bif (b.cE==5)then bif (decide ((0:Int)<=(aY ((e.length:Int)-(1:Int)))))then(e[(aY ((e.length:Int)-(1:Int))).toNat]?).bind λq=>some (decide (q>0))else none else some false)else some false).bind λr=>bif r then bif (decide ((0:Int)<=(aY ((c.length:Int)-(1:Int)))))then(c[(aY ((c.length:Int)-(1:Int))).toNat]?).bind λt=>(HX N (1:Int) b.aw ([t,a.1])).bind λd=>xr N c (λk l=>vD N b f g h i n k l) a d.2 d.1.xN d.1.xD else none else xr N c (λk l=>vD N b f g h i n k l) a a.2.1 a.1.xN a.1.xD
def BR(N:Nat)(e:aI)(f:U aR)(j:U aO)(g:Int):O (bo×Int):=(bif (decide (g<0))then some true else some (decide (g>=(e.ax.length:Int)))).bind λl=>bif l then some (nQ,(9:Int))else bif (decide ((0:Int)<=g))then(e.ax[(g).toNat]?).bind λh=>(Ec N e f h.ar).bind λc=>bif (c.2.2 !=0)then some (nQ,c.2.2)else(WB N h.bI).bind λn=>(GN N n f).bind λb=>bif (b.2 !=0)then some (nQ,b.2)else(Qt N c.1).bind λa=>bif (Nat.ble ((a.length+b.1.length)*8) 140737488355328)then(Jz N (a.length+b.1.length) (65536:Int) (a++b.1)).bind λi=>bif (decide (i>65536))then some (nQ,(2:Int))else(tD N e f j h.aX).bind λd=>bif (d !=0)then some (nQ,d)else(OC N j).bind λk=>(C2 N c.1).bind λo=>(Jl N o).bind λq=>vD N h c f b k q [] k.2 else none else none
def xI(a:aI)(b:U aR)(l:U ao):U ao:= .cells (di a).cells:: .cells [I (bz b)]:: .cells zc4::l
def KZ(a:aI)(b:U aR)(c:aF)(e:(U Int)×aQ×Int)(f:(U Int)×Int)(g:(U aO)×(U (so×bo)))(l:U ao):U ao:= .cells (di a).cells:: .cells [I (bz b)]:: .cells [Y 0,Y 0,Y 0,Y 0,Y 0,I (bN []),I (fa [])]:: .cells [Y 0]:: .cells (dX c).cells:: .cells (cN e.2.1).cells:: .cells [I (bN f.1)]:: .gone:: .cells [I (bG g.1)]::l
def Gn(f:aI)(g:U aR)(a:aF)(c:(U Int)×aQ×Int)(h:(U Int)×Int)(i:(U aO)×(U (so×bo)))(b:aH×Int×(U (so×bo)))(e:U aH)(j:Code)(k:Code)(n:(U Int))(l:U ao):U ao:=KZ f g a c h i (.map (cv cx b.2.2):: .cells [.mp 9]:: .cells [.fn 117 [Ge,EA]]:: .cells [Y a.aw.bt,Y a.aw.bW,Y a.aw.bR,Y a.aw.b9,Y a.aw.b8,I (bN c.1),.own 13 (fa e)]:: .front 56 2 e.length:: .lp .busy 86 j k (dL 142 [(5,An),(8,D0),(9,Ar),(10,CV),(14,DW),(16,Gv),(17,GH),(85,.fn 118 [.bm [[.sl (bN n)]] 0 0])])::l)
def xv(a:aI)(b:U aR)(c:aF)(e:(U Int)×aQ×Int)(f:(U Int)×Int)(l:U ao):U ao:=xI a b (.cells [Y 0]:: .cells (dX c).cells:: .cells (cN e.2.1).cells:: .cells [I (bN f.1)]::l)
def GR(e:aI)(f:U aR)(a:aF)(b:(U Int)×aQ×Int)(g:(U Int)×Int)(h:(U aO)×(U (so×bo)))(i:U (so×bo))(c:U aH)(l:U ao):U ao:=KZ e f a b g h (.map (cv cx i):: .cells [.mp 9]:: .cells [.fn 117 [Ge,EA]]:: .cells [Y a.aw.bt,Y a.aw.bW,Y a.aw.bR,Y a.aw.b9,Y a.aw.b8,I (bN b.1),.own 13 (fa c)]:: .front 56 2 c.length::l)
def SK(g:aI)(h:U aR)(a:aF)(c:(U Int)×aQ×Int)(e:(U Int)×Int)(b:U Int)(f:(U aO)×(U (so×bo)))(l:U ao):U ao:=xv g h a c e (.vec 3 1 (bf ((b++e.1).map fu)):: .cells [I (bG f.1)]:: .map (cv cx f.2):: .cells [.mp 9]:: .cells [.fn 117 [Ge,EA]]:: .cells [Y a.aw.bt,Y a.aw.bW,Y a.aw.bR,Y a.aw.b9,Y a.aw.b8,I (bN c.1),.d (.v (.slice none 0 0))]::l)
def Rt(a:aI)(b:U aR)(c:aF)(d:(U Int)×aQ×Int)(e:(U Int)×Int)(f:(U aO)×(U (so×bo)))(g:U (so×bo))(h:U aH)(i:Code)(j:Code)(k:(U Int))(l:U ao):U ao:=GR a b c d e f g h (.lp .busy 86 i j (dL 142 [(5,An),(8,D0),(9,Ar),(10,CV),(14,DW),(16,Gv),(17,GH),(85,.fn 118 [.bm [[.sl (bN k)]] 0 0])])::l)
def Ay(c:aI)(d:U aR)(e:aF)(f:(U Int)×aQ×Int)(b:(U Int)×Int)(a:U Int)(l:U ao):U ao:=xv c d e f b (.vec 3 1 (bf ((a++b.1).map fu))::l)
def It(a:aI)(b:U aR)(l:U ao):U ao:=xI a b (.cells [Y 0]::l)
def agH(h:aI)(i:U aR)(a:aF)(c:(U Int)×aQ×Int)(j:(U Int)×Int)(k:(U aO)×(U (so×bo)))(b:aH×Int×(U (so×bo)))(e:U aH)(f:Int64)(g:Int64)(l:U ao):U ao:=KZ h i a c j k (.map (cv cx b.2.2):: .cells [.mp 9]:: .cells [.fn 117 [Ge,EA]]:: .cells [Y a.aw.bt,Y a.aw.bW,Y a.aw.bR,Y a.aw.b9,Y a.aw.b8,I (bN c.1),.own 13 (fa (e++[(⟨f,g⟩:aH)]))]:: .front 56 2 (e++[(⟨f,g⟩:aH)]).length::l)
def ati{N j n R W r}(hF:BR N j n R W=some r):KF 35 [di j,I (bz n),I (bG R),Y W] (.bw [jo r.1,Y r.2]):=by
 rw[BR]at hF;refine qZ func35 rfl km ?_;refine fR [0,1,2,3] 0 (Zx _) (s':=⟨142,[(0,di j),(1,I (bz n)),(2,I (bG R)),(3,Y W)],[]⟩) km ?_;refine az (CM [] [(4,A1),(5,An),(8,D0),(9,Ar)] (It j n []) ?_);refine az (az ?_);obtain⟨v5,h2,hF⟩:=bJ hF;refine yS [(29,aG v5)] (It j n []) ?_ ?_
 ·rcases eo (decide (W<0))with A|A
  ·replace h2:=(cS A).symm.trans h2;have L:=Zl h2;subst L;exact⟨[(9,bT A),(12,bT A),(15,bT A),(18,bT A),(21,bT A),(25,bT A)],by kernel_rfl⟩
  replace h2:=(eu A).symm.trans h2;have L:=Zl h2;subst L;exact⟨[(9,bF A),(12,bF A),(15,bF A),(18,bF A),(19,oL j.ax kO),(21,bF A),(25,bF A)],by kernel_rfl⟩
 rcases eo v5 with h3|h3
 ·replace hF:=(cS h3).symm.trans hF;refine AY (t:=v5) h3 ?_;refine az (CM [] [] (xI j n [.cells [Y 9]]) ?_);refine cT (dd ?_);have G:=Zl hF;subst G;exact fX km
 replace hF:=(eu h3).symm.trans hF;refine AX (t:=v5) h3 ?_;refine dn ?_;refine bx ?_;refine az ?_;have h5:=iw hF;replace hF:=(cS h5).symm.trans hF;obtain⟨a,h4,hF⟩:=bJ hF;refine CM [(10,⟨_,_,.el (xs:=dy j.ax) (i:=W) (Tr h5) (nI h4)⟩)] [(10,CV)] (It j n (Rj a)) ?_;refine az ?_;obtain⟨g,h6,hF⟩:=bJ hF;refine CM [(13,cK UW h6)] [(11,I (bN g.1)),(13,Y g.2.2)] (It j n [.cells (dX a).cells,.cells (cN g.2.1).cells]) ?_;refine az (az ?_);refine CM [] [(46,(aG (g.2.2 !=0)))] (It j n [.cells (dX a).cells,.cells (cN g.2.1).cells]) ?_;rcases eo (g.2.2 !=0)with h7|h7
 ·replace hF:=(cS h7).symm.trans hF;refine AY (t:=(g.2.2 !=0)) h7 ?_;refine az (CM [] [] (xI j n [.cells [Y g.2.2],.cells (dX a).cells,.cells (cN g.2.1).cells]) ?_);refine cT (dd ?_);have G:=Zl hF;subst G;exact fX km
 replace hF:=(eu h7).symm.trans hF;refine AX (t:=(g.2.2 !=0)) h7 ?_;refine dn ?_;refine bx ?_;refine az ?_;obtain⟨v8,h8,b,h9,hF⟩:=Z6 hF;refine rd bH km [(7,cK anS h8),(13,cK afw h9)] [(14,DW),(13,Y b.2)] (xv j n a g b []) km ?_;refine az (az ?_);refine CM [] [(58,(aG (b.2 !=0)))] (xv j n a g b []) ?_;rcases eo (b.2 !=0)with bu|bu
 ·replace hF:=(cS bu).symm.trans hF;refine AY (t:=(b.2 !=0)) bu ?_;refine az (CM [] [] (xI j n [.cells [Y b.2],.cells (dX a).cells,.cells (cN g.2.1).cells,.cells [I (bN b.1)]]) ?_);refine cT (dd ?_);have G:=Zl hF;subst G;exact fX km
 replace hF:=(eu bu).symm.trans hF;refine AX (t:=(b.2 !=0)) bu ?_;refine dn ?_;refine bx ?_;refine az (az ?_);obtain⟨e,bB,hF⟩:=bJ hF;have bP:=iw hF;replace hF:=(cS bP).symm.trans hF;obtain⟨M,cX,hF⟩:=bJ hF;refine ro 2 bH (.node 0 [] (.node 1 [(4,oX eV (lT (xs:=(e.map fu)) eV) [I (bN g.1)] (xv j n a g b []) [] (afL bB))] (.node 2 [] (.node 3 [(10,⟨_,_,.pr (.ap (bf ((e++b.1).map fu)) (bf (b.1.map fu)) (e.length+b.1.length) (e.length+b.1.length)) (IC (f:=fu) (h:=(xv j n a g b [.vec 3 1 (bf (e.map fu))])) (y:=(I (bN b.1))) (k:=1) rfl (by rw[<-pO];rfl) (λc hc=>JL c (by rw[pO];exact hc)) rfl rfl (lG bP gy).1 (lG bP gy).2)⟩)] (.node 4 [(13,oX (lT (xs:=((e++b.1).map fu)) eV) (lT (xs:=((e++b.1).map fu)) eV) [.vec 7 0 (e.length+b.1.length) (e.length+b.1.length) 1,Y 65536] (Ay j n a g b e []) [7] (avX cX))] (.node 5 [] .nil .nil) .nil) .nil) .nil) (.node 2 [] (.node 1 [(4,oX eV (lT (xs:=(e.map fu)) eV) [I (bN g.1)] (xv j n a g b []) [] (afL bB))] (.node 3 [(10,⟨_,_,.pr (.ap (bf ((e++b.1).map fu)) (bf (b.1.map fu)) (e.length+b.1.length) (e.length+b.1.length)) (IC (f:=fu) (h:=(xv j n a g b [.vec 3 1 (bf (e.map fu))])) (y:=(I (bN b.1))) (k:=1) rfl (by rw[<-pO];rfl) (λc hc=>JL c (by rw[pO];exact hc)) rfl rfl (lG bP gy).1 (lG bP gy).2)⟩)] (.node 4 [(13,oX (lT (xs:=((e++b.1).map fu)) eV) (lT (xs:=((e++b.1).map fu)) eV) [.vec 7 0 (e.length+b.1.length) (e.length+b.1.length) 1,Y 65536] (Ay j n a g b e []) [7] (avX cX))] (.node 5 [] .nil .nil) .nil) .nil) .nil) .nil)) .nil) [(66,(aG (decide (M>65536))))] (Ay j n a g b e []) km ?_
 rcases eo (decide (M>65536))with bU|bU
 ·replace hF:=(cS bU).symm.trans hF;refine AY (t:=(decide (M>65536))) bU ?_;refine az (CM [] [] (xI j n [.cells [Y 2],.cells (dX a).cells,.cells (cN g.2.1).cells,.cells [I (bN b.1)],.vec 3 1 (bf ((e++b.1).map fu))]) ?_);refine cT (dd ?_);have G:=Zl hF;subst G;exact fX km
 replace hF:=(eu bU).symm.trans hF;refine AX (t:=(decide (M>65536))) bU ?_;refine dn ?_;refine bx ?_;refine az (az ?_);obtain⟨H,cz,hF⟩:=bJ hF;refine CM [(16,cK arO cz)] [(15,Y H)] (Ay j n a g b e []) ?_;refine az (CM [] [(75,(aG (H !=0)))] (Ay j n a g b e []) ?_);rcases eo (H !=0)with b7|b7
 ·replace hF:=(cS b7).symm.trans hF;refine AY (t:=(H !=0)) b7 ?_;refine az (CM [] [] (xI j n [.cells [Y H],.cells (dX a).cells,.cells (cN g.2.1).cells,.cells [I (bN b.1)],.vec 3 1 (bf ((e++b.1).map fu))]) ?_);refine cT (dd ?_);have G:=Zl hF;subst G;exact fX km
 replace hF:=(eu b7).symm.trans hF;refine AX (t:=(H !=0)) b7 ?_;refine dn ?_;refine bx ?_;refine az ?_;obtain⟨u,dQ,hF⟩:=bJ hF;refine CM [(4,oX eV (cZ (lh (cZ eV))) [I (bG R)] (Ay j n a g b e []) [] (alR N R u dQ))] [(16,Gv)] (Ay j n a g b e [.cells [I (bG u.1)],.map (cv cx u.2),.cells [.mp 9],.cells [.fn 117 [Ge,EA]]]) ?_;refine az (CM [] [(17,GH)] (SK j n a g b e u []) ?_);refine az (az ?_);obtain⟨C,dJ,hF⟩:=bJ hF;refine CM [(4,oQ [I (bN g.1)] (SK j n a g b e u []) [] (aeV dJ))] [(85,.fn 118 [.bm [[.sl (bN C)]] 0 0])] (SK j n a g b e u []) ?_;refine ft ?_;obtain⟨aZ,ff,hF⟩:=bJ hF;refine Ww 7 ?_;refine E1 12 6 56 2 [] rfl (.inr ⟨rfl,rfl⟩) ?_;refine fR [5,8,9,10,14,16,17,85] 14 (Zh rfl) (s':=⟨142,[(5,An),(8,D0),(9,Ar),(10,CV),(14,DW),(16,Gv),(17,GH),(85,.fn 118 [.bm [[.sl (bN C)]] 0 0])],KZ j n a g b u [.map (cv cx u.2),.cells [.mp 9],.cells [.fn 117 [Ge,EA]],.cells [Y a.aw.bt,Y a.aw.bW,Y a.aw.bR,Y a.aw.b9,Y a.aw.b8,I (bN g.1),.own 13 (fa [])],.front 56 2 0]⟩) km ?_
 refine ya (m:=14) (enc:=sI) (xs:=aZ) km (avV ff) (λ((q,z):(U aH)×(U (so×bo)))=>(GR j n a g b u z q [])) (λ((q,z):(U aH)×(U (so×bo))) l=>vD N a g n b u l q z=some r) ([],u.2) km hF (by rintro⟨q,z⟩;rfl) (by rintro⟨q,z⟩;kernel_rfl) km rfl ?_ ?_
 ·rintro⟨q,z⟩ Q bq hF fB J K
  try dsimp only at hF
  rw[vD]at hF;refine fR [5,8,9,10,14,16,17,86] 15 (Zx _) (s':=⟨142,[(5,An),(8,D0),(9,Ar),(10,CV),(14,DW),(16,Gv),(17,GH),(86,I (bN Q))],GR j n a g b u z q [.lp .ready 86 J K (dL 142 [(5,An),(8,D0),(9,Ar),(10,CV),(14,DW),(16,Gv),(17,GH),(85,.fn 118 [.bm [[.sl (bN C)]] 0 0])])]⟩) km ?_;refine BI [] [(18,I (bN Q))] (GR j n a g b u z q [.lp .ready 86 J K (dL 142 [(5,An),(8,D0),(9,Ar),(10,CV),(14,DW),(16,Gv),(17,GH),(85,.fn 118 [.bm [[.sl (bN C)]] 0 0])])]) ?_;refine bx ?_;refine⟨GR j n a g b u z q [],[],rfl,km,?_⟩;refine fR [5,8,9,10,14,16,17,18] 15 (Zh rfl) (s':=⟨142,[(5,An),(8,D0),(9,Ar),(10,CV),(14,DW),(16,Gv),(17,GH),(18,I (bN Q))],Rt j n a g b u z q J K C []⟩) km ?_;refine ft ?_;refine az ?_;obtain⟨P,iA,o,jm,hF⟩:=Z6 hF;refine ro 2 bH (.node 0 [] (.node 1 [] (.node 2 [] (.node 3 [] (.node 4 [] (.node 5 [] (.node 6 [] (.node 7 [(22,cK avU iA)] (.node 8 [(25,oR [.fn 117 [Ge,EA],dX a,I (bN b.1),I (bz P)] (Rt j n a g b u z q J K C []) [10,8,9] (afi N a b.1 P u.1 z o jm))] (.node 9 [] (.node 10 [] (.node 11 [] (.node 12 [] (.node 13 [] (.node 14 [] .nil .nil) .nil) .nil) .nil) .nil) .nil) (.node 12 [] (.node 8 [(25,oR [.fn 117 [Ge,EA],dX a,I (bN b.1),I (bz P)] (Rt j n a g b u z q J K C [.cells jW]) [10,8,9] (afi N a b.1 P u.1 z o jm))] (.node 9 [] (.node 10 [] (.node 11 [] (.node 13 [] (.node 14 [] .nil .nil) .nil) .nil) .nil) .nil) .nil) .nil)) .nil) .nil) .nil) .nil) .nil) .nil) .nil) .nil) [(19,.ptr 15 0),(20,Y o.2.1)] (Gn j n a g b u o q J K C (Sn o.1)) km ?_
  refine az (az ?_);obtain⟨dw,gk,hF⟩:=bJ hF;refine yS [(114,aG dw)] (Gn j n a g b u o q J K C (Sn o.1)) ?_ ?_
  ·rcases eo (o.2.1==0)with B|B
   ·replace gk:=(cS B).symm.trans gk;rcases eo (a.cE==5)with x|x
    ·replace gk:=(cS x).symm.trans gk;have lE:=iw gk;replace gk:=(cS lE).symm.trans gk;obtain⟨dM,mK,gk⟩:=bJ gk;have L:=Zl gk;subst L;exact⟨[(9,bT B),(12,bT B),(15,bT B),(19,bT B),(24,bT x),(27,bT x),(30,bT x),(31,oL Q ig),(33,bT x),(36,bT x),(37,⟨_,_,.el (xs:=bN Q) (i:=(aY ((Q.length:Int)-(1:Int)))) (Tr lE) (kK mK)⟩),(39,bT x),(42,bT x),(46,bT x)],by kernel_rfl⟩
    replace gk:=(eu x).symm.trans gk;have L:=Zl gk;subst L;exact⟨[(9,bT B),(12,bT B),(15,bT B),(19,bT B),(24,bF x),(27,bF x),(30,bF x),(33,bF x),(36,bF x),(39,bF x),(42,bF x),(46,bF x)],by kernel_rfl⟩
   replace gk:=(eu B).symm.trans gk;have L:=Zl gk;subst L;exact⟨[(9,bF B),(12,bF B),(15,bF B),(19,bF B),(24,bF rfl),(27,bF rfl),(30,bF rfl),(33,bF rfl),(36,bF rfl),(39,bF rfl),(42,bF rfl),(46,bF rfl)],by kernel_rfl⟩
  refine EU [8,9,17,19,20] 16 (λ((w,E,F):Int×Int64×Int64)=>⟨142,[(8,D0),(9,Ar),(17,GH),(19,.ptr 15 0),(20,Y w)],Gn j n a g b u o q J K C [.cells [bg E,bg F]]⟩) (λ((w,E,F):Int×Int64×Int64)=>xr N q (λbS ee=>vD N a g n b u bq bS ee) o w E F=some r) (Zh rfl) ?_ ?_
  ·rcases eo dw with oG|oG
   ·replace hF:=(cS oG).symm.trans hF;refine AY (t:=dw) oG ?_;have Ej:=iw hF;replace hF:=(cS Ej).symm.trans hF;obtain⟨sE,vG,v,JB,hF⟩:=Z6 hF;refine SD bH km [(19,oL q nK),(25,⟨_,_,.el (xs:=fa q) (i:=(aY ((q.length:Int)-(1:Int)))) (Tr Ej) (ta vG)⟩),(37,cK avP JB)] [(20,Y v.2),(130,Y v.2),(129,bO v.1),(115,.bw [bO v.1,Y v.2]),(128,.bw [bO v.1,Y v.2]),(127,.full (fa [sE,o.1])),(126,bO o.1),(125,bO sE),(124,.bm [DV sE] 0 0),(123,Y (aY ((q.length:Int)-(1:Int)))),(122,Y q.length),(121,.own 13 (fa q)),(120,.ptr 12 6),(119,.own 13 (fa q)),(118,.ptr 12 6),(117,cN a.aw),(116,.ptr 4 1)] (Gn j n a g b u o q J K C (Sn v.1)) km ?_;refine bx ?_;exact⟨(v.2,v.1.xN,v.1.xD),by kernel_rfl,hF⟩
   replace hF:=(eu oG).symm.trans hF;refine AX (t:=dw) oG ?_;refine dn ?_;refine bx ?_;exact⟨(o.2.1,o.1.xN,o.1.xD),by kernel_rfl,hF⟩
  rintro⟨w,E,F⟩ hF
  try dsimp only at hF
  rw[xr]at hF;refine az (az ?_);refine CM [] [(132,(aG (w !=0)))] (Gn j n a g b u o q J K C [.cells [bg E,bg F]]) ?_;rcases eo (w !=0)with mo|mo
  ·replace hF:=(cS mo).symm.trans hF;refine AY (t:=(w !=0)) mo ?_;refine az (CM [] [] (xI j n [.cells [Y w],.cells (dX a).cells,.cells (cN g.2.1).cells,.cells [I (bN b.1)],.gone,.cells [I (bG u.1)],.map (cv cx o.2.2),.cells [.mp 9],.cells [.fn 117 [Ge,EA]],.cells [Y a.aw.bt,Y a.aw.bW,Y a.aw.bR,Y a.aw.b9,Y a.aw.b8,I (bN g.1),.own 13 (fa q)],.front 56 2 q.length,.lp .busy 86 J K (dL 142 [(5,An),(8,D0),(9,Ar),(10,CV),(14,DW),(16,Gv),(17,GH),(85,.fn 118 [.bm [[.sl (bN C)]] 0 0])]),.cells [bg E,bg F]]) ?_);refine cT (dd (eI ?_));refine DC [.cells (di j).cells,.cells [I (bz n)],.cells [Y 0,Y 0,Y 0,Y 0,Y 0,I (bN []),I (fa [])],.cells [Y w],.cells (dX a).cells,.cells (cN g.2.1).cells,.cells [I (bN b.1)],.gone,.cells [I (bG u.1)],.map (cv cx o.2.2),.cells [.mp 9],.cells [.fn 117 [Ge,EA]],.cells [Y a.aw.bt,Y a.aw.bW,Y a.aw.bR,Y a.aw.b9,Y a.aw.b8,I (bN g.1),.own 13 (fa q)],.front 56 2 q.length] rfl km km ?_
   refine(eI (dd ?_));have G:=Zl hF;subst G;exact fX km
  replace hF:=(eu mo).symm.trans hF;refine AX (t:=(w !=0)) mo ?_;refine dn ?_;refine bx ?_;have tQ:=iw hF;replace hF:=(cS tQ).symm.trans hF;refine BI [(13,oA CJ q ([(⟨E,F⟩:aH)]) tQ)] [(140,.ptr 12 6),(139,.own 13 (fa (q++[(⟨E,F⟩:aH)]))),(138,.full (fa [(⟨E,F⟩:aH)])),(137,.agg [bg E,bg F]),(136,.own 13 (fa q)),(135,.ptr 12 6)] (agH j n a g b u o q E F [.lp .busy 86 J K (dL 142 [(5,An),(8,D0),(9,Ar),(10,CV),(14,DW),(16,Gv),(17,GH),(85,.fn 118 [.bm [[.sl (bN C)]] 0 0])]),.cells [bg E,bg F]]) ?_;refine hY ?_;refine zA (agH j n a g b u o q E F []) rfl km km ?_;exact⟨(q++[(⟨E,F⟩:aH)],o.2.2),km,hF⟩
 rintro⟨q,z⟩ hF
 try dsimp only at hF
 rw[vD]at hF;refine hY ?_;refine bx ?_;refine az (CM [] [] [.cells (di j).cells,.cells [I (bz n)],.cells [Y a.aw.bt,Y a.aw.bW,Y a.aw.bR,Y a.aw.b9,Y a.aw.b8,I (bN g.1),.own 13 (fa q)],.cells [Y 0],.cells (dX a).cells,.cells (cN g.2.1).cells,.cells [I (bN b.1)],.gone,.cells [I (bG u.1)],.map (cv cx z),.cells [.mp 9],.cells [.fn 117 [Ge,EA]],.cells [Y a.aw.bt,Y a.aw.bW,Y a.aw.bR,Y a.aw.b9,Y a.aw.b8,I (bN g.1),.own 13 (fa q)],.front 56 2 q.length,.gone] ?_);refine cT ?_;have G:=Zl hF;subst G;exact fX km
def xc(N:Nat)(c:aI)(d:U aR):U aF->Nat->(U aO)->O ((U aO)×Int)
 |[],_,a=>some (a,(0:Int))
 |f::g,e,a=>(BR N c d a (e:Int)).bind λb=>bif (b.2 !=0)then some ([],b.2)else bif (Nat.ble ((a.length+1)*104) 140737488355328)then(λh=>xc N c d g (e+1) h) (a++[(⟨f.ar,b.1⟩:aO)])else none
def OH(N:Nat)(a:aI)(b:U aR)(e:U aO):O ((U aO)×Int):=(BL N a b).bind λd=>bif (d !=0)then some ([],d)else(HA N a b e).bind λc=>bif (c.2 !=0)then some ([],c.2)else xc N a b a.ax 0 c.1
def aqU{N b f g}:KO 17 [di b,I (bz f),I (bG g)] (λr=>.bw [I (bG r.1),Y r.2]) (OH N b f g):=
 fw func17 (ay λx j=>gA [[],[(7,cK ao5 j)],[]] (bV λk=>ay λy l=>gA [[f0 k],[(10,oX eV (vC eV) [di b,I (bz f),I (bG g)] (RX b) [] (au1 l))],[]] (bV λn=>gA [[f0 n],[(7,oL b.ax kO)]] (gT Ci 32 b.ax λo=>iC 1 [] [1,3,9,32,33,34] 2 (λh(a:U aO)=>⟨59,[(1,I (bz f)),(3,A1),(9,.own 1 (bG a)),(32,I (dy b.ax)),(33,Y b.ax.length),(34,Y h)],[.cells (di b).cells,.front 79 8 a.length]⟩) (λh a c q=>gR [[],[f0 (bY c)],[]]) (λh i z a c q t=>ay λe u=>gA [[],[t0 (bZ c)],[(4,oE (nI (bA c)))],[(13,cL (ati u))],[]] (bV λv=>dW λw=>gb t (a++[(⟨i.ar,e.1⟩:aO)]) [[f0 v],[(19,oA Gg a ([(⟨i.ar,e.1⟩:aO)]) w)],[(2,oq (ck c rfl o))]] c))))))
def Nn(N:Nat)(d:(U aO)×Int):U so->Nat->(U aO)->O ((U aO)×Int)
 |[],_,a=>some (a,(0:Int))
 |e::f,g,a=>(wH N d.1 e).bind λb=>(BS N b.1).bind λc=>bif (Nat.ble ((a.length+1)*104) 140737488355328)then(λh=>Nn N d f (g+1) h) (a++[(⟨e,c⟩:aO)])else none
def sN(N:Nat)(b:aI)(c:U aR)(d:U aO):O ((U aO)×Int):=(OH N b c d).bind λa=>bif (a.2 !=0)then some ([],a.2)else Nn N a b.cB 0 []
def Rx{N a g h}:KO 6 [di a,I (bz g),I (bG h)] (λr=>.bw [I (bG r.1),Y r.2]) (sN N a g h):=
 fw func6 (ay λj k=>gA [[],[(10,cK aqU k)],[]] (bV λl=>gA [[f0 l],[],[(7,oL a.cB jt)]] (li (λ_=>(qK 10 79 8 [] (.inr km) ·)) (gT tR 26 a.cB λn=>iC 1 [] [8,10,26,27,28] 2 (λf(b:U aO)=>⟨47,[(8,I (bG j.1)),(10,.own 1 (bG b)),(26,I (bQ a.cB)),(27,Y a.cB.length),(28,Y f)],[.cells (di a).cells,.front 79 8 b.length]⟩) (λf b c o=>gR [[],[f0 (bY c)],[]]) (λf i x b c o q=>ay λt u=>ay λe v=>dW λw=>gb q (b++[(⟨i,e⟩:aO)]) [[],[t0 (bZ c)],[(1,oE (rM (bA c)))],[(7,cK NF u)],[(10,cK avY v),(19,oA Gg b ([(⟨i,e⟩:aO)]) w)],[(2,oq (ck c rfl n))]] c)))))
def wR(N:Nat)(a:U Int):U Int->Nat->O Bool
 |[],_=>some true
 |c::d,b=>(a[((b:Int)).toNat]?).bind λe=>bif (c !=e)then some false else(wR N a d (b+1))
def xG(N:Nat)(a:U Int)(b:U Int):O Bool:=bif ((a.length:Int) !=(b.length:Int))then some false else wR N b a 0
def akI{N a c}:KO 59 [I (bN a),I (bN c)] aG (xG N a c):=
 fw func59 (gA [[],[(4,oL a ig),(10,oL c ig)]] (iy λ_=>gT o6 0 a λf=>eX 1 [] [0,1,5] 0 (λe=>⟨26,[(0,I (bN a)),(1,I (bN c)),(5,Y e)],[]⟩) (λe b g=>gR [[(7,oL a ig)],[f0 (bY b)],[]]) (λe k l b g h=>ay λn i=>gA [[(7,oL a ig)],[t0 (bZ b)],[(7,oE (kK (bA b))),(19,oE (kK i))]] (bV λj=>gb h () [[f0 j],[(5,oq (ck b rfl f))]] b))))
def Ki(N:Nat)(a:U aH):U aH->Nat->O Bool
 |[],_=>some true
 |b::e,c=>(a[((c:Int)).toNat]?).bind λd=>bif ((b.xN.toInt==d.xN.toInt)&&((b.xD.toInt==d.xD.toInt)&&true))then(Ki N a e (c+1))else some false
def MI(N:Nat)(a:U aH)(b:U aH):O Bool:=bif ((a.length:Int) !=(b.length:Int))then some false else Ki N b a 0
def at3{N a c}:KO 60 [I (fa a),I (fa c)] aG (MI N a c):=
 fw func60 (gA [[],[(4,oL a nK),(10,oL c nK)]] (iy λ_=>gT CJ 0 a λf=>eX 1 [] [0,1,5] 0 (λe=>⟨26,[(0,I (fa a)),(1,I (fa c)),(5,Y e)],[]⟩) (λe b g=>gR [[(7,oL a nK)],[f0 (bY b)],[]]) (λe k l b g h=>ay λn i=>gA [[(7,oL a nK)],[t0 (bZ b)],[(7,oE (ta (bA b))),(19,oE (ta i))]] (kC λj=>gb h () [[f0 (dG j)],[(5,oq (ck b rfl f))]] b))))
def MN(N:Nat)(a:bo)(b:bo):O Bool:=(bif ((a.aw.bt==b.aw.bt)&&((a.aw.bW==b.aw.bW)&&((a.aw.bR==b.aw.bR)&&((a.aw.b9==b.aw.b9)&&((a.aw.b8==b.aw.b8)&&true)))))then (xG N a.aJ b.aJ).bind λc=>(bif c then (MI N a.fE b.fE).bind λd=>some d else some false)else some false).bind λe=>some e
def als{N a b}:KO 27 [jo a,jo b] aG (MN N a b):=
 fw func27 (gA [[]] (gG (λe=>[(4,aG e)]) (λ_=>[.cells (jo a).cells,.cells (jo b).cells]) (aC (λc=>ay λh f=>dS (5,bT c) (dH (31,cK akI f) (aC (λd=>ay λi g=>gE [(12,bT d)] [(52,cK at3 g)]) λd=>gE [(12,bF d)] []))) λc=>gE [(5,bF c),(12,bF rfl)] []) λe=>gR []))
def OM(N:Nat)(a:U aO):U aO->Nat->O Bool
 |[],_=>some true
 |b::e,c=>(a[((c:Int)).toNat]?).bind λd=>(bif (bL b.ar==bL d.ar)then (MN N b.gg d.gg).bind λf=>some (!f)else some true).bind λg=>bif g then some false else(OM N a e (c+1))
def H3(N:Nat)(a:U aO)(b:U aO):O Bool:=bif ((a.length:Int) !=(b.length:Int))then some false else OM N b a 0
def ada{N a c}:KO 8 [I (bG a),I (bG c)] aG (H3 N a c):=
 fw func8 (gA [[],[(4,oL a A9),(10,oL c A9)]] (iy λ_=>gT Gg 0 a λi=>eX 1 [] [0,1,5] 0 (λe=>⟨42,[(0,I (bG a)),(1,I (bG c)),(5,Y e)],[]⟩) (λe b j=>gR [[(7,oL a A9)],[f0 (bY b)],[]]) (λe o q b j k=>gA [[(7,oL a A9)],[t0 (bZ b)]] (ay λr g=>gG (λh=>[(41,aG h)]) (λ_=>[]) (dH (7,oE (Eo (bA b))) (dH (22,oE (Eo g)) (aC (λf=>ay λt l=>gE [(11,bF (dG f))] [(43,oE (Eo (bA b))),(58,oE (Eo g)),(67,cK als l)]) λf=>gE [(11,bT (eF f))] []))) λh=>bV λn=>gb k () [[f0 n],[(5,oq (ck b rfl i))]] b))))
def GP(N:Nat)(c:aI)(e:Int)(f:U aR)(g:U aO)(h:(U aO)×Int):O Bool:=(Fm N c e).bind λa=>(sN N a.1 f g).bind λd=>(bif (d.2==0)then (H3 N d.1 h.1).bind λi=>(bif i then(bif (decide (a.2>=0))then(bif (decide (a.2<=(c.ax.length:Int)))then (xn N).bind λj=>some j else some false)else some false)else some false)else some false).bind λb=>some b
def B7(N:Nat)(a:aI)(b:U aR)(c:U aO)(i:so)(f:Int):U aR->Nat->O Bool
 |[],_=>(sN N a b c).bind λe=>bif (e.2 !=0)then(xn N).bind λk=>some k else(qk N a i).bind λj=>bif (j.2==0)then(sN N j.1 b c).bind λd=>(bif (d.2 !=0)then some true else (H3 N d.1 e.1).bind λl=>some (!l)).bind λn=>bif n then some false else GP N a f b c e else GP N a f b c e
 |v11::g,o=>bif (decide (v11.cU.toInt>8))then(xn N).bind λh=>some h else(B7 N a b c i f g (o+1))
def Tg(N:Nat)(a:aI)(b:U aR)(c:U aO)(d:so)(e:Int):O Bool:=(Hh N a (60:Int)).bind λf=>(bif f then some true else(bif (decide ((a.ax.length:Int)>6))then some true else(bif (decide ((b.length:Int)>12))then some true else(bif (decide ((c.length:Int)>20))then some true else some (decide ((d.size:Int)>100)))))).bind λg=>bif g then(xn N).bind λh=>some h else B7 N a b c d e b 0
def Jm(a:aI)(l:U ao):U ao:= .cells (di a).cells::l
def arC{N a b c h f}:KO 3 [di a,I (bz b),I (bG c),cd h,Y f] aG (Tg N a b c h f):=
 fw func3 (gA [[]] (ay λv6 F=>gG (λA=>[(44,aG A)]) (λ_=>(Jm a [])) (dH (4,cK arL F) (aC (λi=>gE [(2,bT i),(8,bT rfl),(13,bT rfl),(18,bT rfl)] []) λi=>dS (2,bF i) (dH (16,oL a.ax kO) (aC (λj=>gE [(8,bT j),(13,bT rfl),(18,bT rfl)] []) λj=>dS (8,bF j) (dH (31,oL b yQ) (aC (λk=>gE [(13,bT k),(18,bT rfl)] []) λk=>dS (13,bF k) (dH (46,oL c A9) (aC (λl=>gE [(18,bT l)] []) λl=>gE [(18,bF l)] [])))))))) λA=>aC (λn=>ay λv8 G=>gR [[t0 n],[(1,cK Mh G)]]) λn=>gA [[f0 n],[]] (gT IM 1 b λH=>eX 1 [] [1,2,3,4,5,11] 1 (λo=>⟨126,[(1,I (bz b)),(2,I (bG c)),(3,cd h),(4,Y f),(5,A1),(11,Y o)],Jm a []⟩) (λo e J=>ay λB K=>gA [[(7,oL b yQ)],[f0 (bY e)],[(10,cK Rx K)],[]] (aC (λq=>ay λaE L=>gR [[t0 q],[(1,cK Mh L)]]) λq=>ay λr M=>gj0 2 [[f0 q],[(7,cL (Xb M))],[]] [1,2,4,5,12] 2 ⟨126,[(1,I (bz b)),(2,I (bG c)),(4,Y f),(5,A1),(12,I (bG B.1))],Jm a (RX r.1)⟩ (GP N a f b c B) (λf2 C=>aC (λt=>ay λP Q=>gA [[t0 t],[(10,cK Rx Q)]] (gG (λE=>[(91,aG E)]) (λ_=>(Jm a (RX r.1))) (aC (λu=>gE [(2,bT u)] []) λu=>ay λdM R=>gE [(2,bF u)] [(16,cK ada R)]) λE=>bV λW=>gm C () [[f0 W]])) λt=>gm C () [[f0 t]]) (ay λaW b7=>ay λa7 dQ=>gA [[(7,cK awb b7)],[(10,cK Rx dQ)]] (gG (λg=>[(10,aG g)]) (λ_=>(Jm a [.cells (di r.1).cells,.cells (di aW.1).cells])) (aC (λv=>ay λaP ff=>dS (2,bT v) (dH (16,cK ada ff) (aC (λw=>dS (7,bT w) (aC (λx=>dS (11,bT x) (dH (46,oL a.ax kO) (aC (λy=>ay λbq gX=>gE [(18,bT y)] [(58,cK Mh gX)]) λy=>gE [(18,bF y)] []))) λx=>gE [(11,bF x),(18,bF rfl)] [])) λw=>gE [(7,bF w),(11,bF rfl),(18,bF rfl)] []))) λv=>gE [(2,bF v),(7,bF rfl),(11,bF rfl),(18,bF rfl)] []) λg=>gR [])))) (λo v11 v12 e J aV=>gA [[(7,oL b yQ)],[t0 (bZ e)],[(7,oE (Cc (bA e)))]] (aC (λz=>ay λv24 Ej=>gR [[t0 z],[(1,cK Mh Ej)]]) λz=>gb aV () [[f0 z],[(5,oq (ck e rfl H))]] e)))))
def Ph(b:so)(i:Nat):b[i]?=(bL b)[i]?:=by
 unfold bL;rw[ZL];by_cases h:i<b.size;{rw[getElem?_pos b i h,ZI (xs:=b.data) (by exact h)];rfl};{rw[getElem?_neg b i h,Array.getElem?_eq_none (xs:=b.data) (by exact Nat.le_of_not_lt h)]}
def Eh(b:so):b.size=(bL b).length:=by unfold bL;rw[Z9];rfl
def I5{i:Nat}(h:i<9223372036854775807):aY ((i:Int)+1)=((i+1:Nat):Int):=by
 unfold aY;rw[cR]<;>omega
def AM(c:UInt8):Bool:=decide (97<=c.toNat)&&decide (c.toNat<=122)
def rU(c:UInt8):Bool:=AM c||(decide (48<=c.toNat)&&decide (c.toNat<=57))||c.toNat==95
def C0(l:U UInt8):Bool:=p7.any λw=>bL w==l
def Qw(l:U UInt8):Bool:=decide (1<=l.length)&&(decide (l.length<=16)&&(!C0 l&&((l.take 1).all AM&&l.all rU)))
def iO(s:so):Bool:=Qw (bL s)
def aa9(c:UInt8):IntKind.i32.wrap (c.toNat:Int)=(c.toNat:Int):=by
 have:=c.toNat_lt;rw[IntKind.wrap_i32]<;>omega
def sO{p q:Prop} [Decidable p] [Decidable q](h:p↔q):decide p=decide q:=decide_eq_decide.2 h
def kx(a b:Bool):(bif a then some b else some false)=some (a&&b):=by cases a<;>rfl
def sD(a b:Bool):(bif a then some true else some b)=some (a||b):=by cases a<;>rfl
def abH(N:Nat)(c:UInt8):JC N (c.toNat:Int)=some (AM c):=by
 unfold JC AM;rw[kx,re,sO (q:=97<=c.toNat) k7,sO (p:=(c.toNat:Int)<=122) (q:=c.toNat<=122) k7]
def ath(N:Nat)(c:UInt8):Ke N (c.toNat:Int)=some (decide (48<=c.toNat)&&decide (c.toNat<=57)):=by
 unfold Ke;rw[kx,re,sO (q:=48<=c.toNat) k7,sO (p:=(c.toNat:Int)<=57) (q:=c.toNat<=57) k7]
def ry(n k:Nat):((n:Int)==(k:Int))=(n==k):=by
 rw[Bool.eq_iff_iff,TC,TC];omega
def avk(N:Nat)(c:UInt8):MR N (c.toNat:Int)=some (rU c):=by
 unfold MR rU;rw[abH,re,ath,re];have:=ry c.toNat 95;rw[show(((c.toNat:Int)==95))=(c.toNat==95)from this,sD,sD,re,Bool.or_assoc]
def aeq(N:Nat)(s:so)(c:s.size<9223372036854775807):∀(k i:Nat),i<=s.size->s.size-i<k->Gm N s k (i:Int)=some ((i+(((bL s).drop i).takeWhile rU).length:Nat):Int)
 |0,i,_,d=>absurd d (ZJ _)
 |k+1,i,h,d=>by
  rw[Gm];by_cases a:i<s.size
  ·have b:decide ((i:Int)<(s.size:Int))=true:=eD k7;have g:decide ((0:Int)<=(i:Int))=true:=eD k7;rw[b,g];simp only[Tj,ZR];have e:i<(bL s).length:=by rw[<-Eh];exact a
   rw[Ph,Zd e,List.drop_eq_getElem_cons e,re,aa9,avk,re,re];cases f:rU (bL s)[i]with
   |true=>
    simp only[Tj];rw[I5 (Nat.lt_trans a c),aeq N s c k (i+1) a k7,List.takeWhile_cons_of_pos f,Zp]
    congr 2;omega
   |false=>
    simp only[Tf];rw[List.takeWhile_cons_of_neg (by rw[f];simp)];rfl
  ·have b:decide ((i:Int)<(s.size:Int))=false:=Zn k7;rw[b];simp only[Tf,re];rw[List.drop_eq_nil_of_le (by rw[<-Eh];omega)];rfl
def ajA(N:Nat)(s:so)(a:s.size<9223372036854775807)(b:s.size<N):Mt N s=some ((((bL s).takeWhile rU).length:Nat):Int):=by
 unfold Mt;have:=aeq N s a N 0 (Wl _) k7;rw[Yn,ZQ]at this;exact this
def agP{α:Type}(p:α->Bool):∀l:U α,((l.takeWhile p).length==l.length)=l.all p
 |[]=>rfl
 |x::l=>by
  cases h:p x with
  |true=>
   rw[List.takeWhile_cons_of_pos h,Z4,h,Z0,<-agP p l];simp
  |false=>rw[List.takeWhile_cons_of_neg (by rw[h];simp),Z4,h];simp
def Wp(N:Nat)(v:so):∀(l:U so)(k:Nat),∃z:Int,Kj N v l k=some z/\decide (z>=0)=l.any λw=>bL w==bL v
 |[],k=>⟨-1,rfl,rfl⟩
 |w::l,k=>by
  rw[Kj,Yr];have a:(bL v==bL w)=(bL w==bL v):=by rw[Bool.eq_iff_iff,TC,TC];exact eq_comm
  cases h:bL v==bL w with
  |true=>rw[a]at h;exact⟨k,rfl,by rw[h,Bool.true_or];exact eD k7⟩
  |false=>
   obtain⟨z,b,c⟩:=Wp N v l (k+1);rw[a]at h;exact⟨z,b,by rw[h,c6];exact c⟩
def arN(N:Nat)(v:so):PM N v=some (C0 (bL v)):=by
 unfold PM UN g_slices_Contains_string_string On;obtain⟨z,a,b⟩:=Wp N v p7 0;rw[re,a,re,re,b];rfl
def aiq{α:Type}{l:U α}(h:0<l.length):l.take 1=[l[0]]:=by
 cases l with
 |nil=>cases h
 |cons x l=>rfl
def FY:bL (bs [])=[]:=rfl
def M3(N:Nat)(s:so)(g:16<N):zS N s=some (iO s):=by
 unfold zS iO Qw;have d:=Eh s;by_cases a:(bL s).length=0;{have:bL s=[]:=List.length_eq_zero_iff.1 a;rw[this];rfl}
 have e:(bL s==bL (bs []))=false:=by
  rw[FY,Tn];intro h;rw[h]at a;exact a rfl
 rw[e,eD (show 1<=(bL s).length by omega),Z0];simp only[Tf];by_cases b:(bL s).length<=16
 ·rw[eD (show(s.size:Int)<=16 by omega),eD b,Z0];simp only[Tj];have c:0<(bL s).length:=by omega
  rw[Ph,Zd c,re,aa9,abH,re,ajA N s k7 k7,re,arN,re,d,ry,agP];have f:(bL s).take 1=[(bL s)[0]]:=aiq c;rw[f,Z4,List.all_nil,Bool.and_true,kx,kx,re]
  congr 1
  cases C0 (bL s)<;>cases AM (bL s)[0]<;>cases (bL s).all rU<;>rfl
 ·rw[Zn (show ¬(s.size:Int)<=16 by omega),Zn b];rfl
def ako(N:Nat)(b:Bool):jK N b=some b:=by cases b<;>rfl
def ajK(a b:Bool):(bif a then some a else some b)=some (a||b):=by cases a<;>rfl
def asY(a b:U UInt8):(a==b)=(b==a):=by rw[Bool.eq_iff_iff,TC,TC];exact eq_comm
def aj6(N:Nat)(v:so):PY N v=some (C0 (bL v)):=by
 simp only[PY,ako,ajK,C0,p7,Yr,List.any_nil,Bool.or_false,asY (bL v)]
def Kk(n k:Nat):decide ((n:Int)<(k:Int))= !decide (k<=n):=by
 by_cases h:k<=n;{rw[eD h,Zn k7];rfl};{rw[Zn h,eD k7];rfl}
def nS(n k:Nat):decide ((n:Int)>(k:Int))= !decide (n<=k):=by
 by_cases h:n<=k;{rw[eD h,Zn k7];rfl};{rw[Zn h,eD k7];rfl}
def Es(n k:Nat):decide ((n:Int)<=(k:Int))=decide (n<=k):=sO k7
def avN(n k:Nat):((n:Int) !=(k:Int))= !(n==k):=by unfold bne;rw[ry]
def asi(c:UInt8):(bif (decide ((c.toNat:Int)<97))then(bif (decide ((c.toNat:Int)<48))then some ((c.toNat:Int) !=95)else(bif (decide ((c.toNat:Int)>57))then some ((c.toNat:Int) !=95)else some false))else(bif (decide ((c.toNat:Int)>122))then(bif (decide ((c.toNat:Int)<48))then some ((c.toNat:Int) !=95)else(bif (decide ((c.toNat:Int)>57))then some ((c.toNat:Int) !=95)else some false))else some false))=some (!rU c):=by
 have a:=Kk c.toNat 97;have b:=Kk c.toNat 48;have d:=nS c.toNat 57;have e:=nS c.toNat 122;have f:=avN c.toNat 95;simp only[Int.cast_ofNat_Int]at a b d e f;rw[a,b,d,e,f];unfold rU AM;cases decide (97<=c.toNat)<;>cases decide (48<=c.toNat)<;>cases decide (c.toNat<=57)<;>cases decide (c.toNat<=122)<;>cases (c.toNat==95)<;>rfl
def aaS(N:Nat)(s:so)(c:s.size<9223372036854775807):∀(k i:Nat),i<=s.size->s.size-i<k->Cx N s k (i:Int)=some (((bL s).drop i).all rU)
 |0,i,_,d=>absurd d (ZJ _)
 |k+1,i,g,d=>by
  rw[Cx];by_cases a:i<s.size
  ·have b:decide ((i:Int)<(s.size:Int))=true:=eD k7;have f:decide ((0:Int)<=(i:Int))=true:=eD k7;rw[b,f];simp only[Tj,ZR];have e:i<(bL s).length:=by rw[<-Eh];exact a
   rw[Ph,Zd e,List.drop_eq_getElem_cons e,re,asi,re,Z4];cases h:rU (bL s)[i]with
   |true=>
    simp only[VX,Tf,Z0];rw[I5 (Nat.lt_trans a c),aaS N s c k (i+1) a k7]
   |false=>rfl
  ·have b:decide ((i:Int)<(s.size:Int))=false:=Zn k7;rw[b];simp only[Tf];rw[List.drop_eq_nil_of_le (by rw[<-Eh];omega)];rfl
def abo(N:Nat)(s:so)(j:16<N):Iq N s=some (iO s):=by
 unfold Iq iO Qw;have f:=Eh s;have a:=Kk s.size 1;have b:=nS s.size 16;simp only[Int.cast_ofNat_Int]at a b;rw[a,b,f];cases g:decide (1<=(bL s).length)with
 |false=>rfl
 |true=>
  cases h:decide ((bL s).length<=16)with
  |false=>rfl
  |true=>
   have k:=Tr g;have i:=Tr h;have c:0<(bL s).length:=by omega
   simp only[VX,Tf,Z0];rw[aj6,re,Ph,Zd c,re];have d:=Kk (bL s)[0].toNat 97;have e:=nS (bL s)[0].toNat 122;simp only[Int.cast_ofNat_Int]at d e;rw[d,e,sD,sD,re,aiq c];have:=aaS N s k7 N 0 (Wl _) k7;rw[Yn]at this;rw[show Cx N s N 0=_ from this,Z4,List.all_nil,Bool.and_true];unfold AM;cases C0 (bL s)<;>cases decide (97<=(bL s)[0].toNat)<;>cases decide ((bL s)[0].toNat<=122)<;>rfl
def dD(t:aQ):Bool:=bif t.bt==1||t.bt==3 then t.bW==0&&(t.bR==0&&(t.b9==0&&t.b8==0))else t.bt==2&&(decide (2<=t.bW)&&(decide (t.bW<=31)&&(decide (0<=t.bR)&&(decide (t.bR<=30)&&(decide (1<=t.b9)&&(decide (t.b9<=4)&&(t.b8==1||t.b8==2)))))))
def ltI(a b:Int):decide (a<b)= !decide (b<=a):=by
 by_cases h:b<=a;{rw[eD h,Zn k7];rfl};{rw[Zn h,eD k7];rfl}
def To(a b:Int):decide (a>b)= !decide (a<=b):=ltI b a
def qA(a b:Int):decide (a>=b)=decide (b<=a):=rfl
def TS(a b:Int):(a !=b)= !(a==b):=rfl
def avM(N:Nat)(t:aQ):O Bool:=some (dD t)
def Ur(N:Nat)(t:aQ):avM N t=some (dD t):=rfl
def Sy(N:Nat)(t:aQ)(h:(t.bt==2)=true):yv N t=some (bif (decide (2<=t.bW)&&(decide (t.bW<=31)&&(decide (0<=t.bR)&&(decide (t.bR<=30)&&(decide (1<=t.b9)&&(decide (t.b9<=4)&&(t.b8==1||t.b8==2)))))))then 0 else 10):=by
 unfold yv;simp only[sD,kx,re,qA,To,TS,h,VX,c6];cases decide (2<=t.bW)<;>cases decide (t.bW<=31)<;>cases decide (0<=t.bR)<;>cases decide (t.bR<=30)<;>cases decide (1<=t.b9)<;>cases decide (t.b9<=4)<;>cases t.b8==1<;>cases t.b8==2<;>rfl
def sS(N:Nat)(t:aQ):n9 N t=some (bif dD t then 0 else 10):=by
 unfold n9 Ny dD Qq;cases b:t.bt==1 with
 |true=>
  simp only[Tj,re,Z3,Z0,Bool.true_or,Bool.and_true];cases (t.bW==0&&(t.bR==0&&(t.b9==0&&t.b8==0)))<;>rfl
 |false=>
  cases c:t.bt==3 with
  |true=>
   simp only[Tj,Tf,re,Z3,Z0,Bool.or_true,Bool.and_true];cases (t.bW==0&&(t.bR==0&&(t.b9==0&&t.b8==0)))<;>rfl
  |false=>
   cases a:t.bt==2 with
   |true=>
    rw[Sy N t a];simp only[Tj,Tf,re,Z0,Bool.or_false];cases (decide (2<=t.bW)&&(decide (t.bW<=31)&&(decide (0<=t.bR)&&(decide (t.bR<=30)&&(decide (1<=t.b9)&&(decide (t.b9<=4)&&(t.b8==1||t.b8==2)))))))<;>rfl
   |false=>rfl
def sR:O so->U bD->Bool
 |_,[]=>true
 |p,m::l=>iO m.ar&&(!(m.dh.toInt==0)&&((match p with|none=>true|some q=>Op.bytesLess (bL q) (bL m.ar))&&sR (some m.ar) l))
def DH(p:O so)(m:bD)(l:U bD):sR p (m::l)=(iO m.ar&&(!(m.dh.toInt==0)&&((match p with|none=>true|some q=>Op.bytesLess (bL q) (bL m.ar))&&sR (some m.ar) l))):=by cases p<;>rfl
def gh(x:aK):Bool:=sR none x.xL
def A8(x:aK)(k:Nat):O so:=bif k==0 then none else(x.xL[k-1]?).map (·.ar)
def asM{k:Nat}(a:0<k)(h:k<=maxLen):aY ((k:Int)-1)=((k-1:Nat):Int):=by
 unfold aY;have:(k:Int)-1=((k-1:Nat):Int):=by omega
 rw[this];unfold maxLen at h;rw[cR]<;>omega
def aoZ{x:aK}{k:Nat}{m:bD}{l:U bD}(a:x.xL.drop k=m::l):A8 x (k+1)=some m.ar:=by
 have:=bA a;unfold A8;simp [this]
def aq0{x:aK}{k:Nat}{m:bD}{l:U bD}(b:x.xL.drop k=m::l)(e:x.xL.length<=maxLen):
 (bif (decide ((k:Int)>0))then bif (decide ((0:Int)<=(aY ((k:Int)-(1:Int)))))then
 (x.xL[(aY ((k:Int)-(1:Int))).toNat]?).bind λc=>
 some (!(Op.bytesLess (bL c.ar) (bL m.ar)))
 else none else some false)=some (!(match A8 x k with|none=>true|some q=>Op.bytesLess (bL q) (bL m.ar))):=by
 have f:k<x.xL.length:=(Zj.1 (bA b)).1;by_cases a:k=0;{subst a;rfl}
 ·rw[eD (show(k:Int)>0 by omega),asM k7 k7,eD (show(0:Int)<=((k-1:Nat):Int) by omega)];simp only[Tj,ZR];have d:A8 x k=(x.xL[k-1]?).map (·.ar):=by
    unfold A8;rw[Wn a];rfl
  rw[d,Zd (show k-1<x.xL.length by omega)];rfl
def aev(N:Nat)(c:16<N)(x:aK)(d:x.xL.length<=maxLen):∀(l:U bD)(k:Nat),x.xL.drop k=l->Mp N x l k=some (bif sR (A8 x k) l then 0 else 1)
 |[],k,_=>rfl
 |m::l,k,a=>by
  rw[Mp,abo N m.ar c,re,DH,aq0 a d,aev N c x d l (k+1) (kG a),aoZ a];generalize (match A8 x k with|none=>true|some q=>Op.bytesLess (bL q) (bL m.ar))=b;cases iO m.ar<;>cases (m.dh.toInt==0)<;>cases b<;>cases sR (some m.ar) l<;>rfl
def Ba(N:Nat)(a:16<N)(x:aK)(b:x.xL.length<=maxLen):uU N x=some (bif gh x then 0 else 1):=aev N a x b x.xL 0 rfl
def dj(t:aQ)(v:aH):Bool:=bif t.bt==2 then v.xD.toInt==1&&(decide (-(2^(t.bW-1).toNat)<=v.xN.toInt)&&decide (v.xN.toInt<2^(t.bW-1).toNat))else decide (v.xN.toInt<=2147483647)&&(decide (-2147483647<=v.xN.toInt)&&(decide (1<=v.xD.toInt)&&(decide (v.xD.toInt<=2147483647)&& (bif t.bt==3 then v.xD.toInt==1 else Nat.gcd v.xN.toInt.natAbs v.xD.toInt.toNat==1))))
def asP:∀n:Fin 30,(decide ((0:Int)<=(u64.wrap (aY (((n.val+2:Nat):Int)-(1:Int))))))=true/\(decide ((0:Int)<=(aY (((n.val+2:Nat):Int)-(1:Int)))))=true/\
 (-(Int64.ofInt ((1:Int)*2^(min (u64.wrap (aY (((n.val+2:Nat):Int)-(1:Int)))).toNat (IntKind.bits .i64))))).toInt= -(2^(n.val+1))/\
 ((Int64.ofInt ((1:Int)*2^(min (u64.wrap (aY (((n.val+2:Nat):Int)-(1:Int)))).toNat (IntKind.bits .i64))))-(1:Int64)).toInt=2^(n.val+1)-1/\
 (-(Int64.ofInt ((1:Int)*2^(min (aY (((n.val+2:Nat):Int)-(1:Int))).toNat (IntKind.bits .i64))))).toInt= -(2^(n.val+1))/\
 (Int64.ofInt ((1:Int)*2^(min (aY (((n.val+2:Nat):Int)-(1:Int))).toNat (IntKind.bits .i64)))).toInt=2^(n.val+1):=by decide+kernel
def avL{b:Int}(h1:2<=b)(a:b<=31):(decide ((0:Int)<=(u64.wrap (aY (b-(1:Int))))))=true/\(decide ((0:Int)<=(aY (b-(1:Int)))))=true/\
 (-(Int64.ofInt ((1:Int)*2^(min (u64.wrap (aY (b-(1:Int)))).toNat (IntKind.bits .i64))))).toInt= -(2^(b-1).toNat)/\
 ((Int64.ofInt ((1:Int)*2^(min (u64.wrap (aY (b-(1:Int)))).toNat (IntKind.bits .i64))))-(1:Int64)).toInt=2^(b-1).toNat-1/\
 (-(Int64.ofInt ((1:Int)*2^(min (aY (b-(1:Int))).toNat (IntKind.bits .i64))))).toInt= -(2^(b-1).toNat)/\
 (Int64.ofInt ((1:Int)*2^(min (aY (b-(1:Int))).toNat (IntKind.bits .i64)))).toInt=2^(b-1).toNat:=by
 obtain⟨n,rfl⟩:∃n:Nat,b=n:=⟨b.toNat,by omega⟩;have:=asP ⟨n-2,by omega⟩;simp only[show n-2+2=n by omega,show n-2+1=n-1 by omega]at this;rw[show((n:Int)-1).toNat=n-1 by omega];exact this
def Ws(N:Nat):∀(k a b:Nat),b<k->IZ N k (a:Int) (b:Int)=some ((Nat.gcd a b:Nat):Int)
 |0,a,b,h=>absurd h (ZJ _)
 |k+1,a,b,h=>by
  rw[IZ];by_cases c:b=0;{subst c;simp};{rw[show(((b:Nat):Int) !=0)=true by rw[Ui];omega];simp only[Tj];rw[<-Int.ofNat_tmod,Ws N k b (a%b) (by have:=Nat.mod_lt a (Nat.pos_of_ne_zero c);omega),Nat.gcd_comm a b,Nat.gcd_rec b a,Nat.gcd_comm]}
def nG(z:Int):u64.wrap z=z%18446744073709551616:=rfl
def Vd(N:Nat)(v:Int64):Bw N v=some ((v.toInt.natAbs:Nat):Int):=by
 unfold Bw;have a:v.toInt<2^63:=Int64.toInt_lt v;have b: -2^63<=v.toInt:=Int64.le_toInt v;by_cases h:v.toInt<0
 ·rw[eD h];simp only[Tj,nG]
  congr 1
  omega
 ·rw[Zn h];simp only[Tf,nG]
  congr 1
  omega
def rI(N:Nat)(o:2147483648<N)(t:aQ)(v:aH)(a:dD t=true):nR N t v=some (dj t v):=by
 unfold nR;rw[sS,a,re];unfold dj;cases c:t.bt==2 with
 |true=>
  simp only[Tj];show Option.bind (vq N t v) _=_;unfold dD at a;have g:t.bt=2:=by simpa using c
  rw[g]at a;have b:(decide (2<=t.bW)&&(decide (t.bW<=31)&&(decide (0<=t.bR)&&(decide (t.bR<=30)&&(decide (1<=t.b9)&&(decide (t.b9<=4)&&(t.b8==1||t.b8==2)))))))=true:=a;unfold vq;rw[Sy N t c,b,re];simp only[Zo,UL]at b;obtain⟨d,e,_⟩:=b;obtain⟨h,r,i,j,u,w⟩:=avL d e;unfold F9 Fl Dh;rw[kx,re,re,qA,eD d,eD e];simp only[Bool.and_self,Tj];rw[h];simp only[Tj,re];rw[i,j,qA,kx,sO (p:=v.xN.toInt<=2^(t.bW-1).toNat-1) (q:=v.xN.toInt<2^(t.bW-1).toNat) k7];cases (v.xD.toInt==1)<;>rfl
 |false=>
  simp only[Tf];show(bif t.bt==3 then _ else _)=_;cases x:t.bt==3 with
  |true=>
   simp only[Tj];unfold rK;rw[qA,kx,re,re];by_cases f:v.xD.toInt=1;{rw[f];simp only[Z3,Tj,re,show decide ((1:Int)<=1)=true from rfl,show decide ((1:Int)<=2147483647)=true from rfl,Bool.and_true];rw[Bool.and_comm]};{rw[Wn f];simp only[Tf,re,Bool.and_false]}
  |false=>
   simp only[Tf];unfold ma Xo;rw[qA,qA,kx,re,re,Vd,re];cases k:decide (1<=v.xD.toInt)with
   |false=>cases decide (v.xN.toInt<=2147483647)<;>cases decide (-2147483647<=v.xN.toInt)<;>rfl
   |true=>
    cases l:decide (v.xD.toInt<=2147483647)with
    |false=>cases decide (v.xN.toInt<=2147483647)<;>cases decide (-2147483647<=v.xN.toInt)<;>rfl
    |true=>
     have y:=Tr k;have z:=Tr l;have n:u64.wrap v.xD.toInt=((v.xD.toInt.toNat:Nat):Int):=by rw[nG];omega
     simp only[Tj,Z0];rw[n];unfold EK;rw[Ws N N v.xN.toInt.natAbs v.xD.toInt.toNat k7,re,show((((Nat.gcd v.xN.toInt.natAbs v.xD.toInt.toNat:Nat):Int))==1)=(Nat.gcd v.xN.toInt.natAbs v.xD.toInt.toNat==1)from ry _ 1,kx,re];cases decide (v.xN.toInt<=2147483647)<;>cases decide (-2147483647<=v.xN.toInt)<;>rfl
set_option linter.unusedSimpArgs false
def lv(l:aK):Prop:=l.xL.length<=maxLen
structure aiF(x:aT):Prop where
 iN:lv x.aU
 at_:∀l∈x.bC,lv l
structure LA(e:au):Prop where
 iN:lv e.aU
 idx:∀x∈e.xIdx,aiF x
 args:e.bk.length<=maxLen
def vi(e:au):Prop:=∀x∈dx e,LA x
def uu(l:aK):Bool:=l.xK.toInt==0&&l.xL.length==0
def td(x:aT):Bool:=bif bL x.bp==[]then x.bC.length==0 else uu x.aU
def Vt(v:aH):Bool:=v.xN.toInt==0&&v.xD.toInt==0
def V9(t:aQ):Bool:=t.bt==0&&(t.bW==0&&(t.bR==0&&(t.b9==0&&t.b8==0)))
def qN(e:au):Bool:=decide (1<=e.aA)&&(decide (e.aA<=18)&&((e.aA==1||Vt e.cU)&&((e.aA==1||(e.aA==12||V9 e.aw))&&((e.aA==2||uu e.aU)&&((e.aA==3||(bL e.ar==[]&&e.xIdx.length==0))&&e.xIdx.all td)))))
def CN(e:au):Bool:=(!(e.aA==3)||iO e.ar)&&e.xIdx.all λx=>bL x.bp==[]||iO x.bp
def qR(op:Int):Int:=bif op==1||(op==2||op==3)then 0 else bif op==8||(op==12||op==18)then 1 else bif op==11 then 3 else 2
def sP(e:au):Bool:=(e.bk.length:Int)==qR e.aA&&(decide (e.xIdx.length<=6)&&e.xIdx.all λx=>decide (x.bC.length<=6))
def fc(e:au):Bool:=decide (13<=e.aA)&&decide (e.aA<=18)
def nE(op:Int)(i:Nat):Bool:=(op==11&&i==0)||(op==16||(op==17||op==18))
def DD(b:Int):Nat->U au->Bool
 |_,[]=>true
 |i,a::l=>fc a==nE b i&&DD b (i+1) l
def xZ(e:au):Bool:=(!(e.aA==1||e.aA==12)||dD e.aw)&&DD e.aA 0 e.bk
def Bg(e:au):Bool:=(!(e.aA==1)||dj e.aw e.cU)&&(nA e).all gh
def pN(e:au):Int:=bif qN e then bif CN e then bif sP e then bif xZ e then bif Bg e then 0 else 1 else 10 else 11 else 7 else 5
def Fy(n:Nat):((n:Int)==0)=(n==0):=ry n 0
def afF(n:Nat):decide ((n:Int)>0)= !(n==0):=by
 by_cases h:n=0;{subst h;rfl};{rw[eD (show(n:Int)>0 by omega),Wn h];rfl}
def aep(N:Nat)(l:aK):Hq N l=some (uu l):=by
 unfold Hq uu;rw[kx,re,Fy]
def apx(N:Nat)(x:aT):KE N x=some (td x):=by
 unfold KE td;rw[aep,re,Fy,FY];cases bL x.bp==[]<;>rfl
def Vz{α:Type}(f:α->Bool)(l:U α):(l.any λx=> !f x)= !l.all f:=by
 induction l with
 |nil=>rfl
 |cons x l a=>rw[Yr,Z4,a];cases f x<;>rfl
def avK(N:Nat):∀(l:U aT)(k:Nat),∃z:Int,Lj N l k=some z/\decide (z>=0)=l.any λx=> !td x
 |[],k=>⟨-1,rfl,rfl⟩
 |x::l,k=>by
  rw[Lj,Yr];unfold VI;rw[apx,re,re];cases h: !td x with
  |true=>exact⟨k,rfl,eD k7⟩
  |false=>exact avK N l (k+1)
def aoS(N:Nat)(l:U aT):NR N l=some (!l.all td):=by
 unfold NR Sb;obtain⟨z,a,b⟩:=avK N l 0;rw[a,re,b,Vz]
def asG(v:aH):((v.xN.toInt==(0:Int64).toInt)&&((v.xD.toInt==(0:Int64).toInt)&&true))=Vt v:=by rw[Bool.and_true];rfl
def aqC(t:aQ):((t.bt==0)&&((t.bW==0)&&((t.bR==0)&&((t.b9==0)&&((t.b8==0)&&true)))))=V9 t:=by rw[Bool.and_true];rfl
def MH(a b:Bool):(bif a then some false else some b)=some (!a&&b):=by cases a<;>rfl
def alU(a b:Bool):(bif a then some b else some true)=some (!a||b):=by cases a<;>rfl
def akw(N:Nat)(e:au):Mq N e=some (qN e):=by
 unfold Mq qN;simp only[afF];simp only[sD,kx,MH,alU,re,To,ltI,aep,aoS,asG,aqC,FY];cases decide (1<=e.aA)<;>cases decide (e.aA<=18)<;>cases e.aA==1<;>cases Vt e.cU<;>cases e.aA==12<;>cases V9 e.aw<;>cases e.aA==2<;>cases uu e.aU<;>cases e.aA==3<;>cases bL e.ar==[]<;>cases e.xIdx.length==0<;>cases e.xIdx.all td<;>rfl
def am3(N:Nat)(a:16<N)(x:aT):K7 N x=some (!(bL x.bp==[]||iO x.bp)):=by
 unfold K7;rw[M3 N _ a,re,MH,re,FY];cases bL x.bp==[]<;>rfl
def afC(N:Nat)(a:16<N):∀(l:U aT)(k:Nat),∃z:Int,Ps N l k=some z/\decide (z>=0)=l.any λx=> !(bL x.bp==[]||iO x.bp)
 |[],k=>⟨-1,rfl,rfl⟩
 |x::l,k=>by
  rw[Ps,Yr,am3 N a,re];cases h: !(bL x.bp==[]||iO x.bp)with
  |true=>exact⟨k,rfl,eD k7⟩
  |false=>exact afC N a l (k+1)
def alc(N:Nat)(a:16<N)(e:au):NQ N e=some (CN e):=by
 unfold NQ CN VK Us;obtain⟨z,b,c⟩:=afC N a e.xIdx 0;rw[M3 N _ a,re,b];simp only[re,c,Vz,kx,MH];cases e.aA==3<;>cases iO e.ar<;>cases (e.xIdx.all λx=>bL x.bp==[]||iO x.bp)<;>rfl
def aaq(N:Nat):∀(l:U aT)(k:Nat),∃z:Int,LC N l k=some z/\decide (z>=0)=l.any λx=> !decide (x.bC.length<=6)
 |[],k=>⟨-1,rfl,rfl⟩
 |x::l,k=>by
  rw[LC,Yr];unfold V6;rw[re,show decide ((x.bC.length:Int)>6)= !decide (x.bC.length<=6)from nS _ 6];cases h: !decide (x.bC.length<=6)with
  |true=>exact⟨k,rfl,eD k7⟩
  |false=>exact aaq N l (k+1)
def asJ(N:Nat)(a:Int):Lt N a=some (qR a):=by
 unfold Lt Jy FT qR;cases a==1<;>cases a==2<;>cases a==3<;>cases a==8<;>cases a==12<;>cases a==18<;>cases a==11<;>rfl
def ajm(N:Nat)(e:au):JZ N e=some (sP e):=by
 unfold JZ sP V7 UH;obtain⟨z,a,b⟩:=aaq N e.xIdx 0;rw[asJ,re,a,show decide ((e.xIdx.length:Int)>6)= !decide (e.xIdx.length<=6)from nS _ 6];simp only[re,b,Vz,sD,MH,TS];cases (e.bk.length:Int)==qR e.aA<;>cases decide (e.xIdx.length<=6)<;>cases (e.xIdx.all λx=>decide (x.bC.length<=6))<;>rfl
def ac3(N:Nat)(e:au):Ig N e=some (fc e):=by
 unfold Ig fc;rw[kx,re]
def acf(N:Nat)(e:au):O Bool:=some (fc e)
def Px(N:Nat)(e:au):acf N e=some (fc e):=rfl
def ajJ(N:Nat)(a:Int)(i:Nat):O5 N a (i:Int)=some (nE a i):=by
 unfold O5 Jx nE;rw[Fy];cases a==16<;>cases a==17<;>cases a==18<;>cases a==11<;>cases i==0<;>rfl
def afa(N:Nat)(e:au):∀(l:U au)(i:Nat),NZ N e l i=some (DD e.aA i l)
 |[],_=>rfl
 |a::l,i=>by
  rw[NZ,DD,ac3,re,ajJ,re,afa N e l (i+1)];cases fc a==nE e.aA i<;>rfl
def asf(b:Bool):((bif b then(0:Int)else 10) !=0)= !b:=by cases b<;>rfl
def aoB(N:Nat)(e:au):NH N e=some (xZ e):=by
 unfold NH xZ;rw[sS,re,afa];simp only[asf];cases e.aA==1<;>cases e.aA==12<;>cases dD e.aw<;>rfl
def ak6(b:Bool):((bif b then(0:Int)else 1) !=0)= !b:=by cases b<;>rfl
def abJ(N:Nat)(a:16<N):∀l:U aK,(∀x∈l,lv x)->xe N l=some (bif l.all gh then 0 else 1)
 |[],_=>rfl
 |x::l,h=>by
  rw[xe,Ba N a x (h x Zt),re,ak6,abJ N a l (λy b=>h y (Zk _ b)),Z4];cases gh x<;>rfl
def apD{e:au}(h:LA e):∀x∈nA e,lv x:=by
 intro x a;unfold nA at a;rcases Za.1 a with rfl|a
 ·exact h.iN
 ·obtain⟨y,b,a⟩:=List.mem_flatMap.1 a;unfold uy at a;rcases Za.1 a with rfl|a
  ·exact(h.idx y b).iN
  ·exact(h.idx y b).at_ x a
def aoQ(N:Nat)(b:2147483648<N)(e:au)(h:LA e):JG N e=some (pN e):=by
 unfold JG pN;rw[akw,re];cases qN e with
 |false=>rfl
 |true=>
  simp only[Tj];rw[alc N k7,re];cases CN e with
  |false=>rfl
  |true=>
   simp only[Tj];rw[ajm,re];cases sP e with
   |false=>rfl
   |true=>
    simp only[Tj];rw[aoB,re];cases a:xZ e with
    |false=>rfl
    |true=>
     simp only[Tj];have c:xe N (nA e)=_:=abJ N k7 (nA e) (apD h);unfold Bg TB;rw[re,c];cases d:e.aA==1 with
     |true=>
      have f:dD e.aw=true:=by
       unfold xZ at a;rw[d]at a;simp only[Bool.true_or,VX,c6,Zo]at a;exact a.1
      rw[rI N b _ _ f,re];cases dj e.aw e.cU<;>cases (nA e).all gh<;>rfl
     |false=>cases (nA e).all gh<;>rfl
def lA{e x:au}(h:x∈e.bk):SizeOf.sizeOf x<SizeOf.sizeOf e:=by
 have a:=List.sizeOf_lt_of_mem h;cases e
 simp only[au.mk.sizeOf_spec]at*;omega
def rC{e x y:au}(h:x∈e.bk)(b:y∈dx x):y∈dx e:=by
 have a:∀l:U au,x∈l->y∈su l:=by
  intro l
  induction l with
  |nil=>intro h;cases h
  |cons z l c=>
   intro h;rw[Vu];rcases Za.1 h with rfl|h
   ·exact aq _ b
   ·exact aa _ (c h)
 exact Zk _ (a _ h)
def CU:U au->Int
 |[]=>0
 |x::l=>bif pN x !=0 then pN x else CU l
def agJ(N:Nat)(a:2147483648<N):∀l:U au,(∀x∈l,LA x)->yZ N l=some (CU l)
 |[],_=>rfl
 |x::l,h=>by
  rw[yZ,aoQ N a x (h x Zt),re,agJ N a l (λy b=>h y (Zk _ b)),CU];cases pN x !=0<;>rfl
def ov:Nat->au->Nat
 |0,_=>1
 |L+1,e=>e.bk.foldl (λm a=>max m (1+ov L a)) 1
def afZ{α:Type}(f:α->Nat)(b:Nat):∀(l:U α)(m:Nat),m<=b->(∀x∈l,f x<=b)->l.foldl (λm a=>max m (f a)) m<=b
 |[],_,h,_=>h
 |x::l,_,h,c=>afZ f b l _ (Nat.max_le.2 ⟨h,c x Zt⟩) λy d=>c y (Zk _ d)
def avJ:∀(L:Nat)(e:au),ov L e<=L+1
 |0,_=>Zx _
 |L+1,e=>afZ (λa=>1+ov L a) (L+2) e.bk 1 k7 λx _=>by have:=avJ L x;show 1+ov L x<=L+2;omega
def nD{z:Int}(h1: -9223372036854775808<=z)(a:z<9223372036854775808):aY z=z:=by
 unfold aY;rw[cR];omega
def S5(a b:Nat):(if((a:Nat):Int)>((b:Nat):Int)then((a:Nat):Int)else(b:Int))=((max b a:Nat):Int):=by
 split<;>omega
def agE(N:Nat)(rec:au->Int->O Int)(L:Nat)(b:L<=100):∀(l:U au)(k m:Nat),(∀x∈l,rec x ((L:Int)+1)=some ((ov L x:Nat):Int))->NO N rec ((L:Int)+1+1) l k (m:Int)=some ((l.foldl (λm a=>max m (1+ov L a)) m:Nat):Int)
 |[],_,_,_=>rfl
 |x::l,k,m,h=>by
  have d:=avJ L x;rw[NO,nD k7 k7,show(L:Int)+1+1-1=(L:Int)+1 by omega,h x Zt,re,nD k7 k7,show(1:Int)+((ov L x:Nat):Int)=((1+ov L x:Nat):Int) by omega,S5];exact agE N rec L b l (k+1) _ λy c=>h y (Zk _ c)
def ah7(N:Nat):∀(L d:Nat)(e:au),L<d->L<=100->tL N d e ((L:Int)+1)=some ((ov L e:Nat):Int)
 |L,0,_,h,_=>absurd h (ZJ _)
 |0,d+1,e,_,_=>by rw[tL];rfl
 |L+1,d+1,e,h,a=>by
  rw[tL,Zn k7];simp only[Tf];exact agE N (tL N d) L k7 e.bk 0 1 λx _=>ah7 N L d x k7 k7
def aid(N:Nat):∀(l:U au)(v:Nat),v<=2000->xT N l (v:Int)=some ((min (v+l.length) 2001:Nat):Int)
 |[],v,h=>by rw[xT];congr 2;simp only[Zg];omega
 |x::l,v,h=>by
  rw[xT,nD k7 k7];by_cases a:v+1>2000
  ·rw[eD k7];simp only[Tj]
   congr 1
   simp only[Zp];omega
  ·rw[Zn k7];simp only[Tf];rw[show(v:Int)+1=((v+1:Nat):Int) by omega,aid N l (v+1) k7]
   congr 3
   simp only[Zp];omega
def aps(N:Nat)(e:au):G4 N e=some ((min (dx e).length 2001:Nat):Int):=by
 unfold G4 yr;have:=aid N (dx e) 0 k7;rw[ZQ]at this;exact this
def lW(e:au):Int:=bif decide (40<ov 40 e)then 13 else bif decide (2000<(dx e).length)then 2 else CU (dx e)
def auD(N:Nat)(a:2147483648<N)(e:au)(h:vi e):GG N e=some (lW e):=by
 unfold GG U9 VW lW;have b:tL N N e 41=_:=ah7 N 40 N e k7 k7;rw[b,re,re,aps,re,sO (p:=((ov 40 e:Nat):Int)>40) (q:=40<ov 40 e) k7,sO (p:=((min (dx e).length 2001:Nat):Int)>2000) (q:=2000<(dx e).length) k7];cases decide (40<ov 40 e)<;>cases decide (2000<(dx e).length)<;>try rfl
 simp only[Tf];exact agJ N a (dx e) h
def QT(N:Nat)(e:au):O Int:=some (lW e)
def Sk(N:Nat)(a:2147483648<N)(e:au)(b:SizeOf.sizeOf e<N)(h:vi e):QT N e=some (lW e):=rfl
def fS(n:Int):Bool:=decide (-9223372036854775808<=n)&&decide (n<=9223372036854775807)
def mU{n:Int}:fS n=true↔-9223372036854775808<=n/\n<=9223372036854775807:=by
 unfold fS;rw[Zo,decide_eq_true_iff,decide_eq_true_iff]
def ab2(n:Int64):fS n.toInt=true:=by
 rw[mU];have a:=n.le_toInt;have b:=n.toInt_lt;omega
def lt(a b:so):Bool:=Op.bytesLess (bL a) (bL b)
def sW{a b:so}(h:(bL a)=(bL b)):a=b:=by
 unfold bL at h;have:a.data=b.data:=Array.toList_inj.mp h;cases a;cases b;simp_all
def Ot:∀(x y:U UInt8),Op.bytesLess x y=decide (x<y)
 |[],[]=>by simp [Op.bytesLess]
 |_::_,[]=>by simp [Op.bytesLess]
 |[],_::_=>by simp [Op.bytesLess]
 |a::x,b::y=>by
  rw[Op.bytesLess,Ot x y];simp only[List.cons_lt_cons_iff];by_cases h:a<b<;>by_cases c:a=b<;>simp_all
def XE{a b:so}:lt a b=true↔(bL a)<(bL b):=by unfold lt;rw[Ot];simp
def XA{a b c:so}(h1:lt a b=true)(d:lt b c=true):lt a c=true:=by
 rw[XE]at*;exact List.lt_trans h1 d
def Uf{a b:so}(h1:lt a b=false)(c:lt b a=false):a=b:=by
 rw[<-Uj,XE]at*;exact sW (List.le_antisymm (List.not_lt.mp c) (List.not_lt.mp h1))
inductive Er|arg|range
def Er.code:Er->Int
 | .arg=>1
 | .range=>3
def Er.ne(e:Er):(e.code !=0)=true:=by cases e<;>rfl
abbrev X(α:Type):=Except Er α
def oT{α:Type}(d:α):X α->α×Int
 | .ok v=>(v,0)
 | .error e=>(d,e.code)
def ga:U bD->U bD->U (so×Int×Int)
 |[],[]=>[]
 |a::l,[]=>(a.ar,a.dh.toInt,0)::ga l []
 |[],b::r=>(b.ar,0,b.dh.toInt)::ga [] r
 |a::l,b::r=>if lt a.ar b.ar then(a.ar,a.dh.toInt,0)::ga l (b::r)else if lt b.ar a.ar then(b.ar,0,b.dh.toInt)::ga (a::l) r else(a.ar,a.dh.toInt,b.dh.toInt)::ga l r
termination_by l r=>l.length+r.length
def Xz(k:Int)(l:U (so×Int×Int)):X aK:=if fS k&&l.all (λt=>fS (t.2.1+t.2.2))then .ok ⟨Int64.ofInt k,l.filterMap λt=>if t.2.1+t.2.2=0 then none else some ⟨t.1,Int64.ofInt (t.2.1+t.2.2)⟩⟩else .error .range
def mM(a b:aK):X aK:=if gh a&&gh b then Xz (a.xK.toInt+b.xK.toInt) (ga a.xL b.xL)else .error .arg
def pW(a:aK)(dc:Int64):X aK:=if gh a then(if dc.toInt=0 then .ok ⟨0,[]⟩else if fS (a.xK.toInt*dc.toInt)&&a.xL.all (λm=>fS (m.dh.toInt*dc.toInt))then .ok ⟨Int64.ofInt (a.xK.toInt*dc.toInt),a.xL.map λm=>⟨m.ar,Int64.ofInt (m.dh.toInt*dc.toInt)⟩⟩else .error .range)else .error .arg
def yE(l:U so):Prop:=l.Pairwise λa b=>lt a b=true
def sF:∀(a b:U bD)(x:so),x∈(ga a b).map (·.1)↔x∈a.map (·.ar)\/x∈b.map (·.ar)
 |[],[],x=>by simp [ga]
 |a::l,[],x=>by
  have:=sF l [] x;rw[ga];simp only[ZY,Za,this];simp
 |[],b::r,x=>by
  have:=sF [] r x;rw[ga];simp only[ZY,Za,this];simp
 |a::l,b::r,x=>by
  rw[ga];split;{have:=sF l (b::r) x;simp only[ZY,Za,this];exact⟨by rintro(h|h|h|h)<;>simp [h],by rintro((h|h)|h|h)<;>simp [h]⟩}
  ·split
   ·have:=sF (a::l) r x;simp only[ZY,Za,this];exact⟨by rintro(h|(h|h)|h)<;>simp [h],by rintro((h|h)|h|h)<;>simp [h]⟩
   next c d=>
    have e:=Uf (by simpa using c) (by simpa using d);have:=sF l r x;simp only[ZY,Za,this,e];exact⟨by rintro(h|h|h)<;>simp [h],by rintro((h|h)|h|h)<;>simp [h]⟩
termination_by a b=>a.length+b.length
def qe(l:U bD):Prop:=yE (l.map (·.ar))
def qe.tail{m:bD}{l:U bD}(h:qe (m::l)):qe l:=(List.pairwise_cons.mp h).2
def qe.head{m:bD}{l:U bD}(h:qe (m::l)):∀x∈l.map (·.ar),lt m.ar x=true:=(List.pairwise_cons.mp h).1
def Cw:∀(a b:U bD),qe a->qe b->yE ((ga a b).map (·.1))
 |[],[],_,_=>by simp [ga,yE]
 |a::l,[],c,d=>by
  rw[ga];refine List.pairwise_cons.mpr ⟨λx f=> ?_,Cw l [] c.tail d⟩;rcases (sF l [] x).mp f with h|h
  ·exact c.head x h
  ·simp at h
 |[],b::r,c,d=>by
  rw[ga];refine List.pairwise_cons.mpr ⟨λx f=> ?_,Cw [] r c d.tail⟩;rcases (sF [] r x).mp f with h|h
  ·simp at h
  ·exact d.head x h
 |a::l,b::r,c,d=>by
  rw[ga];split
  next g=>
   refine List.pairwise_cons.mpr ⟨λx f=> ?_,Cw l (b::r) c.tail d⟩;rcases (sF l (b::r) x).mp f with h|h
   ·exact c.head x h
   ·simp only[ZY,Za]at h;rcases h with h|h
    ·subst h;exact g
    ·exact XA g (d.head x h)
  next g=>
   split
   next i=>
    refine List.pairwise_cons.mpr ⟨λx f=> ?_,Cw (a::l) r c d.tail⟩;rcases (sF (a::l) r x).mp f with h|h
    ·simp only[ZY,Za]at h;rcases h with h|h
     ·subst h;exact i
     ·exact XA i (c.head x h)
    ·exact d.head x h
   next i=>
    have e:=Uf (by simpa using g) (by simpa using i);refine List.pairwise_cons.mpr ⟨λx f=> ?_,Cw l r c.tail d.tail⟩;rcases (sF l r x).mp f with h|h
    ·exact c.head x h
    ·show lt a.ar x=true;rw[e];exact d.head x h
termination_by a b=>a.length+b.length
def ag3:∀(l:U bD)(p:O so),sR p l=true->qe l/\∀q,p=some q->∀x∈l.map (·.ar),lt q x=true
 |[],p,_=>⟨by simp [qe,yE],λ_ _ x a=>by simp at a⟩
 |m::l,p,h=>by
  rw[DH]at h;simp only[Zo]at h;obtain⟨_,_,b,d⟩:=h;obtain⟨f,c⟩:=ag3 l (some m.ar) d;refine⟨List.pairwise_cons.mpr ⟨c _ rfl,f⟩,λq g x a=> ?_⟩;subst g;simp only[ZY,Za]at a;rcases a with e|e
  ·subst e;exact b
  ·exact XA b (c _ rfl x e)
def aky{x:aK}(h:gh x=true):qe x.xL:=(ag3 _ _ h).1
def cy(l:U so)(s:so):Bool:=l.any λw=>bL w==bL s
def acY(N:Nat)(l:U so)(s:so):O Bool:=some (cy l s)
def OL(N:Nat)(l:U so)(s:so):acY N l s=some (cy l s):=rfl
def lL(a b:U so)(s:so):cy (a++b) s=(cy a s||cy b s):=List.any_append
def UI{s x:so}(h:(bL s==bL x)=true)(l:U so):cy l x=cy l s:=by
 unfold cy;rw[TC.1 h]
def BC(s x:so):cy [s] x=(bL s==bL x):=by unfold cy;rw[Yr,List.any_nil,Bool.or_false]
def acG(N:Nat)(l:U so)(s:so):g_slices_Contains_string_string N l s=some (cy l s):=by
 unfold g_slices_Contains_string_string On;obtain⟨z,a,b⟩:=Wp N s l 0;rw[a,re,b];rfl
def ja(t:U so)(s:so):Int:=bif iO s then bif cy t s then 8 else 0 else 7
def Vh(N:Nat)(s:so)(t:U so):O Int:=some (ja t s)
def Gt(N:Nat)(a:16<N)(s:so)(t:U so):Vh N s t=some (ja t s):=rfl
def CG{t:U so}{s:so}(h:ja t s=0):iO s=true/\cy t s=false:=by
 unfold ja at h;cases a:iO s<;>cases b:cy t s<;>rw[a,b]at h<;>first|exact⟨rfl,rfl⟩|(exact absurd h gy)
structure KN(m:List (ByteArray×Int))(S T:List ByteArray):Prop where
 val:∀s,ic m s 0=bif cy S s then 1 else bif cy T s then 2 else 0
 len:m.length<=S.length+T.length
 XY:∀s,cy T s=true->cy S s=false
section
variable {m:U (so×Int)} {S T:U so}
def KN.ne0(h:KN m S T)(s:so):(ic m s 0 !=0)=cy (S++T) s:=by
 rw[h.val,lL];cases cy S s<;>cases cy T s<;>rfl
def KN.ne1(h:KN m S T)(s:so):(ic m s 0 !=1)= !cy S s:=by
 rw[h.val];cases cy S s<;>cases cy T s<;>rfl
def KN.H9(h:KN m S T)(s:so):(ic m s 0==1)=cy S s:=by
 rw[h.val];cases cy S s<;>cases cy T s<;>rfl
def KN.ne2(h:KN m S T)(s:so):(ic m s 0 !=2)= !cy T s:=by
 have:=h.XY s;rw[h.val];cases a:cy S s<;>cases b:cy T s<;>first|rfl|(rw[a]at this;exact absurd (this b) gy)
def Nq{a:Type}(k:so)(v:a)(m:U (so×a))(s:so)(d:a):ic ((k,v)::m) s d=bif bL k==bL s then v else ic m s d:=rfl
def KN.ab7(h:KN m S T){s:so}(a:cy (S++T) s=false):KN ((s,2)::m) S (T++[s]):=by
 rw[lL,Yy]at a;refine⟨λx=> ?_,by have:=h.len;simp only[Zp,Zi,Zg];omega,λx b=> ?_⟩
 rotate_left
 ·rw[lL,BC]at b;cases e:bL s==bL x with
  |true=>rw[UI e];exact a.1
  |false=>rw[e,Bool.or_false]at b;exact h.XY x b
 rw[Nq,h.val,lL,BC];cases e:bL s==bL x with
 |true=>rw[UI e,a.1];cases cy T x<;>rfl
 |false=>cases cy S x<;>cases cy T x<;>rfl
def KN.sx(h:KN m S [])(s:so):KN ((s,1)::m) (S++[s]) []:=by
 refine⟨λx=> ?_,by have:=h.len;simp only[Zp,Zi,Zg]at*;omega,λx a=>by cases a⟩;rw[Nq,h.val,lL,BC];cases e:bL s==bL x<;>cases cy S x<;>rfl
def KN.nil:KN [] [] []:=⟨λ_=>rfl,Zx _,λ_ h=>by cases h⟩
def Wh(N:Nat)(a:16<N)(s:so)(k:Int)(p:aI)(h:KN m S T)(b:S.length+T.length<9223372036854775807):
 Dr N s k p m=some (ja (S++T) s,bif ja (S++T) s==0 then(s,k)::m else m):=by
 unfold Dr ja;rw[M3 N s a,re,h.ne0,show Nat.blt m.length 9223372036854775807=true from X7 (by have:=h.len;omega)];cases iO s<;>cases cy (S++T) s<;>rfl
def IX(a:U so)(l:aK):Bool:=l.xL.all λm=>cy a m.ar
def jA(S:U so)(l:aK):Int:=bif gh l then bif IX S l then 0 else 9 else 1
def aat(N:Nat)(h:KN m S T):∀(l:U bD)(k:Nat),Oc N m l k=some (bif l.all (λm=>cy S m.ar)then 0 else 9)
 |[],_=>rfl
 |x::l,k=>by
  rw[Oc,h.ne1,Z4,aat N h l];cases cy S x.ar<;>rfl
def Ta(N:Nat)(a:16<N)(l:aK)(p:aI)(b:lv l)(h:KN m S T):Cr N l p m=some (jA S l):=by
 unfold Cr jA;rw[Ba N a l b,re,aat N h];cases gh l<;>rfl
def aaE(N:Nat)(l:aK)(S:U so):O Int:=some (jA S l)
def apF(N:Nat)(a:16<N)(l:aK)(b:lv l)(S:U so):aaE N l S=some (jA S l):=rfl
def xS(n:Nat):decide ((n:Int)>6)= !decide (n<=6):=nS n 6
def amt(N:Nat)(t:aQ)(n:Nat):AB N t [(n:Int)]=some (bif dD t then bif decide (n<=6)then 0 else 11 else 10):=by
 unfold AB;rw[sS,re,show GI N [(n:Int)]=some (n:Int)from rfl,re,xS];cases dD t<;>cases decide (n<=6)<;>rfl
def ao1(N:Nat)(t:aQ)(n k:Nat):AB N t [(n:Int),(k:Int)]=some (bif dD t then bif decide (n<=6)&&decide (k<=6)then 0 else 11 else 10):=by
 unfold AB;rw[sS,re,show GI N [(n:Int),(k:Int)]=some (if(k:Int)>(n:Int)then(k:Int)else(n:Int))from rfl,re,S5,xS];have:decide (max n k<=6)=(decide (n<=6)&&decide (k<=6)):=by
  rw[Bool.eq_iff_iff,Zo,decide_eq_true_iff,decide_eq_true_iff,decide_eq_true_iff];omega
 rw[this];cases dD t<;>cases (decide (n<=6)&&decide (k<=6))<;>rfl
def ir{α:Type}(f:α->Int):U α->Int
 |[]=>0
 |x::l=>bif f x !=0 then f x else ir f l
def A4(S T:U so)(x:cl):Int:=bif ja (S++T) x.ar !=0 then ja (S++T) x.ar else bif dD x.aw then bif decide (x.aJ.length<=6)then ir (jA S) x.aJ else 11 else 10
def aas(N:Nat)(a:16<N)(p:aI)(q:Int×U (so×Int))(h:KN q.2 S T):∀(l:U aK)(k:Nat),(∀x∈l,lv x)->Nl N q p l k=some (ir (jA S) l,q.2)
 |[],_,_=>rfl
 |x::l,k,b=>by
  rw[Nl,Ta N a x p (b x Zt) h,re,ir];cases jA S x !=0 with
  |true=>rfl
  |false=>exact aas N a p q h l (k+1) λy c=>b y (Zk _ c)
def gw{a:Int}(h:(a !=0)=false):a=0:=by
 rw[bne_eq_false_iff_eq]at h;exact h
def al4(N:Nat)(b:16<N)(x:cl)(p:aI)(f:∀y∈x.aJ,lv y)(h:KN m S T)(g:S.length+T.length<9223372036854775807):
 ∃c,Nv N x p m=some (A4 S T x,c)/\(A4 S T x=0->KN c S (T++[x.ar])):=by
 unfold Nv A4;rw[Wh N b x.ar 2 p h g,re,amt];simp only[];cases e:ja (S++T) x.ar !=0 with
 |true=>exact⟨_,rfl,λa=>by rw[Tj]at a;rw[a]at e;cases e⟩
 |false=>
  have d:=gw e;have k:=h.ab7 (CG d).2;rw[d];simp only[Z3,Tj,Tf];cases dD x.aw with
  |false=>exact⟨_,rfl,λa=>by cases a⟩
  |true=>
   cases decide (x.aJ.length<=6)with
   |false=>exact⟨_,rfl,λa=>by cases a⟩
   |true=>exact⟨_,aas N b p (0,(x.ar,2)::m) k x.aJ 0 f,λ_=>k⟩
def acw(N:Nat)(x:cl)(S a:U so):O Int:=some (bif ja a x.ar !=0 then ja a x.ar else bif dD x.aw then bif decide (x.aJ.length<=6)then ir (jA S) x.aJ else 11 else 10)
def Q3(N:Nat)(a:16<N)(x:cl)(S T:U so)(b:∀y∈x.aJ,lv y):acw N x S (S++T)=some (A4 S T x):=rfl
def p9(S:U so):U so->U cq->Int
 |_,[]=>0
 |O,a::l=>bif ja (S++O) a.ar !=0 then ja (S++O) a.ar else bif jA S a.dq !=0 then jA S a.dq else p9 S (O++[a.ar]) l
structure ON(w:List (ByteArray×Bool))(O:List ByteArray):Prop where
 val:∀s,ic w s false=cy O s
 len:w.length<=O.length
def ON.add{w:U (so×Bool)}{a:U so}(h:ON w a)(s:so):ON ((s,true)::w) (a++[s]):=by
 refine⟨λx=> ?_,by have:=h.len;simp only[Zp,Zi,Zg];omega⟩;rw[Nq,h.val,lL,BC];cases bL s==bL x<;>cases cy a x<;>rfl
def ag9(N:Nat)(b:16<N)(p:aI)(h:KN m S T):∀(l:U cq)(k:Nat)(w:U (so×Bool))(O:U so),ON w O->(∀x∈l,lv x.dq)->O.length+l.length<9223372036854775807->
 Lo N m p l k w=some (p9 S O l)
 |[],_,_,_,_,_,_=>rfl
 |a::l,k,w,O,c,d,e=>by
  have i:O.length+l.length+1<9223372036854775807:=by simp only[Zp]at e;omega
  rw[Lo,M3 N _ b,re,c.val,h.H9,Ta N b _ p (d a Zt) h,re,p9,
    show Nat.blt w.length 9223372036854775807=true from X7 (by have:=c.len;omega)]
  have f:=ag9 N b p h l (k+1) _ _ (c.add a.ar) (λy g=>d y (Zk _ g)) (by simp only[Zi,Zp,Zg];omega);unfold ja;dsimp only;rw[lL,f];cases iO a.ar<;>cases cy S a.ar<;>cases cy O a.ar<;>first|rfl|(cases jA S a.dq !=0<;>rfl)
def aft(N:Nat)(l:U cq)(S:U so):O Int:=some (p9 S [] l)
def Vk(N:Nat)(a:16<N)(S:U so)(l:U cq)(b:∀x∈l,lv x.dq)(c:S.length+l.length<1000000000):aft N l S=some (p9 S [] l):=rfl
def MO{n:Nat}(h:n<=9223372036854775807):aY (n:Int)=(n:Int):=nD k7 k7
def avI(N:Nat)(a b:U cq)(h:a.length+b.length<1000000000):Dq N [a,b]=some (a++b):=by
 unfold Dq;rw[wm,show aY ((0:Int)+(a.length:Int))=((a.length:Nat):Int) by rw[Int.zero_add,MO k7],show decide ((a.length:Int)<0)=false from Zn k7];simp only[Tf];rw[wm,show aY ((a.length:Int)+(b.length:Int))=((a.length+b.length:Nat):Int) by rw[<-Int.natCast_add,MO k7],show decide (((a.length+b.length:Nat):Int)<0)=false from Zn k7];simp only[Tf];rw[wm];unfold Qn;rw[show decide ((0:Int)<=((a.length+b.length:Nat):Int))=true from eD k7,ZR,show Nat.ble ((a.length+b.length)*48) 140737488355328=true from X7 k7];simp only[Bool.and_self,Tj,re];rw[Ak,show Nat.ble ((([]:U cq).length+a.length)*48) 140737488355328=true from X7 (by simp only[Zg];omega)];simp only[Tj,W5];rw[Ak,show Nat.ble ((a.length+b.length)*48) 140737488355328=true from X7 k7];rfl
def apK(N:Nat)(a:16<N)(d:aF)(p:aI)(h:KN m S T)(b:∀x∈d.aJ++d.bI,lv x.dq)(c:d.aJ.length+d.bI.length<1000000000):
 PR N d p m=some (p9 S [] (d.aJ++d.bI)):=by
 unfold PR;rw[avI N _ _ c,re];exact ag9 N a p h _ 0 [] [] ⟨λ_=>rfl,Zx _⟩ b (by simp only[Zi,Zg];omega)
end
def wN(d:aF):Int:=bif d.cE==0 then bif d.bI.length==0 then 0 else 11 else bif decide (1<=d.cE)&&decide (d.cE<=4)then bif d.bI.length==0 then 11 else 0 else bif d.cE==5 then bif d.bI.length==0&& !(d.aJ.length==0)then 0 else 11 else 1
def akM(f:Int):f=0\/f=1\/f=2\/f=3\/f=4\/f=5\/(f<0\/5<f):=by omega
def aoA(N:Nat)(d:aF):Ku N d=some (wN d):=by
 unfold Ku wN Dk;rw[afF,Fy,Fy];rcases akM d.cE with h|h|h|h|h|h|h
 ·rw[h];cases d.bI.length==0<;>rfl
 ·rw[h];cases d.bI.length==0<;>rfl
 ·rw[h];cases d.bI.length==0<;>rfl
 ·rw[h];cases d.bI.length==0<;>rfl
 ·rw[h];cases d.bI.length==0<;>rfl
 ·rw[h];cases d.bI.length==0<;>cases d.aJ.length==0<;>rfl
 ·have e:∀k:Int,0<=k->k<=5->(d.cE==k)=false:=λk b c=>Tn.2 k7;have a:(decide (1<=d.cE)&&decide (d.cE<=4))=false:=by
   rw[Bool.and_eq_false_iff,UF,UF];omega
  rw[e 0 gy gy,e 1 gy gy,e 2 gy gy,e 3 gy gy,e 4 gy gy,e 5 gy gy,a];rfl
def avH(N:Nat)(d:aF):O Int:=some (wN d)
def QN(N:Nat)(d:aF):avH N d=some (wN d):=rfl
def iT(B:Nat)(l:aK):Prop:=l.xL.length<=B
def iT.ok{l:aK}(h:iT 1000000000 l):lv l:=Ze h gy
def fi{n k:Nat}(h:n<=k):Nat.ble n k=true:=X7 h
def adH(N:Nat):∀(l:U cq)(k:Nat)(b:U so),b.length+l.length<=1000000000->JF N l k b=some (b++l.map (·.ar))
 |[],_,b,_=>by rw[JF,ai,ZW]
 |a::l,k,b,h=>by
  simp only[Zp]at h;rw[JF,fi k7,Tj];dsimp only;rw[adH N l (k+1) _ (by simp only[Zi,Zp,Zg];omega),ZY,ZU];rfl
def amU(N:Nat)(d:aF)(h:d.aJ.length+d.bI.length<1000000000):Ou N d=some ((d.aJ++d.bI).map (·.ar)):=by
 unfold Ou;rw[avI N _ _ h,re,adH N _ _ _ (by simp only[Zi,Zg];omega),W5]
def ahq(N:Nat)(d:aF):O (U so):=some ((d.aJ++d.bI).map (·.ar))
def Xw(N:Nat)(d:aF)(h:d.aJ.length+d.bI.length<1000000000):ahq N d=some ((d.aJ++d.bI).map (·.ar)):=rfl
def O1(N:Nat)(l:aK)(h:iT 1000000000 l):yK N l=some l:=by
 unfold yK EO;rw[fi (by have:=h;unfold iT at this;omega)];rfl
def aha(N:Nat):∀(l:U aK)(k:Nat)(b:U aK),b.length+l.length<=1000000000->(∀x∈l,iT 1000000000 x)->HI N l k b=some (b++l)
 |[],_,b,_,_=>by rw[HI,ZW]
 |a::l,k,b,h,c=>by
  simp only[Zp]at h;rw[HI,O1 N a (c a Zt),re,fi k7,Tj];dsimp only;rw[aha N l (k+1) _ (by simp only[Zi,Zp,Zg];omega) λy d=>c y (Zk _ d),ZU];rfl
def adX(N:Nat)(l:U aK)(h:l.length<=1000000000)(a:∀x∈l,iT 1000000000 x):E9 N l=some l:=by
 unfold E9;rw[aha N l 0 [] (by simp only[Zg];omega) a,W5]
def eW(s:so)(d:aF):Bool:=bL d.ar==bL s
def od(D:U aF)(s:so)(k:Nat):Int:=match D.findIdx? (eW s)with|some i=>((k+i:Nat):Int)|none=> -1
def avG(d:aF)(D:U aF)(s:so)(k:Nat):od (d::D) s k=bif eW s d then(k:Int)else od D s (k+1):=by
 unfold od;rw[List.findIdx?_cons];cases eW s d with
 |true=>rfl
 |false=>
  cases D.findIdx? (eW s)with
  |none=>rfl
  |some i=>simp only[Tf,Bool.false_eq_true,if_false,ZG];rw[Nat.add_assoc,Nat.add_comm 1 i]
def adz(N:Nat)(s:so):∀(l:U aF)(k:Nat),K9 N s l k=some (od l s k)
 |[],_=>rfl
 |d::l,k=>by
  rw[K9,avG,show EE N d s=some (eW s d)from rfl,re,adz N s l];cases eW s d<;>rfl
def RG(N:Nat)(p:aI)(s:so):DO N p s=some (od p.ax s 0):=by
 unfold DO W0;rw[adz];rfl
def zB{α:Type}(f:α->Bool):∀l:U α,(l.findIdx? f=none/\l.find? f=none)\/∃i d,l.findIdx? f=some i/\l[i]?=some d/\l.find? f=some d/\f d=true
 |[]=>.inl ⟨rfl,rfl⟩
 |x::l=>by
  rw[List.findIdx?_cons,List.find?_cons];cases e:f x with
  |true=>exact .inr ⟨0,x,rfl,rfl,rfl,e⟩
  |false=>
   simp only[Bool.false_eq_true,if_false];rcases zB f l with⟨a,b⟩|⟨i,d,a,b,c,g⟩
   ·exact .inl ⟨by rw[a];rfl,b⟩
   ·exact .inr ⟨i+1,d,by rw[a];rfl,by rw[Yx];exact b,c,g⟩
def dt(P:U cl)(D:U aF)(s:so):aQ×U aK×Bool:=
 match P.find? (λx=>bL x.ar==bL s)with
 |some x=>(x.aw,x.aJ,true)
 |none=>match D.find? (eW s)with
  |some d=>(d.aw,d.aJ.map (·.dq),true)
  |none=>(gU,[],false)
def avF(N:Nat)(d:aF):∀(l:U cq)(k:Nat)(b:U aK),b.length+l.length<=1000000000->(∀x∈l,iT 1000000000 x.dq)->F8 N d l k b=some (d.aw,b++l.map (·.dq),true)
 |[],_,b,_,_=>by rw[F8,ai,ZW]
 |a::l,k,b,h,c=>by
  simp only[Zp]at h;rw[F8,O1 N _ (c a Zt),re,fi k7,Tj];dsimp only;rw[avF N d l (k+1) _ (by simp only[Zi,Zp,Zg];omega) λy e=>c y (Zk _ e),ZY,ZU];rfl
structure lZ(P:List cl):Prop where
 len:∀x∈P,x.aJ.length<=1000000000
 iu:∀x∈P,∀y∈x.aJ,iT 1000000000 y
structure hO(D:List aF):Prop where
 len:∀d∈D,d.aJ.length+d.bI.length<900000000
 iu:∀d∈D,∀y∈d.aJ++d.bI,iT 1000000000 y.dq
def hO.Kf{D:U aF}(h:hO D){d:aF}(a:d∈D):∀y∈d.aJ,iT 1000000000 y.dq:=λy b=>h.iu d a y (aq _ b)
def yg{α:Type}{l:U α}{i:Nat}{d:α}(h:l[i]?=some d):d∈l:=ZZ h
def afB(N:Nat)(p:aI)(s:so)(c:hO p.ax):∀(l:U cl)(k:Nat),lZ l->E7 N p s l k=some (dt l p.ax s)
 |[],k,_=>by
  rw[E7,RG,re];unfold dt od;rw[List.find?_nil];rcases zB (eW s) p.ax with⟨e,a⟩|⟨i,d,e,a,g,_⟩
  ·rw[e,a];rfl
  ·rw[e,g];simp only[ZQ];rw[show decide ((i:Int)>=0)=true from eD k7,ZR,a];simp only[Tj,re];rw[avF N d _ _ _ (by have:=c.len d (yg a);simp only[Zg];omega) (c.Kf (yg a)),W5]
 |x::l,k,b=>by
  rw[E7,afB N p s c l (k+1) ⟨λy f=>b.len y (Zk _ f),λy f=>b.iu y (Zk _ f)⟩];unfold dt;rw[List.find?_cons];cases bL x.ar==bL s with
  |true=>simp only[Tj];rw[adX N _ (b.len x Zt) (b.iu x Zt)];rfl
  |false=>rfl
def Xq(N:Nat)(p:aI)(s:so)(a:lZ p.aS)(b:hO p.ax):HQ N p s=some (dt p.aS p.ax s):=afB N p s b p.aS 0 a
def abh(N:Nat)(p:aI)(s:so):O (aQ×U aK×Bool):=some (dt p.aS p.ax s)
def Nu(N:Nat)(p:aI)(s:so)(a:hO p.ax):abh N p s=some (dt p.aS p.ax s):=rfl
structure VN(m:List (ByteArray×Int))(V:List ByteArray):Prop where
 val:∀s,(ic m s 0==0)= !cy V s
 len:m.length<=V.length
def VN.add{m:U (so×Int)}{a:U so}(h:VN m a)(s:so)(k:Int)(b:(k==0)=false):VN ((s,k)::m) (a++[s]):=by
 refine⟨λx=> ?_,by have:=h.len;simp only[Zp,Zi,Zg];omega⟩;rw[Nq,lL,BC];cases e:bL s==bL x with
 |true=>rw[Tj,b,Bool.or_true];rfl
 |false=>rw[Tf,h.val,Bool.or_false]
def n7(a:U so)(l:aK):Int:=bif IX a l then 0 else 9
def ae2(N:Nat){m:U (so×Int)}{a:U so}(h:VN m a):∀(l:U bD)(k:Nat),Po N m l k=some (bif l.all (λm=>cy a m.ar)then 0 else 9)
 |[],_=>rfl
 |x::l,k=>by
  rw[Po,h.val,Z4,ae2 N h l];cases cy a x.ar<;>rfl
def U5(N:Nat){m:U (so×Int)}{a:U so}(h:VN m a)(l:aK)(p:aI):GS N l p m=some (n7 a l):=ae2 N h l.xL 0
def rG(a:U so)(P:U cl)(D:U aF)(x:aT):Int:=bif bL x.bp==[]then n7 a x.aU else bif (dt P D x.bp).2.2 then bif (dt P D x.bp).1.bt !=3 then 10 else bif x.bC.length==(dt P D x.bp).2.1.length then ir (n7 a) x.bC else 11 else 9
def uq(a b:Nat):((a:Int) !=(b:Int))= !(a==b):=avN a b
def adn(N:Nat){m:U (so×Int)}{a:U so}(h:VN m a)(p:aI):∀(l:U aK)(k:Nat),NP N p m l k=some (ir (n7 a) l)
 |[],_=>rfl
 |x::l,k=>by
  rw[NP,U5 N h,re,ir,adn N h p l];cases n7 a x !=0<;>rfl
def arw(N:Nat){m:U (so×Int)}{a:U so}(h:VN m a)(p:aI)(b:lZ p.aS)(c:hO p.ax)(x:aT):Ng N x p m=some (rG a p.aS p.ax x):=by
 unfold Ng rG;rw[FY,U5 N h,Xq N p _ b c,re,re,uq,adn N h p];cases bL x.bp==[]<;>cases (dt p.aS p.ax x.bp).2.2<;>cases (dt p.aS p.ax x.bp).1.bt !=3<;>cases x.bC.length==(dt p.aS p.ax x.bp).2.1.length<;>rfl
def oz(a:U so)(P:U cl)(D:U aF)(e:au):Int:=bif (dt P D e.ar).2.2 then bif e.xIdx.length==(dt P D e.ar).2.1.length then ir (rG a P D) e.xIdx else 11 else 9
def AH(t:aQ)(x:Int):aQ×Int:=(bif x !=0 then gU else t,x)
def abE(N:Nat){m:U (so×Int)}{a:U so}(h:VN m a)(p:aI)(b:lZ p.aS)(c:hO p.ax)(q:aQ×U aK×Bool):∀(l:U aT)(k:Nat),Oh N q p m l k=some (AH q.1 (ir (rG a p.aS p.ax) l))
 |[],_=>rfl
 |x::l,k=>by
  rw[Oh,arw N h p b c,re,ir,abE N h p b c q l];unfold AH;cases e:rG a p.aS p.ax x !=0 with
  |true=>simp only[Tj];rw[e];rfl
  |false=>rfl
def akU(N:Nat){m:U (so×Int)}{a:U so}(h:VN m a)(p:aI)(b:lZ p.aS)(c:hO p.ax)(e:au):KG N e p m=some (AH (dt p.aS p.ax e.ar).1 (oz a p.aS p.ax e)):=by
 unfold KG oz;rw[Xq N p _ b c,re,uq,abE N h p b c];cases (dt p.aS p.ax e.ar).2.2<;>cases e.xIdx.length==(dt p.aS p.ax e.ar).2.1.length<;>rfl
def agT(N:Nat)(p:aI)(a:U so)(l:U aK):O Int:=some (ir (n7 (a++p.bj)) l)
def VH(N:Nat)(a:U so)(p:aI)(l:U aK):agT N p a l=some (ir (n7 (a++p.bj)) l):=rfl
def avE(N:Nat)(p:aI)(a:U so)(e:au):O (aQ×Int):=some (AH (dt p.aS p.ax e.ar).1 (oz (a++p.bj) p.aS p.ax e))
def TK(N:Nat)(a:U so)(p:aI)(b:hO p.ax)(e:au):avE N p a e=some (AH (dt p.aS p.ax e.ar).1 (oz (a++p.bj) p.aS p.ax e)):=rfl
def Oz(N:Nat)(a:aI):U so->Nat->O Int
 |[],_=>some (0:Int)
 |d::e,b=>bif (decide (((b:Int)).toNat<=a.bj.length))then(Vh N d ((a.bj.take ((b:Int)).toNat).drop 0)).bind λc=>bif (c !=0)then some c else(Oz N a e (b+1))else none
def Hz(N:Nat)(a:aI):O Int:=(bif (decide ((a.bj.length:Int)>64))then some true else(bif (decide ((a.aS.length:Int)>64))then some true else(bif (decide ((a.ax.length:Int)>64))then some true else(bif (decide ((a.cB.length:Int)>64))then some true else some (decide ((a.cO.length:Int)>256)))))).bind λb=>bif b then some (2:Int)else Oz N a a.bj 0
def m5(N:Nat)(b:au)(i:aI)(j:U so)(e:aI->(U so)->au->O (aQ×Int)):U au->Nat->(U aQ)->O (aQ×Int)
 |[],_,c=>(bif (b.aA==1)then some true else some (b.aA==12)).bind λn=>bif n then some (b.aw,(0:Int))else bif (b.aA==2)then(agT N i j [b.aU]).bind λk=>some ((⟨3,0,0,0,0⟩:aQ),k)else bif (b.aA==3)then(avE N i j b).bind λf=>some (f.1,f.2)else bif (b.aA==11)then(c[1]?).bind λa=>(c[2]?).bind λg=>bif ((a.bt==g.bt)&&((a.bW==g.bW)&&((a.bR==g.bR)&&((a.b9==g.b9)&&((a.b8==g.b8)&&true)))))then some (a,(0:Int))else some (gU,(10:Int))else bif (b.aA==8)then(c[0]?).bind λo=>some (o,(0:Int))else bif (decide (b.aA>=16))then some (gU,(0:Int))else(c[0]?).bind λd=>(c[1]?).bind λh=>bif ((d.bt==h.bt)&&((d.bW==h.bW)&&((d.bR==h.bR)&&((d.b9==h.b9)&&((d.b8==h.b8)&&true)))))then bif (decide (b.aA>=13))then some (gU,(0:Int))else some (d,(0:Int))else some (gU,(10:Int))
 |v6::q,r,c=>(e i j v6).bind λl=>bif (l.2 !=0)then some (gU,l.2)else bif (Nat.ble ((c.length+1)*40) 140737488355328)then(λt=>m5 N b i j e q (r+1) t) (c++[l.1])else none
def uO(N:Nat):Nat->aI->(U so)->au->O (aQ×Int)
 |0,_,_,_=>none
 |d+1,b,c,a=>m5 N a b c (uO N d) a.bk 0 []
def FO(N:Nat)(a:aI)(b:U so)(c:au):O (aQ×Int):=uO N N a b c
def uZ(N:Nat)(d:aI)(e:U so)(a:au):O (aQ×Int):=(QT N a).bind λc=>bif (c !=0)then some (gU,c)else(acf N a).bind λf=>bif f then some (gU,(10:Int))else(FO N d e a).bind λb=>bif (b.2 !=0)then some (gU,b.2)else some (b.1,(0:Int))
def uC(N:Nat)(c:aI)(d:Int)(i:U so):O Int:=bif (decide ((0:Int)<=d))then(c.ax[(d).toNat]?).bind λa=>(Vh N a.ar i).bind λf=>bif (f !=0)then some f else(avM N a.aw).bind λj=>bif j then(bif (decide ((a.aJ.length:Int)>6))then some true else some (decide ((a.bI.length:Int)>6))).bind λk=>bif k then some (11:Int)else bif (Nat.ble ((0+a.aJ.length)*48) 140737488355328)then bif (Nat.ble ((a.aJ.length+a.bI.length)*48) 140737488355328)then(aft N (a.aJ++a.bI) c.bj).bind λg=>bif (g !=0)then some g else(avH N a).bind λh=>bif (h !=0)then some h else bif (decide ((d).toNat<=c.ax.length))then(ahq N a).bind λe=>(uZ N (⟨c.bj,[],c.aS,(c.ax.take (d).toNat).drop 0,[]⟩:aI) e a.aX).bind λb=>bif (b.2 !=0)then some b.2 else bif ((b.1.bt==a.aw.bt)&&((b.1.bW==a.aw.bW)&&((b.1.bR==a.aw.bR)&&((b.1.b9==a.aw.b9)&&((b.1.b8==a.aw.b8)&&true)))))then some (0:Int)else some (10:Int)else none else none else none else some (10:Int)else none
def oP(N:Nat)(b:aI):U so->Nat->Int->O (Int×Int)
 |[],_,_=>some ((0:Int),(0:Int))
 |a::f,c,d=>(abh N b a).bind λe=>bif e.2.2 then bif (decide (((c:Int)).toNat<=b.cB.length))then(acY N ((b.cB.take ((c:Int)).toNat).drop 0) a).bind λg=>bif g then some (d,(8:Int))else(λh=>oP N b f (c+1) h) (aY (d+(1:Int)))else none else some (d,(9:Int))
def nH(N:Nat)(a:aI):U aF->Nat->(U so)->Int->O (Int×Int)
 |[],_,_,b=>oP N a a.cB 0 b
 |f::g,d,c,b=>(uC N a (d:Int) c).bind λe=>bif (e !=0)then some (b,e)else bif (Nat.ble ((c.length+1)*16) 140737488355328)then(λh i=>nH N a g (d+1) h i) (c++[f.ar]) (aY (b+(1:Int)))else none
def p8(N:Nat)(c:aI):U cl->Nat->(U so)->Int->O (Int×Int)
 |[],_,a,b=>nH N c c.ax 0 a b
 |e::d,g,a,b=>(acw N e c.bj a).bind λf=>bif (f !=0)then some (b,f)else bif (Nat.ble ((a.length+1)*16) 140737488355328)then(λh i=>p8 N c d (g+1) h i) (a++[e.ar]) (aY (b+(1:Int)))else none
def Iw(N:Nat)(a:aI):U cQ->Nat->O (Int×Int)
 |[],_=>bif (Nat.ble ((0+a.bj.length)*16) 140737488355328)then p8 N a a.aS 0 a.bj (2:Int)else none
 |c::d,e=>(aaE N c.aU a.bj).bind λb=>bif (b !=0)then some ((1:Int),b)else(Iw N a d (e+1))
def w9(N:Nat)(a:aI):O (Int×Int):=(Hz N a).bind λb=>bif (b !=0)then some ((0:Int),b)else Iw N a a.cO 0
def vj(e:au):Prop:=∀x∈dx e,sP x=true/\qN x=true
def vj.arg{e x:au}(h:vj e)(a:x∈e.bk):vj x:=λy b=>h y (rC a b)
def vj.len{e:au}(h:vj e):(e.bk.length:Int)=qR e.aA:=by
 have:=(h e Zt).1;unfold sP at this;rw[Zo,TC]at this;exact this.1
def vj.op{e:au}(h:vj e):1<=e.aA/\e.aA<=18:=by
 have:=(h e Zt).2;unfold qN at this;simp only[Zo,UL]at this;exact⟨this.1,this.2.1⟩
def aaI:∀l:U au,CU l=0->∀x∈l,pN x=0
 |[],_,x,a=>by cases a
 |y::l,h,x,a=>by
  rw[CU]at h;cases e:pN y !=0 with
  |true=>rw[e,Tj]at h;rw[h]at e;cases e
  |false=>
   rw[e,Tf]at h;rcases Za.1 a with rfl|a
   ·exact gw e
   ·exact aaI l h x a
def xX{e:au}(h:lW e=0):∀x∈dx e,pN x=0:=λx c=>by
 unfold lW at h;cases a:decide (40<ov 40 e)with
 |true=>rw[a]at h;cases h
 |false=>
  cases b:decide (2000<(dx e).length)with
  |true=>rw[a,b]at h;cases h
  |false=>rw[a,b]at h;exact aaI (dx e) h x c
def A2{x:au}(h:pN x=0):qN x=true/\CN x=true/\sP x=true/\xZ x=true/\Bg x=true:=by
 unfold pN at h;cases p:qN x<;>cases q:CN x<;>cases r:sP x<;>cases s:xZ x<;>cases t:Bg x<;>rw[p,q,r,s,t]at h<;>first|exact⟨rfl,rfl,rfl,rfl,rfl⟩|(exact absurd h gy)
def aqp{e:au}(h:lW e=0):vj e:=λx a=>⟨(A2 (xX h x a)).2.2.1,(A2 (xX h x a)).1⟩
section
variable {α:Type}
def aqr{l:U α}(h:(l.length:Int)=1):∃a,l=[a]:=by
 match l,h with
 |[a],_=>exact⟨a,rfl⟩
 |[],h=>simp at h
 |a::b::l,h=>simp at h;omega
def ai0{l:U α}(h:(l.length:Int)=2):∃a b,l=[a,b]:=by
 match l,h with
 |[a,b],_=>exact⟨a,b,rfl⟩
 |[],h=>simp at h
 |[a],h=>simp at h
 |a::b::c::l,h=>simp at h;omega
def akX{l:U α}(h:(l.length:Int)=3):∃a b c,l=[a,b,c]:=by
 match l,h with
 |[a,b,c],_=>exact⟨a,b,c,rfl⟩
 |[],h=>simp at h
 |[a],h=>simp at h
 |[a,b],h=>simp at h
 |a::b::c::d::l,h=>simp at h;omega
end
def zX(a b:O (aQ×Int)):Prop:=∃t c x,a=some (t,x)/\b=some (c,x)/\(x=0->t=c)
def avD{α:Type}(f:α->Int)(x:α):ir f [x]=f x:=by
 rw[ir,ir];cases e:f x !=0 with
 |true=>rfl
 |false=>exact(gw e).symm
def aiI{a:Int}(h1:1<=a)(b:a<=18):(a=1\/a=2\/a=3\/a=8\/a=11\/a=12)\/(a=4\/a=5\/a=6\/a=7\/a=9\/a=10)\/(a=13\/a=14\/a=15)\/(a=16\/a=17\/a=18):=by omega
section
variable {N:Nat} {m:U (so×Int)} {vars:U so} {p p':aI}
def anL(g:VN m (vars++p'.bj))(l:p.aS=p'.aS)(i:p.ax=p'.ax)(n:lZ p.aS)(j:hO p.ax)(e:au)(h1:1<=e.aA)(o:e.aA<=18)(d:U aQ)(f:(d.length:Int)=qR e.aA)
 (q:au->aI->U (so×Int)->O (aQ×Int)) (r:aI->U so->au->O (aQ×Int)) (k:Nat):
 zX (AP N e p m q [] k d) (m5 N e p' vars r [] k d):=by
 rw[AP,m5];unfold N4 EW Ik Is;rcases aiI h1 o with(h|h|h|h|h|h)|(h|h|h|h|h|h)|(h|h|h)|(h|h|h)
 ·rw[h];exact⟨_,_,_,rfl,rfl,λ_=>rfl⟩
 ·rw[h,U5 N g,VH,avD];exact⟨_,_,_,rfl,rfl,λ_=>rfl⟩
 ·rw[h,akU N g p n j,TK N vars p' (i▸j),l,i];exact⟨_,_,_,rfl,rfl,λ_=>rfl⟩
 ·rw[h]at f;obtain⟨a,rfl⟩:=aqr f;rw[h];exact⟨_,_,_,rfl,rfl,λ_=>rfl⟩
 ·rw[h]at f;obtain⟨a,b,c,rfl⟩:=akX f;rw[h];show zX (Option.bind (bif _ then _ else _) _) (bif _ then _ else _);cases ((b.bt==c.bt)&&((b.bW==c.bW)&&((b.bR==c.bR)&&((b.b9==c.b9)&&((b.b8==c.b8)&&true)))))with
  |true=>exact⟨_,_,_,rfl,rfl,λ_=>rfl⟩
  |false=>exact⟨_,_,_,rfl,rfl,λh=>by cases h⟩
 ·rw[h];exact⟨_,_,_,rfl,rfl,λ_=>rfl⟩
 all_goals first
  |(rw[h];exact⟨_,_,_,rfl,rfl,λ_=>rfl⟩)
  |(rw[h]at f
    obtain⟨a,b,rfl⟩:=ai0 f;rw[h];show zX (Option.bind (bif _ then _ else _) _) (bif _ then _ else _);cases ((a.bt==b.bt)&&((a.bW==b.bW)&&((a.bR==b.bR)&&((a.b9==b.b9)&&((a.b8==b.b8)&&true)))))with
    |true=>exact⟨_,_,_,rfl,rfl,λ_=>rfl⟩
    |false=>exact⟨_,_,_,rfl,rfl,λh=>by cases h⟩)
def adm(e:au)(c:au->aI->U (so×Int)->O (aQ×Int))(d:aI->U so->au->O (aQ×Int)):
 ∀(l:U au)(k:Nat)(a:U aQ),a.length+l.length<=1000000000->(∀x∈l,zX (c x p m) (d p' vars x))->
  (∀(b:U aQ)(f:Nat),b.length=a.length+l.length->zX (AP N e p m c [] f b) (m5 N e p' vars d [] f b))->
  zX (AP N e p m c l k a) (m5 N e p' vars d l k a)
 |[],k,a,_,_,g=>g a k rfl
 |x::l,k,a,i,h,g=>by
  rw[AP,m5];obtain⟨t,u,z,j,n,o⟩:=h x Zt;rw[j,n,re,re];dsimp only;cases q:z !=0 with
  |true=>exact⟨_,_,_,rfl,rfl,λ_=>rfl⟩
  |false=>
   obtain rfl:=o (gw q);simp only[Zp]at i;rw[fi k7];exact adm e c d l (k+1) (a++[t]) (by simp only[Zi,Zp,Zg];omega) (λy r=>h y (Zk _ r)) λb f v=>g b f (by simp only[Zi,Zp,Zg]at*;omega)
def ahr(c:VN m (vars++p'.bj))(f:p.aS=p'.aS)(g:p.ax=p'.ax)(i:lZ p.aS)(j:hO p.ax):
 ∀(d:Nat)(e:au),SizeOf.sizeOf e<d->vj e->zX (AR N d e p m) (uO N d p' vars e)
 |0,_,h,_=>absurd h (ZJ _)
 |d+1,e,h,b=>by
  rw[AR,uO];have a:=b.len;have q:(e.bk.length:Int)<=3:=by
    rw[a];unfold qR;cases (e.aA==1||(e.aA==2||e.aA==3))<;>cases (e.aA==8||(e.aA==12||e.aA==18))<;>cases e.aA==11<;>decide
  refine adm e _ _ e.bk 0 [] (by simp only[Zg];omega) (λx k=>ahr c f g i j d x (by have:=lA k;omega) (b.arg k)) λl n o=> ?_;exact anL c f g i j e b.op.1 b.op.2 l (by rw[o,<-a];simp only[Zg,ZQ]) _ _ n
end
def alq{m:U (so×Int)}{V W:U so}(h:VN m V)(e:∀s,cy W s=cy V s)(a:V.length<=W.length):VN m W:=⟨λs=>by rw[h.val,e],Ze h.len a⟩
def ah2(N:Nat)(e:au)(p:aI):∀(l:U so)(k:Nat)(m:U (so×Int))(V:U so),VN m V->V.length+l.length<1000000000->∃a b,VN a (V++l)/\Aq N e p l k m=Aq N e p [] b a
 |[],k,m,V,h,_=>⟨m,k,by rw[ZW];exact h,rfl⟩
 |s::l,k,m,V,h,d=>by
  simp only[Zp]at d;rw[Aq,show Nat.blt m.length 9223372036854775807=true from X7 (by have:=h.len;omega),Tj];obtain⟨a,b,c,f⟩:=ah2 N e p l (k+1) _ _ (h.add s 3 rfl) (by simp only[Zi,Zp,Zg];omega);exact⟨a,b,by rw[ZU]at c;exact c,f⟩
def adq(N:Nat)(e:au)(p:aI)(vars:U so):∀(l:U so)(k:Nat)(m:U (so×Int))(V:U so),VN m V->V.length+l.length<1000000000->∃a,VN a (V++l)/\OE N e p vars l k m=Aq N e p vars 0 a
 |[],k,m,V,h,_=>⟨m,by rw[ZW];exact h,rfl⟩
 |s::l,k,m,V,h,c=>by
  simp only[Zp]at c;rw[OE,show Nat.blt m.length 9223372036854775807=true from X7 (by have:=h.len;omega),Tj];obtain⟨a,b,d⟩:=adq N e p vars l (k+1) _ _ (h.add s 1 rfl) (by simp only[Zi,Zp,Zg];omega);exact⟨a,by rw[ZU]at b;exact b,d⟩
def aki(N:Nat)(c:2147483648<N)(p p':aI)(vars:U so)(e:au)(d:SizeOf.sizeOf e<N)(h:vi e)(f:p.bj=p'.bj)(g:p.aS=p'.aS)(i:p.ax=p'.ax)(j:lZ p.aS)(k:hO p.ax)
 (B:p.bj.length+vars.length<1000000000):∃t x,LF N p vars e=some (t,x)/\uZ N p' vars e=some (t,x)/\(x=0->lW e=0):=by
 unfold LF uZ;rw[auD N c e h,Sk N c e d h,re,re];cases a:lW e !=0 with
 |true=>exact⟨_,_,rfl,rfl,λb=>b⟩
 |false=>
  have a:=gw a;simp only[Tf];rw[ac3,Px,re,re];cases fc e with
  |true=>exact⟨_,_,rfl,rfl,λb=>by cases b⟩
  |false=>
   simp only[Tf];obtain⟨l,n,o⟩:=adq N e p vars p.bj 0 [] [] ⟨λ_=>rfl,Zx _⟩ (by simp only[Zg];omega);obtain⟨q,C,r,u⟩:=ah2 N e p vars 0 l _ n (by simp only[Zg,W5];omega);rw[o,u,Aq];have v:VN q (vars++p'.bj):=alq r (λs=>by rw[W5,lL,lL,f,Bool.or_comm]) (by rw[f];simp only[Zi,W5];omega);unfold Tx FO;obtain⟨t,E,x,w,y,z⟩:=ahr (N:=N) v g i j k N e d (aqp a);rw[w,y,re,re];dsimp only;cases A:x !=0 with
   |true=>exact⟨_,_,rfl,rfl,λ_=>a⟩
   |false=>obtain rfl:=z (gw A);exact⟨_,_,rfl,rfl,λ_=>a⟩
def By{y:au}:∀{l:U au},y∈su l->∃x∈l,y∈dx x
 |[],h=>by rw[su]at h;cases h
 |x::l,h=>by
  rw[Vu]at h;rcases ZM.1 h with h|h
  ·exact⟨x,Zt,h⟩
  ·obtain⟨z,a,b⟩:=By h;exact⟨z,Zk _ a,b⟩
def adP{t a:aQ}{x:Int}(h:AH t x=(a,0)):x=0:=congrArg Prod.snd h
def agi(N:Nat)(e:au)(p:aI)(vars:U so)(rec:aI->U so->au->O (aQ×Int)):
 ∀(l:U au)(k:Nat)(a:U aQ)(t:aQ),m5 N e p vars rec l k a=some (t,0)->
  (∀x∈l,∃g,rec p vars x=some (g,0))/\∃i j,m5 N e p vars rec [] i j=some (t,0)
 |[],k,a,t,h=>⟨λ_ n=>(by cases n),k,a,h⟩
 |x::l,k,a,t,h=>by
  rw[m5]at h;cases c:rec p vars x with
  |none=>rw[c]at h;cases h
  |some q=>
   rw[c,re]at h;cases b:q.2 !=0 with
   |true=>rw[b,Tj]at h;rw[(Prod.mk.inj (Zl h)).2]at b;cases b
   |false=>
    rw[b,Tf]at h;cases f:Nat.ble ((a.length+1)*40) 140737488355328 with
    |false=>rw[f]at h;cases h
    |true=>
     rw[f,Tj]at h;obtain⟨o,r⟩:=agi N e p vars rec l (k+1) (a++[q.1]) t h;refine⟨λy d=> ?_,r⟩;rcases Za.1 d with rfl|d
     ·exact⟨q.1,by rw[c,<-gw b]⟩
     ·exact o y d
def av9(N:Nat)(p:aI)(vars:U so)(g:hO p.ax):∀(d:Nat)(e:au)(t:aQ),uO N d p vars e=some (t,0)->∀y∈dx e,(y.aA=3->oz (vars++p.bj) p.aS p.ax y=0)/\(y.aA=2->n7 (vars++p.bj) y.aU=0)
 |0,e,t,h=>by cases h
 |d+1,e,t,h=>by
  rw[uO]at h;obtain⟨i,l,n,b⟩:=agi N e p vars _ _ _ _ _ h;intro y a;rcases Za.1 a with rfl|a
  ·refine⟨λc=> ?_,λc=> ?_⟩
   ·rw[m5,c,TK N vars p g]at b;exact adP (Zl b)
   ·rw[m5,c,VH,avD]at b;have f:=congrArg Prod.snd (Zl b);exact f
  ·obtain⟨x,j,a⟩:=By a;obtain⟨k,f⟩:=i x j;exact av9 N p vars g d x k f y a
def apo(N:Nat)(p:aI)(vars:U so)(i:hO p.ax)(e:au)(t:aQ)(h:uZ N p vars e=some (t,0)):∀y∈dx e,(y.aA=3->oz (vars++p.bj) p.aS p.ax y=0)/\(y.aA=2->n7 (vars++p.bj) y.aU=0):=by
 unfold uZ at h;cases f:QT N e with
 |none=>rw[f]at h;cases h
 |some a=>
  rw[f,re]at h;cases b:a !=0 with
  |true=>rw[b,Tj]at h;rw[(Prod.mk.inj (Zl h)).2]at b;cases b
  |false=>
   rw[b,Tf,Px,re]at h;cases g:fc e with
   |true=>rw[g]at h;cases h
   |false=>
    rw[g,Tf]at h;cases c:FO N p vars e with
    |none=>rw[c]at h;cases h
    |some q=>
     rw[c,re]at h;cases d:q.2 !=0 with
     |true=>rw[d,Tj]at h;rw[(Prod.mk.inj (Zl h)).2]at d;cases d
     |false=>exact av9 N p vars i N e q.1 (by unfold FO at c;rw[c,<-gw d])
structure Bd(N:Nat)(p:aI):Prop where
 s:p.bj.length<=1000
 w:p.cO.length<=1000
 q:p.aS.length<=1000
 d:p.ax.length<=1000
 o:p.cB.length<=1000
 P:lZ p.aS
 D:hO p.ax
 W:∀c∈p.cO,iT 1000000000 c.aU
 E:∀d∈p.ax,vi d.aX/\SizeOf.sizeOf d.aX<N
def rf(d:aF):U so:=(d.aJ++d.bI).map (·.ar)
structure iG(p:aI)(k:Nat)(d:aF):Prop where
 par:cy (p.aS.map (·.ar)) d.ar=false
 body:lW d.aX=0
 Uz:p9 p.bj [] (d.aJ++d.bI)=0
 reads:∀y∈dx d.aX,y.aA=3->oz (rf d++p.bj) p.aS (p.ax.take k) y=0
 q6:∀y∈dx d.aX,y.aA=2->n7 (rf d++p.bj) y.aU=0
 len:d.aJ.length<=6/\d.bI.length<=6
 Ia:cy ((p.ax.take k).map (·.ar)) d.ar=false
def Q2{D:U aF}(h:hO D)(k:Nat):hO (D.take k):=⟨λd a=>h.len d (List.mem_of_mem_take a),λd a=>h.iu d (List.mem_of_mem_take a)⟩
section
variable {N:Nat} {p:aI}
def akR(C:2147483648<N)(B:Bd N p){m:U (so×Int)}{T:U so}{k:Nat}{d:aF}(h:KN m p.bj T)(f:p.ax[k]?=some d)(M:T.length<=1000000)(F:∀s,cy (p.aS.map (·.ar)++(p.ax.take k).map (·.ar)) s=true->cy T s=true):
 ∃x r,Pp N (k:Int) p m=some (x,r)/\uC N p (k:Int) (p.bj++T)=some x/\(x=0->KN r p.bj (T++[d.ar])/\iG p k d):=by
 have g:=yg f;have G:=B.D.len d g;have b:d.aJ.length+d.bI.length<1000000000:=by omega
 have c:∀x∈d.aJ++d.bI,lv x.dq:=λx H=>(B.D.iu d g x H).ok;have Q:=B.s;unfold Pp uC;rw[show decide ((0:Int)<=(k:Int))=true from eD k7,ZR,f,Tj,Tj,re,re,
  Wh N k7 _ 2 p h k7,Gt N k7,re,re,ao1,Ur,re,re,xS,xS]
 dsimp only;cases e:ja (p.bj++T) d.ar !=0 with
 |true=>exact⟨_,_,rfl,rfl,λa=>by rw[a]at e;cases e⟩
 |false=>
  have i:=gw e;have u:=h.ab7 (CG i).2;rw[i];simp only[Tf,Z3,Tj];cases dD d.aw with
  |false=>exact⟨_,_,rfl,rfl,λa=>by cases a⟩
  |true=>
   simp only[Tj];rw[show(bif !decide (d.aJ.length<=6)then some true else some !decide (d.bI.length<=6))=some (!(decide (d.aJ.length<=6)&&decide (d.bI.length<=6))) by cases decide (d.aJ.length<=6)<;>cases decide (d.bI.length<=6)<;>rfl,re];cases v:decide (d.aJ.length<=6)&&decide (d.bI.length<=6)with
   |false=>exact⟨_,_,rfl,rfl,λa=>by cases a⟩
   |true=>
    rw[Zo,UL,UL]at v;simp only[Tj,VX,Tf];rw[fi k7,fi k7,apK N k7 d p u c b,Vk N k7 _ _ c (by simp only[Zi];omega)];simp only[re,Tj,bne_self_eq_false,Tf];cases j:p9 p.bj [] (d.aJ++d.bI) !=0 with
    |true=>exact⟨_,_,rfl,rfl,λa=>by rw[a]at j;cases j⟩
    |false=>
     simp only[Tf];rw[aoA,QN,re,re];cases w:wN d !=0 with
     |true=>exact⟨_,_,rfl,rfl,λa=>by rw[a]at w;cases w⟩
     |false=>
      simp only[Tf];have z:k<p.ax.length:=by
       by_cases z:k<p.ax.length;{exact z};{rw[Z1 k7]at f;cases f}
      rw[show decide (k<=p.ax.length)=true from eD k7,Tj,Tj,amU N d b,Xw N d b,re,re,Yn];obtain⟨t,x,J,l,K⟩:=aki N C ⟨p.bj,p.cO,p.aS,p.ax.take k,p.cB⟩ ⟨p.bj,[],p.aS,p.ax.take k,[]⟩ ((d.aJ++d.bI).map (·.ar)) d.aX (B.E d g).2 (B.E d g).1 rfl rfl rfl B.P (Q2 B.D k)
        (by simp only[Zw,Zi];omega)
      rw[J,l,re,re];dsimp only;cases n:x !=0 with
      |true=>exact⟨_,_,rfl,rfl,λa=>by rw[a]at n;cases n⟩
      |false=>
       have A:=gw n;simp only[Tf];cases ((t.bt==d.aw.bt)&&((t.bW==d.aw.bW)&&((t.bR==d.aw.bR)&&((t.b9==d.aw.b9)&&((t.b8==d.aw.b8)&&true)))))with
       |false=>exact⟨_,_,rfl,rfl,λa=>by cases a⟩
       |true=>
        have o:cy (p.aS.map (·.ar)++(p.ax.take k).map (·.ar)) d.ar=false:=by
         cases L:cy (p.aS.map (·.ar)++(p.ax.take k).map (·.ar)) d.ar with
         |false=>rfl
         |true=>
          have:=(CG i).2;rw[lL,F _ L,Bool.or_true]at this;cases this
        rw[lL,Yy]at o;rw[A]at l;have tr:=apo N _ _ (Q2 B.D k) d.aX t l;exact⟨_,_,rfl,rfl,λ_=>⟨u,o.1,K A,gw j,λy q=>(tr y q).1,λy q=>(tr y q).2,v,o.2⟩⟩
def rh(p:aI):Bool:=decide (p.bj.length<=64)&&(decide (p.aS.length<=64)&&(decide (p.ax.length<=64)&&(decide (p.cB.length<=64)&&decide (p.cO.length<=256))))
def apL:Mo N p=some (rh p):=by
 unfold Mo rh;simp only[S5];rw[show decide (((max (max (max p.bj.length p.aS.length) p.ax.length) p.cB.length:Nat):Int)<=64)=decide (max (max (max p.bj.length p.aS.length) p.ax.length) p.cB.length<=64)from Es _ 64,show decide ((p.cO.length:Int)<=256)=decide (p.cO.length<=256)from Es _ 256];rw[show decide (max (max (max p.bj.length p.aS.length) p.ax.length) p.cB.length<=64)=(decide (p.bj.length<=64)&&(decide (p.aS.length<=64)&&(decide (p.ax.length<=64)&&decide (p.cB.length<=64)))) by
  rw[Bool.eq_iff_iff];simp only[Zo,decide_eq_true_iff];omega]
 cases decide (p.bj.length<=64)<;>cases decide (p.aS.length<=64)<;>cases decide (p.ax.length<=64)<;>cases decide (p.cB.length<=64)<;>rfl
def Ll:(bif (decide ((p.bj.length:Int)>64))then some true else(bif (decide ((p.aS.length:Int)>64))then some true else(bif (decide ((p.ax.length:Int)>64))then some true else(bif (decide ((p.cB.length:Int)>64))then some true else some (decide ((p.cO.length:Int)>256))))))=some (!rh p):=by
 unfold rh;rw[show ∀n:Nat,decide ((n:Int)>64)= !decide (n<=64)from λn=>nS n 64,show decide ((p.aS.length:Int)>64)= !decide (p.aS.length<=64)from nS _ 64,show decide ((p.ax.length:Int)>64)= !decide (p.ax.length<=64)from nS _ 64,show decide ((p.cB.length:Int)>64)= !decide (p.cB.length<=64)from nS _ 64,show decide ((p.cO.length:Int)>256)= !decide (p.cO.length<=256)from nS _ 256];cases decide (p.bj.length<=64)<;>cases decide (p.aS.length<=64)<;>cases decide (p.ax.length<=64)<;>cases decide (p.cB.length<=64)<;>rfl
def qm:U so->U so->Int
 |_,[]=>0
 |S,s::l=>bif ja S s !=0 then ja S s else qm (S++[s]) l
def Vw(c:16<N):∀(l:U so)(k:Nat)(m:U (so×Int))(S:U so),KN m S []->S.length+l.length<=1000->
 ∃a,KN a (S++l) []/\Lg N p l k m=bif qm S l !=0 then some (0,qm S l)else JH N p a p.cO 0
 |[],k,m,S,h,_=>⟨m,by rw[ZW];exact h,rfl⟩
 |s::l,k,m,S,h,d=>by
  simp only[Zp]at d;rw[Lg,Wh N c s 1 p h (by simp only[Zg];omega),re,ZW,qm];dsimp only;cases e:ja S s !=0 with
  |true=>
   obtain⟨a,b,_⟩:=Vw c l k _ _ (h.sx s) (by simp only[Zi,Zp,Zg];omega);refine⟨a,by rw[ZU]at b;exact b,?_⟩;simp only[Tj];rw[e];rfl
  |false=>
   rw[gw e];obtain⟨a,b,f⟩:=Vw c l (k+1) _ _ (h.sx s) (by simp only[Zi,Zp,Zg];omega);exact⟨a,by rw[ZU]at b;exact b,f⟩
def Qa{α:Type}{L l:U α}{x:α}{k:Nat}(h:L.drop k=x::l):L.take (k+1)=L.take k++[x]:=by
 have:=bA h;rw[List.take_add_one,this];rfl
def ie{α:Type}{L l:U α}{x:α}{k:Nat}(h:L.drop k=x::l):L.drop (k+1)=l:=by
 rw[<-List.drop_drop,h];rfl
def mg{α:Type}{L l:U α}{x:α}{k:Nat}(h:L.drop k=x::l):k<L.length:=by
 by_cases a:k<L.length;{exact a};{rw[List.drop_eq_nil_of_le k7]at h;cases h}
def Hi(a:16<N):∀(l:U so)(k:Nat),p.bj.drop k=l->Oz N p l k=some (qm (p.bj.take k) l)
 |[],_,_=>rfl
 |s::l,k,h=>by
  rw[Oz,ZR,show decide (k<=p.bj.length)=true from eD (by have:=mg h;omega),Tj,Yn,Gt N a,re,qm,Hi a l (k+1) (ie h),Qa h];cases ja (p.bj.take k) s !=0<;>rfl
def av8(a:16<N){m:U (so×Int)}(h:KN m p.bj []):∀(l:U cQ)(k:Nat),(∀c∈l,iT 1000000000 c.aU)->
 JH N p m l k=bif ir (λc=>jA p.bj c.aU) l !=0 then some (1,ir (λc=>jA p.bj c.aU) l)else DP N p p.aS 0 2 m
 |[],_,_=>rfl
 |c::l,k,b=>by
  have d:lv c.aU:=(b c Zt).ok;have f:Kg N c p m=some (jA p.bj c.aU):=by
   unfold Kg Ro;rw[Ba N a _ d,re,re,Ta N a _ p d h];unfold jA;cases gh c.aU<;>rfl
  rw[JH,f,re,ir,av8 a h l (k+1) λy g=>b y (Zk _ g)];cases e:jA p.bj c.aU !=0 with
  |true=>simp only[Tj];rw[e];rfl
  |false=>rfl
def Gu(a:16<N)(d:p.bj.length<=1000):∀(l:U cQ)(k:Nat),(∀c∈l,iT 1000000000 c.aU)->
 Iw N p l k=bif ir (λc=>jA p.bj c.aU) l !=0 then some (1,ir (λc=>jA p.bj c.aU) l)else p8 N p p.aS 0 p.bj 2
 |[],_,_=>by
  rw[Iw,fi k7];rfl
 |c::l,k,b=>by
  rw[Iw,apF N a _ (b c Zt).ok,re,ir,Gu a d l (k+1) λy f=>b y (Zk _ f)];cases e:jA p.bj c.aU !=0 with
  |true=>simp only[Tj];rw[e];rfl
  |false=>rfl
def aeR(f:16<N)(i:p.bj.length<=1000):∀(l:U cl)(k:Nat)(at_:Int)(m:U (so×Int))(T:U so),KN m p.bj T->lZ l->T.length+l.length<=1000->
 (∃a x,x≠0/\DP N p l k at_ m=some (a,x)/\p8 N p l k (p.bj++T) at_=some (a,x))\/
 ∃c g,KN g p.bj (T++l.map (·.ar))/\DP N p l k at_ m=CH N p p.ax 0 c g/\p8 N p l k (p.bj++T) at_=nH N p p.ax 0 (p.bj++(T++l.map (·.ar))) c
 |[],k,at_,m,T,h,_,_=>.inr ⟨at_,m,by rw[ai,ZW];exact h,rfl,by rw[ai,ZW];rfl⟩
 |x::l,k,at_,m,T,h,d,j=>by
  simp only[Zp]at j;obtain⟨n,o,q⟩:=al4 N f x p (λy b=>(d.iu x Zt y b).ok) h k7;rw[DP,p8,o,Q3 N f x p.bj T (λy b=>(d.iu x Zt y b).ok),re,re];dsimp only;cases e:A4 p.bj T x !=0 with
  |true=>exact .inl ⟨_,_,λr=>(by rw[r]at e;cases e),rfl,rfl⟩
  |false=>
   simp only[Tf];rw[fi (by simp only[Zi];omega),Tj,ZU];have:=aeR f i l (k+1) (aY (at_+1)) n (T++[x.ar]) (q (gw e)) ⟨λy b=>d.len y (Zk _ b),λy b=>d.iu y (Zk _ b)⟩ (by simp only[Zi,Zp,Zg];omega);rw[ZU]at this;exact this
def aaH(n:2147483648<N)(B:Bd N p):∀(l:U aF)(k:Nat)(at_:Int)(m:U (so×Int))(T:U so),p.ax.drop k=l->KN m p.bj T->(∀s,cy (p.aS.map (·.ar)++(p.ax.take k).map (·.ar)) s=true->cy T s=true)->T.length+l.length<=10000->
 (∃a x,x≠0/\CH N p l k at_ m=some (a,x)/\nH N p l k (p.bj++T) at_=some (a,x))\/
 ((∀i d,k<=i->p.ax[i]?=some d->iG p i d)/\∃j o,KN o p.bj (T++l.map (·.ar))/\CH N p l k at_ m=FD N o p p.cB 0 j/\nH N p l k (p.bj++T) at_=oP N p p.cB 0 j)
 |[],k,at_,m,T,c,h,_,_=>by
  refine .inr ⟨λi d r f=> ?_,at_,m,by rw[ai,ZW];exact h,rfl,rfl⟩
  ·have:p.ax.length<=k:=by
    by_cases t:p.ax.length<=k;{exact t};{have:=congrArg List.length c;simp at this;omega}
   rw[Z1 k7]at f;cases f
 |d::l,k,at_,m,T,c,h,q,u=>by
  simp only[Zp]at u;have b:=B.s;obtain⟨x,v,w,y,z⟩:=akR n B h (bA c) k7 q;rw[CH,nH,w,y,re,re];dsimp only;cases e:x !=0 with
  |true=>exact .inl ⟨_,_,λA=>(by rw[A]at e;cases e),rfl,rfl⟩
  |false=>
   obtain⟨C,E⟩:=z (gw e);simp only[Tf];rw[fi (by simp only[Zi];omega),Tj,ZU];have:=aaH n B l (k+1) (aY (at_+1)) v (T++[d.ar]) (ie c) C (λs b=>by
    rw[Qa c,ab,<-ZU,lL]at b;rw[lL];rcases bh _ _▸b with b|b
    ·rw[q s b];rfl
    ·rw[show cy [d.ar] s=true from b,Bool.or_true]) (by simp only[Zi,Zp,Zg];omega)
   rw[ZU]at this;rcases this with this|⟨g,this⟩
   ·exact .inl this
   ·refine .inr ⟨λi F r f=> ?_,this⟩;by_cases G:i=k
    ·subst G;rw[bA c]at f;cases f;exact E
    ·exact g i F k7 f
def Dw{α:Type}(f:α->so)(s:so):∀l:U α,cy (l.map f) s=(l.find? λx=>bL (f x)==bL s).isSome
 |[]=>rfl
 |x::l=>by
  rw[ZY,List.find?_cons,show cy (f x::l.map f) s=(bL (f x)==bL s||cy (l.map f) s)from Yr,Dw f s l];cases bL (f x)==bL s<;>rfl
def KT(P:U cl)(D:U aF)(s:so):(dt P D s).2.2=cy (P.map (·.ar)++D.map (·.ar)) s:=by
 unfold dt;rw[lL,Dw,Dw];show _=(_||(D.find? (eW s)).isSome);cases P.find? λx=>bL x.ar==bL s with
 |some x=>rfl
 |none=>cases D.find? (eW s)<;>rfl
def av7(b:hO p.ax){m:U (so×Int)}(h:KN m p.bj (p.aS.map (·.ar)++p.ax.map (·.ar))):∀(l:U so)(k:Nat)(at_:Int),p.cB.drop k=l->
 ∃a x,FD N m p l k at_=some (a,x)/\oP N p l k at_=some (a,x)
 |[],_,_,_=>⟨_,_,rfl,rfl⟩
 |s::l,k,at_,c=>by
  rw[FD,oP,h.ne2,Nu N p s b,re,KT,ZR,show decide (k<=p.cB.length)=true from eD (by have:=mg c;omega),Yn,acG,OL,re,re];cases cy (p.aS.map (·.ar)++p.ax.map (·.ar)) s with
  |false=>exact⟨_,_,rfl,rfl⟩
  |true=>
   cases cy (p.cB.take k) s with
   |true=>exact⟨_,_,rfl,rfl⟩
   |false=>exact av7 b h l (k+1) (aY (at_+1)) (ie c)
def CO(u:2147483648<N)(B:Bd N p):∃a x,tn N p=some (a,x)/\w9 N p=some (a,x)/\(x=0->∀i d,p.ax[i]?=some d->iG p i d):=by
 have n:=B.s;have C:=B.q;have E:=B.d;unfold tn w9 Hz;rw[apL,Ll,re,re];cases rh p with
 |false=>exact⟨_,_,rfl,rfl,λh=>by cases h⟩
 |true=>
  simp only[Tj,VX,Tf];obtain⟨v,j,b⟩:=Vw (N:=N) (p:=p) k7 p.bj 0 [] [] KN.nil (by simp only[Zg];omega);rw[W5]at j;rw[b,Hi k7 p.bj 0 rfl,re,List.take_zero];cases o:qm [] p.bj !=0 with
  |true=>exact⟨_,_,rfl,rfl,λf=>by rw[f]at o;cases o⟩
  |false=>
   simp only[Tf];rw[av8 k7 j _ _ B.W,Gu k7 n _ _ B.W];cases r:ir (λc=>jA p.bj c.aU) p.cO !=0 with
   |true=>exact⟨_,_,rfl,rfl,λf=>by rw[f]at r;cases r⟩
   |false=>
    simp only[Tf];have t:=aeR (N:=N) (p:=p) k7 n p.aS 0 2 v [] j B.P (by simp only[Zg];omega);rw[ZW,W5]at t;rcases t with⟨a,x,k,b,e⟩|⟨l,w,y,b,e⟩
    ·exact⟨a,x,b,e,λf=>absurd f k⟩
    ·rw[b,e];rcases aaH u B p.ax 0 l w _ rfl y (λs h=>by rw[List.take_zero,ai,ZW]at h;exact h) (by simp only[Zw];omega)with⟨a,x,k,b,e⟩|⟨g,z,F,A,b,e⟩
     ·exact⟨a,x,b,e,λf=>absurd f k⟩
     ·rw[b,e];obtain⟨a,x,b,e⟩:=av7 (N:=N) B.D A p.cB 0 z rfl;exact⟨a,x,b,e,λ_ i d h=>g i d (Wl _) h⟩
end
def vz(n:Int):(Int64.ofInt n).toInt=i64.wrap n:=by
 have h:=kM n;unfold Y bg aY at h;injection h with h;injection h with h;injection h with _ h;exact h.symm
def Hk(a b:Int64):(a+b).toInt=i64.wrap (a.toInt+b.toInt):=by
 have h:=IF a b;unfold Y bg aY at h;injection h with h;injection h with h;injection h with _ h;exact h.symm
def UK(a b:Int64):(a*b).toInt=i64.wrap (a.toInt*b.toInt):=by
 have h:=nJ a b;unfold Y bg aY at h;injection h with h;injection h with h;injection h with _ h;exact h.symm
def ar9(a b:Int64):(a-b).toInt=i64.wrap (a.toInt-b.toInt):=by
 have h:=Av a b;unfold Y bg aY at h;injection h with h;injection h with h;injection h with _ h;exact h.symm
def n8(a:Int64): -9223372036854775808<=a.toInt/\a.toInt<=9223372036854775807:=mU.1 (ab2 a)
def Cd{a b:Int64}(h:a.toInt=b.toInt):a=b:=Int64.toInt_inj.1 h
def ahA(a b:Int64):Int64.ofInt (a.toInt+b.toInt)=a+b:=Cd (by rw[vz,Hk])
def WA(a b:Int64):Int64.ofInt (a.toInt*b.toInt)=a*b:=Cd (by rw[vz,UK])
def Sx(x:Int)(h:0<=x/\x<18446744073709551616):u64.wrap ((BitVec.ofInt u64.bits x&&&BitVec.ofInt u64.bits 4294967295).toNat:Int)=x%4294967296:=by
 obtain⟨n,rfl⟩:=Int.eq_ofNat_of_zero_le h.1;have e:(BitVec.ofInt u64.bits (n:Int)&&&BitVec.ofInt u64.bits 4294967295).toNat=n%4294967296:=by
  show(BitVec.ofInt 64 (n:Int)&&&BitVec.ofInt 64 4294967295).toNat=_;rw[BitVec.toNat_and];have a:(BitVec.ofInt 64 (n:Int)).toNat=n:=by
   rw[BitVec.toNat_ofInt];omega
  have b:(BitVec.ofInt 64 (4294967295:Int)).toNat=2^32-1:=by decide
  rw[a,b,Nat.and_two_pow_sub_one_eq_mod]
 rw[e,cI];omega
def apU(x:Int):x.fdiv (2^min (32:Int).toNat u64.bits)=x / 4294967296:=by
 show x.fdiv 4294967296=_;rw[Int.fdiv_eq_ediv_of_nonneg _ k7]
def alz(a b:Int)(B:0<=a/\a<18446744073709551616)(C:0<=b/\b<18446744073709551616):
 let c:=a / 4294967296
 let al:=a%4294967296
 let d:=b / 4294967296
 let bl:=b%4294967296
 let W:=u64.wrap
 let f:=W (al*bl)
 let g:=W (W (c*bl)+f / 4294967296)
 let h:=W (W (al*d)+g%4294967296)
 W (W (W (c*d)+g / 4294967296)+h / 4294967296)=a*b / 18446744073709551616:=by
 intro c al d bl W f g h;have k:0<=c/\c<=4294967295:=by omega
 have l:0<=al/\al<=4294967295:=by omega
 have n:0<=d/\d<=4294967295:=by omega
 have o:0<=bl/\bl<=4294967295:=by omega
 have i:∀{x y:Int},(0<=x/\x<=4294967295)->(0<=y/\y<=4294967295)->0<=x*y/\x*y<=18446744065119617025:=λq j=>
  ⟨Int.mul_nonneg q.1 j.1,Int.le_trans (br q.2 j.2 j.1 k7) gy⟩
 have E:=i k n;have F:=i k o;have G:=i l n;have H:=i l o;have e:a*b=18446744073709551616*(c*d)+4294967296*(c*bl)+4294967296*(al*d)+al*bl:=by
  have r:a=4294967296*c+al:=by omega
  have t:b=4294967296*d+bl:=by omega
  have:∀x y z w:Int,(4294967296*x+y)*(4294967296*z+w)=18446744073709551616*(x*z)+4294967296*(x*w)+4294967296*(y*z)+y*w:=λx y z w=>by
   rw[Int.add_mul,Int.mul_add,Int.mul_add];rw[show 4294967296*x*(4294967296*z)=18446744073709551616*(x*z)from by
     rw[b5,Int.mul_left_comm x,<-b5];rfl]
   rw[b5 4294967296 x w,Int.mul_left_comm y];omega
  rw[<-this,<-r,<-t]
 generalize J:c*d=P at*;generalize K:c*bl=Q at*;generalize L:al*d=R at*;generalize M:al*bl=T at*;have u:f=T:=by show u64.wrap _=_;rw[cI];omega
 have v:g=Q+T / 4294967296:=by show u64.wrap (u64.wrap _+f / _)=_;rw[cI,cI,u];omega
 have A:h=R+g%4294967296:=by show u64.wrap (u64.wrap _+g%_)=_;rw[cI,cI];omega
 show u64.wrap (u64.wrap (u64.wrap P+g / 4294967296)+h / 4294967296)=_;rw[cI,cI,cI,e,A,v];omega
def xm(n:Int):0<=u64.wrap n/\u64.wrap n<18446744073709551616:=by rw[cI];omega
def aam(N:Nat)(a b:Int)(c:0<=a/\a<18446744073709551616)(d:0<=b/\b<18446744073709551616):H0 N a b=some (a*b / 18446744073709551616,a*b%18446744073709551616):=by
 unfold H0;simp only[Sx _ c,Sx _ d,Sx _ (xm _),apU];rw[alz a b c d,cI (a*b)]
def F0(N:Nat)(a:Int64):xV N a=some (a.toInt.natAbs:Int):=by
 unfold xV;have:=n8 a;rw[cI,cI];by_cases h:a.toInt<0;{rw[eD h,Tj];congr 1;omega};{rw[Zn h,Tf];congr 1;omega}
def abO(a b:Int):(a.natAbs:Int)*b.natAbs=if(decide (a<0)==decide (b<0))=true then a*b else-(a*b):=by
 by_cases c:a<0<;>by_cases d:b<0;{rw[show(a.natAbs:Int)= -a by omega,show(b.natAbs:Int)= -b by omega,Int.neg_mul_neg];simp [c,d]};{rw[show(a.natAbs:Int)= -a by omega,show(b.natAbs:Int)=b by omega,Int.neg_mul];simp [c,d]};{rw[show(a.natAbs:Int)=a by omega,show(b.natAbs:Int)= -b by omega,Int.mul_neg];simp [c,d]};{rw[show(a.natAbs:Int)=a by omega,show(b.natAbs:Int)=b by omega];simp [c,d]}
def C9(a b:Int64):Int64×Bool:=bif fS (a.toInt*b.toInt)then(a*b,true)else(0,false)
def aga(N:Nat)(a b:Int64):Ib N a b=some (C9 a b):=by
 unfold Ib C9;have i:=n8 a;have j:=n8 b;rw[F0,F0,re,re,aam N _ _ k7 k7,re];dsimp only;have k:0<=(a.toInt.natAbs:Int)*b.toInt.natAbs:=Int.mul_nonneg k7 k7;have l:(a.toInt.natAbs:Int)*b.toInt.natAbs<=85070591730234615865843651857942052864:=
  Int.le_trans (br (show(a.toInt.natAbs:Int)<=9223372036854775808 by omega) (show(b.toInt.natAbs:Int)<=9223372036854775808 by omega) k7 k7) gy
 have e:=abO a.toInt b.toInt;have g:=WA a b;generalize a*b=c at*;generalize (a.toInt.natAbs:Int)*b.toInt.natAbs=q at*;generalize a.toInt*b.toInt=z at*;have f:(bif (q / 18446744073709551616 !=0)then some true else(bif (decide (q%18446744073709551616>9223372036854775808))then some true else(bif (q%18446744073709551616==9223372036854775808)then some (!(!((decide (a.toInt<0))==(decide (b.toInt<0)))))else some false)))=some (!fS z):=by
  have:fS z=(q / 18446744073709551616==0&&(decide (q%18446744073709551616<=9223372036854775808)&&(!(q%18446744073709551616==9223372036854775808)|| !(decide (a.toInt<0)==decide (b.toInt<0))))):=by
   rw[Bool.eq_iff_iff,mU];cases d:decide (a.toInt<0)==decide (b.toInt<0)with
   |true=>
    rw[d,ae rfl]at e;simp only[Zo,bh,UC,TC,decide_eq_true_iff,Tn,VX,Bool.false_eq_true,or_false];omega
   |false=>
    rw[d,af gy]at e;simp only[Zo,bh,UC,TC,decide_eq_true_iff,Tn,Bool.not_false,or_true,and_true];omega
  rw[this,show(q / 18446744073709551616 !=0)= !(q / 18446744073709551616==0)from rfl,To];cases q / 18446744073709551616==0<;>cases decide (q%18446744073709551616<=9223372036854775808)<;>cases q%18446744073709551616==9223372036854775808<;>cases decide (a.toInt<0)==decide (b.toInt<0)<;>rfl
 rw[f,re];cases h:fS z with
 |false=>rfl
 |true=>
  rw[mU]at h;simp only[VX,Tf,Tj];cases d:decide (a.toInt<0)==decide (b.toInt<0)with
  |true=>
   rw[d,ae rfl]at e;rw[Tj,<-g,show q%18446744073709551616=z by omega]
  |false=>
   rw[d,af gy]at e;rw[Tf,<-g]
   congr 2
   refine Cd ?_;rw[vz,vz,cR,cR,cI];omega
def av6(N:Nat)(a b:Int64):Fg N a b=some (a+b,fS (a.toInt+b.toInt)):=by
 unfold Fg;have c:=n8 a;have d:=n8 b
 congr 2
 rw[Hk,cR,Bool.eq_iff_iff,mU,TC,decide_eq_decide];omega
def Ez(b:Int64)(m:bD):bD:=⟨m.ar,m.dh*b⟩
def wO(b:Int64)(m:bD):Bool:=fS (m.dh.toInt*b.toInt)
def UM(a:aK)(b:Int64):pW a b=bif gh a then bif b.toInt==0 then .ok iH else bif fS (a.xK.toInt*b.toInt)&&a.xL.all (wO b)then .ok ⟨a.xK*b,a.xL.map (Ez b)⟩else .error .range else .error .arg:=by
 unfold pW;have:(a.xL.map λm=>(⟨m.ar,Int64.ofInt (m.dh.toInt*b.toInt)⟩:bD))=a.xL.map (Ez b):=Z5 λm _=>by rw[WA];rfl
 rw[this,WA];show(if gh a=true then _ else _)=_;cases gh a with
 |false=>rfl
 |true=>
  by_cases h:b.toInt=0;{rw[ae rfl,ae h,h];rfl};{rw[ae rfl,af h,Tn.2 h];show(if(fS (a.xK.toInt*b.toInt)&&a.xL.all (wO b))=true then _ else _)=_;cases fS (a.xK.toInt*b.toInt)&&a.xL.all (wO b)<;>rfl}
def acS(N:Nat)(q:Int64×Bool)(b:Int64):∀(l:U bD)(k:Nat)(f:Bool)(a:U bD),a.length+l.length<=1000000000->
 I0 N q b l k f a=some (bif f&&l.all (wO b)then((⟨q.1,a++l.map (Ez b)⟩:aK),0)else(iH,3))
 |[],_,f,a,_=>by rw[I0,ai,ZW];cases f<;>rfl
 |m::l,k,f,a,h=>by
  simp only[Zp]at h;rw[I0,aga,re,fi k7,show(bif f then some (C9 m.dh b).2 else some false)=some (f&&(C9 m.dh b).2) by cases f<;>rfl,re];simp only[Tj];rw[acS N q b l (k+1) _ _ (by simp only[Zi,Zp,Zg];omega),Z4,ZY];unfold C9;rw[show wO b m=fS (m.dh.toInt*b.toInt)from rfl];cases fS (m.dh.toInt*b.toInt)with
  |true=>rw[Tj,ZU];cases f<;>rfl
  |false=>cases f<;>rfl
def am5(N:Nat)(c:16<N)(a:aK)(b:Int64)(h:iT 1000000000 a):Ma N a b=some (oT iH (pW a b)):=by
 unfold Ma;rw[Ba N c a h.ok,re,aga,re,acS N _ _ _ _ _ _ (by simp only[Zg];exact(ZQ _).symm▸h),UM];unfold C9;cases gh a with
 |false=>rfl
 |true=>
  cases b.toInt==0 with
  |true=>rfl
  |false=>cases fS (a.xK.toInt*b.toInt)<;>cases a.xL.all (wO b)<;>rfl
def m9(t:so×Int×Int):Bool:=fS (t.2.1+t.2.2)
def jv(t:so×Int×Int):O bD:=if t.2.1+t.2.2=0 then none else some ⟨t.1,Int64.ofInt (t.2.1+t.2.2)⟩
def apt(k:Int)(l:U (so×Int×Int)):Xz k l=bif fS k&&l.all m9 then .ok ⟨Int64.ofInt k,l.filterMap jv⟩else .error .range:=by
 unfold Xz;show(if(fS k&&l.all m9)=true then(Except.ok ⟨Int64.ofInt k,l.filterMap jv⟩:X aK)else _)=_;cases fS k&&l.all m9<;>rfl
def T7(a:U bD):O bD->U bD
 |none=>a
 |some m=>a++[m]
def Fu(N:Nat)(s:so)(x y:Int64)(f:Bool)(K:Int64)(a:U bD)(h:a.length<1000000000):
 ∃L,Bk N s x y f K a=some (f&&fS (x.toInt+y.toInt),L)/\L.length<=a.length+1/\(fS (x.toInt+y.toInt)=true->L=T7 a (jv (s,x.toInt,y.toInt))):=by
 unfold Bk;rw[av6,re,fi k7,show(bif f then some (x+y,fS (x.toInt+y.toInt)).2 else some false)=some (f&&fS (x.toInt+y.toInt)) by cases f<;>rfl,re];dsimp only;have e (b:fS (x.toInt+y.toInt)=true):(x+y).toInt=x.toInt+y.toInt:=by
  rw[mU]at b;rw[Hk,cR];omega
 cases c:(x+y).toInt !=0 with
 |true=>
  refine⟨_,rfl,by simp,λb=> ?_⟩;unfold jv;rw[af (by show ¬x.toInt+y.toInt=0;rw[<-e b];exact Ui.1 c)];show a++[(⟨s,x+y⟩:bD)]=a++[⟨s,Int64.ofInt (x.toInt+y.toInt)⟩];rw[ahA]
 |false=>
  refine⟨_,rfl,cG _,λb=> ?_⟩;unfold jv;rw[ae (by show x.toInt+y.toInt=0;rw[<-e b];exact gw c)];rfl
def auz(a:U bD)(t:so×Int×Int)(l:U (so×Int×Int)):T7 a (jv t)++l.filterMap jv=a++(t::l).filterMap jv:=by
 rw[List.filterMap_cons];cases jv t with
 |none=>rfl
 |some m=>show a++[m]++_=_;rw[ZU];rfl
def FJ{N:Nat}{K:Int64}{n:Nat}{l r:U bD}{f c:Bool}{a L:U bD}{t:so×Int×Int}{T:U (so×Int×Int)}
 (e:∀f a,a.length+l.length+r.length<=1000000000->∃L,oU N K n l r f a=some (f&&T.all m9,L)/\(T.all m9=true->L=a++T.filterMap jv))
 (g:c=(f&&m9 t)) (i:L.length+l.length+r.length<=1000000000) (h:m9 t=true->L=T7 a (jv t)):
 ∃b,oU N K n l r c L=some (f&&(t::T).all m9,b)/\((t::T).all m9=true->b=a++(t::T).filterMap jv):=by
 obtain⟨b,j,k⟩:=e c L i;refine⟨b,?_,λd=> ?_⟩;{rw[j,g,Z4,Bool.and_assoc]};{rw[Z4,Zo]at d;rw[k d.2,h d.1,auz]}
def Dj(N:Nat)(K:Int64):∀(n:Nat)(a b:U bD)(f:Bool)(c:U bD),a.length+b.length<n->c.length+a.length+b.length<=1000000000->
 ∃L,oU N K n a b f c=some (f&&(ga a b).all m9,L)/\((ga a b).all m9=true->L=c++(ga a b).filterMap jv)
 |0,a,b,f,c,h,_=>absurd h (ZJ _)
 |n+1,[],[],f,c,_,_=>by
  rw[oU,ga];exact⟨c,by rw[List.all_nil,Bool.and_true];rfl,λ_=>by rw[List.filterMap_nil,ZW]⟩
 |n+1,x::l,[],f,c,h,d=>by
  simp only[Zp,Zg]at h d;rw[oU,ga];obtain⟨L,e,i,g⟩:=Fu N x.ar x.dh 0 f K c k7;rw[show decide (((x::l).length:Int)>0)=true from eD (by simp only[Zp];omega),show((([]:U bD).length:Int)==0)=true from rfl];simp only[Tj,re,List.getElem?_cons_zero,e,show decide (1<=(x::l).length)=true from eD (by simp only[Zp];omega),List.drop_one,List.tail_cons];exact FJ (λf c d=>Dj N K n l [] f c (by simp only[Zg];omega) d) rfl (by simp only[Zg];omega) g
 |n+1,[],y::r,f,c,h,d=>by
  simp only[Zp,Zg]at h d;rw[oU,ga];obtain⟨L,e,i,g⟩:=Fu N y.ar 0 y.dh f K c k7;rw[show decide (((y::r).length:Int)>0)=true from eD (by simp only[Zp];omega),show(((y::r).length:Int)==0)=false from Tn.2 (by simp only[Zp];omega),show decide ((([]:U bD).length:Int)>0)=false from rfl,show((([]:U bD).length:Int)==0)=true from rfl];simp only[Tj,Tf,re,List.getElem?_cons_zero,e,show decide (1<=(y::r).length)=true from eD (by simp only[Zp];omega),List.drop_one,List.tail_cons];exact FJ (λf c d=>Dj N K n [] r f c (by simp only[Zg];omega) d) rfl (by simp only[Zg];omega) g
 |n+1,x::l,y::r,f,c,h,d=>by
  simp only[Zp]at h d;rw[oU,ga];have k:∀(z:bD)(l:U bD),decide (((z::l).length:Int)>0)=true:=λz l=>eD (by simp only[Zp];omega);have o:∀(z:bD)(l:U bD),(((z::l).length:Int)==0)=false:=λz l=>Tn.2 (by simp only[Zp];omega);have j:∀(z:bD)(l:U bD),decide (1<=(z::l).length)=true:=λz l=>eD (by simp only[Zp];omega);simp only[k,o,Tj,Tf,re,List.getElem?_cons_zero,show Op.bytesLess (bL x.ar) (bL y.ar)=lt x.ar y.ar from rfl,show Op.bytesLess (bL y.ar) (bL x.ar)=lt y.ar x.ar from rfl];cases q:lt x.ar y.ar with
  |true=>
   obtain⟨L,e,i,g⟩:=Fu N x.ar x.dh 0 f K c k7;simp only[Tj,e,re,j,List.drop_one,List.tail_cons,if_true];exact FJ (λf c d=>Dj N K n l (y::r) f c (by simp only[Zp];omega) d) rfl (by simp only[Zp];omega) g
  |false=>
   simp only[Tf,Bool.false_eq_true,if_false];cases t:lt y.ar x.ar with
   |true=>
    obtain⟨L,e,i,g⟩:=Fu N y.ar 0 y.dh f K c k7;simp only[Tj,e,re,j,List.drop_one,List.tail_cons,if_true];exact FJ (λf c d=>Dj N K n (x::l) r f c (by simp only[Zp];omega) d) rfl (by simp only[Zp];omega) g
   |false=>
    obtain⟨L,e,i,g⟩:=Fu N x.ar x.dh y.dh f K c k7;simp only[Tj,Tf,e,re,j,List.drop_one,List.tail_cons,Bool.false_eq_true,if_false];exact FJ (λf c d=>Dj N K n l r f c k7 d) rfl k7 g
def N3(a b:aK):mM a b=bif gh a&&gh b then bif fS (a.xK.toInt+b.xK.toInt)&&(ga a.xL b.xL).all m9 then .ok ⟨a.xK+b.xK,(ga a.xL b.xL).filterMap jv⟩else .error .range else .error .arg:=by
 unfold mM;rw[apt,ahA];cases gh a&&gh b<;>rfl
def ajx(N:Nat)(c:16<N)(a b:aK)(d:a.xL.length+b.xL.length<=1000000000)(e:a.xL.length+b.xL.length<N):Ja N a b=some (oT iH (mM a b)):=by
 unfold Ja N8;have f:lv a:=Ze (Ze (Yp _ _) d) gy;have g:lv b:=Ze (Ze (Nat.le_add_left _ _) d) gy;rw[Ba N c a f,Ba N c b g,re,re,av6,re,N3];dsimp only;obtain⟨L,h,i⟩:=Dj N (a.xK+b.xK) N a.xL b.xL (fS (a.xK.toInt+b.xK.toInt)) [] e (by simp only[Zg];omega);rw[h,re];cases gh a with
 |false=>rfl
 |true=>
  cases gh b with
  |false=>rfl
  |true=>
   cases k:fS (a.xK.toInt+b.xK.toInt)with
   |false=>rfl
   |true=>
    cases j:(ga a.xL b.xL).all m9 with
    |false=>rfl
    |true=>rw[i j];rfl
def anw{α:Type}(p:U α)(x:α)(q:U α):(p++x::q)[p.length]?=some x:=by simp
def aoN{α:Type}(p:U α)(x y:α)(q:U α):(p++x::q).set p.length y=p++y::q:=by simp
def sY(a:Bool)(h n:Int):Int:=bif a then(n+h)%(2*h)-h else max (-h) (min (h-1) n)
def auO(P:Int->Prop)(h:∀k:Fin 30,P (2^(k.val+1))){b:Int}(h1:2<=b)(a:b<=31):P (2^(b-1).toNat):=by
 have:=h ⟨(b-2).toNat,by omega⟩
 rwa [show(b-2).toNat+1=(b-1).toNat by omega]at this
def anI{w:Bool}{h n:Int}(a:0<h)(h1: -h<=n)(b:n<=h-1):sY w h n=n:=by
 unfold sY;cases w;{simp only[Tf];omega};{simp only[Tj];rw[Int.emod_eq_of_lt k7 k7];omega}
def agN{w:Bool}{h n:Int}(a:0<h): -h<=sY w h n/\sY w h n<=h-1:=by
 unfold sY;cases w;{simp only[Tf];omega};{simp only[Tj];have:=Int.emod_nonneg (n+h) (show 2*h≠0 by omega);have:=Int.emod_lt_of_pos (n+h) (show 0<2*h by omega);omega}
def acb{h u n:Int}(c:u*(2*h)=18446744073709551616)(a:0<u)(d:0<h):
 (((n*u)%18446744073709551616+9223372036854775808)%18446744073709551616-9223372036854775808)/ u=(n+h)%(2*h)-h:=by
 have b:u*h=9223372036854775808:=by
  have:u*(2*h)=2*(u*h):=by rw[Int.mul_left_comm]
  omega
 rw[Int.emod_add_emod,<-c];have e:n*u+9223372036854775808=u*(n+h):=by rw[Int.mul_add,b,Int.mul_comm]
 rw[e,Int.mul_emod_mul_of_pos _ _ a,<-b,<-Int.mul_sub,Int.mul_ediv_cancel_left _ k7]
def ai4{n d:Int}(a:0<d):n.tdiv d=if 0<=n then n / d else-((-n)/ d):=by
 split;{exact aj (by assumption)}
 ·have:n= -(-n):=by omega
  conv=>lhs;rw[this]
  rw[Int.neg_tdiv,aj k7]
def aiW{m d:Int}(a:0<d)(b:0<m):(-m)/ d=if m%d=0 then-(m / d)else-(m / d)-1:=by
 have c:=Int.mul_ediv_add_emod m d;have e:=Int.emod_nonneg m (show d≠0 by omega);have f:=Int.emod_lt_of_pos m a;split
 ·rename_i h
  exact((Int.ediv_emod_unique a).2 ⟨(by rw[Int.mul_neg];omega:(0:Int)+d*(-(m / d))= -m),by omega,by omega⟩).1
 ·exact((Int.ediv_emod_unique a).2 ⟨(by rw[Int.mul_sub,Int.mul_neg];omega:(d-m%d)+d*(-(m / d)-1)= -m),by omega,by omega⟩).1
def alo{n d:Int}(a:0<d):(bif decide (n.tdiv d*d>n)then n.tdiv d-1 else n.tdiv d)=n / d:=by
 rw[ai4 a];by_cases h:0<=n;{rw[ae h,Zn (by have:=Int.ediv_mul_le n (show d≠0 by omega);omega)];rfl}
 ·rw[af h];obtain⟨m,rfl⟩:∃m,n= -m:=⟨-n,by omega⟩;rw[Int.neg_neg,aiW a k7,Int.neg_mul];have b:=Int.mul_ediv_add_emod m d;have c:=Int.emod_nonneg m (show d≠0 by omega);rw[Int.mul_comm]at b;split
  ·rw[Zn k7];rfl
  ·rw[eD k7];rfl
def acQ{n d:Int}(a:0<d):(bif decide (n.tmod d<0)then n.tdiv d-1 else n.tdiv d)=n / d:=by
 rw[<-alo a];have h:n.tmod d=n-n.tdiv d*d:=by have:=Int.mul_tdiv_add_tmod n d;rw[Int.mul_comm]at this;omega
 rw[h]
 congr 1
 exact decide_eq_decide.2 k7
def Ei(a b:Int):Int:=bif decide (b<0)then(-a)/(-b)else a / b
def apZ{a b:Int}(e:b≠0):(bif a.tmod b !=0&&(decide (a<0) !=decide (b<0))then a.tdiv b-1 else a.tdiv b)=Ei a b:=by
 have d:∀a b:Int,0<b->(bif a.tmod b !=0&&(decide (a<0) !=false)then a.tdiv b-1 else a.tdiv b)=a / b:=λa b e=>by
  rw[<-acQ e]
  congr 1
  have g:0<=a->0<=a.tmod b:=λh=>Int.tmod_nonneg _ h;have i:a<0->a.tmod b<=0:=λh=>by
   have:a= -(-a):=by omega
   rw[this,Int.neg_tmod];have:=Int.tmod_nonneg b (show 0<=-a by omega);omega
  by_cases h:a<0
  ·rw[eD h];have:=i h;by_cases c:a.tmod b=0
   ·rw[c];rfl
   ·rw[eD k7,Ui.2 c];rfl
  ·rw[Zn h];have:=g k7;rw[Zn (show ¬a.tmod b<0 by omega)];cases (a.tmod b !=0)<;>rfl
 unfold Ei;by_cases h:b<0
 ·rw[eD h];simp only[Tj];rw[<-d (-a) (-b) k7,Int.neg_tmod,Int.tmod_neg,Int.neg_tdiv_neg]
  congr 1
  have j:(-(a.tmod b) !=0)=(a.tmod b !=0):=by
   by_cases c:a.tmod b=0;{rw[c];rfl};{rw[Ui.2 c,Ui.2 (show-(a.tmod b)≠0 by omega)]}
  rw[j];by_cases c:a=0;{subst c;simp}
  ·by_cases f:a<0
   ·rw[eD f,Zn (show ¬-a<0 by omega)];rfl
   ·rw[Zn f,eD (show-a<0 by omega)];rfl
 ·rw[Zn h];simp only[Tf];exact d a b k7
def Cp(a b:Nat)(c:Bool)(how:Int):Bool:=(a%b==0||how==3)||((how==1&& !c)||(how==2&&c))||(how==4&&(decide (2*(a%b)<b)||(2*(a%b)==b&&a / b%2==0)))
def oI(a b:Nat)(c:Bool)(how:Int):Nat:=bif Cp a b c how then a / b else a / b+1
def me(n d:Int)(how:Int):Int:=bif n%d==0||how==1 then n / d else bif how==2 then n / d+1 else bif how==3 then(bif decide (n<0)then n / d+1 else n / d)else bif decide (n%d>d-n%d)||(n%d==d-n%d&&n / d%2 !=0)then n / d+1 else n / d
def avn{a b:Nat}(c:0<b)(d:a%b≠0):(-(a:Int))/(b:Int)= -((a / b:Nat):Int)-1/\(-(a:Int))%(b:Int)=(b:Int)-((a%b:Nat):Int):=by
 have e:a%b<b:=Nat.mod_lt _ c;have f:(b:Int)*((a / b:Nat):Int)+((a%b:Nat):Int)=(a:Int):=by rw[<-Int.natCast_mul,<-Int.natCast_add,Nat.div_add_mod]
 refine(Int.ediv_emod_unique k7).2 ⟨?_,by omega,by omega⟩;rw[Int.mul_sub,Int.mul_neg];omega
def aoq{a b:Nat}(c:0<b)(d:a%b=0):(-(a:Int))/(b:Int)= -((a / b:Nat):Int)/\(-(a:Int))%(b:Int)=0:=by
 have e:(b:Int)*((a / b:Nat):Int)+((a%b:Nat):Int)=(a:Int):=by rw[<-Int.natCast_mul,<-Int.natCast_add,Nat.div_add_mod]
 refine(Int.ediv_emod_unique k7).2 ⟨?_,by omega,by omega⟩;rw[Int.mul_neg];omega
def ak7{a b:Nat}(c:0<b){how:Int}(f:1<=how)(g:how<=4):((oI a b false how:Nat):Int)=me (a:Int) (b:Int) how:=by
 unfold oI Cp me;have d:(a:Int)%(b:Int)=((a%b:Nat):Int):=(Int.natCast_emod a b).symm;have e:(a:Int)/(b:Int)=((a / b:Nat):Int):=(Int.natCast_ediv a b).symm;rw[d,e];have h:=Nat.mod_lt a c;generalize a%b=r at*;generalize a / b=q at*;rcases (by omega:how=1\/how=2\/how=3\/how=4)with rfl|rfl|rfl|rfl<;>simp only[cond_eq_ite]<;>simp<;>(repeat' split)<;>omega
def amu{a b:Nat}(c:0<b)(g:0<a){how:Int}(h:1<=how)(i:how<=4): -((oI a b true how:Nat):Int)=me (-(a:Int)) (b:Int) how:=by
 unfold oI Cp me;have j:=Nat.mod_lt a c;by_cases d:a%b=0;{obtain⟨e,f⟩:=aoq c d;rw[e,f,d];rfl};{obtain⟨e,f⟩:=avn c d;rw[e,f];generalize a%b=r at*;generalize a / b=q at*;rcases (by omega:how=1\/how=2\/how=3\/how=4)with rfl|rfl|rfl|rfl<;>simp only[cond_eq_ite]<;>simp<;>(repeat' split)<;>omega}
def tb(n d how:Int):Int:=bif decide (d<0)then me (-n) (-d) how else me n d how
def ap1(d how:Int):me 0 d how=0:=by unfold me;simp
def asV{n d:Int}(f:d≠0){how:Int}(b:1<=how)(c:how<=4):
 (bif decide (n<0) !=decide (d<0)then-((oI n.natAbs d.natAbs true how:Nat):Int)else((oI n.natAbs d.natAbs false how:Nat):Int))=tb n d how:=by
 have a:∀n d:Int,0<d->(bif decide (n<0)then-((oI n.natAbs d.natAbs true how:Nat):Int)else((oI n.natAbs d.natAbs false how:Nat):Int))=me n d how:=λn d f=>by
  by_cases h:n<0;{rw[eD h];simp only[Tj];rw[amu k7 k7 b c,show-((n.natAbs:Nat):Int)=n by omega,show((d.natAbs:Nat):Int)=d by omega]};{rw[Zn h];simp only[Tf];rw[ak7 k7 b c,show((n.natAbs:Nat):Int)=n by omega,show((d.natAbs:Nat):Int)=d by omega]}
 unfold tb;by_cases h:d<0
 ·rw[eD h];simp only[Tj];by_cases g:n=0
  ·subst g;rw[show(decide ((0:Int)<0) !=true)=true from rfl,Int.neg_zero,ap1];unfold oI Cp;simp
  ·rw[<-a (-n) (-d) k7,Int.natAbs_neg,Int.natAbs_neg]
   congr 1
   by_cases e:n<0;{rw[eD e,Zn (show ¬-n<0 by omega)];rfl};{rw[Zn e,eD (show-n<0 by omega)];rfl}
 ·rw[Zn h];simp only[Tf];rw[<-a n d k7];cases decide (n<0)<;>rfl
def ai7{n d how B:Int}(a:0<d)(b:0<=B)(h1: -B<=n)(c:n<=B): -B<=me n d how/\me n d how<=B+1:=by
 have e: -B<=n / d:=by
  refine Int.le_ediv_of_mul_le a ?_;have:B*1<=B*d:=Y3 k7 b;rw[Int.neg_mul];omega
 have f:n / d<=B:=by
  have:n / d<=n\/n / d<=0:=by
   by_cases h:0<=n;{exact .inl (Int.ediv_le_self _ h)};{exact .inr (Int.le_of_lt (Int.ediv_neg_of_neg_of_pos k7 a))}
  omega
 unfold me;simp only[cond_eq_ite]
 (repeat' split)<;>omega
def aiB{n d:Nat}(a:0<d):Nat.gcd (n / Nat.gcd n d) (d / Nat.gcd n d)=1:=Nat.gcd_div_gcd_div_gcd_of_pos_right a
def iV(t:aQ):Int:=2^(t.bW-1).toNat
def oW(t:aQ):Int:=2^t.bR.toNat
def oe(t:aQ)(n:Int):aH:=⟨Int64.ofInt (sY (t.b8==2) (iV t) n),1⟩
def na(n d:Int):Nat:=Nat.gcd n.natAbs d.natAbs
def Fk(n d:Int):Int:=bif decide (n<0) !=decide (d<0)then-((n.natAbs / na n d:Nat):Int)else((n.natAbs / na n d:Nat):Int)
def l4(n d:Int):aH×Int:=bif d==0 then(dB,4)else bif decide (2147483647<n.natAbs / na n d)||decide (2147483647<d.natAbs / na n d)then(dB,3)else(⟨Int64.ofInt (Fk n d),Int64.ofInt ((d.natAbs / na n d:Nat):Int)⟩,0)
def G5(a b:Int):Int:=bif decide (a<b)then-1 else bif decide (a>b)then 1 else 0
def qM(t:aQ)(a b:aH):Int:=bif dD t&&(dj t a&&dj t b)then bif t.bt==1 then G5 (a.xN.toInt*b.xD.toInt) (b.xN.toInt*a.xD.toInt)else G5 a.xN.toInt b.xN.toInt else 0
def M1(c:Int)(t:aQ)(a b:Int):aH×Int:=bif c==4 then(oe t (a+b),0)else bif c==5 then(oe t (a-b),0)else bif c==6 then(oe t (me (a*b) (oW t) t.b9),0)else bif c==8 then(oe t (-a),0)else bif b==0 then(dB,4)else(oe t (tb (a*oW t) b t.b9),0)
def zQ(c a b:Int):aH×Int:=
 bif c==7&&b==0 then(dB,4)
 else
  let n:=bif c==4 then a+b else bif c==5 then a-b else bif c==6 then a*b else bif c==7 then Ei a b else-a
  bif decide (-2147483647<=n)&&decide (n<=2147483647)then(⟨Int64.ofInt n,1⟩,0)else(dB,3)
def Aa(c:Int)(a b:aH):aH×Int:=bif c==4 then l4 (a.xN.toInt*b.xD.toInt+b.xN.toInt*a.xD.toInt) (a.xD.toInt*b.xD.toInt)else bif c==5 then l4 (a.xN.toInt*b.xD.toInt-b.xN.toInt*a.xD.toInt) (a.xD.toInt*b.xD.toInt)else bif c==6 then l4 (a.xN.toInt*b.xN.toInt) (a.xD.toInt*b.xD.toInt)else bif c==7 then l4 (a.xN.toInt*b.xD.toInt) (a.xD.toInt*b.xN.toInt)else(⟨-a.xN,a.xD⟩,0)
def lr(c:Int)(t:aQ)(a b:aH):aH×Int:=bif decide (c<4)||decide (c>10)then(dB,1)else bif !dD t then(dB,10)else bif !dj t a||(!(c==8)&& !dj t b)then(dB,1)else bif c==9 then(bif decide (qM t a b>0)then b else a,0)else bif c==10 then(bif decide (qM t a b<0)then b else a,0)else bif t.bt==2 then M1 c t a.xN.toInt b.xN.toInt else bif t.bt==3 then zQ c a.xN.toInt b.xN.toInt else Aa c a b
def sT(t:aQ)(v:aH):aH:=bif t.bt==2 then(l4 v.xN.toInt (oW t)).1 else v
def vl(from_ B5:aQ)(v:aH):aH×Int:=
 bif !dD from_|| !dD B5 then(dB,10)else bif !dj from_ v then(dB,1)
 else
  let x:=sT from_ v
  bif B5.bt==3 then(⟨Int64.ofInt (x.xN.toInt / x.xD.toInt),1⟩,0)else bif B5.bt==2 then(oe B5 (me (x.xN.toInt*oW B5) x.xD.toInt B5.b9),0)else(x,0)
structure AT(t:aQ):Prop where
 b1:2<=t.bW
 b2:t.bW<=31
 f1:0<=t.bR
 f2:t.bR<=30
 r1:1<=t.b9
 r2:t.b9<=4
 o:t.b8=1\/t.b8=2
def ni{t:aQ}(h:dD t=true)(b:t.bt=2):AT t:=by
 unfold dD at h;rw[b]at h;have a:(decide (2<=t.bW)&&(decide (t.bW<=31)&&(decide (0<=t.bR)&&(decide (t.bR<=30)&&(decide (1<=t.b9)&&(decide (t.b9<=4)&&(t.b8==1||t.b8==2)))))))=true:=h;simp only[Zo,UL,bh,TC]at a;obtain⟨c,d,e,f,g,i,j⟩:=a;exact⟨c,d,e,f,g,i,j⟩
def kinds{t:aQ}(h:dD t=true):t.bt=1\/t.bt=2\/t.bt=3:=by
 unfold dD at h;by_cases a:t.bt=1;{exact .inl a}
 ·by_cases b:t.bt=2
  ·exact .inr (.inl b)
  ·by_cases c:t.bt=3
   ·exact .inr (.inr c)
   ·simp [a,b,c]at h
def H6{t:aQ}(f:AT t):2<=iV t/\iV t<=1073741824:=
 auO (λx=>2<=x/\x<=1073741824) gy f.b1 f.b2
def aaj(P:Int->Prop)(h:∀k:Fin 31,P (2^k.val)){b:Int}(h1:0<=b)(a:b<=30):P (2^b.toNat):=
 h ⟨b.toNat,by omega⟩
def afG{t:aQ}(f:AT t):1<=oW t/\oW t<=1073741824:=
 aaj (λx=>1<=x/\x<=1073741824) gy f.f1 f.f2
structure ML(t:aQ)(v:aH):Prop where
 d:v.xD.toInt=1
 n1: -iV t<=v.xN.toInt
 n2:v.xN.toInt<=iV t-1
def uP{t:aQ}{v:aH}(h:dj t v=true)(b:t.bt=2):ML t v:=by
 unfold dj at h;rw[b]at h;have a:(v.xD.toInt==1&&(decide (-(2^(t.bW-1).toNat)<=v.xN.toInt)&&decide (v.xN.toInt<2^(t.bW-1).toNat)))=true:=h;simp only[Zo,UL,TC]at a;obtain⟨c,d,e⟩:=a;exact⟨c,d,by unfold iV;omega⟩
structure jS(v:aH):Prop where
 n1: -2147483647<=v.xN.toInt
 n2:v.xN.toInt<=2147483647
 d1:1<=v.xD.toInt
 d2:v.xD.toInt<=2147483647
 g:Nat.gcd v.xN.toInt.natAbs v.xD.toInt.toNat=1
def ua{t:aQ}{v:aH}(h:dj t v=true)(c:t.bt≠2):jS v:=by
 unfold dj at h;rw[Wn c]at h;simp only[Tf,Zo,UL]at h;obtain⟨d,e,f,g,a⟩:=h;refine⟨e,d,f,g,?_⟩;cases b:t.bt==3 with
 |true=>
  rw[b]at a;have i:v.xD.toInt=1:=by simpa using a
  rw[i];exact Nat.gcd_one_right _
 |false=>rw[b]at a;simpa using a
def akA{t:aQ}{v:aH}(h:dj t v=true)(b:t.bt=3):v.xD.toInt=1:=by
 unfold dj at h;rw[b]at h;have a:(decide (v.xN.toInt<=2147483647)&&(decide (-2147483647<=v.xN.toInt)&&(decide (1<=v.xD.toInt)&&(decide (v.xD.toInt<=2147483647)&&(v.xD.toInt==1)))))=true:=h;simp only[Zo,TC]at a;exact a.2.2.2.2
def pf{n:Int}(h1: -9223372036854775808<=n)(a:n<=9223372036854775807):(Int64.ofInt n).toInt=n:=Int64.toInt_ofInt_of_le k7 k7
structure amh(n d:Int)(v:aH):Prop where
 n1: -2147483647<=v.xN.toInt
 n2:v.xN.toInt<=2147483647
 d1:1<=v.xD.toInt
 d2:v.xD.toInt<=2147483647
 g:Nat.gcd v.xN.toInt.natAbs v.xD.toInt.toNat=1
 en:v.xN.toInt=Fk n d
 ed:v.xD.toInt=((d.natAbs / na n d:Nat):Int)
def ac9{n d:Int}{v:aH}(h:l4 n d=(v,0)):amh n d v:=by
 unfold l4 at h;by_cases e:d=0;{subst e;cases h}
 ·rw[Wn e]at h;simp only[Tf]at h;cases c:(decide (2147483647<n.natAbs / na n d)||decide (2147483647<d.natAbs / na n d))with
  |true=>rw[c]at h;cases h
  |false=>
   rw[c]at h;cases h
   rw[Yy,UF,UF]at c;have f:0<na n d:=Nat.gcd_pos_of_pos_right _ k7;have i:0<d.natAbs / na n d:=Nat.div_pos (Nat.le_of_dvd k7 (Nat.gcd_dvd_right _ _)) f;have g:(Fk n d).natAbs=n.natAbs / na n d:=by
     unfold Fk;cases (decide (n<0) !=decide (d<0));{exact Int.natAbs_natCast _};{exact(Int.natAbs_neg _).trans (Int.natAbs_natCast _)}
   have a:=pf (n:=Fk n d) k7 k7;have b:=pf (n:=((d.natAbs / na n d:Nat):Int)) k7 k7;refine⟨?_,?_,?_,?_,?_,a,b⟩;{show _<=(Int64.ofInt _).toInt;rw[a];omega};{show(Int64.ofInt _).toInt<=_;rw[a];omega};{show _<=(Int64.ofInt _).toInt;rw[b];omega};{show(Int64.ofInt _).toInt<=_;rw[b];omega};{show Nat.gcd (Int64.ofInt _).toInt.natAbs (Int64.ofInt _).toInt.toNat=1;rw[a,b,g,ZR];exact aiB k7}
def alT{n S:Int}(h1: -1073741824<=n)(a:n<=1073741824)(b:1<=S)(c:S<=1073741824):∃v,l4 n S=(v,0):=by
 unfold l4;rw[Wn (show S≠0 by omega)];have d:n.natAbs / na n S<=n.natAbs:=Nat.div_le_self _ _;have e:S.natAbs / na n S<=S.natAbs:=Nat.div_le_self _ _;rw[Zn (show ¬2147483647<n.natAbs / na n S by omega),Zn (show ¬2147483647<S.natAbs / na n S by omega)];exact⟨_,rfl⟩
def auG{a b:aH}(h1:a.xN.toInt=b.xN.toInt)(c:a.xD.toInt=b.xD.toInt):a=b:=by
 cases a;cases b
 congr 1;{exact Int64.toInt_inj.1 h1};{exact Int64.toInt_inj.1 c}
def abY{t:aQ}{v:aH}(c:dD t=true)(b:dj t v=true):jS (sT t v):=by
 unfold sT;rcases kinds c with a|a|a
 ·rw[a];exact ua b k7
 ·rw[a];have F:=ni c a;have A:=uP b a;have f:=H6 F;have d:=afG F;obtain⟨x,e⟩:=alT (n:=v.xN.toInt) (S:=oW t) (by have:=A.n1;omega) (by have:=A.n2;omega) d.1 d.2;have L:=ac9 e;show jS (l4 v.xN.toInt (oW t)).1;rw[e];exact⟨L.n1,L.n2,L.d1,L.d2,L.g⟩
 ·rw[a];exact ua b k7
def Va{a b:Int64}(h1: -9223372036854775808<=a.toInt+b.toInt)(c:a.toInt+b.toInt<=9223372036854775807):(a+b).toInt=a.toInt+b.toInt:=by rw[Hk,cR];omega
def FA{a b:Int64}(h1: -9223372036854775808<=a.toInt-b.toInt)(c:a.toInt-b.toInt<=9223372036854775807):(a-b).toInt=a.toInt-b.toInt:=by rw[ar9,cR];omega
def ac5{a b:Int64}(h1: -9223372036854775808<=a.toInt*b.toInt)(c:a.toInt*b.toInt<=9223372036854775807):(a*b).toInt=a.toInt*b.toInt:=by rw[UK,cR];omega
def LV{a:Int64}(h1: -9223372036854775807<=a.toInt):(-a).toInt= -a.toInt:=by
 have:=Int64.toInt_lt a;rw[Int64.toInt_neg,Int.bmod_def];omega
def U7{a b A B:Int}(e: -A<=a)(f:a<=A)(g: -B<=b)(h:b<=B): -(A*B)<=a*b/\a*b<=A*B:=by
 have c:a.natAbs<=A.natAbs:=by omega
 have d:b.natAbs<=B.natAbs:=by omega
 have i:(a*b).natAbs<=(A*B).natAbs:=by rw[Int.natAbs_mul,Int.natAbs_mul];exact Nat.mul_le_mul c d
 have j:0<=A*B:=Int.mul_nonneg k7 k7;omega
def ave:∀n:Fin 31,u64.wrap (n.val:Int)=(n.val:Int)/\(Int64.ofInt ((1:Int)*2^(min n.val (IntKind.bits .i64)))).toInt=2^n.val/\min n.val (IntKind.bits .i64)=n.val:=by decide+kernel
def Li{f:Int}(h1:0<=f)(a:f<=30):u64.wrap f=f/\(Int64.ofInt ((1:Int)*2^(min f.toNat (IntKind.bits .i64)))).toInt=2^f.toNat/\min f.toNat (IntKind.bits .i64)=f.toNat:=by
 obtain⟨n,rfl⟩:∃n:Nat,f=n:=⟨f.toNat,by omega⟩;have:=ave ⟨n,by omega⟩
 simpa using this
def ak4:∀n:Fin 30,(decide ((0:Int)<=(u64.wrap (aY ((64:Int)-((n.val+2:Nat):Int))))))=true/\min (u64.wrap (aY ((64:Int)-((n.val+2:Nat):Int)))).toNat (IntKind.bits .u64)=62-n.val/\
 min (u64.wrap (aY ((64:Int)-((n.val+2:Nat):Int)))).toNat (IntKind.bits .i64)=62-n.val/\(2:Int)^(62-n.val)*(2*2^(n.val+1))=18446744073709551616/\(0:Int)<2^(62-n.val):=by decide+kernel
def amB{b:Int}(h1:2<=b)(a:b<=31):∃k:Nat,(decide ((0:Int)<=(u64.wrap (aY ((64:Int)-b)))))=true/\min (u64.wrap (aY ((64:Int)-b))).toNat (IntKind.bits .u64)=k/\
 min (u64.wrap (aY ((64:Int)-b))).toNat (IntKind.bits .i64)=k/\(2:Int)^k*(2*2^(b-1).toNat)=18446744073709551616/\(0:Int)<2^k:=by
 obtain⟨n,rfl⟩:∃n:Nat,b=n:=⟨b.toNat,by omega⟩;have:=ak4 ⟨n-2,by omega⟩;simp only[show n-2+2=n by omega,show n-2+1=n-1 by omega]at this;rw[show((n:Int)-1).toNat=n-1 by omega];exact⟨_,this⟩
def RL(n:Int64):Int64.ofInt n.toInt=n:=Cd (by rw[vz,cR];have:=n8 n;omega)
def TR{q:Int64}{z:Int}(h:q.toInt=z):q=Int64.ofInt z:=by rw[<-h,RL]
def Ep(N:Nat){t:aQ}(F:AT t)(n:Int64):q9 N t n=some (oe t n.toInt):=by
 obtain⟨j,z,d,e,A,B⟩:=avL F.b1 F.b2;obtain⟨k,l,q,r,f,g⟩:=amB F.b1 F.b2;have i:=H6 F;unfold q9 Wa F9 Fl Dh;rw[kx,re,re,qA,eD F.b1,eD F.b2];simp only[Bool.and_self,Tj];rw[j,l];simp only[Tj,re];rw[d,e,q,r]
 change _=some (⟨Int64.ofInt (sY (t.b8==2) (iV t) n.toInt),1⟩:aH)
 have u:(-(Int64.ofInt ((1:Int)*2^(min (u64.wrap (aY (t.bW-(1:Int)))).toNat (IntKind.bits .i64)))))=Int64.ofInt (-iV t):=TR d;have v:((Int64.ofInt ((1:Int)*2^(min (u64.wrap (aY (t.bW-(1:Int)))).toNat (IntKind.bits .i64))))-(1:Int64))=Int64.ofInt (iV t-1):=TR e;rw[u,v,qA,kx];have w:(decide (-(2^(t.bW-1).toNat)<=n.toInt)&&decide (n.toInt<=2^(t.bW-1).toNat-1))=(decide (-iV t<=n.toInt)&&decide (n.toInt<=iV t-1)):=rfl;have x:(t.b8 !=1&&t.b8 !=2)=false:=by rcases F.o with h|h<;>rw[h]<;>rfl
 rw[x];simp only[re,Tf];rw[kx,w];by_cases b: -iV t<=n.toInt
 ·by_cases c:n.toInt<=iV t-1
  ·rw[eD b,eD c,anI k7 b c,RL];rfl
  ·rw[eD b,Zn c];simp only[Bool.and_false,Tf];rcases F.o with a|a
   ·rw[a,Zn (show ¬n.toInt< -2^(t.bW-1).toNat from λh=>by have:n.toInt< -iV t:=h;omega)];simp only[Z3,Tj,re,Tf];rw[show((1:Int)==2)=false from rfl];unfold sY;simp only[Tf];rw[show max (-iV t) (min (iV t-1) n.toInt)=iV t-1 by omega]
   ·rw[a];show some (⟨Int64.ofInt (((Int64.ofInt _).toInt).fdiv (2^k)),1⟩:aH)=_;rw[vz,cR,nG,nG,Int.fdiv_eq_ediv_of_nonneg _ k7,Int.mul_emod,Int.emod_emod,<-Int.mul_emod,acb f g (by unfold iV at i;omega)];rfl
 ·rw[Zn b];simp only[Bool.false_and,Tf];rcases F.o with a|a
  ·have y:n.toInt< -iV t:=by omega
   rw[a,eD (show n.toInt< -2^(t.bW-1).toNat from y)];simp only[Z3,Tj,re];rw[show((1:Int)==2)=false from rfl];unfold sY;simp only[Tf];rw[show max (-iV t) (min (iV t-1) n.toInt)= -iV t by omega];rfl
  ·rw[a];show some (⟨Int64.ofInt (((Int64.ofInt _).toInt).fdiv (2^k)),1⟩:aH)=_;rw[vz,cR,nG,nG,Int.fdiv_eq_ediv_of_nonneg _ k7,Int.mul_emod,Int.emod_emod,<-Int.mul_emod,acb f g (by unfold iV at i;omega)];rfl
def an5(N:Nat)(e:2147483648<N){t:aQ}(v:aH)(c:dD t=true)(f:t.bt=2):vq N t v=some (dj t v):=by
 have h:=rI N e t v c;unfold nR at h;rw[sS,c,re,f]at h;have a:Option.bind (vq N t v) (λx=>some x)=some (dj t v):=h;cases d:vq N t v with
 |none=>rw[d]at a;cases a
 |some b=>rw[d]at a;exact a
def F7:aQ:=⟨1,0,0,0,0⟩
def ady:dD F7=true:=rfl
def qx(N:Nat)(d:2147483648<N)(v:aH):ma N v=some (dj F7 v):=by
 have h:=rI N d F7 v ady;unfold nR at h;rw[sS,ady,re]at h;have a:Option.bind (ma N v) (λx=>some x)=some (dj F7 v):=h;cases c:ma N v with
 |none=>rw[c]at a;cases a
 |some b=>rw[c]at a;exact a
def jS.ok{v:aH}(h:jS v):dj F7 v=true:=by
 unfold dj;show(decide (v.xN.toInt<=2147483647)&&(decide (-2147483647<=v.xN.toInt)&&(decide (1<=v.xD.toInt)&&(decide (v.xD.toInt<=2147483647)&&(Nat.gcd v.xN.toInt.natAbs v.xD.toInt.toNat==1)))))=true;rw[eD h.n2,eD h.n1,eD h.d1,eD h.d2,h.g];rfl
def aik(N:Nat)(a:2147483648<N){t:aQ}(b:dD t=true)(c:t.bt=2):∀(l:U aH)(k:Nat),(∀v∈l,dj t v=true)->P5 N t l k=some 0
 |[],_,_=>rfl
 |v::l,k,h=>by
  rw[P5,an5 N a v b c,h v Zt];exact aik N a b c l (k+1) λx d=>h x (Zk _ d)
def adF(N:Nat){t:aQ}(b:dD t=true)(a:t.bt=2):yv N t=some 0:=by
 have F:=ni b a;have c:(t.b8==1||t.b8==2)=true:=by rcases F.o with h|h<;>rw[h]<;>rfl
 rw[Sy N t (by rw[a];rfl),eD F.b1,eD F.b2,eD F.f1,eD F.f2,eD F.r1,eD F.r2,c];rfl
def aeX(N:Nat)(c:2147483648<N){t:aQ}(a:dD t=true)(b:t.bt=2){l:U aH}(h:∀v∈l,dj t v=true):tF N t l=some 0:=by
 unfold tF;rw[adF N a b,re];exact aik N c a b l 0 h
def aqL{a b:Nat}(d:0<b)(o:a<=9223372036854775808)(r:b<=9223372036854775808)(c:Bool)(how:Int):vu (a:Int) (b:Int) c how=((oI a b c how:Nat):Int):=by
 have t:a / b<=a:=Nat.div_le_self _ _;have u:a%b<b:=Nat.mod_lt _ d;have e:u64.wrap ((a:Int).tdiv (b:Int))=((a / b:Nat):Int):=by rw[<-Int.ofNat_tdiv,nG];generalize a / b=q at*;omega
 have f:(a:Int).tmod (b:Int)=((a%b:Nat):Int):=(Int.ofNat_tmod a b).symm;have g:u64.wrap (2*((a%b:Nat):Int))=((2*(a%b):Nat):Int):=by rw[nG];generalize a%b=q at*;omega
 have h:u64.wrap (((a / b:Nat):Int)+1)=((a / b+1:Nat):Int):=by rw[nG];generalize a / b=q at*;omega
 have i:((a / b:Nat):Int).tmod 2=((a / b%2:Nat):Int):=(Int.ofNat_tmod (a / b) 2).symm;unfold vu jh oI Cp;simp only[e,f,g,h,i];have j:(((a%b:Nat):Int)==0)=(a%b==0):=ry _ 0;have k:decide (((2*(a%b):Nat):Int)<(b:Int))=decide (2*(a%b)<b):=sO k7;have l:(((2*(a%b):Nat):Int)==(b:Int))=(2*(a%b)==b):=ry _ _;have n:(((a / b%2:Nat):Int)==0)=(a / b%2==0):=ry _ 0;rw[j,k,l,n];generalize ((a%b==0||how==3)||((how==1&& !c)||(how==2&&c))||(how==4&&(decide (2*(a%b)<b)||(2*(a%b)==b&&a / b%2==0))))=z;cases z<;>rfl
def afU(N:Nat)(v:Int64):Jp N v=some ((v.toInt.natAbs:Nat):Int):=by
 unfold Jp;have:=n8 v;by_cases h:v.toInt<0
 ·rw[eD h];simp only[Tj,nG]
  congr 1
  omega
 ·rw[Zn h];simp only[Tf,nG]
  congr 1
  omega
def atk{a b:Nat}(c:Bool)(how:Int):oI a b c how<=a+1:=by
 have d:a / b<=a:=Nat.div_le_self _ _;unfold oI;cases Cp a b c how;{simp only[Tf];omega};{simp only[Tj];omega}
def WH(N:Nat)(n d:Int64){how:Int}(h1:1<=how)(g:how<=4)(j: -4611686018427387904<=n.toInt)(k:n.toInt<=4611686018427387904):
 Bu N n d how=some (bif d.toInt==0 then(0,4)else(Int64.ofInt (tb n.toInt d.toInt how),0)):=by
 unfold Bu FL;rw[qA,kx,eD h1,eD g];simp only[Bool.and_self,re,Tj];by_cases e:d.toInt=0;{rw[e];rfl}
 ·have l:=n8 d;rw[Wn e];simp only[Tf];rw[afU,afU];unfold WQ;simp only[re];rw[show(((d.toInt.natAbs:Nat):Int) !=0)=true by rw[Ui];omega];simp only[Tj,re];rw[aqL k7 k7 k7];have c:=asV (n:=n.toInt) (d:=d.toInt) e h1 g;have h:=atk (a:=n.toInt.natAbs) (b:=d.toInt.natAbs);cases i:(decide (n.toInt<0)==decide (d.toInt<0))with
  |true=>
   have f:(decide (n.toInt<0) !=decide (d.toInt<0))=false:=by unfold bne;rw[i];rfl
   rw[f]at c;simp only[Tf]at c;have:=h false how;simp only[VX,Tj];rw[qA,Zn (show ¬(9223372036854775808:Int)<=((oI n.toInt.natAbs d.toInt.natAbs false how:Nat):Int) by omega)];simp only[Tf];rw[c]
  |false=>
   have f:(decide (n.toInt<0) !=decide (d.toInt<0))=true:=by unfold bne;rw[i];rfl
   rw[f]at c;simp only[Tj]at c;have:=h true how;simp only[Bool.not_false,Tf];rw[<-c]
   congr 2
   refine Cd ?_;rw[vz,vz,nG,cR,cR];omega
def wa{t:aQ}(F:AT t){v:aH}(V:ML t v): -1073741824<=v.xN.toInt/\v.xN.toInt<=1073741824:=by
 have:=H6 F;have:=V.n1;have:=V.n2;omega
structure Fx(N:Nat)(t:aQ)(a b:aH):Prop where
 hN:2147483648<N
 ht:dD t=true
 hk:t.bt=2
 ha:dj t a=true
 hb:dj t b=true
def Fx.gN{N:Nat}{t:aQ}{a b:aH}(h:Fx N t a b):tF N t [a,b]=some 0:=aeX N h.hN h.ht h.hk λv c=>by
 simp only[Za,Yt,or_false]at c;rcases c with rfl|rfl
 ·exact h.ha
 ·exact h.hb
def aqn{N:Nat}{t:aQ}{a:aH}(h:Fx N t a a):JK N t a=some (oe t (-a.xN.toInt),0):=by
 have B:=wa (ni h.ht h.hk) (uP h.ha h.hk);unfold JK QQ QG;rw[h.gN];show Option.bind (Option.bind (q9 N t (-a.xN)) (λb=>some (b,0))) _=_;rw[Ep N (ni h.ht h.hk),LV k7];rfl
def auM{N:Nat}{t:aQ}{a b:aH}(h:Fx N t a b):Gb N t a b=some (oe t (a.xN.toInt+b.xN.toInt),0):=by
 have B:=wa (ni h.ht h.hk) (uP h.ha h.hk);have C:=wa (ni h.ht h.hk) (uP h.hb h.hk);unfold Gb QF Uv;rw[h.gN];show Option.bind (Option.bind (q9 N t (a.xN+b.xN)) (λc=>some (c,0))) _=_;rw[Ep N (ni h.ht h.hk),Va k7 k7];rfl
def atJ{N:Nat}{t:aQ}{a b:aH}(h:Fx N t a b):F3 N t a b=some (oe t (a.xN.toInt-b.xN.toInt),0):=by
 have B:=wa (ni h.ht h.hk) (uP h.ha h.hk);have C:=wa (ni h.ht h.hk) (uP h.hb h.hk);unfold F3 TU QH;rw[h.gN];show Option.bind (Option.bind (q9 N t (a.xN-b.xN)) (λc=>some (c,0))) _=_;rw[Ep N (ni h.ht h.hk),FA k7 k7];rfl
def Mb{n d how:Int}(a:0<d)(h1: -4611686018427387904<=n)(b:n<=4611686018427387904):(Int64.ofInt (me n d how)).toInt=me n d how:=by
 have:=ai7 (how:=how) a (B:=4611686018427387904) gy h1 b;exact pf k7 k7
def apJ{n d how:Int}(b:d≠0)(h1: -4611686018427387904<=n)(a:n<=4611686018427387904):(Int64.ofInt (tb n d how)).toInt=tb n d how:=by
 unfold tb;by_cases h:d<0;{rw[eD h];exact Mb k7 k7 k7};{rw[Zn h];exact Mb k7 h1 a}
def av5{n d how:Int}(a:0<d):tb n d how=me n d how:=by unfold tb;rw[Zn (show ¬d<0 by omega)];rfl
def apC{N:Nat}{t:aQ}{a b:aH}(h:Fx N t a b):HU N t a b=some (oe t (me (a.xN.toInt*b.xN.toInt) (oW t) t.b9),0):=by
 have F:=ni h.ht h.hk;have B:=wa F (uP h.ha h.hk);have C:=wa F (uP h.hb h.hk);have M:=U7 B.1 B.2 C.1 C.2;have S:=afG F;obtain⟨f,c,g⟩:=Li F.f1 F.f2;unfold HU UE V8;have e:=ac5 (a:=a.xN) (b:=b.xN) k7 k7;have d:(Int64.ofInt ((1:Int)*2^(min (t.bR).toNat (IntKind.bits .i64)))).toInt=oW t:=c;rw[h.gN,eD F.f1,WH N _ _ F.r1 F.r2 (by rw[e];omega) (by rw[e];omega),d,e,Wn (show oW t≠0 by omega)];simp only[re,Tj,Tf,bne_self_eq_false];rw[Ep N F,av5 k7,Mb k7 k7 k7];rfl
def acM{n:Int64}{f:Int}(h1:0<=f)(a:f<=30)(b: -4294967296<=n.toInt)(c:n.toInt<=4294967296):
 (Int64.ofInt (n.toInt*2^(min f.toNat (IntKind.bits .i64)))).toInt=n.toInt*2^f.toNat/\-4611686018427387904<=n.toInt*2^f.toNat/\n.toInt*2^f.toNat<=4611686018427387904:=by
 obtain⟨e,g,d⟩:=Li h1 a;have S:=aaj (λx=>1<=x/\x<=1073741824) gy h1 a;have M:=U7 b c (show-1073741824<=2^f.toNat by omega) S.2;rw[d];exact⟨pf k7 k7,by omega,by omega⟩
def akF{N:Nat}{t:aQ}{a b:aH}(h:Fx N t a b):Jq N t a b=some (bif b.xN.toInt==0 then(dB,4)else(oe t (tb (a.xN.toInt*oW t) b.xN.toInt t.b9),0)):=by
 have F:=ni h.ht h.hk;have B:=wa F (uP h.ha h.hk);obtain⟨e,d,f⟩:=acM (n:=a.xN) F.f1 F.f2 k7 k7;unfold Jq Xx VS;rw[h.gN,eD F.f1,WH N _ _ F.r1 F.r2 (by rw[e];omega) (by rw[e];omega),e];by_cases c:b.xN.toInt=0;{rw[c];rfl};{rw[Wn c];simp only[re,Tj,Tf,bne_self_eq_false];rw[Ep N F,apJ c d f];rfl}
def H7(N:Nat)(i:9223372036854775808<N)(n d:Int64):wB N n d=some (l4 n.toInt d.toInt):=by
 unfold wB l4;have j:=n8 n;have e:=n8 d;by_cases a:d.toInt=0;{rw[a];rfl}
 ·rw[Wn a];simp only[Tf];rw[Vd,Vd];unfold EK;simp only[re];rw[Ws N N _ _ k7];simp only[re];have k:0<Nat.gcd n.toInt.natAbs d.toInt.natAbs:=Nat.gcd_pos_of_pos_right _ k7;rw[show(((Nat.gcd n.toInt.natAbs d.toInt.natAbs:Nat):Int) !=0)=true by rw[Ui];omega]
  change _=some (bif decide (2147483647<n.toInt.natAbs / Nat.gcd n.toInt.natAbs d.toInt.natAbs)||decide (2147483647<d.toInt.natAbs / Nat.gcd n.toInt.natAbs d.toInt.natAbs)then(dB,3)else(⟨Int64.ofInt (bif decide (n.toInt<0) !=decide (d.toInt<0)then-((n.toInt.natAbs / Nat.gcd n.toInt.natAbs d.toInt.natAbs:Nat):Int)else((n.toInt.natAbs / Nat.gcd n.toInt.natAbs d.toInt.natAbs:Nat):Int)),Int64.ofInt ((d.toInt.natAbs / Nat.gcd n.toInt.natAbs d.toInt.natAbs:Nat):Int)⟩,0))
  generalize f:Nat.gcd n.toInt.natAbs d.toInt.natAbs=g at*;have l:n.toInt.natAbs / g<=n.toInt.natAbs:=Nat.div_le_self _ _;have o:d.toInt.natAbs / g<=d.toInt.natAbs:=Nat.div_le_self _ _;have b:u64.wrap ((n.toInt.natAbs:Int).tdiv (g:Int))=((n.toInt.natAbs / g:Nat):Int):=by rw[<-Int.ofNat_tdiv,nG];generalize n.toInt.natAbs / g=q at*;omega
  have c:u64.wrap ((d.toInt.natAbs:Int).tdiv (g:Int))=((d.toInt.natAbs / g:Nat):Int):=by rw[<-Int.ofNat_tdiv,nG];generalize d.toInt.natAbs / g=q at*;omega
  simp only[Tj];rw[b,c,sD,re,sO (p:=((n.toInt.natAbs / g:Nat):Int)>2147483647) (q:=2147483647<n.toInt.natAbs / g) k7,sO (p:=((d.toInt.natAbs / g:Nat):Int)>2147483647) (q:=2147483647<d.toInt.natAbs / g) k7];cases h:(decide (2147483647<n.toInt.natAbs / g)||decide (2147483647<d.toInt.natAbs / g))with
  |true=>rfl
  |false=>
   rw[Yy,UF,UF]at h;unfold bne;cases (decide (n.toInt<0)==decide (d.toInt<0))with
   |true=>rfl
   |false=>
    simp only[Tf,Bool.not_false,Tj];clear b c;generalize n.toInt.natAbs / g=p at*;generalize d.toInt.natAbs / g=q at*
    congr 3
    refine Cd ?_;rw[LV (by rw[pf]<;>omega),pf k7 k7,pf k7 k7]
def FC{a b:Int}(c: -2147483647<=a)(d:a<=2147483647)(e: -2147483647<=b)(f:b<=2147483647): -4611686014132420609<=a*b/\a*b<=4611686014132420609:=by
 have:=U7 c d e f;omega
def jS.d0{v:aH}(h:jS v): -2147483647<=v.xD.toInt:=by have:=h.d1;omega
def pM{a b:Int64}(h1: -2147483647<=a.toInt)(c:a.toInt<=2147483647)(d: -2147483647<=b.toInt)(e:b.toInt<=2147483647):(a*b).toInt=a.toInt*b.toInt:=by
 have:=FC h1 c d e;exact ac5 k7 k7
def ajS{a b:aH}(A:jS a)(B:jS b):(a.xN*b.xD+b.xN*a.xD).toInt=a.xN.toInt*b.xD.toInt+b.xN.toInt*a.xD.toInt:=by
 have p:=FC A.n1 A.n2 B.d0 B.d2;have q:=FC B.n1 B.n2 A.d0 A.d2;rw[Va]<;>rw[pM A.n1 A.n2 B.d0 B.d2,pM B.n1 B.n2 A.d0 A.d2]<;>omega
def arJ{a b:aH}(A:jS a)(B:jS b):(a.xN*b.xD-b.xN*a.xD).toInt=a.xN.toInt*b.xD.toInt-b.xN.toInt*a.xD.toInt:=by
 have p:=FC A.n1 A.n2 B.d0 B.d2;have q:=FC B.n1 B.n2 A.d0 A.d2;rw[FA]<;>rw[pM A.n1 A.n2 B.d0 B.d2,pM B.n1 B.n2 A.d0 A.d2]<;>omega
def akm{N:Nat}(c:9223372036854775808<N){a b:aH}(A:jS a)(B:jS b):H4 N a b=some (l4 (a.xN.toInt*b.xD.toInt+b.xN.toInt*a.xD.toInt) (a.xD.toInt*b.xD.toInt)):=by
 unfold H4;rw[qx N k7,qx N k7,A.ok,B.ok,H7 N c,ajS A B,pM A.d0 A.d2 B.d0 B.d2];rfl
def arI{N:Nat}(c:9223372036854775808<N){a b:aH}(A:jS a)(B:jS b):Jw N a b=some (l4 (a.xN.toInt*b.xD.toInt-b.xN.toInt*a.xD.toInt) (a.xD.toInt*b.xD.toInt)):=by
 unfold Jw;rw[qx N k7,qx N k7,A.ok,B.ok,H7 N c,arJ A B,pM A.d0 A.d2 B.d0 B.d2];rfl
def akd{N:Nat}(c:9223372036854775808<N){a b:aH}(A:jS a)(B:jS b):FP N a b=some (l4 (a.xN.toInt*b.xN.toInt) (a.xD.toInt*b.xD.toInt)):=by
 unfold FP;rw[qx N k7,qx N k7,A.ok,B.ok,H7 N c,pM A.n1 A.n2 B.n1 B.n2,pM A.d0 A.d2 B.d0 B.d2];rfl
def asO{N:Nat}(c:9223372036854775808<N){a b:aH}(A:jS a)(B:jS b):FN N a b=some (l4 (a.xN.toInt*b.xD.toInt) (a.xD.toInt*b.xN.toInt)):=by
 unfold FN;rw[qx N k7,qx N k7,A.ok,B.ok,H7 N c,pM A.n1 A.n2 B.d0 B.d2,pM A.d0 A.d2 B.n1 B.n2];rfl
def anJ(N:Nat)(n:Int64):rK N n=some (decide (-2147483647<=n.toInt)&&decide (n.toInt<=2147483647)):=by
 unfold rK;rw[qA,kx];rfl
def adf{a b:Int}: -(a.natAbs:Int)<=a.tdiv b/\a.tdiv b<=(a.natAbs:Int):=by
 have h:(a.tdiv b).natAbs<=a.natAbs:=by rw[Int.natAbs_tdiv];exact Nat.div_le_self _ _
 omega
def acV{a b:Int}(c:b≠0): -(a.natAbs:Int)<=a.tmod b/\a.tmod b<=(a.natAbs:Int):=by
 have h:(a.tmod b).natAbs<=a.natAbs:=by rw[Int.natAbs_tmod];exact Nat.mod_le _ _
 omega
def aoz(N:Nat)(e:Int)(a b:Int64)(h1: -2147483647<=a.toInt)(i:a.toInt<=2147483647)(j: -2147483647<=b.toInt)(k:b.toInt<=2147483647)(l:e=4\/e=5\/e=6\/e=7):
 FR N e a b=some (zQ e a.toInt b.toInt):=by
 have o:=Va (a:=a) (b:=b) k7 k7;have q:=FA (a:=a) (b:=b) k7 k7;have r:=pM h1 i j k;have c:∀(z:Int64)(n:Int),z.toInt=n->((rK N z).bind λv=>bif v then some ((⟨z,1⟩:aH),(0:Int))else some (dB,(3:Int)))=some (bif decide (-2147483647<=n)&&decide (n<=2147483647)then(⟨Int64.ofInt n,1⟩,0)else(dB,3)):=λz n g=>by
  subst g;rw[anJ,re,RL];cases (decide (-2147483647<=z.toInt)&&decide (z.toInt<=2147483647))<;>rfl
 unfold FR zQ;rcases l with rfl|rfl|rfl|rfl
 ·exact c _ _ o
 ·exact c _ _ q
 ·exact c _ _ r
 ·show(bif b.toInt==0 then some (dB,(4:Int))else _)=some (bif true&&b.toInt==0 then(dB,4)else bif decide (-2147483647<=Ei a.toInt b.toInt)&&decide (Ei a.toInt b.toInt<=2147483647)then(⟨Int64.ofInt (Ei a.toInt b.toInt),1⟩,0)else(dB,3));by_cases f:b.toInt=0
  ·rw[f];rfl
  ·have w:=adf (a:=a.toInt) (b:=b.toInt);have x:=acV (a:=a.toInt) f;have q1:(Int64.ofInt (a.toInt.tmod b.toInt)).toInt=a.toInt.tmod b.toInt:=pf k7 k7;have h:(Int64.ofInt (a.toInt.tdiv b.toInt)).toInt=a.toInt.tdiv b.toInt:=pf k7 k7;have t:((Int64.ofInt (a.toInt.tdiv b.toInt))-(1:Int64)).toInt=a.toInt.tdiv b.toInt-1:=by
    rw[FA]<;>rw[h,show(1:Int64).toInt=1 from rfl]<;>omega
   have d:=apZ (a:=a.toInt) f;rw[Wn f,Ui.2 f,q1];simp only[Tf,Tj,Bool.and_false];rw[kx,re];have u:(!(decide (a.toInt<0)==decide (b.toInt<0)))=(decide (a.toInt<0) !=decide (b.toInt<0)):=rfl;rw[u];cases g:(a.toInt.tmod b.toInt !=0&&(decide (a.toInt<0) !=decide (b.toInt<0)))with
   |true=>rw[g]at d;exact c _ _ (t.trans d)
   |false=>rw[g]at d;exact c _ _ (h.trans d)
def anu(N:Nat)(a b:Int64):Dc N a b=some (G5 a.toInt b.toInt):=by
 unfold Dc G5;cases decide (a.toInt<b.toInt);{cases decide (a.toInt>b.toInt)<;>rfl};{rfl}
def af6(N:Nat)(c:2147483648<N)(t:aQ)(a b:aH)(d:dD t=true):GB N t a b=some (qM t a b):=by
 unfold GB qM;rw[rI N c t a d,rI N c t b d,d];cases e:dj t a with
 |false=>rfl
 |true=>
  cases f:dj t b with
  |false=>rfl
  |true=>
   simp only[re,Tj,VX,Tf,Bool.and_self];cases g:t.bt==1 with
   |true=>
    have h:t.bt=1:=by simpa using g
    have A:=ua e k7;have B:=ua f k7;simp only[Tj];unfold TA;rw[qx N c,qx N c,A.ok,B.ok,anu,pM A.n1 A.n2 B.d0 B.d2,pM B.n1 B.n2 A.d0 A.d2];rfl
   |false=>
    simp only[Tf];unfold G5;cases decide (a.xN.toInt<b.xN.toInt);{cases decide (a.xN.toInt>b.xN.toInt)<;>rfl};{rfl}
def aiM(N:Nat)(e:9223372036854775808<N){c:Int}{t:aQ}{a b:aH}(i:dD t=true)(f:dj t a=true)(g:dj t b=true)(h:c=4\/c=5\/c=6\/c=7):
 OJ N c t a b=some (bif t.bt==2 then M1 c t a.xN.toInt b.xN.toInt else bif t.bt==3 then zQ c a.xN.toInt b.xN.toInt else Aa c a b):=by
 unfold OJ;rcases kinds i with d|d|d
 ·have A:=ua f k7;have B:=ua g k7;rw[d];rcases h with rfl|rfl|rfl|rfl
  ·show Option.bind (H4 N a b) _=_;rw[akm e A B];rfl
  ·show Option.bind (Jw N a b) _=_;rw[arI e A B];rfl
  ·show Option.bind (FP N a b) _=_;rw[akd e A B];rfl
  ·show Option.bind (FN N a b) _=_;rw[asO e A B];rfl
 ·have X:Fx N t a b:=⟨by omega,i,d,f,g⟩;rw[d];rcases h with rfl|rfl|rfl|rfl
  ·show Option.bind (Gb N t a b) _=_;rw[auM X];rfl
  ·show Option.bind (F3 N t a b) _=_;rw[atJ X];rfl
  ·show Option.bind (HU N t a b) _=_;rw[apC X];rfl
  ·show Option.bind (Jq N t a b) _=_;rw[akF X];rfl
 ·have A:=ua f k7;have B:=ua g k7;rw[d];show Option.bind (FR N c a.xN b.xN) _=_;rw[aoz N c _ _ A.n1 A.n2 B.n1 B.n2 h];rfl
def ajw(N:Nat)(g:2147483648<N){t:aQ}{a:aH}(f:dD t=true)(d:dj t a=true)(b:Int):L9 N t a=some (bif t.bt==2 then M1 8 t a.xN.toInt b else bif t.bt==3 then zQ 8 a.xN.toInt b else Aa 8 a a):=by
 unfold L9;rcases kinds f with c|c|c
 ·rw[c];rfl
 ·rw[c];show Option.bind (JK N t a) _=_;rw[aqn ⟨g,f,c,d,d⟩];rfl
 ·have A:=ua d k7;have D:=akA d c;have e:(-a.xN).toInt= -a.xN.toInt:=LV (by have:=A.n1;omega);rw[c];unfold zQ;rw[show((8:Int)==7&&b==0)=false from rfl,show((8:Int)==4)=false from rfl,show((8:Int)==5)=false from rfl,show((8:Int)==6)=false from rfl,show((8:Int)==7)=false from rfl,show((3:Int)==2)=false from rfl,show((3:Int)==3)=true from rfl];simp only[Tf,Tj];rw[eD (show-2147483647<=-a.xN.toInt by have:=A.n2;omega),eD (show-a.xN.toInt<=2147483647 by have:=A.n1;omega)];simp only[Bool.and_self,Tj]
  congr 2
  exact auG (by rw[e];exact(pf (by have:=A.n2;omega) (by have:=A.n1;omega)).symm) D
def ag8(N:Nat)(f:2147483648<N){t:aQ}{a b:aH}(g:dD t=true)(e:Int):C5 N t a b e true=some (bif e==9 then(bif decide (qM t a b>0)then b else a)else(bif decide (qM t a b<0)then b else a),0):=by
 unfold C5;rw[af6 N f t a b g];simp only[Tj,re];generalize qM t a b=c;cases i:e==9 with
 |true=>
  by_cases d:c>0;{rw[eD d,Ui.2 (show c≠0 by omega)];rfl};{rw[Zn d];rfl}
 |false=>
  by_cases d:c<0;{rw[eD d,Zn (show ¬c>0 by omega),Ui.2 (show c≠0 by omega)];rfl}
  ·rw[Zn d];by_cases h:c>0
   ·rw[eD h];rfl
   ·obtain rfl:c=0:=by omega
    rfl
def art(a b c:aH):Aa 8 a b=Aa 8 a c:=by
 unfold Aa;rw[show((8:Int)==4)=false from rfl,show((8:Int)==5)=false from rfl,show((8:Int)==6)=false from rfl,show((8:Int)==7)=false from rfl];simp only[Tf]
def Rc(N:Nat)(f:9223372036854775808<N)(c:Int)(t:aQ)(a b:aH):z6 N c t a b=some (lr c t a b):=by
 have e:2147483648<N:=Nat.lt_trans gy f;unfold z6 lr;rw[sD,re,sS,re];by_cases g:c<4;{rw[eD g];rfl}
 by_cases n:c<=10
 ·rw[Zn g,Zn (show ¬c>10 by omega)];simp only[Bool.or_self,Tf];cases d:dD t with
  |false=>rfl
  |true=>
   simp only[Tj,VX,Tf,bne_self_eq_false];rw[rI N e t a d,rI N e t b d];cases h:dj t a with
   |false=>rfl
   |true=>
    simp only[re,Tj,VX,c6];rw[TS,kx,re];by_cases i:c=8;{subst i;rw[ajw N e d h b.xN.toInt,art a a b];rfl}
    ·rw[Wn i];simp only[Bool.not_false,Z0,Tf];cases l:dj t b with
     |false=>rfl
     |true=>
      simp only[VX,Tf];by_cases j:c=9;{subst j;rw[show((9:Int)==9)=true from rfl,ag8 N e d];rfl}
      ·rw[Wn j];simp only[Tf];by_cases k:c=10
       ·subst k;rw[show((10:Int)==10)=true from rfl,ag8 N e d];rfl
       ·rw[Wn k];unfold C5;simp only[Tf];rw[aiM N f d h l k7];rfl
 ·rw[eD (show c>10 by omega),Bool.or_true];rfl
def alk(N:Nat)(d:9223372036854775808<N){t:aQ}{v:aH}(a:dD t=true)(e:dj t v=true):Ly N t v=some (sT t v):=by
 unfold Ly sT;cases f:t.bt==2 with
 |false=>rfl
 |true=>
  have b:t.bt=2:=by simpa using f
  have F:=ni a b;obtain⟨i,g,j⟩:=Li F.f1 F.f2;have h:(Int64.ofInt ((1:Int)*2^(min (t.bR).toNat (IntKind.bits .i64)))).toInt=oW t:=g;simp only[Tj];unfold Qk;rw[aeX N k7 a b (l:=[v]) (by intro x c;simp only[Za,Yt,or_false]at c;subst c;exact e),eD F.f1,H7 N d,h];rfl
def aty(N:Nat)(f:2147483648<N){v:aH}(V:jS v):HY N v=some (Int64.ofInt (v.xN.toInt / v.xD.toInt)):=by
 unfold HY J1;have h:=V.d1;have i:=adf (a:=v.xN.toInt) (b:=v.xD.toInt);have j:=acV (a:=v.xN.toInt) (show v.xD.toInt≠0 by omega);have k:=V.n1;have l:=V.n2;rw[qx N f,V.ok,Ui.2 (show v.xD.toInt≠0 by omega),pf k7 k7];simp only[re,Tj];have c:=acQ (n:=v.xN.toInt) (d:=v.xD.toInt) k7;have g:(Int64.ofInt (v.xN.toInt.tdiv v.xD.toInt)).toInt=v.xN.toInt.tdiv v.xD.toInt:=pf k7 k7;cases e:decide (v.xN.toInt.tmod v.xD.toInt<0)with
 |true=>
  rw[e]at c;simp only[Tj]at c ⊢;rw[<-c]
  congr 1
  refine TR ?_;rw[FA]<;>rw[g,show(1:Int64).toInt=1 from rfl]<;>omega
 |false=>
  rw[e]at c;simp only[Tf]at c ⊢;rw[<-c]
def aiw(N:Nat)(c:2147483648<N){t:aQ}{v:aH}(a:dD t=true)(b:t.bt=2)(V:jS v):GK N t v=some (oe t (me (v.xN.toInt*oW t) v.xD.toInt t.b9),0):=by
 have F:=ni a b;obtain⟨d,h,i⟩:=Li F.f1 F.f2;have j:=V.n1;have k:=V.n2;have l:=V.d1;obtain⟨e,f,g⟩:=acM (n:=v.xN) F.f1 F.f2 k7 k7;unfold GK Ug FL;rw[adF N a b,qx N c,V.ok,d,qA,kx,eD F.r1,eD F.r2,eD F.f1,Zn (show ¬t.bR<0 by have:=F.f1;omega),Zn (show ¬t.bR>30 by have:=F.f2;omega)];simp only[re,bne_self_eq_false,Tf,Tj,Bool.and_self,VX];rw[WH N _ _ F.r1 F.r2 (by rw[e];omega) (by rw[e];omega),e,Wn (show v.xD.toInt≠0 by omega)];simp only[re,Tf,bne_self_eq_false];rw[Ep N F,av5 k7,Mb k7 f g];rfl
def ar7(N:Nat)(f:9223372036854775808<N)(t u:aQ)(v:aH):Nr N t u v=some (vl t u v):=by
 unfold Nr vl;rw[sS,sS];cases c:dD t with
 |false=>rfl
 |true=>
  cases d:dD u with
  |false=>rfl
  |true=>
   simp only[re,Tj,bne_self_eq_false,Tf,VX,Bool.or_self];rw[rI N k7 t v c];cases e:dj t v with
   |false=>rfl
   |true=>
    simp only[re,Tj,VX,Tf];have a:=abY c e;rw[alk N f c e,re];rcases kinds d with b|b|b
    ·rw[b];rfl
    ·rw[b];show Option.bind (GK N u (sT t v)) _=_;rw[aiw N k7 d b a];rfl
    ·rw[b];show Option.bind (HY N (sT t v)) _=_;rw[aty N k7 a];rfl
def iz:U aR->so->O Int64
 |[],_=>none
 |b::r,s=>bif bL b.ar==bL s then some b.cU else iz r s
def kH(env:U aR):U bD->Int->O Int
 |[],a=>some a
 |m::r,a=>match iz env m.ar with
  |none=>none
  |some v=>kH env r (a+m.dh.toInt*v.toInt)
def db(l:aK)(env:U aR):Int64×Int:=bif !gh l then(0,1)else match kH env l.xL l.xK.toInt with
 |none=>(0,9)
 |some s=>bif fS s then(Int64.ofInt s,0)else(0,3)
def wv(w:kY):Int:=w.lQ+w.mJ*18446744073709551616+w.pF*340282366920938463463374607431768211456
structure U3(w:kY):Prop where
 h0:0<=w.pF
 h1:w.pF<18446744073709551616
 m0:0<=w.mJ
 m1:w.mJ<18446744073709551616
 l0:0<=w.lQ
 l1:w.lQ<18446744073709551616
abbrev vR:Int:=6277101735386680763835789423207666416102355444464034512896
def VV{x:Int}(a:0<=x)(h1:x<18446744073709551616):u64.wrap ((BitVec.ofInt (IntKind.bits .u64) (IntKind.max .u64)^^^BitVec.ofInt (IntKind.bits .u64) x).toNat:Int)=18446744073709551615-x:=by
 obtain⟨n,rfl⟩:=Int.eq_ofNat_of_zero_le a;have e:(BitVec.ofInt (IntKind.bits .u64) (IntKind.max .u64)^^^BitVec.ofInt (IntKind.bits .u64) (n:Int))= ~~~(BitVec.ofNat 64 n):=by
  show(BitVec.ofInt 64 18446744073709551615^^^BitVec.ofInt 64 (n:Int))=_;rw[show BitVec.ofInt 64 18446744073709551615=BitVec.allOnes 64 by decide,BitVec.allOnes_xor,BitVec.ofInt_natCast]
 have b:(BitVec.ofInt (IntKind.bits .u64) (IntKind.max .u64)^^^BitVec.ofInt (IntKind.bits .u64) (n:Int)).toNat=2^64-1-n%2^64:=by
  have h:=congrArg BitVec.toNat e;have c:(~~~(BitVec.ofNat 64 n)).toNat=2^64-1-n%2^64:=by rw[BitVec.toNat_not,BitVec.toNat_ofNat]
  exact h.trans c
 rw[b,cI];omega
def KX(N:Nat)(w:kY)(a:U3 w){top hi lo:Int}(t0:0<=top)(B:top<18446744073709551616)(a0:0<=hi)(C:hi<18446744073709551616)(E:0<=lo)(F:lo<18446744073709551616):
 ∃r:kY,uF N w hi lo top=some (r.pF,r.mJ,r.lQ)/\U3 r/\∃k:Int,wv r=wv w+(lo+hi*18446744073709551616+top*340282366920938463463374607431768211456)+k*vR:=by
 obtain⟨n,o,q,t,u,v⟩:=a;obtain⟨H,M,L⟩:=w;simp only at n o q t u v;have b:∃c:Int,(c=0\/c=1)/\uF N ⟨H,M,L⟩ hi lo top=A0 N ⟨H,M,L⟩ hi top lo c/\u64.wrap (L+lo)=L+lo-c*18446744073709551616:=by
  unfold uF;simp only;rw[cI];by_cases f:(L+lo)%18446744073709551616<lo;{rw[eD f];exact⟨1,.inr rfl,rfl,by omega⟩};{rw[Zn f];exact⟨0,.inl rfl,rfl,by omega⟩}
 obtain⟨c,f,b,x⟩:=b;have g:∃d:Int,(d=0\/d=1)/\A0 N ⟨H,M,L⟩ hi top lo c=yD N ⟨H,M,L⟩ hi c top lo d/\u64.wrap (M+hi)=M+hi-d*18446744073709551616:=by
  unfold A0;simp only;rw[cI];by_cases h:(M+hi)%18446744073709551616<hi;{rw[eD h];exact⟨1,.inr rfl,rfl,by omega⟩};{rw[Zn h];exact⟨0,.inl rfl,rfl,by omega⟩}
 obtain⟨d,h,g,l⟩:=g;have y:=xm (M+hi);rw[l]at y;have i:∃e:Int,(e=0\/e=1)/\yD N ⟨H,M,L⟩ hi c top lo d=Ht N ⟨H,M,L⟩ top hi c lo (d+e)/\u64.wrap (u64.wrap (M+hi)+c)=M+hi+c-(d+e)*18446744073709551616/\d+e<=1:=by
  unfold yD;simp only;rw[l,cI (M+hi-d*18446744073709551616+c),cI (d+1)];by_cases j:(M+hi-d*18446744073709551616+c)%18446744073709551616<M+hi-d*18446744073709551616
  ·rw[eD j];have:d=0:=by omega
   subst this;exact⟨1,.inr rfl,rfl,by omega,by omega⟩
  ·rw[Zn j];exact⟨0,.inl rfl,by rw[Int.add_zero];rfl,by omega,by omega⟩
 obtain⟨e,j,i,z,G⟩:=i;refine⟨⟨u64.wrap (H+u64.wrap (top+(d+e))),u64.wrap (u64.wrap (M+hi)+c),u64.wrap (L+lo)⟩,by rw[b,g,i];rfl,?_,?_⟩;{refine⟨(xm _).1,(xm _).2,(xm _).1,(xm _).2,(xm _).1,(xm _).2⟩}
 ·unfold wv;simp only;rw[x,z,cI,cI];refine⟨-((H+(top+(d+e))%18446744073709551616)/ 18446744073709551616+(top+(d+e))/ 18446744073709551616),?_⟩;unfold vR;generalize yN:(top+(d+e))/ 18446744073709551616=q1;generalize J:(top+(d+e))%18446744073709551616=r1;have K:top+(d+e)=18446744073709551616*q1+r1:=by omega
  generalize uk:(H+r1)/ 18446744073709551616=A;generalize P:(H+r1)%18446744073709551616=r2;have Q:H+r1=18446744073709551616*A+r2:=by omega
  omega
def av4(N:Nat)(w:kY)(a:U3 w){hi lo:Int}(a0:0<=hi)(f:hi<18446744073709551616)(g:0<=lo)(h:lo<18446744073709551616)(b:Bool):
 ∃r:kY,Bh N hi lo b w=some (r.pF,r.mJ,r.lQ)/\U3 r/\∃k:Int,wv r=wv w+(bif b then-(lo+hi*18446744073709551616)else lo+hi*18446744073709551616)+k*vR:=by
 unfold Bh;rw[VV a0 f,VV g h,VV (Int.le_refl 0) gy];cases b with
 |false=>
  rw[Tf,Tf];obtain⟨r,c,d,k,e⟩:=KX N w a (top:=0) gy gy a0 f g h;exact⟨r,c,d,k,by rw[e];omega⟩
 |true=>
  rw[Tj,Tj];simp only[cI];by_cases i:lo=0
  ·subst i;rw[show(((18446744073709551615-0+1:Int)%18446744073709551616)==0)=true by decide,Tj];by_cases j:hi=0
   ·subst j;rw[show(((18446744073709551615-0+1:Int)%18446744073709551616)==0)=true by decide,Tj];obtain⟨r,c,d,k,e⟩:=KX N w a (top:=(18446744073709551615-0+1)%18446744073709551616) (hi:=(18446744073709551615-0+1)%18446744073709551616) (lo:=(18446744073709551615-0+1)%18446744073709551616) gy gy gy gy gy gy;exact⟨r,c,d,k,by rw[e];rfl⟩
   ·rw[show(((18446744073709551615-hi+1:Int)%18446744073709551616)==0)=false by rw[Tn];omega,Tf];obtain⟨r,c,d,k,e⟩:=KX N w a (top:=18446744073709551615-0) (hi:=(18446744073709551615-hi+1)%18446744073709551616) (lo:=(18446744073709551615-0+1)%18446744073709551616) gy gy k7 k7 gy gy;exact⟨r,c,d,k+1,by rw[e];unfold vR;omega⟩
  ·rw[show(((18446744073709551615-lo+1:Int)%18446744073709551616)==0)=false by rw[Tn];omega,Tf];obtain⟨r,c,d,k,e⟩:=KX N w a (top:=18446744073709551615-0) (hi:=18446744073709551615-hi) (lo:=(18446744073709551615-lo+1)%18446744073709551616) gy gy k7 k7 k7 k7;exact⟨r,c,d,k+1,by rw[e];unfold vR;omega⟩
def aiH{a b:Int}(h:∃k:Int,a=b+k*18446744073709551616):Int64.ofInt a=Int64.ofInt b:=by
 obtain⟨k,rfl⟩:=h;apply Int64.toInt_inj.1;rw[Int64.toInt_ofInt,Int64.toInt_ofInt,Int.bmod_def,Int.bmod_def];have:(b+k*18446744073709551616)%18446744073709551616=b%18446744073709551616:=by omega
 simp only[show((2^64:Nat):Int)=18446744073709551616 by decide];rw[this]
def ap9(N:Nat)(w:kY)(a:U3 w){s:Int}(x: -3138550867693340381917894711603833208051177722232017256448<=s)(y:s<3138550867693340381917894711603833208051177722232017256448)(d:∃k:Int,wv w=s+k*vR):
 KM N w=some (Int64.ofInt s,fS s):=by
 obtain⟨f,g,h,i,j,l⟩:=a;obtain⟨H,M,L⟩:=w;obtain⟨k,d⟩:=d;unfold wv vR at d;simp only at f g h i j l d;unfold KM;simp only;have o:(Int64.ofInt L).toInt=if L<9223372036854775808 then L else L-18446744073709551616:=by
  rw[Int64.toInt_ofInt,Int.bmod_def];simp only[show((2^64:Nat):Int)=18446744073709551616 by decide];split<;>split<;>omega
 have q:((Int64.ofInt L).toInt.fdiv (2^(min ((63:Int)).toNat (IntKind.bits .i64))))=if L<9223372036854775808 then 0 else-1:=by
  rw[show((2:Int)^(min ((63:Int)).toNat (IntKind.bits .i64)))=9223372036854775808 by decide,Int.fdiv_eq_ediv_of_nonneg _ gy,o];split<;>omega
 rw[q];have r:∀z:Int,(z=0\/z= -1)->u64.wrap (Int64.ofInt z).toInt=if z=0 then 0 else 18446744073709551615:=λz t=>by
   rcases t with rfl|rfl<;>decide
 rw[r _ (by split<;>simp)];have u:Int64.ofInt L=Int64.ofInt s:=aiH ⟨k*340282366920938463463374607431768211456-M-H*18446744073709551616,by omega⟩;rw[u];have v:(bif (M==(if(if L<9223372036854775808 then(0:Int)else-1)=0 then(0:Int)else 18446744073709551615))then some (H==(if(if L<9223372036854775808 then(0:Int)else-1)=0 then(0:Int)else 18446744073709551615))else some false)=some (fS s):=by
   by_cases e:L<9223372036854775808
   ·simp only[e,if_true];by_cases b:M=0
    ·rw[show(M==0)=true by rw[TC];exact b,Tj];by_cases c:H=0
     ·rw[show(H==0)=true by rw[TC];exact c,(mU (n:=s)).2 (by subst b;subst c;omega)]
     ·rw[show(H==0)=false by rw[Tn];exact c]
      congr 1;symm
      rw[<-Uj,mU];omega
    ·rw[show(M==0)=false by rw[Tn];exact b,Tf]
     congr 1;symm
     rw[<-Uj,mU];omega
   ·simp only[e,if_false];rw[af gy];by_cases b:M=18446744073709551615
    ·rw[show(M==18446744073709551615)=true by rw[TC];exact b,Tj];by_cases c:H=18446744073709551615
     ·rw[show(H==18446744073709551615)=true by rw[TC];exact c,(mU (n:=s)).2 (by subst b;subst c;omega)]
     ·rw[show(H==18446744073709551615)=false by rw[Tn];exact c]
      congr 1;symm
      rw[<-Uj,mU];omega
    ·rw[show(M==18446744073709551615)=false by rw[Tn];exact b,Tf]
     congr 1;symm
     rw[<-Uj,mU];omega
 rw[v,re]
def av3(N:Nat)(m:bD):∀(env:U aR)(k:Nat),(iz env m.ar=none->Cq N m env k=some (-1))/\(∀v,iz env m.ar=some v->∃i b,Cq N m env k=some ((k+i:Nat):Int)/\env[i]?=some b/\b.cU=v)
 |[],k=>⟨λ_=>rfl,λv h=>by cases h⟩
 |b::r,k=>by
  obtain⟨a,d⟩:=av3 N m r (k+1);unfold iz Cq VG;simp only[re];cases g:(bL b.ar==bL m.ar)with
  |true=>exact⟨λh=>(by cases h),λv h=>by cases h;exact⟨0,b,rfl,rfl,rfl⟩⟩
  |false=>
   simp only[Tf];refine⟨a,λv h=> ?_⟩;obtain⟨i,c,q1,e,f⟩:=d v h;exact⟨i+1,c,by rw[q1];congr 2;omega,e,f⟩
def LH:O Int->Int64×Int
 |none=>(0,9)
 |some s=>bif fS s then(Int64.ofInt s,0)else(0,3)
def aqy(l:aK)(env:U aR):db l env=bif !gh l then(0,1)else LH (kH env l.xL l.xK.toInt):=by
 unfold db LH;cases kH env l.xL l.xK.toInt<;>rfl
def ars(a b:Int64):(a.toInt*b.toInt).natAbs<=85070591730234615865843651857942052864:=by
 have c:=n8 a;have d:=n8 b;rw[Int.natAbs_mul];exact Nat.mul_le_mul (show a.toInt.natAbs<=9223372036854775808 by omega) (show b.toInt.natAbs<=9223372036854775808 by omega)
def ahp(N:Nat)(env:U aR):∀(l:U bD)(k:Nat)(w:kY)(s:Int),U3 w->(∃k:Int,wv w=s+k*vR)->s.natAbs+l.length*85070591730234615865843651857942052864<=1569275433846670190958947355801916604025588861116008628224->
 Iy N env l k w.pF w.mJ w.lQ=some (LH (kH env l s))
 |[],k,w,s,a,c,d=>by
  unfold Iy kH LH;rw[show(⟨w.pF,w.mJ,w.lQ⟩:kY)=w from rfl];simp only[Zg,Nat.zero_mul,Nat.add_zero]at d;rw[ap9 N w a k7 k7 c,re];simp only;cases fS s<;>rfl
 |m::r,k,w,s,a,c,d=>by
  unfold Iy kH;simp only;rw[show Uq N env m=Cq N m env 0 from rfl];obtain⟨h,j⟩:=av3 N m env 0;cases g:iz env m.ar with
  |none=>rw[h g];rfl
  |some v=>
   obtain⟨i,b,q1,n,o⟩:=j v g;rw[q1,re,ZQ,Zn k7,Tf,eD k7,Tj,ZR,n,re,F0,re,F0,re];have B:=n8 m.dh;have C:=n8 b.cU;rw[aam N _ _ k7 k7,re];subst o;have E:=ars m.dh b.cU;have q:=abO m.dh.toInt b.cU.toInt;have F:0<=(m.dh.toInt.natAbs:Int)*b.cU.toInt.natAbs:=Int.mul_nonneg k7 k7;have G:(m.dh.toInt.natAbs:Int)*b.cU.toInt.natAbs<=85070591730234615865843651857942052864:=by
    rw[<-Int.natCast_mul,<-Int.natAbs_mul];omega
   generalize (m.dh.toInt.natAbs:Int)*b.cU.toInt.natAbs=p at*;obtain⟨t,u,x,y,e⟩:=av4 N w a (hi:=p / 18446744073709551616) (lo:=p%18446744073709551616) k7 k7 k7 k7 (!((decide (m.dh.toInt<0))==(decide (b.cU.toInt<0))));rw[show(⟨w.pF,w.mJ,w.lQ⟩:kY)=w from rfl,u,re];simp only;have f:p%18446744073709551616+p / 18446744073709551616*18446744073709551616=p:=by omega
   rw[f]at e;have z:(bif (!((decide (m.dh.toInt<0))==(decide (b.cU.toInt<0))))then-p else p)=m.dh.toInt*b.cU.toInt:=by
     rw[q];cases (decide (m.dh.toInt<0)==decide (b.cU.toInt<0))with
     |true=>simp
     |false=>simp
   rw[z]at e;obtain⟨A,c⟩:=c;refine ahp N env r (k+1) t (s+m.dh.toInt*b.cU.toInt) x ⟨A+y,by rw[e,c];unfold vR;omega⟩ ?_;rw[Zp]at d;have:(s+m.dh.toInt*b.cU.toInt).natAbs<=s.natAbs+(m.dh.toInt*b.cU.toInt).natAbs:=Int.natAbs_add_le _ _;omega
def GF(N:Nat)(g:2147483648<N)(l:aK)(env:U aR)(a:l.xL.length<=4611686018427387904):w8 N l env=some (db l env):=by
 unfold w8;rw[aqy,Ba N k7 l (Ze a gy),re];cases i:gh l with
 |false=>rfl
 |true=>
  simp only[VX,Tf];rw[Tj,show((0:Int) !=0)=false from rfl,Tf,F0,re];have j:=n8 l.xK;obtain⟨b,c,d,e,f⟩:=av4 N ae1 ⟨by decide,by decide,by decide,by decide,by decide,by decide⟩ (hi:=0) (lo:=(l.xK.toInt.natAbs:Int)) gy gy k7 k7 (decide (l.xK.toInt<0));rw[c,re];refine ahp N env l.xL 0 b l.xK.toInt d ⟨e,?_⟩ k7;rw[f];by_cases h:l.xK.toInt<0;{rw[eD h,Tj];show(0:Int)+0*_+0*_+_+_=_;omega};{rw[Zn h,Tf];show(0:Int)+0*_+0*_+_+_=_;omega}
def wx(d:U Int):Bool:=decide (d.length<=6)&&(d.all (λn=>decide (1<=n))&&decide (d.foldl (·*·) 1<=4096))
def FB{d:U Int}:d.all (λn=>decide (1<=n))=true↔∀n∈d,1<=n:=by rw[Zc];simp
def PL(d:U Int)(a:Int):d.foldl (·*·) a=a*d.foldl (·*·) 1:=by
 induction d generalizing a with
 |nil=>simp
 |cons x d b=>rw[List.foldl_cons,List.foldl_cons,b (a*x),b (1*x),cH,b5]
def Cs{d:U Int}(h:∀n∈d,1<=n):1<=d.foldl (·*·) 1:=by
 induction d with
 |nil=>simp
 |cons x d a=>
  rw[List.foldl_cons,cH,PL];have b:=h x Zt;have c:=a λn e=>h n (Zk _ e);have:=br b c gy k7;omega
def tP{n:Int}(h1: -9223372036854775808<=n)(a:n<=9223372036854775807):aY n=n:=by unfold aY;rw[cR];omega
def akq{s n:Int}(a:1<=s)(b:s<=4096):decide (n>i64.wrap ((4096:Int).tdiv s))=decide (4096<s*n):=by
 have e:(4096:Int).tdiv s=4096 / s:=aj gy;have c:0<=4096/ s:=Int.ediv_nonneg gy k7;have d:(4096:Int)/ s<=4096:=Int.ediv_le_self s gy;rw[e,show i64.wrap ((4096:Int)/ s)=4096 / s from tP k7 k7];refine decide_eq_decide.2 ?_;rw[gt_iff_lt,Int.ediv_lt_iff_lt_mul k7,Int.mul_comm]
def afj(N:Nat):∀(d:U Int)(k:Nat)(s:Int),1<=s->s<=4096->(∀n∈d,1<=n)->Eg N d k s=some (bif decide (d.foldl (·*·) s<=4096)then 0 else 2)
 |[],k,s,a,b,h=>by unfold Eg;rw[List.foldl_nil,eD b];rfl
 |n::d,k,s,a,b,h=>by
  unfold Eg;rw[show(s !=0)=true by rw[Ui];omega,Tj,akq a b,List.foldl_cons];have f:=h n Zt;have c:∀m∈d,1<=m:=λm g=>h m (Zk _ g);have i:1<=s*n:=by have:=br a f gy k7;omega
  by_cases e:4096<s*n
  ·rw[eD e,Tj,Zn]
   ·rfl
   ·rw[PL];have:=br (Int.le_refl (s*n)) (Cs c) gy k7;omega
  ·rw[Zn e,Tf,tP k7 k7];exact afj N d (k+1) (s*n) i k7 c
def aa1(N:Nat)(v:U Int):∀(d:U Int)(k:Nat),(v=d\/True)->MG N v d k=bif d.all (λn=>decide (1<=n))then Eg N v 0 1 else some 1
 |[],k,_=>rfl
 |n::d,k,_=>by
  unfold MG;rw[Z4,aa1 N v d (k+1) (.inr trivial)];by_cases h:n<1;{rw[eD h,Zn (show ¬1<=n by omega)];rfl};{rw[Zn h,eD (show 1<=n by omega)];rfl}
def agh(N:Nat)(d:U Int):∃e,GA N d=some e/\(e !=0)= !wx d:=by
 unfold GA wx;by_cases h:d.length<=6
 ·rw[Zn (show ¬(d.length:Int)>6 by omega),Tf,eD h,Z0,aa1 N d d 0 (.inr trivial)];cases a:d.all (λn=>decide (1<=n))with
  |false=>exact⟨1,rfl,rfl⟩
  |true=>
   rw[Tj,afj N d 0 1 gy gy (FB.1 a),Z0];refine⟨_,rfl,?_⟩;cases decide (d.foldl (·*·) 1<=4096)<;>rfl
 ·rw[eD (show(d.length:Int)>6 by omega),Zn h];exact⟨2,rfl,rfl⟩
def adJ(N:Nat):∀(d:U Int)(k:Nat)(s:Int),1<=s->(∀n∈d,1<=n)->d.foldl (·*·) s<=4096->KA N d k s=some (d.foldl (·*·) s)
 |[],k,s,_,_,_=>rfl
 |n::d,k,s,c,h,a=>by
  unfold KA;rw[List.foldl_cons]at a ⊢;have e:=h n Zt;have b:∀m∈d,1<=m:=λm f=>h m (Zk _ f);have g:1<=s*n:=by have:=br c e gy k7;omega
  have i:s*n<=4096:=by
   rw[PL]at a;have:=br (Int.le_refl (s*n)) (Cs b) gy k7;omega
  simp only;rw[tP k7 k7];exact adJ N d (k+1) (s*n) g b a
structure adR(d:List Int):Prop where
 len:d.length<=6
 pos:∀n∈d,1<=n
 le:d.foldl (·*·) 1<=4096
def Tm{d:U Int}(h:wx d=true):adR d:=by
 unfold wx at h;simp only[Zo,UL]at h;exact⟨h.1,FB.1 h.2.1,h.2.2⟩
def arZ(N:Nat){d:U Int}(h:wx d=true):P4 N d=some (d.foldl (·*·) 1):=by
 obtain⟨e,a,b⟩:=agh N d;unfold P4;rw[a,re,b,h];exact adJ N d 0 1 gy (Tm h).pos (Tm h).le
def jD(t:bo):Bool:=dD t.aw&&(wx t.aJ&&(((t.fE.length:Int)==t.aJ.foldl (·*·) 1)&&t.fE.all (dj t.aw)))
def av2(N:Nat)(a:2147483648<N)(t:bo)(b:dD t.aw=true):∀(l:U aH)(k:Nat),Me N t l k=some (bif l.all (dj t.aw)then 0 else 1)
 |[],k=>rfl
 |v::l,k=>by
  unfold Me;rw[rI N a _ _ b,re,Z4];cases dj t.aw v with
  |true=>rw[Tj,av2 N a t b l (k+1),Z0]
  |false=>rfl
def WE(N:Nat)(d:2147483648<N)(t:bo):∃e,HM N t=some e/\(e !=0)= !jD t:=by
 unfold HM jD;rw[sS,re];cases f:dD t.aw with
 |false=>exact⟨10,rfl,rfl⟩
 |true=>
  rw[Tj,show((0:Int) !=0)=false from rfl,Tf,Z0];obtain⟨e,g,a⟩:=agh N t.aJ;rw[g,re,a];cases b:wx t.aJ with
  |false=>
   refine⟨e,rfl,?_⟩;rw[a,b];rfl
  |true=>
   rw[VX,Tf,arZ N b,re,Z0];cases c:((t.fE.length:Int)==t.aJ.foldl (·*·) 1)with
   |false=>
    refine⟨1,?_,rfl⟩;rw[show((t.fE.length:Int) !=t.aJ.foldl (·*·) 1)=true by unfold bne;rw[c];rfl];rfl
   |true=>
    rw[show((t.fE.length:Int) !=t.aJ.foldl (·*·) 1)=false by unfold bne;rw[c];rfl,Tf,av2 N d t f];refine⟨_,rfl,?_⟩;rw[Z0];cases t.fE.all (dj t.aw)<;>rfl
def dY:U aO->so->O bo
 |[],_=>none
 |x::r,s=>bif bL x.ar==bL s then some x.gg else dY r s
def ID:∀{l:U aO}{s:so}{t:bo},dY l s=some t->∃x∈l,x.gg=t/\bL x.ar=bL s
 |[],s,t,h=>by cases h
 |x::r,s,t,h=>by
  unfold dY at h;cases a:(bL x.ar==bL s)with
  |true=>rw[a]at h;cases h;exact⟨x,Zt,rfl,by simpa using a⟩
  |false=>
   rw[a]at h;obtain⟨y,b,c⟩:=ID (l:=r) h;exact⟨y,Zk _ b,c⟩
def ae4(N:Nat)(s:so):∀(l:U aO)(k:Nat),(dY l s=none->BB N s l k=some (-1))/\(∀t,dY l s=some t->∃i x,BB N s l k=some ((k+i:Nat):Int)/\l[i]?=some x/\x.gg=t)
 |[],k=>⟨λ_=>rfl,λv h=>by cases h⟩
 |b::r,k=>by
  obtain⟨a,d⟩:=ae4 N s r (k+1);unfold dY BB Q4;simp only[re];cases g:(bL b.ar==bL s)with
  |true=>exact⟨λh=>(by cases h),λv h=>by cases h;exact⟨0,b,rfl,rfl,rfl⟩⟩
  |false=>
   simp only[Tf];refine⟨a,λv h=> ?_⟩;obtain⟨i,c,q1,e,f⟩:=d v h;exact⟨i+1,c,by rw[q1];congr 2;omega,e,f⟩
def CQ(N:Nat)(l:U aO)(s:so):wH N l s=some (match dY l s with|none=>(nQ,false)|some t=>(t,true)):=by
 obtain⟨b,c⟩:=ae4 N s l 0;unfold wH;rw[show TN N l s=BB N s l 0 from rfl];cases a:dY l s with
 |none=>rw[b a];rfl
 |some t=>
  obtain⟨i,x,q1,d,e⟩:=c t a;rw[q1,re,ZQ,Zn k7,Tf,eD k7,Tj,ZR,d,re,e]
def j7(mem:U aO)(s:so):Except Int bo:=match dY mem s with
 |none=>.error 9
 |some t=>bif jD t then .ok t else .error 1
end Go.Proofs.YtjploedinjiflaaGreatDoor
