/-
  Part 11 of the proof.
-/
import Derived.Test.YtjploedinjiflaaGreatDoorPi10
set_option linter.defProp false
namespace Go.Proofs.YtjploedinjiflaaGreatDoor
open IntKind (u64 i64)
open Tryz
open Go.RowKit
set_option maxRecDepth 100000
set_option maxHeartbeats 0
set_option linter.unusedVariables false
def ae1:kY:=⟨(0:Int),(0:Int),(0:Int)⟩
def nQ:bo:=⟨gU,[],[]⟩
def zc4:U AV:=[Y 0,Y 0,Y 0,Y 0,Y 0,.d (.v (.slice none 0 0)),.d (.v (.slice none 0 0))]
def KC(N:Nat)(a:U cQ):U cQ->Nat->O Bool
 |[],_=>some true
 |c::d,b=>(a[((b:Int)).toNat]?).bind λe=>(Kn N c e).bind λf=>bif f then(KC N a d (b+1))else some false
def KW(N:Nat)(a:U cQ)(b:U cQ):O Bool:=bif ((a.length:Int) !=(b.length:Int))then some false else KC N b a 0
def akN{N a c}:KP 62 [I (dP a),I (dP c),.fn 63 []] [] aG (λ_=>[]) (KW N a c):=
 fh 0 func62 (gA [[],[(4,oL a ql),(10,oL c ql)]] (aC (λe=>gH [[t0 e],[]]) λe=>gA [[f0 e],[(4,oL a ql)]] (gT E5 0 a λh=>eX 1 [] [1,2,15,16,17] 0 (λf=>⟨32,[(1,I (dP c)),(2,.fn 63 []),(15,I (dP a)),(16,Y a.length),(17,Y f)],[]⟩) (λf b i=>gH [[],[f0 (bY b)],[]]) (λf m n b i j=>ay λo k=>ay λp l=>gA [[],[t0 (bZ b)],[(4,oE (C3 (bA b)))],[(7,oE (C3 k))],[(10,cK ajV l)]] (aC (λg=>gb j () [[f0 (dG g)],[(2,oq (ck b rfl h))]] b) λg=>gH [[t0 (eF g)],[]])))))
def PI(N:Nat)(a:U aK):U aK->Nat->O Bool
 |[],_=>some true
 |c::d,b=>(a[((b:Int)).toNat]?).bind λe=>(Eb N c e).bind λf=>bif f then(PI N a d (b+1))else some false
def PT(N:Nat)(a:U aK)(b:U aK):O Bool:=bif ((a.length:Int) !=(b.length:Int))then some false else PI N b a 0
def al0{N a c}:KP 104 [I (dF a),I (dF c),.fn 103 []] [] aG (λ_=>[]) (PT N a c):=
 fh 0 func104 (gA [[],[(4,oL a fJ),(10,oL c fJ)]] (aC (λe=>gH [[t0 e],[]]) λe=>gA [[f0 e],[(4,oL a fJ)]] (gT ny 0 a λh=>eX 1 [] [1,2,15,16,17] 0 (λf=>⟨32,[(1,I (dF c)),(2,.fn 103 []),(15,I (dF a)),(16,Y a.length),(17,Y f)],[]⟩) (λf b i=>gH [[],[f0 (bY b)],[]]) (λf m n b i j=>ay λo k=>ay λp l=>gA [[],[t0 (bZ b)],[(4,oE (mQ (bA b)))],[(7,oE (mQ k))],[(10,cK Wd l)]] (aC (λg=>gb j () [[f0 (dG g)],[(2,oq (ck b rfl h))]] b) λg=>gH [[t0 (eF g)],[]])))))
def J3(N:Nat)(a:cl)(b:cl):O Bool:=(bif (bL a.ar==bL b.ar)then(bif ((a.aw.bt==b.aw.bt)&&((a.aw.bW==b.aw.bW)&&((a.aw.bR==b.aw.bR)&&((a.aw.b9==b.aw.b9)&&((a.aw.b8==b.aw.b8)&&true)))))then (PT N a.aJ b.aJ).bind λc=>some c else some false)else some false).bind λd=>some d
def atX{N a b}:KO 65 [mj a,mj b] aG (J3 N a b):=
 fw func65 (gA [[]] (gG (λf=>[(4,aG f)]) (λ_=>[.cells (mj a).cells,.cells (mj b).cells]) (aC (λc=>dS (5,bT c) (aC (λe=>ay λh g=>gE [(12,bT e)] [(52,oQ [I (dF a.aJ),I (dF b.aJ),.fn 103 []] [.cells (mj a).cells,.cells (mj b).cells] [] (al0 _ g))]) λe=>gE [(12,bF e)] [])) λc=>gE [(5,bF c),(12,bF rfl)] []) λf=>gR []))
def Ms(N:Nat)(a:U cl):U cl->Nat->O Bool
 |[],_=>some true
 |c::d,b=>(a[((b:Int)).toNat]?).bind λe=>(J3 N c e).bind λf=>bif f then(Ms N a d (b+1))else some false
def LN(N:Nat)(a:U cl)(b:U cl):O Bool:=bif ((a.length:Int) !=(b.length:Int))then some false else Ms N b a 0
def ap5{N a c}:KP 64 [I (dA a),I (dA c),.fn 65 []] [] aG (λ_=>[]) (LN N a c):=
 fh 0 func64 (gA [[],[(4,oL a pe),(10,oL c pe)]] (aC (λe=>gH [[t0 e],[]]) λe=>gA [[f0 e],[(4,oL a pe)]] (gT Fs 0 a λh=>eX 1 [] [1,2,15,16,17] 0 (λf=>⟨32,[(1,I (dA c)),(2,.fn 65 []),(15,I (dA a)),(16,Y a.length),(17,Y f)],[]⟩) (λf b i=>gH [[],[f0 (bY b)],[]]) (λf m n b i j=>ay λo k=>ay λp l=>gA [[],[t0 (bZ b)],[(4,oE (xM (bA b)))],[(7,oE (xM k))],[(10,cK atX l)]] (aC (λg=>gb j () [[f0 (dG g)],[(2,oq (ck b rfl h))]] b) λg=>gH [[t0 (eF g)],[]])))))
def PV(N:Nat)(a:cq)(b:cq):O Bool:=(bif (bL a.ar==bL b.ar)then (Eb N a.dq b.dq).bind λc=>some c else some false).bind λd=>some d
def aqB{N a b}:KO 106 [vO a,vO b] aG (PV N a b):=
 fw func106 (gA [[]] (gG (λd=>[(4,aG d)]) (λ_=>[.cells (vO a).cells,.cells (vO b).cells]) (aC (λc=>ay λf e=>gE [(5,bT c)] [(31,cK Wd e)]) λc=>gE [(5,bF c)] []) λd=>gR []))
def Ld(N:Nat)(a:U cq):U cq->Nat->O Bool
 |[],_=>some true
 |c::d,b=>(a[((b:Int)).toNat]?).bind λe=>(PV N c e).bind λf=>bif f then(Ld N a d (b+1))else some false
def Hp(N:Nat)(a:U cq)(b:U cq):O Bool:=bif ((a.length:Int) !=(b.length:Int))then some false else Ld N b a 0
def afc{N a c}:KP 105 [I (dC a),I (dC c),.fn 106 []] [] aG (λ_=>[]) (Hp N a c):=
 fh 0 func105 (gA [[],[(4,oL a kt),(10,oL c kt)]] (aC (λe=>gH [[t0 e],[]]) λe=>gA [[f0 e],[(4,oL a kt)]] (gT qD 0 a λh=>eX 1 [] [1,2,15,16,17] 0 (λf=>⟨32,[(1,I (dC c)),(2,.fn 106 []),(15,I (dC a)),(16,Y a.length),(17,Y f)],[]⟩) (λf b i=>gH [[],[f0 (bY b)],[]]) (λf m n b i j=>ay λo k=>ay λp l=>gA [[],[t0 (bZ b)],[(4,oE (uo (bA b)))],[(7,oE (uo k))],[(10,cK aqB l)]] (aC (λg=>gb j () [[f0 (dG g)],[(2,oq (ck b rfl h))]] b) λg=>gH [[t0 (eF g)],[]])))))
def LQ(N:Nat)(a:Int):O Bool:=some (a !=a)
def awd{N a}:KO 222 [Y a] aG (LQ N a):=
 fw func222 (gR [[],[]])
def qo(N:Nat)(a:Int)(b:Int):O Int:=(LQ N a).bind λd=>(LQ N b).bind λc=>bif d then bif c then some (0:Int)else some (-1:Int)else bif c then some (1:Int)else bif (decide (a<b))then some (-1:Int)else bif (decide (a>b))then some (1:Int)else some (0:Int)
def vB{N b c}:KO 183 [Y b,Y c] Y (qo N b c):=
 fw func183 (ay λh d=>ay λi e=>gA [[],[(4,cK awd d)],[(4,cK awd e)],[]] (aC (λa=>gA [[t0 a],[]] (bV λf=>gR [[f0 f],[]])) λa=>gA [[f0 a],[]] (iy λ_=>iy λ_=>bV λg=>gR [[f0 g],[]])))
def Ft(N:Nat)(a b:so):O Int:=some (Mw a b)
def Tl{N a b r}(J:Ft N a b=some r):gq prog 184 [cd a,cd b] (·=(Y r)):=by
 cases J;exact aqR a b
def OQ(N:Nat)(a:Int64):O Bool:=some (a.toInt !=a.toInt)
def aa3{N a}:KO 224 [bg a] aG (OQ N a):=
 fw func224 (gR [[],[]])
def Ir(N:Nat)(a:Int64)(b:Int64):O Int:=(OQ N a).bind λd=>(OQ N b).bind λc=>bif d then bif c then some (0:Int)else some (-1:Int)else bif c then some (1:Int)else bif (decide (a.toInt<b.toInt))then some (-1:Int)else bif (decide (a.toInt>b.toInt))then some (1:Int)else some (0:Int)
def acj{N b c}:KO 185 [bg b,bg c] Y (Ir N b c):=
 fw func185 (ay λh d=>ay λi e=>gA [[],[(4,cK aa3 d)],[(4,cK aa3 e)],[]] (aC (λa=>gA [[t0 a],[]] (bV λf=>gR [[f0 f],[]])) λa=>gA [[f0 a],[]] (iy λ_=>iy λ_=>bV λg=>gR [[f0 g],[]])))
def KI(N:Nat):U Int->Nat->O Int
 |[],_=>some (0:Int)
 |v4::a,b=>bif (v4 !=0)then some v4 else(KI N a (b+1))
def IL(N:Nat)(a:U Int):O Int:=KI N a 0
def adv{N a}:KO 182 [I (bN a)] Y (IL N a):=
 fw func182 (gA [[],[],[(4,oL a ig)]] (gT o6 0 a λe=>eX 1 [] [3,6,7,8] 0 (λc=>⟨18,[(3,Y 0),(6,I (bN a)),(7,Y a.length),(8,Y c)],[]⟩) (λc b f=>gR [[],[f0 (bY b)],[]]) (λc i j b f g=>gA [[],[t0 (bZ b)],[(1,oE (kK (bA b)))],[]] (bV λh=>gb g () [[f0 h],[(2,oq (ck b rfl e))]] b))))
def OV(N:Nat)(a:aQ)(b:aQ):O Int:=(qo N a.bt b.bt).bind λc=>(qo N a.bW b.bW).bind λd=>(qo N a.bR b.bR).bind λe=>(qo N a.b9 b.b9).bind λf=>(qo N a.b8 b.b8).bind λg=>(IL N ([c,d,e,f,g])).bind λh=>some h
def alV{N a b}:KO 186 [cN a,cN b] Y (OV N a b):=
 fw func186 (ay λi c=>ay λj d=>ay λk e=>ay λl f=>ay λm g=>ay λn h=>gR [[],[(13,cK vB c),(28,cK vB d),(43,cK vB e),(58,cK vB f),(73,cK vB g),(79,cK adv h)]])
def F2(N:Nat)(a:Int64)(b:Int64):O Int:=bif (decide (a.toInt<b.toInt))then some (-1:Int)else bif (decide (a.toInt>b.toInt))then some (1:Int)else some (0:Int)
def awc{N a b}:KO 227 [bg a,bg b] Y (F2 N a b):=
 fw func227 (gA [[],[]] (iy λ_=>bV λc=>gR [[f0 c],[]]))
def Pg(N:Nat)(a:bD)(b:bD):O Int:=bif (bL a.ar==bL b.ar)then(F2 N a.dh b.dh).bind λc=>some c else(Ft N a.ar b.ar).bind λd=>some d
def ar2{N b c}:KO 226 [lB b,lB c] Y (Pg N b c):=
 fw func226 (gA [[],[]] (aC (λa=>ay λf d=>gR [[f0 (dG a)],[(13,cK awc d)]]) λa=>ay λg e=>gR [[t0 (eF a)],[(13,cL (Tl e))]]))
def zy(N:Nat)(c:U bD)(a:U bD):U bD->Nat->O Int
 |[],_=>bif (decide ((c.length:Int)<(a.length:Int)))then some (-1:Int)else some (0:Int)
 |e::f,b=>bif (decide ((b:Int)>=(a.length:Int)))then some (1:Int)else(a[((b:Int)).toNat]?).bind λg=>(Pg N e g).bind λd=>bif (d !=0)then some d else(zy N c a f (b+1))
def Vc(N:Nat)(a:U bD)(b:U bD):O Int:=zy N a b a 0
def aqv{N a c}:KP 225 [I (cY a),I (cY c),.fn 226 []] [] Y (λ_=>[]) (Vc N a c):=
 fh 0 func225 (gA [[],[(4,oL a fO)]] (gT rm 0 a λi=>eX 1 [] [0,1,2,11,12,13] 0 (λe=>⟨39,[(0,I (cY a)),(1,I (cY c)),(2,.fn 226 []),(11,I (cY a)),(12,Y a.length),(13,Y e)],[]⟩) (λe b j=>gA [[],[f0 (bY b)],[(4,oL a fO),(10,oL c fO)]] (aC (λf=>gH [[t0 f],[]]) λf=>gH [[f0 f],[]])) (λe n o b j k=>gA [[],[t0 (bZ b)],[(4,oE (jL (bA b)))],[(7,oL c fO)]] (aC (λg=>gH [[t0 g],[]]) λg=>ay λp l=>ay λq m=>gA [[f0 g],[(7,oE (jL l))],[(10,cK ar2 m)],[]] (aC (λh=>gH [[t0 h],[]]) λh=>gb k () [[f0 h],[(2,oq (ck b rfl i))]] b)))))
def De(N:Nat)(a:aK)(b:aK):O Int:=(Vc N a.xL b.xL).bind λc=>bif (c !=0)then some c else(F2 N a.xK b.xK).bind λd=>some d
def UR{N a b}:KO 187 [cJ a,cJ b] Y (De N a b):=
 fw func187 (ay λg c=>gA [[],[(13,oQ [I (cY a.xL),I (cY b.xL),.fn 226 []] (Rs a b) [] (aqv _ c))],[]] (bV λe=>ay λh f=>gR [[f0 e],[(13,cK awc f)]]))
def zp(N:Nat)(c:U aK)(a:U aK):U aK->Nat->O Int
 |[],_=>bif (decide ((c.length:Int)<(a.length:Int)))then some (-1:Int)else some (0:Int)
 |e::f,b=>bif (decide ((b:Int)>=(a.length:Int)))then some (1:Int)else(a[((b:Int)).toNat]?).bind λg=>(De N e g).bind λd=>bif (d !=0)then some d else(zp N c a f (b+1))
def R8(N:Nat)(a:U aK)(b:U aK):O Int:=zp N a b a 0
def aoJ{N a c}:KP 259 [I (dF a),I (dF c),.fn 187 []] [] Y (λ_=>[]) (R8 N a c):=
 fh 0 func259 (gA [[],[(4,oL a fJ)]] (gT ny 0 a λi=>eX 1 [] [0,1,2,11,12,13] 0 (λe=>⟨39,[(0,I (dF a)),(1,I (dF c)),(2,.fn 187 []),(11,I (dF a)),(12,Y a.length),(13,Y e)],[]⟩) (λe b j=>gA [[],[f0 (bY b)],[(4,oL a fJ),(10,oL c fJ)]] (aC (λf=>gH [[t0 f],[]]) λf=>gH [[f0 f],[]])) (λe n o b j k=>gA [[],[t0 (bZ b)],[(4,oE (mQ (bA b)))],[(7,oL c fJ)]] (aC (λg=>gH [[t0 g],[]]) λg=>ay λp l=>ay λq m=>gA [[f0 g],[(7,oE (mQ l))],[(10,cK UR m)],[]] (aC (λh=>gH [[t0 h],[]]) λh=>gb k () [[f0 h],[(2,oq (ck b rfl i))]] b)))))
def J8(N:Nat)(a:U aK)(b:U aK):O Int:=(qo N (a.length:Int) (b.length:Int)).bind λc=>bif (c !=0)then some c else(R8 N a b).bind λd=>some d
def an7{N a b}:KP 229 [I (dF a),I (dF b),.fn 187 []] [] Y (λ_=>[]) (J8 N a b):=
 fh 0 func229 (ay λg e=>gA [[],[(4,oL a fJ),(10,oL b fJ),(13,cK vB e)],[]] (aC (λc=>gH [[t0 c],[]]) λc=>ay λh f=>gH [[f0 c],[(10,oQ [I (dF a),I (dF b),.fn 187 []] [] [] (aoJ _ f))]]))
def OI(N:Nat)(a:aT)(b:aT):O Int:=(Ft N a.bp b.bp).bind λc=>bif (c !=0)then some c else(De N a.aU b.aU).bind λd=>bif (d !=0)then some d else(J8 N a.bC b.bC).bind λe=>some e
def aqF{N a b}:KO 189 [fK a,fK b] Y (OI N a b):=
 fw func189 (ay λi c=>gA [[],[(13,cL (Tl c))],[]] (bV λe=>ay λj f=>gA [[f0 e],[(13,cK UR f)],[]] (bV λg=>ay λk h=>gR [[f0 g],[(13,oQ [I (dF a.bC),I (dF b.bC),.fn 187 []] [.cells (fK a).cells,.cells (fK b).cells] [] (an7 _ h))]])))
def AG(N:Nat)(c:U aT)(a:U aT):U aT->Nat->O Int
 |[],_=>bif (decide ((c.length:Int)<(a.length:Int)))then some (-1:Int)else some (0:Int)
 |e::f,b=>bif (decide ((b:Int)>=(a.length:Int)))then some (1:Int)else(a[((b:Int)).toNat]?).bind λg=>(OI N e g).bind λd=>bif (d !=0)then some d else(AG N c a f (b+1))
def RV(N:Nat)(a:U aT)(b:U aT):O Int:=AG N a b a 0
def akW{N a c}:KP 228 [I (cg a),I (cg c),.fn 189 []] [] Y (λ_=>[]) (RV N a c):=
 fh 0 func228 (gA [[],[(4,oL a gv)]] (gT po 0 a λi=>eX 1 [] [0,1,2,11,12,13] 0 (λe=>⟨39,[(0,I (cg a)),(1,I (cg c)),(2,.fn 189 []),(11,I (cg a)),(12,Y a.length),(13,Y e)],[]⟩) (λe b j=>gA [[],[f0 (bY b)],[(4,oL a gv),(10,oL c gv)]] (aC (λf=>gH [[t0 f],[]]) λf=>gH [[f0 f],[]])) (λe n o b j k=>gA [[],[t0 (bZ b)],[(4,oE (j5 (bA b)))],[(7,oL c gv)]] (aC (λg=>gH [[t0 g],[]]) λg=>ay λp l=>ay λq m=>gA [[f0 g],[(7,oE (j5 l))],[(10,cK aqF m)],[]] (aC (λh=>gH [[t0 h],[]]) λh=>gb k () [[f0 h],[(2,oq (ck b rfl i))]] b)))))
def MX(N:Nat)(a:U aT)(b:U aT):O Int:=(qo N (a.length:Int) (b.length:Int)).bind λc=>bif (c !=0)then some c else(RV N a b).bind λd=>some d
def aub{N a b}:KP 188 [I (cg a),I (cg b),.fn 189 []] [] Y (λ_=>[]) (MX N a b):=
 fh 0 func188 (ay λg e=>gA [[],[(4,oL a gv),(10,oL b gv),(13,cK vB e)],[]] (aC (λc=>gH [[t0 c],[]]) λc=>ay λh f=>gH [[f0 c],[(10,oQ [I (cg a),I (cg b),.fn 189 []] [] [] (akW _ f))]]))
def yF(N:Nat)(d:U au)(b:U au)(a:au->au->O Int):U au->Nat->O Int
 |[],_=>bif (decide ((d.length:Int)<(b.length:Int)))then some (-1:Int)else some (0:Int)
 |f::g,c=>bif (decide ((c:Int)>=(b.length:Int)))then some (1:Int)else(b[((c:Int)).toNat]?).bind λh=>(a f h).bind λe=>bif (e !=0)then some e else(yF N d b a g (c+1))
mutual
def xP(N:Nat):Nat->au->au->O Int
 |0,_,_=>none
 |d+1,v1,v2=>(qo N v1.aA v2.aA).bind λv3=>(Ft N v1.ar v2.ar).bind λv4=>(Ir N v1.cU.xN v2.cU.xN).bind λv5=>(Ir N v1.cU.xD v2.cU.xD).bind λv6=>(OV N v1.aw v2.aw).bind λv7=>(De N v1.aU v2.aU).bind λv8=>(IL N ([v3,v4,v5,v6,v7,v8])).bind λv9=>bif (v9 !=0)then some v9 else(MX N v1.xIdx v2.xIdx).bind λv10=>bif (v10 !=0)then some v10 else((Ii N d) v1.bk v2.bk).bind λv11=>some v11
def Ii(N:Nat):Nat->(U au)->(U au)->O Int
 |0,_,_=>none
 |d+1,v1,v2=>(qo N (v1.length:Int) (v2.length:Int)).bind λv3=>bif (v3 !=0)then some v3 else((EI N d) v1 v2).bind λv4=>some v4
def EI(N:Nat):Nat->(U au)->(U au)->O Int
 |0,_,_=>none
 |d+1,v1,v2=>yF N v1 v2 (xP N d) v1 0
end
def Qp(N:Nat)(a:au)(b:au):O Int:=xP N N a b
abbrev SJ:=λa b=>([.cells (aL a).cells,.cells (aL b).cells]:List ao)
def arx(N:Nat):∀d:Nat,(∀{a:au}{b:au},KO 146 [aL a,aL b] Y (xP N d a b))/\(∀{a:U au}{b:U au},KP 190 [I (eH a),I (eH b),.fn 146 []] [] Y (λ_=>[]) (Ii N d a b))/\(∀{a:U au}{b:U au},KP 230 [I (eH a),I (eH b),.fn 146 []] [] Y (λ_=>[]) (EI N d a b)):=by
 intro d
 induction d with
 |zero=>exact⟨(by intro a b r J;rw[xP]at J;cases J),(by intro a b r J;rw[Ii]at J;cases J),(by intro a b r J;rw[EI]at J;cases J)⟩
 |succ d ih=>
  have j:= @ih.1;have k:= @ih.2.1;have l:= @ih.2.2;refine⟨?_,?_,?_⟩;{intro a b;rw[xP];exact fw func146 (ay λf m=>ay λp e=>ay λq c=>ay λt g=>ay λu h=>ay λv n=>ay λE w=>gA [[],[(13,cK vB m),(28,cL (Tl e)),(49,cK acj c),(70,cK acj g),(85,cK alV h),(100,cK UR n),(106,cK adv w)],[]] (bV λo=>ay λx i=>gA [[(0,bF o)],[(13,oQ [I (cg a.xIdx),I (cg b.xIdx),.fn 189 []] (SJ a b) [] (aub _ i))],[]] (bV λy=>ay λz A=>gR [[(0,bF y)],[(13,oQ [I (eH a.bk),I (eH b.bk),.fn 146 []] (SJ a b) [] (k _ A))]])))};{intro a b;rw[Ii];exact fh 0 func190 (ay λf m=>gA [[],[(4,oL a iM),(10,oL b iM),(13,cK vB m)],[]] (aC (λe=>gH [[(0,bT e)],[]]) λe=>ay λp c=>gH [[(0,bF e)],[(10,oQ [I (eH a),I (eH b),.fn 146 []] [] [] (l _ c))]]))}
  intro a b;rw[EI];exact fh 0 func230 (gA [[],[(4,oL a iM)]] (gT qi 0 a λe=>eX 1 [] [0,1,2,11,12,13] 0 (λf=>⟨39,[(0,I (eH a)),(1,I (eH b)),(2,.fn 146 []),(11,I (eH a)),(12,Y a.length),(13,Y f)],[]⟩) (λf c B=>gA [[],[(0,bF (bY c))],[(4,oL a iM),(10,oL b iM)]] (aC (λg=>gH [[(0,bT g)],[]]) λg=>gH [[(0,bF g)],[]])) (λf q t c B C=>gA [[],[(0,bT (bZ c))],[(4,oE (kg (bA c)))],[(7,oL b iM)]] (aC (λh=>gH [[(0,bT h)],[]]) λh=>ay λu n=>ay λv o=>gA [[(0,bF h)],[(7,oE (kg n))],[(10,cK j o)],[]] (aC (λi=>gH [[(0,bT i)],[]]) λi=>gb C () [[(0,bF i)],[(2,oq (ck c rfl e))]] c)))))
def ajc{N a b}:KO 146 [aL a,aL b] Y (Qp N a b):=(arx N N).1
def WU(N:Nat)(a:au)(b:au):O Bool:=(Qp N a b).bind λc=>some (c==0)
def aq8{N a b}:KO 107 [aL a,aL b] aG (WU N a b):=
 fw func107 (ay λd c=>gR [[],[(7,cK ajc c)]])
def NC(N:Nat)(a:aF)(b:aF):O Bool:=(bif (bL a.ar==bL b.ar)then(bif ((a.aw.bt==b.aw.bt)&&((a.aw.bW==b.aw.bW)&&((a.aw.bR==b.aw.bR)&&((a.aw.b9==b.aw.b9)&&((a.aw.b8==b.aw.b8)&&true)))))then(bif (a.cE==b.cE)then (Hp N a.aJ b.aJ).bind λc=>(bif c then (Hp N a.bI b.bI).bind λd=>(bif d then (WU N a.aX b.aX).bind λe=>some e else some false)else some false)else some false)else some false)else some false).bind λf=>some f
def QS(a:aF)(b:aF)(l:U ao):U ao:= .cells (dX a).cells:: .cells (dX b).cells::l
def ajU{N a b}:KO 67 [dX a,dX b] aG (NC N a b):=
 fw func67 (gA [[]] (gG (λi=>[(4,aG i)]) (λ_=>(QS a b [])) (aC (λc=>dS (5,bT c) (aC (λe=>dS (12,bT e) (aC (λf=>ay λm j=>dS (19,bT f) (dH (73,oQ [I (dC a.aJ),I (dC b.aJ),.fn 106 []] (QS a b []) [] (afc _ j)) (aC (λg=>ay λn k=>dS (26,bT g) (dH (94,oQ [I (dC a.bI),I (dC b.bI),.fn 106 []] (QS a b []) [] (afc _ k)) (aC (λh=>ay λo l=>gE [(33,bT h)] [(115,cK aq8 l)]) λh=>gE [(33,bF h)] []))) λg=>gE [(26,bF g),(33,bF rfl)] []))) λf=>gE [(19,bF f),(26,bF rfl),(33,bF rfl)] [])) λe=>gE [(12,bF e),(19,bF rfl),(26,bF rfl),(33,bF rfl)] [])) λc=>gE [(5,bF c),(12,bF rfl),(19,bF rfl),(26,bF rfl),(33,bF rfl)] []) λi=>gR []))
def Of(N:Nat)(a:U aF):U aF->Nat->O Bool
 |[],_=>some true
 |c::d,b=>(a[((b:Int)).toNat]?).bind λe=>(NC N c e).bind λf=>bif f then(Of N a d (b+1))else some false
def Mm(N:Nat)(a:U aF)(b:U aF):O Bool:=bif ((a.length:Int) !=(b.length:Int))then some false else Of N b a 0
def auP{N a c}:KP 66 [I (dy a),I (dy c),.fn 67 []] [] aG (λ_=>[]) (Mm N a c):=
 fh 0 func66 (gA [[],[(4,oL a kO),(10,oL c kO)]] (aC (λe=>gH [[t0 e],[]]) λe=>gA [[f0 e],[(4,oL a kO)]] (gT Ci 0 a λh=>eX 1 [] [1,2,15,16,17] 0 (λf=>⟨32,[(1,I (dy c)),(2,.fn 67 []),(15,I (dy a)),(16,Y a.length),(17,Y f)],[]⟩) (λf b i=>gH [[],[f0 (bY b)],[]]) (λf m n b i j=>ay λo k=>ay λp l=>gA [[],[t0 (bZ b)],[(4,oE (nI (bA b)))],[(7,oE (nI k))],[(10,cK ajU l)]] (aC (λg=>gb j () [[f0 (dG g)],[(2,oq (ck b rfl h))]] b) λg=>gH [[t0 (eF g)],[]])))))
def OF(N:Nat)(a:aI)(b:aI):O Bool:=(EY N a.bj b.bj).bind λc=>(bif c then (EY N a.cB b.cB).bind λd=>(bif d then (KW N a.cO b.cO).bind λe=>(bif e then (LN N a.aS b.aS).bind λf=>(bif f then (Mm N a.ax b.ax).bind λg=>some g else some false)else some false)else some false)else some false).bind λh=>some h
def PO(a:aI)(b:aI)(l:U ao):U ao:= .cells (di a).cells:: .cells (di b).cells::l
def asS{N a b}:KO 29 [di a,di b] aG (OF N a b):=
 fw func29 (gA [[]] (ay λn i=>gG (λh=>[(4,aG h)]) (λ_=>(PO a b [])) (dH (13,cK awe i) (aC (λc=>ay λo j=>dS (5,bT c) (dH (31,cK awe j) (aC (λe=>ay λp k=>dS (12,bT e) (dH (52,oQ [I (dP a.cO),I (dP b.cO),.fn 63 []] (PO a b []) [] (akN _ k)) (aC (λf=>ay λq l=>dS (19,bT f) (dH (73,oQ [I (dA a.aS),I (dA b.aS),.fn 65 []] (PO a b []) [] (ap5 _ l)) (aC (λg=>ay λr m=>gE [(26,bT g)] [(94,oQ [I (dy a.ax),I (dy b.ax),.fn 67 []] (PO a b []) [] (auP _ m))]) λg=>gE [(26,bF g)] []))) λf=>gE [(19,bF f),(26,bF rfl)] []))) λe=>gE [(12,bF e),(19,bF rfl),(26,bF rfl)] []))) λc=>gE [(5,bF c),(12,bF rfl),(19,bF rfl),(26,bF rfl)] [])) λh=>gR []))
def yH(N:Nat)(n:Int):U aF->Nat->Int->(U so)->(U cQ)->(U cl)->(U aF)->(U so)->O (aI×Int)
 |[],_,g,a,b,c,d,e=>some ((⟨a,b,c,d,e⟩:aI),g)
 |u::o,p,g,a,b,c,d,e=>(DO N (⟨a,b,c,d,e⟩:aI) u.ar).bind λq=>(bif (decide (q<0))then some true else bif (decide ((0:Int)<=q))then(d[(q).toNat]?).bind λv=>(RT N v.aX).bind λw=>some (decide (w>n))else none).bind λx=>bif x then(λh i j k l m=>yH N n o (p+1) h i j k l m) g a b c d e else(qk N (⟨a,b,c,d,e⟩:aI) u.ar).bind λf=>(bif (f.2==0)then (OF N f.1 (⟨a,b,c,d,e⟩:aI)).bind λr=>some (!r)else some false).bind λt=>bif t then(λh i j k l m=>yH N n o (p+1) h i j k l m) (aY (g+(1:Int))) f.1.bj f.1.cO f.1.aS f.1.ax f.1.cB else(λh i j k l m=>yH N n o (p+1) h i j k l m) g a b c d e
def Fm(N:Nat)(b:aI)(c:Int):O (aI×Int):=(xg N b).bind λa=>bif (Nat.beq a.2.2.2.2.2.length a.2.2.2.1)then(tn N b).bind λd=>bif (d.2 !=0)then some ((⟨a.1,a.2.1,a.2.2.1,a.2.2.2.2.2,a.2.2.2.2.1⟩:aI),(0:Int))else yH N c b.ax 0 (0:Int) a.1 a.2.1 a.2.2.1 a.2.2.2.2.2 a.2.2.2.2.1 else none
def TH(f:aI)(a:(U so)×(U cQ)×(U cl)×Nat×(U so)×(U aF))(b:U so)(c:U cQ)(e:U cl)(g:U aF)(h:U so)(l:U ao):U ao:= .cells (di f).cells:: .cells EL:: .gone:: .cells [I (bQ a.1),.own 5 (dP a.2.1),.own 6 (dA a.2.2.1),I (dy a.2.2.2.2.2),I (bQ a.2.2.2.2.1)]:: .gone:: .front 47 3 a.2.1.length:: .front 52 7 a.2.2.1.length:: .gone:: .cells [I (bQ b),I (dP c),I (dA e),I (dy g),I (bQ h)]::l
def awb{N e n}:KO 9 [di e,Y n] (λr=>.bw [di r.1,Y r.2]) (Fm N e n):=
 fw func9 (ay λh z=>dW λA=>gA [[],[(4,oX eV (vV (cZ (vV (vC (vC (lT (xs:=(h.2.2.2.2.2.map dv)) eV)))))) [di e] [.cells (di e).cells,.cells EL] [] (Np z))]] (li (λ_=>(I7 [1,2,4,6] 7 (dy h.2.2.2.2.2) h.2.2.2.1 2 62 22 [.jk (h.2.2.2.2.2.map dv)] (vK (ZN A)) (oc _) (th (λ_=>rfl) _) ·)) (ay λQ B=>gA [[(4,cK Gi B)],[]] (bV λC=>gA [[f0 C],[],[(7,oL e.ax kO)]] (li (λ_=>(aom 8 ·)) (gT Ci 26 e.ax λo=>gx6 1 [] [1,4,6,9,26,27,28] 9 [] [(1,0),(1,1),(1,2),(1,3),(1,4)] (λp(k:Int)(a:(U so))(b:(U cQ))(c:(U cl))(g:(U aF))(j:(U so))=>⟨70,[(1,Y n),(4,An),(6,EA),(9,Y k),(26,I (dy e.ax)),(27,Y e.ax.length),(28,Y p)],TH e h a b c g j []⟩) (λp k a b c g j f E=>gR [[],[f0 (bY f)],[]]) (λp x R k a b c g j f E q=>ay λF G=>gA [[],[t0 (bZ f)],[(1,oE (nI (bA f)))],[(10,cK Rw G)]] (gG (λy=>[(48,aG y)]) (λ_=>(TH e h a b c g j (Rj x))) (aC (λt=>gE [(2,bT t)] []) λt=>dW λH=>ay λS J=>ay λT K=>gE [(2,bF t)] [(19,⟨_,_,.el (xs:=dy g) (i:=F) (Tr H) (nI J)⟩),(28,cK ajY K)]) λy=>aC (λu=>yp q (k,a,b,c,g,j) [[t0 u],[(2,oq (ck f rfl o))]] f) λu=>ay λl L=>gA [[f0 u],[(10,cL (Xb L))]] (gG (λm=>[(63,aG m)]) (λ_=>(TH e h a b c g j [.cells (dX x).cells,.cells (di l.1).cells])) (aC (λv=>ay λM P=>gE [(2,bT v)] [(16,cK asS P)]) λv=>gE [(2,bF v)] []) λm=>aC (λw=>yp q (aY (k+(1:Int)),l.1.bj,l.1.cO,l.1.aS,l.1.ax,l.1.cB) [[t0 w],[],[],[(2,oq (ck f rfl o))]] f) λw=>yp q (k,a,b,c,g,j) [[f0 w],[(2,oq (ck f rfl o))]] f)))))))))
def afg(N:Nat)(a:aK):U bD->Nat->O Bool
 |[],_=>some true
 |v6::d,b=>(a.xL[((b:Int)).toNat]?).bind λc=>bif ((bL v6.ar==bL c.ar)&&((v6.dh.toInt==c.dh.toInt)&&true))then(afg N a d (b+1))else some false
def PS(N:Nat)(a:aK)(b:aK):O Bool:=(bif (a.xK.toInt !=b.xK.toInt)then some true else some ((a.xL.length:Int) !=(b.xL.length:Int))).bind λc=>bif c then some false else afg N b a.xL 0
def Uu{N a c}:KO 30 [cJ a,cJ c] aG (PS N a c):=
 fw func30 (gA [[]] (gG (λf=>[(19,aG f)]) (λ_=>(Rs a c)) (aC (λd=>gE [(5,bT d)] []) λd=>gE [(5,bF d)] [(25,oL a.xL fO),(34,oL c.xL fO)]) λf=>iy λ_=>gB rm 0 1 a.xL λg=>eX 1 [] [2,3,5] 2 (λe=>⟨38,[(2,A1),(3,An),(5,Y e)],Rs a c⟩) (λe b h=>gR [[(10,oL a.xL fO)],[f0 (bY b)],[]]) (λe l m b h i=>ay λn j=>gA [[(10,oL a.xL fO)],[t0 (bZ b)],[(10,oE (jL (bA b))),(25,oE (jL j))]] (kC λk=>gb i () [[f0 (dG k)],[(5,oq (ck b rfl g))]] b))))
def aht(N:Nat)(a:U aK):U aK->Nat->O Bool
 |[],_=>some true
 |c::d,b=>(a[((b:Int)).toNat]?).bind λe=>(PS N c e).bind λf=>bif f then(aht N a d (b+1))else some false
def awa(N:Nat)(a:U aK)(b:U aK):O Bool:=bif ((a.length:Int) !=(b.length:Int))then some false else aht N b a 0
def asC{N a c}:KO 108 [I (dF a),I (dF c)] aG (awa N a c):=
 fw func108 (gA [[],[(4,oL a fJ),(10,oL c fJ)]] (iy λ_=>gT ny 0 a λf=>eX 1 [] [0,1,5] 0 (λe=>⟨27,[(0,I (dF a)),(1,I (dF c)),(5,Y e)],[]⟩) (λe b g=>gR [[(7,oL a fJ)],[f0 (bY b)],[]]) (λe l m b g h=>ay λn i=>ay λo j=>gA [[(7,oL a fJ)],[t0 (bZ b)],[(7,oE (mQ (bA b))),(19,oE (mQ i)),(25,cK Uu j)]] (kC λk=>gb h () [[f0 (dG k)],[(5,oq (ck b rfl f))]] b))))
def ab0(N:Nat)(a:aT)(b:aT):O Bool:=(bif (bL a.bp==bL b.bp)then (PS N a.aU b.aU).bind λc=>(bif c then (awa N a.bC b.bC).bind λd=>some d else some false)else some false).bind λe=>some e
def auw{N a b}:KO 68 [fK a,fK b] aG (ab0 N a b):=
 fw func68 (gA [[]] (gG (λe=>[(4,aG e)]) (λ_=>[.cells (fK a).cells,.cells (fK b).cells]) (aC (λc=>ay λh f=>dS (5,bT c) (dH (31,cK Uu f) (aC (λd=>ay λi g=>gE [(12,bT d)] [(52,cK asC g)]) λd=>gE [(12,bF d)] []))) λc=>gE [(5,bF c),(12,bF rfl)] []) λe=>gR []))
def abV(N:Nat)(a:U aT):U aT->Nat->O Bool
 |[],_=>some true
 |c::d,b=>(a[((b:Int)).toNat]?).bind λe=>(ab0 N c e).bind λf=>bif f then(abV N a d (b+1))else some false
def aey(N:Nat)(a:U aT)(b:U aT):O Bool:=bif ((a.length:Int) !=(b.length:Int))then some false else abV N b a 0
def ano{N a c}:KO 31 [I (cg a),I (cg c)] aG (aey N a c):=
 fw func31 (gA [[],[(4,oL a gv),(10,oL c gv)]] (iy λ_=>gT po 0 a λf=>eX 1 [] [0,1,5] 0 (λe=>⟨27,[(0,I (cg a)),(1,I (cg c)),(5,Y e)],[]⟩) (λe b g=>gR [[(7,oL a gv)],[f0 (bY b)],[]]) (λe l m b g h=>ay λn i=>ay λo j=>gA [[(7,oL a gv)],[t0 (bZ b)],[(7,oE (j5 (bA b))),(19,oE (j5 i)),(25,cK auw j)]] (kC λk=>gb h () [[f0 (dG k)],[(5,oq (ck b rfl f))]] b))))
def agd(N:Nat)(b:U au)(a:au->au->O Bool):U au->Nat->O Bool
 |[],_=>some true
 |d::e,c=>(b[((c:Int)).toNat]?).bind λf=>(a d f).bind λg=>bif g then(agd N b a e (c+1))else some false
mutual
def EM(N:Nat):Nat->au->au->O Bool
 |0,_,_=>none
 |d+1,v1,v2=>(bif (v1.aA==v2.aA)then(bif (bL v1.ar==bL v2.ar)then(bif ((v1.cU.xN.toInt==v2.cU.xN.toInt)&&((v1.cU.xD.toInt==v2.cU.xD.toInt)&&true))then(bif ((v1.aw.bt==v2.aw.bt)&&((v1.aw.bW==v2.aw.bW)&&((v1.aw.bR==v2.aw.bR)&&((v1.aw.b9==v2.aw.b9)&&((v1.aw.b8==v2.aw.b8)&&true)))))then (PS N v1.aU v2.aU).bind λv3=>(bif v3 then (aey N v1.xIdx v2.xIdx).bind λv4=>(bif v4 then ((O9 N d) v1.bk v2.bk).bind λv5=>some v5 else some false)else some false)else some false)else some false)else some false)else some false).bind λv6=>some v6
def O9(N:Nat):Nat->(U au)->(U au)->O Bool
 |0,_,_=>none
 |d+1,v1,v2=>bif ((v1.length:Int) !=(v2.length:Int))then some false else agd N v2 (EM N d) v1 0
end
def avZ(N:Nat)(a:au)(b:au):O Bool:=EM N N a b
def am4(N:Nat):∀d:Nat,(∀{a:au}{b:au},KO 16 [aL a,aL b] aG (EM N d a b))/\(∀{a:U au}{b:U au},KO 32 [I (eH a),I (eH b)] aG (O9 N d a b)):=by
 intro d
 induction d with
 |zero=>exact⟨(by intro a b r J;rw[EM]at J;cases J),(by intro a b r J;rw[O9]at J;cases J)⟩
 |succ d ih=>
  have h:= @ih.1;have i:= @ih.2;refine⟨?_,?_⟩;{intro a b;rw[EM];exact fw func16 (gA [[]] (gG (λj=>[(4,aG j)]) (λ_=>(SJ a b)) (aC (λk=>dS (5,bT k) (aC (λl=>dS (12,bT l) (aC (λe=>dS (19,bT e) (aC (λc=>ay λg m=>dS (26,bT c) (dH (94,cK Uu m) (aC (λn=>ay λv o=>dS (33,bT n) (dH (115,cK ano o) (aC (λf=>ay λp q=>gE [(40,bT f)] [(136,cK i q)]) λf=>gE [(40,bF f)] []))) λn=>gE [(33,bF n),(40,bF rfl)] []))) λc=>gE [(26,bF c),(33,bF rfl),(40,bF rfl)] [])) λe=>gE [(19,bF e),(26,bF rfl),(33,bF rfl),(40,bF rfl)] [])) λl=>gE [(12,bF l),(19,bF rfl),(26,bF rfl),(33,bF rfl),(40,bF rfl)] [])) λk=>gE [(5,bF k),(12,bF rfl),(19,bF rfl),(26,bF rfl),(33,bF rfl),(40,bF rfl)] []) λj=>gR []))}
  intro a b;rw[O9];exact fw func32 (gA [[],[(4,oL a iM),(10,oL b iM)]] (iy λ_=>gT qi 0 a λe=>eX 1 [] [0,1,5] 0 (λg=>⟨27,[(0,I (eH a)),(1,I (eH b)),(5,Y g)],[]⟩) (λg c t=>gR [[(7,oL a iM)],[(0,bF (bY c))],[]]) (λg p j c t u=>ay λw m=>ay λx o=>gA [[(7,oL a iM)],[(0,bT (bZ c))],[(7,oE (kg (bA c))),(19,oE (kg m)),(25,cK h o)]] (kC λf=>gb u () [[(0,bF (dG f))],[(5,oq (ck c rfl e))]] c))))
def anb{N a b}:KO 16 [aL a,aL b] aG (avZ N a b):=(am4 N N).1
def xn(N:Nat):O Bool:=(Vq N (bs [110])).bind λa=>(Vq N (bs [105])).bind λb=>(Lz N b (1:Int) (bs []) (⟨1,1⟩:aH) (⟨1,0,0,0,0⟩:aQ) (0:Int64)).bind λg=>(LZ N (bs [118]) [b]).bind λi=>(LZ N (bs [118]) ([iH])).bind λj=>(U0 N i j).bind λh=>(qk N (⟨[bs [110]],[],[(⟨bs [97],(⟨1,0,0,0,0⟩:aQ),[a]⟩:cl)],[(⟨bs [118],(⟨(1:Int),0,0,0,(0:Int)⟩:aQ),[(⟨bs [105],a⟩:cq)],[],0,g⟩:aF),(⟨bs [119],(⟨(1:Int),0,0,0,(0:Int)⟩:aQ),[(⟨bs [105],a⟩:cq)],[],0,h⟩:aF)],[bs [119]]⟩:aI) (bs [118])).bind λc=>(Fm N (⟨[bs [110]],[],[(⟨bs [97],(⟨1,0,0,0,0⟩:aQ),[a]⟩:cl)],[(⟨bs [118],(⟨(1:Int),0,0,0,(0:Int)⟩:aQ),[(⟨bs [105],a⟩:cq)],[],0,g⟩:aF),(⟨bs [119],(⟨(1:Int),0,0,0,(0:Int)⟩:aQ),[(⟨bs [105],a⟩:cq)],[],0,h⟩:aF)],[bs [119]]⟩:aI) (1:Int)).bind λk=>(bif (c.2==0)then(bif ((c.1.ax.length:Int)==1)then (c.1.ax[0]?).bind λl=>(Lz N b (1:Int) (bs []) (⟨1,1⟩:aH) (⟨1,0,0,0,0⟩:aQ) (0:Int64)).bind λd=>(Lz N iH (1:Int) (bs []) (⟨1,1⟩:aH) (⟨1,0,0,0,0⟩:aQ) (0:Int64)).bind λe=>(U0 N d e).bind λf=>(avZ N l.aX f).bind λm=>(bif m then some (k.2==0)else some false)else some false)else some false).bind λn=>some n
def W2(a:aK)(b:aK)(c:au)(e:au)(f:aI×Int)(g:aI×Int)(l:U ao):U ao:= .cells [Y 1,Y 0,Y 0,Y 0,Y 0]:: .cells (cJ a).cells:: .cells [Y 1,cd (bs []),bg 1,bg 1,Y 1,Y 0,Y 0,Y 0,Y 0,bg 0,I [],I [],I []]:: .cells (cJ b).cells:: .cells [bg 0,I []]:: .cells [.full (bQ [bs [110]]),.d (.v (.slice none 0 0)),.full (dA [(⟨bs [97],(⟨1,0,0,0,0⟩:aQ),[a]⟩:cl)]),.full (dy [(⟨bs [118],(⟨1,0,0,0,0⟩:aQ),[(⟨bs [105],a⟩:cq)],[],0,c⟩:aF),(⟨bs [119],(⟨1,0,0,0,0⟩:aQ),[(⟨bs [105],a⟩:cq)],[],0,e⟩:aF)]),.full (bQ [bs [119]])]:: .cells (di f.1).cells:: .cells (di g.1).cells::l
abbrev Nh:=λa b=>([.cells [Y 1,Y 0,Y 0,Y 0,Y 0],.cells (cJ a).cells,.cells [Y 1,cd (bs []),bg 1,bg 1,Y 1,Y 0,Y 0,Y 0,Y 0,bg 0,I [],I [],I []],.cells (cJ b).cells,.cells [bg 0,I []]]:List ao)
def Mh{N}:KO 5 [] aG (xn N):=
 fw func5 (ay λb m=>ay λa n=>ay λe o=>ay λE p=>ay λF q=>ay λf r=>ay λc t=>ay λg u=>gA [[],[(4,cK abZ m)],[],[],[],[],[(1,cK abZ n)]] (li (λ_=>(asz [0,1,2,3,5,6,7,8] 5 ⟨89,[(0,aG false),(1,A1),(2,An),(3,I (dC [(⟨bs [105],b⟩:cq)])),(5,.fn 13 [D0]),(6,.fn 15 []),(7,Ar),(8,CV)],Nh b a⟩ (Zh rfl) ·)) (gA [[(31,oQ [cJ a,D0] (Nh b a) [2] (RH _ o)),(52,cK S3 p),(61,cK S3 q),(64,cK abC r)],[(4,cL (Xb t))],[(4,cK awb u)]] (gG (λl=>[(0,aG l)]) (λ_=>(W2 b a e f c g [])) (aC (λh=>dS (2,bT h) (dH (16,oL c.1.ax kO) (aC (λi=>ay λG v=>ay λw x=>ay λy z=>ay λA B=>ay λH C=>dS (8,bT i) (dH (34,oE (k:=0) (nI v)) (dH (52,oQ [cJ a,D0] (W2 b a e f c g []) [2] (RH _ x)) (dH (61,oQ [cJ iH,D0] (W2 b a e f c g []) [2] (RH _ z)) (dH (64,cK abC B) (dH (67,cK anb C) (aC (λj=>gE [(24,bT j)] []) λj=>gE [(24,bF j)] []))))))) λi=>gE [(8,bF i),(24,bF rfl)] []))) λh=>gE [(2,bF h),(8,bF rfl),(24,bF rfl)] []) λl=>gR []))))
def Vr(N:Nat)(a:aR)(b:so):O Bool:=some (bL a.ar==bL b)
def aum{N b a}:KP 110 [No b,A1] (Mv a) aG (λ_=>(Mv a)) (Vr N b a):=
 fh 1 func110 (gH [[],[]])
def EC(N:Nat)(a:so):U aR->Nat->O Int
 |[],_=>some (-1:Int)
 |c::d,b=>(Vr N c a).bind λe=>bif e then some (b:Int)else(EC N a d (b+1))
def WI(N:Nat)(a:U aR)(b:so):O Int:=EC N b a 0
def amZ{N a c}:KP 109 [I (bz a),.fn 110 [A1]] (Mv c) Y (λ_=>(Mv c)) (WI N a c):=
 fh 1 func109 (gA [[],[(4,oL a yQ)]] (gT IM 0 a λg=>eX 1 [] [0,1,7,8] 1 (λe=>⟨19,[(0,I (bz a)),(1,.fn 110 [A1]),(7,Y a.length),(8,Y e)],Mv c⟩) (λe b h=>gH [[],[f0 (bY b)],[]]) (λe i l b h j=>ay λm k=>gA [[],[t0 (bZ b)],[],[(10,oE (Cc (bA b))),(16,oQ [No i,A1] (Mv c) [0] (aum _ k))]] (aC (λf=>gH [[t0 f],[]]) λf=>gb j () [[f0 f],[(2,oq (ck b rfl g))]] b))))
def Ht(N:Nat)(a:kY)(c:Int)(d:Int)(e:Int)(f:Int)(b:Int):O (Int×Int×Int):=some (u64.wrap (a.pF+(u64.wrap (c+b))),u64.wrap ((u64.wrap (a.mJ+d))+e),u64.wrap (a.lQ+f))
def yD(N:Nat)(a:kY)(b:Int)(c:Int)(d:Int)(e:Int)(f:Int):O (Int×Int×Int):=bif (decide ((u64.wrap ((u64.wrap (a.mJ+b))+c))<(u64.wrap (a.mJ+b))))then Ht N a d b c e (u64.wrap (f+(1:Int)))else Ht N a d b c e f
def A0(N:Nat)(b:kY)(a:Int)(c:Int)(d:Int)(e:Int):O (Int×Int×Int):=bif (decide ((u64.wrap (b.mJ+a))<a))then yD N b a e c d (1:Int)else yD N b a e c d (0:Int)
def uF(N:Nat)(b:kY)(c:Int)(a:Int)(d:Int):O (Int×Int×Int):=bif (decide ((u64.wrap (b.lQ+a))<a))then A0 N b c d a (1:Int)else A0 N b c d a (0:Int)
def Bh(N:Nat)(a:Int)(b:Int)(d:Bool)(c:kY):O (Int×Int×Int):=bif d then bif ((u64.wrap ((u64.wrap ((BitVec.ofInt (IntKind.bits .u64) (IntKind.max .u64)^^^BitVec.ofInt (IntKind.bits .u64) b).toNat:Int))+(1:Int)))==0)then bif ((u64.wrap ((u64.wrap ((BitVec.ofInt (IntKind.bits .u64) (IntKind.max .u64)^^^BitVec.ofInt (IntKind.bits .u64) a).toNat:Int))+(1:Int)))==0)then uF N c (u64.wrap ((u64.wrap ((BitVec.ofInt (IntKind.bits .u64) (IntKind.max .u64)^^^BitVec.ofInt (IntKind.bits .u64) a).toNat:Int))+(1:Int))) (u64.wrap ((u64.wrap ((BitVec.ofInt (IntKind.bits .u64) (IntKind.max .u64)^^^BitVec.ofInt (IntKind.bits .u64) b).toNat:Int))+(1:Int))) (u64.wrap ((u64.wrap ((BitVec.ofInt (IntKind.bits .u64) (IntKind.max .u64)^^^BitVec.ofInt (IntKind.bits .u64) (0:Int)).toNat:Int))+(1:Int)))else uF N c (u64.wrap ((u64.wrap ((BitVec.ofInt (IntKind.bits .u64) (IntKind.max .u64)^^^BitVec.ofInt (IntKind.bits .u64) a).toNat:Int))+(1:Int))) (u64.wrap ((u64.wrap ((BitVec.ofInt (IntKind.bits .u64) (IntKind.max .u64)^^^BitVec.ofInt (IntKind.bits .u64) b).toNat:Int))+(1:Int))) (u64.wrap ((BitVec.ofInt (IntKind.bits .u64) (IntKind.max .u64)^^^BitVec.ofInt (IntKind.bits .u64) (0:Int)).toNat:Int))else uF N c (u64.wrap ((BitVec.ofInt (IntKind.bits .u64) (IntKind.max .u64)^^^BitVec.ofInt (IntKind.bits .u64) a).toNat:Int)) (u64.wrap ((u64.wrap ((BitVec.ofInt (IntKind.bits .u64) (IntKind.max .u64)^^^BitVec.ofInt (IntKind.bits .u64) b).toNat:Int))+(1:Int))) (u64.wrap ((BitVec.ofInt (IntKind.bits .u64) (IntKind.max .u64)^^^BitVec.ofInt (IntKind.bits .u64) (0:Int)).toNat:Int))else uF N c a b (0:Int)
def agK(a:kY)(b:Int)(l:U ao):U ao:= .cells [Af a.pF,Af a.mJ,Af (u64.wrap (a.lQ+b))]::l
abbrev T4:=λa=>([.cells (FZ a).cells]:List ao)
def adb{N f g l a r}(J:Bh N f g l a=some r):KH 149 [A1,Af f,Af g,aG l] (T4 a) (.bw []) ([.cells [Af r.1,Af r.2.1,Af r.2.2]]):=by
 rw[Bh]at J;refine AN 1 func149 ?_;refine RJ bH 1 [[],[]] [0,1,2,8] 1 (λ((b,c,e):Int×Int×Int)=>⟨76,[(0,A1),(1,Af b),(2,Af c),(8,Af e)],T4 a⟩) (λ((b,c,e):Int×Int×Int)=>uF N a b c e=some r) ?_ ?_
 ·intro y j;apply bc J<;>intro m J
  ·refine gr bH [[(0,bT m)],[],[],[]] ?_;apply bc J<;>intro n J
   ·refine gr bH [[(0,bT n)],[],[]] ?_;apply bc J<;>intro o J
    ·exact nU bH j (u64.wrap ((u64.wrap ((BitVec.ofInt (IntKind.bits .u64) (IntKind.max .u64)^^^BitVec.ofInt (IntKind.bits .u64) f).toNat:Int))+(1:Int)),u64.wrap ((u64.wrap ((BitVec.ofInt (IntKind.bits .u64) (IntKind.max .u64)^^^BitVec.ofInt (IntKind.bits .u64) g).toNat:Int))+(1:Int)),u64.wrap ((u64.wrap ((BitVec.ofInt (IntKind.bits .u64) (IntKind.max .u64)^^^BitVec.ofInt (IntKind.bits .u64) (0:Int)).toNat:Int))+(1:Int))) [[(0,bT o)],[]] J
    exact nU bH j (u64.wrap ((u64.wrap ((BitVec.ofInt (IntKind.bits .u64) (IntKind.max .u64)^^^BitVec.ofInt (IntKind.bits .u64) f).toNat:Int))+(1:Int)),u64.wrap ((u64.wrap ((BitVec.ofInt (IntKind.bits .u64) (IntKind.max .u64)^^^BitVec.ofInt (IntKind.bits .u64) g).toNat:Int))+(1:Int)),u64.wrap ((BitVec.ofInt (IntKind.bits .u64) (IntKind.max .u64)^^^BitVec.ofInt (IntKind.bits .u64) (0:Int)).toNat:Int)) [[(0,bF o)]] J
   exact nU bH j (u64.wrap ((BitVec.ofInt (IntKind.bits .u64) (IntKind.max .u64)^^^BitVec.ofInt (IntKind.bits .u64) f).toNat:Int),u64.wrap ((u64.wrap ((BitVec.ofInt (IntKind.bits .u64) (IntKind.max .u64)^^^BitVec.ofInt (IntKind.bits .u64) g).toNat:Int))+(1:Int)),u64.wrap ((BitVec.ofInt (IntKind.bits .u64) (IntKind.max .u64)^^^BitVec.ofInt (IntKind.bits .u64) (0:Int)).toNat:Int)) [[(0,bF n)]] J
  exact nU bH j (f,g,(0:Int)) [[(0,bF m)]] J
 rintro⟨b,c,e⟩ J
 try dsimp only at J
 rw[uF]at J;refine GO bH r 2 [[],[],[]] [0,1,8,9] 1 (λ(h:Int)=>⟨76,[(0,A1),(1,Af b),(8,Af e),(9,Af h)],agK a c []⟩) (A0 N a b e c) ?_ ?_
 ·intro z p;apply bc J<;>intro q J
  ·exact nU bH p (1:Int) [[(0,bT q)],[]] J
  exact nU bH p (0:Int) [[(0,bF q)]] J
 intro h J;rw[A0]at J;refine GO bH r 3 [[],[],[]] [0,8,9,10,11] 1 (λ(k:Int)=>⟨76,[(0,A1),(8,Af e),(9,Af h),(10,Af (u64.wrap (a.mJ+b))),(11,Af k)],agK a c []⟩) (yD N a b h e c) ?_ ?_
 ·intro A t;apply bc J<;>intro u J
  ·exact nU bH t (1:Int) [[(0,bT u)],[]] J
  exact nU bH t (0:Int) [[(0,bF u)]] J
 intro k J;rw[yD]at J;refine GO bH r 4 [[],[]] [0,8,11] 1 (λ(i:Int)=>⟨76,[(0,A1),(8,Af e),(11,Af i)],[.cells [Af a.pF,Af (u64.wrap ((u64.wrap (a.mJ+b))+h)),Af (u64.wrap (a.lQ+c))]]⟩) (Ht N a e b h c) ?_ ?_
 ·intro B w;apply bc J<;>intro x J
  ·exact nU bH w (u64.wrap (k+(1:Int))) [[(0,bT x)],[]] J
  exact nU bH w k [[(0,bF x)]] J
 intro i J;rw[Ht]at J;cases J;exact lz bH [[]]
def VG(N:Nat)(a:aR)(b:bD):O Bool:=some (bL a.ar==bL b.ar)
def ajv{N b a}:KP 151 [No b,A1] (ND a) aG (λ_=>(ND a)) (VG N b a):=
 fh 1 func151 (gH [[],[]])
def Cq(N:Nat)(a:bD):U aR->Nat->O Int
 |[],_=>some (-1:Int)
 |c::d,b=>(VG N c a).bind λe=>bif e then some (b:Int)else(Cq N a d (b+1))
def Uq(N:Nat)(a:U aR)(b:bD):O Int:=Cq N b a 0
def at4{N a c}:KP 109 [I (bz a),.fn 151 [A1]] (ND c) Y (λ_=>(ND c)) (Uq N a c):=
 fh 1 func109 (gA [[],[(4,oL a yQ)]] (gT IM 0 a λg=>eX 1 [] [0,1,7,8] 1 (λe=>⟨19,[(0,I (bz a)),(1,.fn 151 [A1]),(7,Y a.length),(8,Y e)],ND c⟩) (λe b h=>gH [[],[f0 (bY b)],[]]) (λe i l b h j=>ay λm k=>gA [[],[t0 (bZ b)],[],[(10,oE (Cc (bA b))),(16,oQ [No i,A1] (ND c) [0] (ajv _ k))]] (aC (λf=>gH [[t0 f],[]]) λf=>gb j () [[f0 f],[(2,oq (ck b rfl g))]] b))))
def KM(N:Nat)(a:kY):O (Int64×Bool):=(bif (a.mJ==(u64.wrap (Int64.ofInt (((Int64.ofInt a.lQ).toInt).fdiv (2^(min ((63:Int)).toNat (IntKind.bits .i64))))).toInt))then some (a.pF==(u64.wrap (Int64.ofInt (((Int64.ofInt a.lQ).toInt).fdiv (2^(min ((63:Int)).toNat (IntKind.bits .i64))))).toInt))else some false).bind λb=>some (Int64.ofInt a.lQ,b)
def ans{N a}:KP 153 [A1] (T4 a) (λr=>.bw [bg r.1,aG r.2]) (λ_=>(T4 a)) (KM N a):=
 fh 1 func153 (gA [[],[(14,oq (kM a.lQ))],[(4,⟨_,_,.nn (b:=63) gy⟩),(5,oq (ac8 (Int64.ofInt a.lQ) (min ((63:Int)).toNat (IntKind.bits .i64))))]] (gG (λd=>[(2,bg (Int64.ofInt a.lQ)),(3,aG d)]) (λ_=>(T4 a)) (aC (λc=>gE [(7,bT c)] []) λc=>gE [(7,bF c)] []) λd=>gH []))
def Iy(N:Nat)(d:U aR):U bD->Nat->Int->Int->Int->O (Int64×Int)
 |[],_,a,b,c=>(KM N (⟨a,b,c⟩:kY)).bind λh=>bif h.2 then some (h.1,(0:Int))else some ((0:Int64),(3:Int))
 |e::k,l,a,b,c=>(Uq N d e).bind λf=>bif (decide (f<0))then some ((0:Int64),(9:Int))else bif (decide ((0:Int)<=f))then(d[(f).toNat]?).bind λi=>(xV N e.dh).bind λm=>(xV N i.cU).bind λn=>(H0 N m n).bind λj=>(Bh N j.1 j.2 (!((decide (e.dh.toInt<0))==(decide (i.cU.toInt<0)))) (⟨a,b,c⟩:kY)).bind λg=>(λo p q=>Iy N d k (l+1) o p q) g.1 g.2.1 g.2.2 else none
def w8(N:Nat)(a:aK)(c:U aR):O (Int64×Int):=(uU N a).bind λd=>bif (d !=0)then some ((0:Int64),(1:Int))else(xV N a.xK).bind λe=>(Bh N (0:Int) e (decide (a.xK.toInt<0)) ae1).bind λb=>Iy N c a.xL 0 b.1 b.2.1 b.2.2
def L6(e:aK)(a:Int)(b:Int)(c:Int)(l:U ao):U ao:= .cells (cJ e).cells:: .cells [Af a,Af b,Af c]::l
def EN{N a g}:KO 115 [cJ a,I (bz g)] (λr=>.bw [bg r.1,Y r.2]) (w8 N a g):=
 fw func115 (ay λL n=>gA [[],[(4,cK zM n)]] (iy λ_=>ay λo p=>ay λh q=>li (λ_=>(vc bH [(7,cK Ho p),(19,oR [An,Af (0:Int),Af o,(aG (decide (a.xK.toInt<0)))] [.cells (cJ a).cells,.cells [Af (0:Int),Af (0:Int),Af (0:Int)]] [1] (adb q))] [] [.cells (cJ a).cells,.cells [Af h.1,Af h.2.1,Af h.2.2]] ·)) (gA [[(7,oL a.xL fO)]] (gT rm 26 a.xL λt=>gl3 1 [] [1,6,26,27,28] 2 (λj(b:Int)(c:Int)(e:Int)=>⟨68,[(1,I (bz g)),(6,An),(26,I (cY a.xL)),(27,Y a.xL.length),(28,Y j)],L6 a b c e []⟩) (λj b c e f u=>ay λM w=>gA [[],[f0 (bY f)],[(1,oQ [An] (L6 a b c e []) [1] (ans _ w))],[]] (qg λx=>gR [[t0 (eF x)],[]])) (λj k P b c e f u y=>ay λz A=>gA [[],[t0 (bZ f)],[(1,oE (jL (bA f)))],[(7,oQ [I (bz g),.fn 151 [D0]] (L6 a b c e (ND k)) [2] (at4 _ A))],[]] (bV λB=>dW λC=>ay λE F=>ay λQ G=>ay λR H=>ay λm J=>ay λl K=>gb y (l.1,l.2.1,l.2.2) [[f0 B],[(7,⟨_,_,.el (xs:=bz g) (i:=z) (Tr C) (Cc F)⟩)],[(7,cK Ho G),(13,cK Ho H),(16,cK abW J)],[(25,oR [An,Af m.1,Af m.2,(aG (!((decide (k.dh.toInt<0))==(decide (E.cU.toInt<0)))))] (L6 a b c e (ND k)) [1] (adb K))],[(2,oq (ck f rfl t))]] f))))))
def Ky(N:Nat)(b:cQ)(c:U aR):O (Bool×Int):=(w8 N b.aU c).bind λa=>bif (a.2 !=0)then some (false,a.2)else(bif (a.1.toInt==0)then some true else(bif (decide (a.1.toInt>0))then some (!b.l9)else some false)).bind λd=>some (d,(0:Int))
def aks{N b e}:KO 111 [pH b,I (bz e)] (λr=>.bw [aG r.1,Y r.2]) (Ky N b e):=
 fw func111 (ay λi g=>gA [[],[(10,cK EN g)],[]] (bV λh=>gA [[f0 h]] (gG (λf=>[(4,aG f),(5,Y 0)]) (λ_=>[.cells (pH b).cells]) (aC (λc=>gE [(2,bT c),(5,uN)] []) λc=>dS (2,bF c) (aC (λa=>gE [(5,bT a)] [(28,bT a)]) λa=>gE [(5,bF a)] [(28,bF a)])) λf=>gR [])))
def K3(N:Nat)(c:U aR):U cQ->Nat->O Int
 |[],_=>some (0:Int)
 |d::b,e=>(Ky N d c).bind λa=>bif (a.2 !=0)then some a.2 else bif a.1 then(K3 N c b (e+1))else some (16:Int)
def Ns(N:Nat)(b:U aR)(c:aI):U so->Nat->O Int
 |[],_=>K3 N b c.cO 0
 |e::f,g=>(WI N b e).bind λa=>(bif (decide (a<0))then some true else bif (decide ((0:Int)<=a))then(b[(a).toNat]?).bind λd=>(bif (decide (d.cU.toInt<1))then some true else some (decide (d.cU.toInt>4096)))else none).bind λh=>bif h then some (15:Int)else(Ns N b c f (g+1))
def MW(N:Nat)(a:aI)(b:U aR):O Int:=bif ((b.length:Int) !=(a.bj.length:Int))then some (15:Int)else Ns N b a a.bj 0
def anH{N a b}:KO 69 [di a,I (bz b)] Y (MW N a b):=
 fw func69 (gA [[],[(4,oL b yQ),(13,oL a.bj jt)]] (bV λp=>gA [[f0 p],[(7,oL a.bj jt)]] (gT tR 19 a.bj λq=>eX 1 [] [1,2,19,20,21] 1 (λg=>⟨66,[(1,I (bz b)),(2,A1),(19,I (bQ a.bj)),(20,Y a.bj.length),(21,Y g)],RX a⟩) (λg c r=>gA [[],[f0 (bY c)],[(7,oL a.cO ql)]] (gT E5 48 a.cO λt=>eX 2 [] [1,48,49,50] 1 (λh=>⟨66,[(1,I (bz b)),(48,I (dP a.cO)),(49,Y a.cO.length),(50,Y h)],RX a⟩) (λh e u=>gR [[],[f0 (bY e)],[]]) (λh E v e u w=>ay λx y=>gA [[],[t0 (bZ e)],[(1,oE (C3 (bA e)))],[(7,cK aks y)],[]] (iy λ_=>kC λz=>gb w () [[f0 (dG z)],[(2,oq (ck e rfl t))]] e)))) (λg l F c r A=>ay λf B=>gA [[],[t0 (bZ c)],[(1,oE (rM (bA c)))],[(7,oQ [I (bz b),.fn 110 [An]] (T3 a l) [1] (amZ _ B))]] (gG (λm=>[(45,aG m)]) (λ_=>(T3 a l)) (aC (λj=>gE [(2,bT j),(10,bT rfl)] []) λj=>dW λn=>ay λG o=>dS (2,bF j) (dH (16,⟨_,_,.el (xs:=bz b) (i:=f) (Tr n) (Cc o)⟩) (aC (λk=>gE [(10,bT k)] []) λk=>gE [(10,bF k)] [(40,⟨_,_,.el (xs:=bz b) (i:=f) (Tr n) (Cc o)⟩)]))) λm=>bV λC=>gb A () [[f0 C],[(2,oq (ck c rfl q))]] c)))))
def BL(N:Nat)(a:aI)(c:U aR):O Int:=(tn N a).bind λb=>bif (b.2 !=0)then some b.2 else(MW N a c).bind λd=>some d
def ao5{N a b}:KO 33 [di a,I (bz b)] Y (BL N a b):=
 fw func33 (ay λg c=>gA [[],[(4,cK Gi c)],[]] (bV λe=>ay λh f=>gR [[f0 e],[(7,cK anH f)]]))
def KQ(N:Nat)(c:U aR):U aK->Nat->(U Int)->O ((U Int)×Int)
 |[],_,b=>some (b,(0:Int))
 |d::e,f,b=>(w8 N d c).bind λa=>bif (a.2 !=0)then some ([],a.2)else(bif (decide (a.1.toInt<1))then some true else some (decide (a.1.toInt>4096))).bind λg=>bif g then some ([],(15:Int))else bif (Nat.ble ((b.length+1)*8) 140737488355328)then(λh=>KQ N c e (f+1) h) (b++[a.1.toInt])else none
def GN(N:Nat)(a:U aK)(b:U aR):O ((U Int)×Int):=KQ N b a 0 []
def afw{N b e}:KO 72 [I (dF b),I (bz e)] (λr=>.bw [I (bN r.1),Y r.2]) (GN N b e):=
 fw func72 (gA [[],[],[(4,oL b fJ)]] (li (λ_=>(qK 6 3 1 [] (.inr km) ·)) (gT ny 0 b λj=>iC 1 [] [1,6,11,12,13] 1 (λf(a:U Int)=>⟨38,[(1,I (bz e)),(6,.own 0 (bN a)),(11,I (dF b)),(12,Y b.length),(13,Y f)],[.front 3 1 a.length]⟩) (λf a c k=>gR [[],[f0 (bY c)],[]]) (λf l t a c k m=>ay λh n=>gA [[],[t0 (bZ c)],[(1,oE (mQ (bA c)))],[(7,cK EN n)],[]] (bV λo=>gA [[f0 o]] (gG (λi=>[(31,aG i)]) (λ_=>[.front 3 1 a.length,.cells (cJ l).cells]) (aC (λg=>gE [(2,bT g)] []) λg=>gE [(2,bF g)] []) λi=>bV λp=>dW λq=>gb m (a++[h.1.toInt]) [[f0 p],[(10,oA o6 a ([h.1.toInt]) q)],[(2,oq (ck c rfl j))]] c))))))
def HK(N:Nat)(b:Int):U Int->Nat->Int->O Int
 |[],_,a=>some a
 |c::d,e,a=>bif (decide ((aY (a*c))>b))then some (aY (b+(1:Int)))else(λf=>HK N b d (e+1) f) (aY (a*c))
def Xt(N:Nat)(a:U Int)(b:Int):O Int:=HK N b a 0 (1:Int)
def apQ{N a e}:KO 74 [I (bN a),Y e] Y (Xt N a e):=
 fw func74 (gA [[],[],[(4,oL a ig)]] (gT o6 0 a λg=>iC 1 [] [1,5,8,9,10] 0 (λf(c:Int)=>⟨24,[(1,Y e),(5,Y c),(8,I (bN a)),(9,Y a.length),(10,Y f)],[]⟩) (λf c b h=>gR [[],[f0 (bY b)],[]]) (λf i l c b h j=>gA [[],[t0 (bZ b)],[(1,oE (kK (bA b)))],[],[]] (bV λk=>gb j (aY (c*i)) [[f0 k],[(2,oq (ck b rfl g))]] b))))
def Ec(N:Nat)(c:aI)(d:U aR)(e:so):O ((U Int)×aQ×Int):=(HQ N c e).bind λa=>bif a.2.2 then(GN N a.2.1 d).bind λb=>bif (b.2 !=0)then some ([],a.1,b.2)else(Xt N b.1 (4096:Int)).bind λf=>bif (decide (f>4096))then some ([],a.1,(15:Int))else some (b.1,a.1,(0:Int))else some ([],a.1,(9:Int))
def UW{N a b c}:KO 70 [di a,I (bz b),cd c] (λr=>.bw [I (bN r.1),cN r.2.1,Y r.2.2]) (Ec N a b c):=
 fw func70 (ay λk e=>gA [[],[(7,cK Qo e)],[]] (kC λf=>ay λl g=>gA [[f0 (dG f)],[(7,cK afw g)],[]] (bV λh=>ay λm i=>gA [[f0 h],[(4,cK apQ i)]] (bV λj=>gR [[f0 j],[]]))))
def Q4(N:Nat)(a:aO)(b:so):O Bool:=some (bL a.ar==bL b)
def at6{N b a}:KP 37 [awt b,A1] (Mv a) aG (λ_=>(Mv a)) (Q4 N b a):=
 fh 1 func37 (gH [[],[]])
def BB(N:Nat)(a:so):U aO->Nat->O Int
 |[],_=>some (-1:Int)
 |c::d,b=>(Q4 N c a).bind λe=>bif e then some (b:Int)else(BB N a d (b+1))
def TN(N:Nat)(a:U aO)(b:so):O Int:=BB N b a 0
def ajf{N a c}:KP 36 [I (bG a),.fn 37 [A1]] (Mv c) Y (λ_=>(Mv c)) (TN N a c):=
 fh 1 func36 (gA [[],[(4,oL a A9)]] (gT Gg 0 a λg=>eX 1 [] [0,1,7,8] 1 (λe=>⟨19,[(0,I (bG a)),(1,.fn 37 [A1]),(7,Y a.length),(8,Y e)],Mv c⟩) (λe b h=>gH [[],[f0 (bY b)],[]]) (λe i l b h j=>ay λm k=>gA [[],[t0 (bZ b)],[],[(10,oE (Eo (bA b))),(16,oQ [awt i,A1] (Mv c) [0] (at6 _ k))]] (aC (λf=>gH [[t0 f],[]]) λf=>gb j () [[f0 f],[(2,oq (ck b rfl g))]] b))))
def wH(N:Nat)(b:U aO)(c:so):O (bo×Bool):=(TN N b c).bind λa=>bif (decide (a<0))then some (nQ,false)else bif (decide ((0:Int)<=a))then(b[(a).toNat]?).bind λd=>some (d.gg,true)else none
def NF{N a b}:KO 18 [I (bG a),cd b] (λr=>.bw [jo r.1,aG r.2]) (wH N a b):=
 fw func18 (ay λc e=>gA [[],[(7,oQ [I (bG a),.fn 37 [A1]] [.cells [cd b],.cells zc4] [0] (ajf _ e))],[]] (bV λf=>dW λg=>ay λj h=>gR [[f0 f],[(7,⟨_,_,.el (xs:=bG a) (i:=c) (Tr g) (Eo h)⟩)]]))
def Eg(N:Nat):U Int->Nat->Int->O Int
 |[],_,_=>some (0:Int)
 |b::c,d,a=>bif (a !=0)then bif (decide (b>(i64.wrap (((4096:Int)).tdiv a))))then some (2:Int)else(λe=>Eg N c (d+1) e) (aY (a*b))else none
def MG(N:Nat)(a:U Int):U Int->Nat->O Int
 |[],_=>Eg N a 0 (1:Int)
 |v4::b,c=>bif (decide (v4<1))then some (1:Int)else(MG N a b (c+1))
def GA(N:Nat)(a:U Int):O Int:=bif (decide ((a.length:Int)>6))then some (2:Int)else MG N a a 0
def aeL{N a}:KO 147 [I (bN a)] Y (GA N a):=
 fw func147 (gA [[],[(4,oL a ig)]] (bV λi=>gA [[f0 i],[(4,oL a ig)]] (gT o6 0 a λj=>eX 1 [] [0,11,12,13] 0 (λg=>⟨34,[(0,I (bN a)),(11,I (bN a)),(12,Y a.length),(13,Y g)],[]⟩) (λg e k=>gA [[],[f0 (bY e)],[],[(4,oL a ig)]] (gT o6 0 a λl=>iC 2 [] [5,20,21,22] 0 (λh(c:Int)=>⟨34,[(5,Y c),(20,I (bN a)),(21,Y a.length),(22,Y h)],[]⟩) (λh c f m=>gR [[],[f0 (bY f)],[]]) (λh n u c f m o=>dW λp=>gA [[],[t0 (bZ f)],[(1,oE (kK (bA f)))],[(7,⟨_,_,.nz (b:=c) (Ui.1 p)⟩)]] (bV λq=>gb o (aY (c*n)) [[f0 q],[],[(2,oq (ck f rfl l))]] f)))) (λg v w e k r=>gA [[],[t0 (bZ e)],[(1,oE (kK (bA e)))],[]] (bV λt=>gb r () [[f0 t],[(2,oq (ck e rfl j))]] e)))))
def KA(N:Nat):U Int->Nat->Int->O Int
 |[],_,a=>some a
 |b::c,d,a=>(λe=>KA N c (d+1) e) (aY (a*b))
def P4(N:Nat)(a:U Int):O Int:=(GA N a).bind λb=>bif (b !=0)then some (0:Int)else KA N a 0 (1:Int)
def ap8{N a}:KO 148 [I (bN a)] Y (P4 N a):=
 fw func148 (ay λl f=>gA [[],[(4,cK aeL f)]] (bV λg=>gA [[f0 g],[],[(4,oL a ig)]] (gT o6 0 a λh=>iC 1 [] [3,9,10,11] 0 (λe(c:Int)=>⟨20,[(3,Y c),(9,I (bN a)),(10,Y a.length),(11,Y e)],[]⟩) (λe c b i=>gR [[],[f0 (bY b)],[]]) (λe j m c b i k=>gb k (aY (c*j)) [[],[t0 (bZ b)],[(1,oE (kK (bA b)))],[],[(2,oq (ck b rfl h))]] b))))
def Me(N:Nat)(a:bo):U aH->Nat->O Int
 |[],_=>some (0:Int)
 |b::c,d=>(nR N a.aw b).bind λe=>bif e then(Me N a c (d+1))else some (1:Int)
def HM(N:Nat)(a:bo):O Int:=(n9 N a.aw).bind λb=>bif (b !=0)then some b else(GA N a.aJ).bind λc=>bif (c !=0)then some c else(P4 N a.aJ).bind λd=>bif ((a.fE.length:Int) !=d)then some (1:Int)else Me N a a.fE 0
abbrev T5:=λa=>([.cells (jo a).cells]:List ao)
def agQ{N a}:KO 113 [jo a] Y (HM N a):=
 fw func113 (ay λp e=>gA [[],[(7,cK qq e)],[]] (bV λf=>ay λq g=>gA [[f0 f],[(7,cK aeL g)],[]] (bV λh=>ay λr i=>gA [[f0 h],[(7,oL a.fE nK),(16,cK ap8 i)]] (bV λj=>gA [[f0 j],[(7,oL a.fE nK)]] (gT CJ 27 a.fE λk=>eX 1 [] [1,27,28,29] 1 (λc=>⟨39,[(1,A1),(27,I (fa a.fE)),(28,Y a.fE.length),(29,Y c)],T5 a⟩) (λc b l=>gR [[],[f0 (bY b)],[]]) (λc t u b l m=>ay λv n=>gA [[],[t0 (bZ b)],[(1,oE (ta (bA b)))],[(10,cK wy n)]] (kC λo=>gb m () [[f0 (dG o)],[(2,oq (ck b rfl k))]] b)))))))
def LI(N:Nat)(a:U Int):U Int->Nat->O Bool
 |[],_=>some true
 |c::d,b=>(a[((b:Int)).toNat]?).bind λe=>bif (c !=e)then some false else(LI N a d (b+1))
def Pa(N:Nat)(a:U Int)(b:U Int):O Bool:=bif ((a.length:Int) !=(b.length:Int))then some false else LI N b a 0
def anY{N a c}:KO 114 [I (bN a),I (bN c)] aG (Pa N a c):=
 fw func114 (gA [[],[(4,oL a ig),(10,oL c ig)]] (bV λf=>gA [[f0 f],[(4,oL a ig)]] (gT o6 0 a λg=>eX 1 [] [0,1,12,13] 0 (λe=>⟨26,[(0,I (bN a)),(1,I (bN c)),(12,Y a.length),(13,Y e)],[]⟩) (λe b h=>gR [[],[f0 (bY b)],[]]) (λe l m b h i=>ay λn j=>gA [[],[t0 (bZ b)],[],[(7,oE (kK (bA b))),(19,oE (kK j))]] (bV λk=>gb i () [[f0 k],[(2,oq (ck b rfl g))]] b)))))
def qO(N:Nat)(c:U aO)(d:so)(b:aQ)(e:U Int):O Int:=(wH N c d).bind λa=>bif a.2 then(HM N a.1).bind λf=>bif (f !=0)then some (1:Int)else bif ((a.1.aw.bt==b.bt)&&((a.1.aw.bW==b.bW)&&((a.1.aw.bR==b.bR)&&((a.1.aw.b9==b.b9)&&((a.1.aw.b8==b.b8)&&true)))))then(Pa N a.1.aJ e).bind λg=>bif g then some (0:Int)else some (15:Int)else some (10:Int)else some (9:Int)
def ab1{N a b c e}:KO 71 [I (bG a),cd b,cN c,I (bN e)] Y (qO N a b c e):=
 fw func71 (ay λl f=>gA [[],[(7,cK NF f)],[]] (kC λg=>ay λm h=>gA [[f0 (dG g)],[(4,cK agQ h)]] (iy λ_=>kC λi=>ay λn j=>gA [[f0 (dG i)],[(10,cK anY j)]] (qg λk=>gR [[t0 (eF k)],[]]))))
def QB(N:Nat)(a:U Int):O (U Int):=bif Nat.ble (a.length*8) 140737488355328 then some a else none
def apP{N a r}(J:QB N a=some r):gq prog 38 [I (bN a)] (·=(I (bN r))):=by
 obtain⟨c,rfl⟩:=eY J;have b:=lG c gy;exact ai1 JL (by rw[ig];exact b.1) (by rw[ig];exact b.2)
def Sz(N:Nat)(a:U aH):O (U aH):=bif Nat.ble (a.length*16) 140737488355328 then some a else none
def am2{N a r}(J:Sz N a=some r):gq prog 39 [I (fa a)] (·=(I (fa r))):=by
 obtain⟨c,rfl⟩:=eY J;have b:=lG c gy;exact as8 W3 (by rw[nK];exact b.1) (by rw[nK];exact b.2)
def BS(N:Nat)(a:bo):O bo:=(QB N a.aJ).bind λb=>(Sz N a.fE).bind λc=>some (⟨a.aw,b,c⟩:bo)
def avY{N a}:KO 19 [jo a] jo (BS N a):=
 fw func19 (gA [[]] (ay λb c=>ay λe f=>li (λ_=>(aex 1 bH [] [.cells (jo a).cells,.cells [Y a.aw.bt,Y a.aw.bW,Y a.aw.bR,Y a.aw.b9,Y a.aw.b8,I (bN b),I (fa e)]] ⟨[(13,cL (apP c)),(22,cL (am2 f))],by kernel_rfl⟩ ·)) (gR [])))
def Dz:fG:=⟨dB,gU⟩
def eJ:U AV:=[bg 0,bg 0,Y 0,Y 0,Y 0,Y 0,Y 0]
def jW:U AV:=[bg 0,bg 0]
def u7(N:Nat)(f:U aO)(d:cl)(e:U aO)(g:(U aO)->O ((U aO)×Int))(a:Int):O ((U aO)×Int):=bif (a !=0)then some ([],a)else(wH N f d.ar).bind λb=>(BS N b.1).bind λc=>bif (Nat.ble ((e.length+1)*104) 140737488355328)then g (e++[(⟨d.ar,c⟩:aO)])else none
def lC(N:Nat)(d:aI)(e:U aR)(a:U aO):U cl->Nat->(U aO)->O ((U aO)×Int)
 |[],_,b=>some (b,(0:Int))
 |v6::g,h,b=>(Ec N d e v6.ar).bind λc=>bif (c.2.2==0)then(qO N a v6.ar c.2.1 c.1).bind λi=>u7 N a v6 b (λf=>lC N d e a g (h+1) f) i else u7 N a v6 b (λf=>lC N d e a g (h+1) f) c.2.2
def HA(N:Nat)(a:aI)(b:U aR)(c:U aO):O ((U aO)×Int):=lC N a b c a.aS 0 []
def xq(a:aI)(b:U aO)(c:cl)(d:(U Int)×aQ×Int)(l:U ao):U ao:= .cells (di a).cells:: .front 79 8 b.length:: .cells (mj c).cells:: .cells (cN d.2.1).cells::l
def DT(a:aI)(b:U aO)(l:U ao):U ao:= .cells (di a).cells:: .front 79 8 b.length::l
def Fw(a:aI)(l:U ao):U ao:= .cells (di a).cells::l
def au1{N a m k r}(J:HA N a m k=some r):KH 34 [di a,I (bz m),I (bG k)] [] (.bw [.own 0 (bG r.1),Y r.2]) ([.front 79 8 r.1.length]):=by
 rw[HA]at J;refine rz 1 func34 rfl km (Zh rfl) ?_;refine j0 (s':=⟨60,[(0,di a),(1,I (bz m)),(2,I (bG k))],[]⟩) km ?_;refine az (CM [] [(3,A1)] (Fw a []) ?_);refine az (CM [] [(8,.d (.v (.slice none 0 0)))] (Fw a []) ?_);refine az (az ?_);refine CM [(7,oL a.aS pe)] [(17,I (dA a.aS)),(18,Y a.aS.length),(19,Y 0)] (Fw a []) ?_;refine ft ?_;refine OW 8 79 8 [] (.inr ⟨rfl,rfl⟩) ?_;refine rY 17 (dA a.aS) km λz=> ?_;have A:=tX pe z;refine Pf [1,2,3,8,17,18,19] 2 (λ((h,n,b):Nat×(U cl)×(U aO))=>⟨60,[(1,I (bz m)),(2,I (bG k)),(3,A1),(8,.own 1 (bG b)),(17,I (dA a.aS)),(18,Y a.aS.length),(19,Y h)],DT a b []⟩) (λ((h,n,b):Nat×(U cl)×(U aO))=>a.aS.drop h=n/\lC N a m k n h b=some r) (λ((h,n,b):Nat×(U cl)×(U aO))=>n.length) (0,a.aS,[]) (Zh rfl) km ⟨rfl,J⟩ ?_;rintro⟨h,n,b⟩ ⟨o,J⟩;cases n with
 |nil=>
  rw[lC]at J;refine az (CM [] [(20,(aG (decide ((h:Int)<(a.aS.length:Int)))))] (DT a b []) ?_);refine az (AX (t:=(decide ((h:Int)<(a.aS.length:Int)))) (bY o) ?_);refine mA (iK (iK (nx rfl ?_)));refine bx ?_;refine az (CM [] [(6,.own 1 (bG b)),(7,Y 0)] (DT a b []) ?_);refine fR [6,7] 2 (Zh rfl) (s':=⟨60,[(6,.own 1 (bG b)),(7,Y 0)],DT a b []⟩) km ?_;refine awo (aae (i:=1) (j:=0) (Zh rfl) (Zh rfl) (Zh rfl) (Zh rfl)) ?_;refine j0 (s':=⟨60,[(6,.own 0 (bG b)),(7,Y 0)],[.front 79 8 b.length,.cells (di a).cells]⟩) km ?_;refine fR [6,7] 1 (Zh rfl) (s':=⟨60,[(6,.own 0 (bG b)),(7,Y 0)],[.front 79 8 b.length]⟩) km ?_;refine cT ?_;have u:=Zl J;subst u;exact mw (cC trivial fM) km
 |cons f x=>
  rw[lC]at J;refine az (CM [] [(20,(aG (decide ((h:Int)<(a.aS.length:Int)))))] (DT a b []) ?_);refine az (AY (t:=(decide ((h:Int)<(a.aS.length:Int)))) (bZ o) ?_);refine dn ?_;refine bx ?_;refine az (ft ?_);refine az (CM [(1,oE (xM (bA o)))] [(10,D0)] (DT a b [.cells (mj f).cells]) ?_);refine az ?_;obtain⟨g,B,J⟩:=bJ J;refine CM [(13,cK UW B)] [(12,Ar),(11,I (bN g.1)),(13,Y g.2.2)] (xq a b f g []) ?_;refine az (az ?_);refine CM [] [(33,(aG (g.2.2==0)))] (xq a b f g []) ?_;refine EU [1,2,3,8,10,13,17,18,19] 4 (λ(e:Int)=>⟨60,[(1,I (bz m)),(2,I (bG k)),(3,A1),(8,.own 1 (bG b)),(10,D0),(13,Y e),(17,I (dA a.aS)),(18,Y a.aS.length),(19,Y h)],xq a b f g []⟩) (λ(e:Int)=>u7 N k f b (λC=>lC N a m k x (h+1) C) e=some r) (Zh rfl) ?_ ?_
  ·rcases eo (g.2.2==0)with p|p
   ·replace J:=(cS p).symm.trans J;refine AY (t:=(g.2.2==0)) p ?_;obtain⟨w,E,J⟩:=bJ J;refine BI [(16,cK ab1 E)] [(13,Y w),(39,Y w),(38,I (bN g.1)),(37,cN g.2.1),(36,cd f.ar),(35,D0),(34,I (bG k))] (xq a b f g []) ?_;refine bx ?_;exact⟨w,by kernel_rfl,J⟩
   replace J:=(eu p).symm.trans J;refine AX (t:=(g.2.2==0)) p ?_;refine dn ?_;refine bx ?_;exact⟨g.2.2,by kernel_rfl,J⟩
  rintro e J
  try dsimp only at J
  rw[u7]at J;refine az (az ?_);refine CM [] [(41,(aG (e !=0)))] (xq a b f g []) ?_;rcases eo (e !=0)with q|q
  ·replace J:=(cS q).symm.trans J;refine AY (t:=(e !=0)) q ?_;refine az (CM [] [(6,.d (.v (.slice none 0 0))),(7,Y e)] (xq a b f g []) ?_);refine OW 6 79 8 [] (.inr ⟨rfl,rfl⟩) ?_;refine fR [6,7] 5 (Zh rfl) (s':=⟨60,[(6,.own 4 (bG [])),(7,Y e)],xq a b f g [.front 79 8 0]⟩) km ?_;refine awo (aae (i:=4) (j:=0) (Zh rfl) (Zh rfl) (Zh rfl) (Zh rfl)) ?_;refine j0 (s':=⟨60,[(6,.own 0 (bG [])),(7,Y e)],[.front 79 8 0,.front 79 8 b.length,.cells (mj f).cells,.cells (cN g.2.1).cells,.cells (di a).cells]⟩) km ?_;refine fR [6,7] 1 (Zh rfl) (s':=⟨60,[(6,.own 0 (bG [])),(7,Y e)],[.front 79 8 0]⟩) km ?_;refine cT (dd (eI (dd (dd (eI (dd ?_))))));have u:=Zl J;subst u;exact mw (cC trivial fM) km
  replace J:=(eu q).symm.trans J;refine AX (t:=(e !=0)) q ?_;refine dn ?_;refine bx ?_;refine az ?_;obtain⟨l,F,J⟩:=bJ J;refine CM [(10,cK NF F)] [(14,CV)] (xq a b f g (T5 l.1)) ?_;obtain⟨c,G,J⟩:=bJ J;have y:=iw J;replace J:=(cS y).symm.trans J;refine SD bH km [(13,cK avY G),(22,oA Gg b ([(⟨f.ar,c⟩:aO)]) y)] [(8,.own 1 (bG (b++[(⟨f.ar,c⟩:aO)]))),(57,.own 1 (bG (b++[(⟨f.ar,c⟩:aO)]))),(56,.full (bG [(⟨f.ar,c⟩:aO)])),(55,.agg [cd f.ar,Y c.aw.bt,Y c.aw.bW,Y c.aw.bR,Y c.aw.b9,Y c.aw.b8,I (bN c.aJ),I (fa c.fE)]),(54,jo c),(53,jo l.1),(52,cd f.ar),(51,D0),(50,.own 1 (bG b))] (Fw a [.front 79 8 (b++[(⟨f.ar,c⟩:aO)]).length,.cells (mj f).cells,.cells (cN g.2.1).cells,.cells (jo l.1).cells]) km ?_;refine hY ?_;refine bx ?_;refine BI [(2,oq (ck o rfl A))] [(19,Y ((h+1:Nat):Int)),(58,Y ((h+1:Nat):Int))] (Fw a [.front 79 8 (b++[(⟨f.ar,c⟩:aO)]).length,.cells (mj f).cells,.cells (cN g.2.1).cells,.cells (jo l.1).cells]) ?_
  refine bx ?_;exact⟨(h+1,x,b++[(⟨f.ar,c⟩:aO)]),by kernel_rfl,⟨kG o,J⟩,ZC _⟩
def Hv(N:Nat):U cq->Nat->(U aK)->O (U aK)
 |[],_,a=>some a
 |v4::b,c,a=>bif (Nat.ble ((a.length+1)*32) 140737488355328)then(λd=>Hv N b (c+1) d) (a++[v4.dq])else none
def WB(N:Nat)(a:U cq):O (U aK):=Hv N a 0 []
def anS{N a}:KO 73 [I (dC a)] (λr=>.d (.sl (dF r))) (WB N a):=
 fw func73 (gA [[],[],[(4,oL a kt)]] (li (λ_=>(qK 3 45 2 [] (.inr km) ·)) (gT qD 0 a λg=>iC 1 [] [3,6,7,8] 1 (λe(b:U aK)=>⟨19,[(3,.own 0 (dF b)),(6,I (dC a)),(7,Y a.length),(8,Y e)],[.front 45 2 b.length]⟩) (λe b c h=>gR [[],[f0 (bY c)],[]]) (λe f k b c h i=>dW λj=>gb i (b++[f.dq]) [[],[t0 (bZ c)],[(1,oE (uo (bA c)))],[(13,oA ny b ([f.dq]) j)],[(2,oq (ck c rfl g))]] c))))
def Qt(N:Nat)(a:U Int):O (U Int):=bif Nat.ble (a.length*8) 140737488355328 then some a else none
def afL{N a r}(J:Qt N a=some r):da prog 38 [I (bN a)] [] λc h1=>c=(.vec 0 0 r.length r.length 1)/\h1=[.vec 3 1 (bf (r.map fu))]:=by
 obtain⟨e,rfl⟩:=eY J;have b:=lG e gy;have h1:=amp (xs:=bN a) JL (by rw[ig];exact b.1) (by rw[ig];exact b.2);have f:bf (a.map fu)=bf (bN a):=by rw[pO]
 have g:=ig (l:=a);rw[g]at h1;rw[f];exact h1
def wM(N:Nat)(d:Nat)(e:U Int)(b:Int):Nat->Int->Int->O Int
 |0,_,_=>none
 |v4+1,c,a=>bif (decide (a<(d:Int)))then bif (decide ((0:Int)<=a))then(e[(a).toNat]?).bind λf=>bif (decide ((aY (c*f))>b))then some (aY (b+(1:Int)))else(λg h=>wM N d e b v4 g h) (aY (c*f)) (aY (a+(1:Int)))else none else some c
def Jz(N:Nat)(a:Nat)(c:Int)(b:U Int):O Int:=bif (Nat.beq b.length a)then wM N a b c N (1:Int) (0:Int)else none
def qL(a:U Int)(l:U ao):U ao:= .vec 3 1 (bf (a.map fu))::l
def avX{N b g a r}(J:Jz N b g a=some r):KH 74 [.vec 0 0 b b 1,Y g] ([.vec 3 1 (bf (a.map fu))]) (Y r) ([.vec 3 1 (bf (a.map fu))]):=by
 rw[Jz]at J;refine rz 1 func74 rfl km (Zh rfl) ?_;refine j0 (s':=⟨24,[(0,.vec 0 0 b b 1),(1,Y g)],qL a []⟩) km ?_;refine az (CM [] [] (qL a []) ?_);refine az (CM [] [(5,Y 1)] (qL a []) ?_);refine az (az ?_);have l:=iw J;replace J:=(cS l).symm.trans J;refine CM [(4,⟨_,_,.pr .no (lJ (f:=fu) (ZN l))⟩)] [(8,.vec 0 0 b b 1),(9,Y b),(10,Y 0)] (qL a []) ?_;refine ft ?_;refine xz [1,5,8,9,10] 1 [] [] (λ((h,e,c):Nat×Int×Int)=>⟨24,[(1,Y g),(5,Y e),(8,.vec 0 0 b b 1),(9,Y b),(10,Y c)],qL a []⟩) (λ((h,e,c):Nat×Int×Int)=>wM N b a g h e c=some r) (λ((h,e,c):Nat×Int×Int)=>h) (N,(1:Int),(0:Int)) (Zh rfl) ⟨(ZF (xs:=(a.map fu)) fM),by kernel_rfl⟩ J ?_;rintro⟨h,e,c⟩ J
 try dsimp only at J
 cases h with
 |zero=>
  rw[wM]at J;cases J
 |succ h=>
  rw[wM]at J;refine az (CM [] [(11,(aG (decide (c<(b:Int)))))] (qL a []) ?_);refine az ?_;rcases eo (decide (c<(b:Int)))with j|j
  ·replace J:=(cS j).symm.trans J;refine AY (t:=(decide (c<(b:Int)))) j ?_;refine dn ?_;refine bx ?_;refine az (ft ?_);refine az ?_;have n:=iw J;replace J:=(cS n).symm.trans J;obtain⟨i,o,J⟩:=bJ J;refine CM [(1,⟨_,_,.pr (.ix ((c).toNat)) (sB (lJ (f:=fu) (ZN l)) (Tr n) (Tr j) rfl)⟩),(4,⟨_,_,.pr (.el ((fu i).map AV.d)) (Nt (f:=fu) (ZN l) o)⟩)] [(7,Y i)] (qL a []) ?_;refine az (CM [] [(5,Y (aY (e*i)))] (qL a []) ?_);refine az (CM [] [(19,(aG (decide ((aY (e*i))>g))))] (qL a []) ?_);rcases eo (decide ((aY (e*i))>g))with k|k
   ·replace J:=(cS k).symm.trans J;refine AY (t:=(decide ((aY (e*i))>g))) k ?_;refine az (CM [] [(4,Y (aY (g+(1:Int))))] (qL a []) ?_);refine cT (eI (dd (dd (eI (dd ?_)))));have m:=Zl J;subst m;exact mw (ZF (xs:=(a.map fu)) fM) km
   replace J:=(eu k).symm.trans J;refine AX (t:=(decide ((aY (e*i))>g))) k ?_;refine dn ?_;refine hY ?_;refine bx ?_;refine BI [] [(10,Y (aY (c+(1:Int)))),(22,Y (aY (c+(1:Int))))] (qL a []) ?_;refine bx ?_;exact⟨(h,aY (e*i),aY (c+(1:Int))),⟨(ZF (xs:=(a.map fu)) fM),by kernel_rfl⟩,J,ZC _⟩
  replace J:=(eu j).symm.trans J;refine AX (t:=(decide (c<(b:Int)))) j ?_;refine mA (iK (iK (nx rfl ?_)));refine bx ?_;refine az (CM [] [(4,Y e)] (qL a []) ?_);refine cT ?_;have m:=Zl J;subst m;exact mw (ZF (xs:=(a.map fu)) fM) km
def TZ(N:Nat)(a:U so)(b:Nat):O (U so):=bif Nat.beq a.length b&&Nat.blt b 4611686018427387904 then some (jH a)else none
def au8{N c a r}(J:TZ N c a=some r):da prog 154 [.vec 0 0 a a 1] [.vec 9 1 (bf (c.map je))] λe h1=>e=(I (bQ r))/\h1=[.gone]:=by
 obtain⟨b,rfl⟩:=eY J;rw[Zo]at b;exact amj (ZN b.1) (Zh b.2)
def uX(N:Nat)(e:Nat->(U so)->O (U so)):U aT->Nat->Nat->(U so)->O (U so)
 |[],_,a,b=>e a b
 |c::h,d,a,b=>bif (bL c.bp==bL (bs []))then(λf g=>uX N e h (d+1) f g) a b else bif (Nat.beq b.length a)then bif (Nat.ble ((a+1)*16) 140737488355328)then(λf g=>uX N e h (d+1) f g) (a+1) (b++[c.bp])else none else none
def Bj(N:Nat)(a:Nat->(U so)->O (U so))(b:au)(c:Nat)(d:U so):O (U so):=uX N a b.xIdx 0 c d
def qc(N:Nat):U au->Nat->(U so)->O (U so)
 |[],a,b=>(TZ N b a).bind λg=>some g
 |c::f,a,b=>bif (c.aA==3)then bif (Nat.beq b.length a)then bif (Nat.ble ((a+1)*16) 140737488355328)then Bj N (λd e=>qc N f d e) c (a+1) (b++[c.ar])else none else none else Bj N (λd e=>qc N f d e) c a b
def Gy(N:Nat)(a:au):O (U so):=(yr N a).bind λb=>qc N (dx b) 0 []
def q8(b:au)(a:Nat)(c:U so)(d:Code)(e:Code)(f:au)(g:au)(l:U ao):U ao:= .cells (aL b).cells:: .cells [.vec 2 0 a a 1]:: .vec 9 1 (bf (c.map je)):: .lp .busy 9 d e (dL 36 [(3,An),(8,.fn 81 [.bm [dV f] 0 0])]):: .cells (aL g).cells::l
def B6(b:au)(a:Nat)(c:U so)(l:U ao):U ao:= .cells (aL b).cells:: .cells [.vec 2 0 a a 1]:: .vec 9 1 (bf (c.map je))::l
def xd(a:au)(l:U ao):U ao:= .cells (aL a).cells::l
def acJ(c:au)(b:Nat)(d:U so)(a:aT)(e:Code)(f:Code)(g:au)(h:au)(l:U ao):U ao:=xd c (.cells [.vec 2 0 (b+1) (b+1) 1]:: .vec 9 1 (bf ((d++[a.bp]).map je)):: .lp .busy 9 e f (dL 36 [(3,An),(8,.fn 81 [.bm [dV g] 0 0])]):: .cells (aL h).cells:: .cells (fK a).cells::l)
def aj3{N g r}(J:Gy N g=some r):KF 116 [aL g] (I (bQ r)):=by
 rw[Gy]at J;refine qZ func116 rfl km ?_;refine fR [0] 0 (Zx _) (s':=⟨36,[(0,aL g)],[]⟩) km ?_;refine az (CM [] [(1,A1)] (xd g []) ?_);refine az (CM [] [(3,An)] (xd g [.cells [.d (.v (.slice none 0 0))]]) ?_);refine az (az ?_);obtain⟨o,S,J⟩:=bJ J;refine CM [(4,cL (Pc S))] [(8,.fn 81 [.bm [dV o] 0 0])] (xd g [.cells [.d (.v (.slice none 0 0))]]) ?_;refine ft ?_;refine afl 1 0 9 1 rfl rfl ?_;refine LO [3,8] 3 [] [] (Zh rfl) (s':=⟨36,[(3,An),(8,.fn 81 [.bm [dV o] 0 0])],xd g [.cells [.vec 2 0 0 0 1],.vec 9 1 (bf (([]:U so).map je))]⟩) ⟨(cC trivial (cC trivial (ZF (xs:=(([]:U so).map je)) fM))),by kernel_rfl⟩ ?_;refine ya (m:=3) (enc:=aL) (xs:=(dx o)) km (Ni o) (λ((i,j):Nat×(U so))=>(B6 g i j [])) (λ((i,j):Nat×(U so)) l=>qc N l i j=some r) (0,[]) km J (by rintro⟨i,j⟩;rfl) (by rintro⟨i,j⟩;exact(Ce km (Ce km (Ce ae0 adL)))) km rfl ?_ ?_
 ·rintro⟨i,j⟩ a L J h2 q u
  try dsimp only at J
  rw[qc]at J;refine LO [3,9] 4 [] [] (Zx _) (s':=⟨36,[(3,An),(9,aL a)],B6 g i j [.lp .ready 9 q u (dL 36 [(3,An),(8,.fn 81 [.bm [dV o] 0 0])])]⟩) ⟨(cC trivial (cC trivial (ZF (xs:=(j.map je)) (cC trivial fM)))),by kernel_rfl⟩ ?_;refine BI [] [(4,CV)] (B6 g i j [.lp .ready 9 q u (dL 36 [(3,An),(8,.fn 81 [.bm [dV o] 0 0])]),.cells (aL a).cells]) ?_;refine bx ?_;refine⟨B6 g i j [],xd a [],rfl,km,?_⟩;refine LO [3,4] 5 [] [] (Zh rfl) (s':=⟨36,[(3,An),(4,CV)],q8 g i j q u o a []⟩) ⟨(cC trivial (cC trivial (ZF (xs:=(j.map je)) (cC trivial (cC trivial fM))))),by kernel_rfl⟩ ?_;refine ft ?_;refine az (az ?_);refine CM [] [(12,(aG (a.aA==3)))] (q8 g i j q u o a []) ?_;refine aec [3,4] 5 [] [] (λ((A,x):Nat×(U so))=>⟨36,[(3,An),(4,CV)],q8 g A x q u o a []⟩) (λ((A,x):Nat×(U so))=>Bj N (λE F=>qc N L E F) a A x=some r) (Zh rfl) ?_ ?_
  ·rcases eo (a.aA==3)with B|B
   ·replace J:=(cS B).symm.trans J;refine AY (t:=(a.aA==3)) B ?_;have M:=iw J;replace J:=(cS M).symm.trans J;have G:=iw J;replace J:=(cS G).symm.trans J;refine BI [(13,⟨_,_,.pr (.ap (bf ((j++[a.ar]).map je)) (bf (([a.ar]).map je)) (i+1) (i+1)) (IC (f:=je) (h:=(q8 g i j q u o a [])) (y:=(.full (bQ [a.ar]))) (k:=1) (ZN M) rfl (λc H=>E8 c (by rw[pc];exact H)) rfl rfl (lG G gy).1 (lG G gy).2)⟩)] [(17,.vec 2 0 (i+1) (i+1) 1),(16,.full (bQ [a.ar])),(15,cd a.ar),(14,.ptr 4 1),(13,.vec 2 0 i i 1)] (xd g [.cells [.vec 2 0 (i+1) (i+1) 1],.vec 9 1 (bf ((j++[a.ar]).map je)),.lp .busy 9 q u (dL 36 [(3,An),(8,.fn 81 [.bm [dV o] 0 0])]),.cells (aL a).cells]) ?_;refine bx ?_;exact⟨(i+1,j++[a.ar]),⟨(cC trivial (cC trivial (ZF (xs:=((j++[a.ar]).map je)) (cC trivial (cC trivial fM))))),by kernel_rfl⟩,J⟩
   replace J:=(eu B).symm.trans J;refine AX (t:=(a.aA==3)) B ?_;refine dn ?_;refine bx ?_;exact⟨(i,j),⟨(cC trivial (cC trivial (ZF (xs:=(j.map je)) (cC trivial (cC trivial fM))))),by kernel_rfl⟩,J⟩
  rintro⟨A,x⟩ J
  try dsimp only at J
  rw[Bj]at J;refine az (CM [(7,oL a.xIdx gv)] [(19,I (cg a.xIdx)),(20,Y a.xIdx.length),(21,Y 0)] (q8 g A x q u o a []) ?_);refine ft ?_;refine rY 19 (cg a.xIdx) km λT=> ?_;have P:=tX gv T;refine xz [3,19,20,21] 5 [] [] (λ((e,w,n,p):Nat×(U aT)×Nat×(U so))=>⟨36,[(3,An),(19,I (cg a.xIdx)),(20,Y a.xIdx.length),(21,Y e)],q8 g n p q u o a []⟩) (λ((e,w,n,p):Nat×(U aT)×Nat×(U so))=>a.xIdx.drop e=w/\uX N (λE F=>qc N L E F) w e n p=some r) (λ((e,w,n,p):Nat×(U aT)×Nat×(U so))=>w.length) (0,a.xIdx,A,x) (Zh rfl) ⟨(cC trivial (cC trivial (ZF (xs:=(x.map je)) (cC trivial (cC trivial fM))))),by kernel_rfl⟩ ⟨rfl,J⟩ ?_;rintro⟨e,w,n,p⟩ ⟨z,J⟩;cases w with
  |nil=>
   rw[uX]at J;refine az (CM [] [(22,(aG (decide ((e:Int)<(a.xIdx.length:Int)))))] (q8 g n p q u o a []) ?_);refine az (AX (t:=(decide ((e:Int)<(a.xIdx.length:Int)))) (bY z) ?_);refine mA (iK (iK (nx rfl ?_)));refine hY ?_;refine ark (B6 g n p []) rfl (Ce km (Ce km (Ce ae0 adL))) ⟨(cC trivial (cC trivial (ZF (xs:=(p.map je)) (cC trivial fM)))),by kernel_rfl⟩ ?_;exact⟨(n,p),km,J⟩
  |cons b Q=>
   rw[uX]at J;refine az (CM [] [(22,(aG (decide ((e:Int)<(a.xIdx.length:Int)))))] (q8 g n p q u o a []) ?_);refine az (AY (t:=(decide ((e:Int)<(a.xIdx.length:Int)))) (bZ z) ?_);refine dn ?_;refine bx ?_;refine az (ft ?_);refine az (CM [(1,oE (j5 (bA z)))] [(6,DF)] (q8 g n p q u o a (T2 b)) ?_);refine az (CM [] [(27,(aG (!(bL b.bp==bL (bs [])))))] (q8 g n p q u o a (T2 b)) ?_);rcases eo (bL b.bp==bL (bs []))with C|C
   ·replace J:=(cS C).symm.trans J;refine AX (t:=(!(bL b.bp==bL (bs [])))) (dG C) ?_;refine dn ?_;refine hY ?_;refine bx ?_;refine BI [(2,oq (ck z rfl P))] [(21,Y ((e+1:Nat):Int)),(33,Y ((e+1:Nat):Int))] (q8 g n p q u o a (T2 b)) ?_;refine bx ?_;exact⟨(e+1,Q,n,p),⟨(cC trivial (cC trivial (ZF (xs:=(p.map je)) (cC trivial (cC trivial fM))))),by kernel_rfl⟩,⟨kG z,J⟩,ZC _⟩
   replace J:=(eu C).symm.trans J;refine AY (t:=(!(bL b.bp==bL (bs [])))) (eF C) ?_;have R:=iw J;replace J:=(cS R).symm.trans J;have K:=iw J;replace J:=(cS K).symm.trans J;refine BI [(13,⟨_,_,.pr (.ap (bf ((p++[b.bp]).map je)) (bf (([b.bp]).map je)) (n+1) (n+1)) (IC (f:=je) (h:=(q8 g n p q u o a (T2 b))) (y:=(.full (bQ [b.bp]))) (k:=1) (ZN R) rfl (λc H=>E8 c (by rw[pc];exact H)) rfl rfl (lG K gy).1 (lG K gy).2)⟩)] [(32,.vec 2 0 (n+1) (n+1) 1),(31,.full (bQ [b.bp])),(30,cd b.bp),(29,.ptr 5 2),(28,.vec 2 0 n n 1)] (acJ g n p b q u o a []) ?_;refine hY ?_;refine bx ?_;refine BI [(2,oq (ck z rfl P))] [(21,Y ((e+1:Nat):Int)),(33,Y ((e+1:Nat):Int))] (acJ g n p b q u o a []) ?_;refine bx ?_;exact⟨(e+1,Q,n+1,p++[b.bp]),⟨(cC trivial (cC trivial (ZF (xs:=((p++[b.bp]).map je)) (cC trivial (cC trivial fM))))),by kernel_rfl⟩,⟨kG z,J⟩,ZC _⟩
 rintro⟨i,j⟩ J
 try dsimp only at J
 rw[qc]at J;refine hY ?_;refine bx ?_;refine az ?_;obtain⟨W,h3,J⟩:=bJ J;refine CM [(4,⟨_,_,.Om (lT (xs:=(j.map je)) eV) (vV eV) (nw:=[.vec 2 0 i i 1]) (h:=(B6 g i j [.gone])) (l:=[2]) km km km km (au8 h3)⟩)] [(2,I (bQ W))] (xd g [.cells [.vec 2 0 i i 1],.gone,.gone]) ?_;refine cT ?_;have hr:=Zl J;subst hr;exact fX km
def CF(N:Nat)(c:aI)(d:U aR)(e:U aO):U so->Nat->O Int
 |[],_=>some (0:Int)
 |f::g,h=>(Ec N c d f).bind λa=>bif (a.2.2 !=0)then some a.2.2 else(qO N e f a.2.1 a.1).bind λb=>bif (b !=0)then some b else(CF N c d e g (h+1))
def tD(N:Nat)(a:aI)(b:U aR)(c:U aO)(d:au):O Int:=(Gy N d).bind λe=>CF N a b c e 0
def arO{N c e f g}:KO 75 [di c,I (bz e),I (bG f),aL g] Y (tD N c e f g):=
 fw func75 (ay λb i=>gA [[],[(4,cL (aj3 i)),(7,oL b jt)]] (gT tR 16 b λj=>eX 1 [] [1,2,4,16,17,18] 2 (λh=>⟨42,[(1,I (bz e)),(2,I (bG f)),(4,A1),(16,I (bQ b)),(17,Y b.length),(18,Y h)],[.cells (di c).cells,.cells (aL g).cells]⟩) (λh a k=>gR [[],[f0 (bY a)],[]]) (λh t u a k l=>ay λm n=>gA [[],[t0 (bZ a)],[(1,oE (rM (bA a)))],[(10,cK UW n)],[]] (bV λo=>ay λp q=>gA [[f0 o],[(13,cK ab1 q)],[]] (bV λr=>gb l () [[f0 r],[(2,oq (ck a rfl j))]] a)))))
def OC(N:Nat)(a:U aO):O ((U aO)×(U (so×bo))):=some (a,[])
def afY(a:U aO)(l:U ao):U ao:= .cells [I (bG a)]:: .map (cv cx []):: .cells [.mp 1]::l
def alR(N:Nat)(a:U aO)(r:(U aO)×(U (so×bo)))(J:OC N a=some r):KH 76 [I (bG a)] [] (.fn 117 [D0,A1]) ([.cells [I (bG r.1)],.map (cv cx r.2),.cells [.mp 1]]):=by
 rw[OC]at J;refine rz 3 func76 rfl km (Zh rfl) ?_;refine j0 (s':=⟨6,[(0,I (bG a))],[]⟩) km ?_;refine az (CM [] [(1,A1)] [.cells [I (bG a)]] ?_);refine az (CM [] [(3,D0)] (afY a []) ?_);refine az (CM [] [(2,.fn 117 [D0,A1])] (afY a []) ?_);refine cT ?_;have b:=Zl J;subst b;exact mw (cC trivial (cC trivial (cC trivial fM))) km
def C2(N:Nat)(a:U Int):O (U Int):=bif (Nat.ble ((0+a.length)*8) 140737488355328)then some a else none
def WV(a:U Int)(l:U ao):U ao:= .cells [.own 1 (bN a)]:: .front 3 1 a.length::l
def aeV{N a r}(J:C2 N a=some r):KH 77 [I (bN a)] [] (.fn 118 [.bm [[.sl (bN r)]] 0 0]) []:=by
 rw[C2]at J;refine sJ 0 func77 rfl km (Zh rfl) ?_;refine j0 (s':=⟨6,[(0,I (bN a))],[]⟩) km ?_;refine az (CM [] [(1,A1)] [.cells [I (bN a)]] ?_);refine az ?_;have b:=iw J;replace J:=(cS b).symm.trans J;refine CM [(4,awq o6 a b)] [] (WV a []) ?_;refine az (CM [] [(2,.fn 118 [A1])] (WV a []) ?_);refine fR [2] 2 (Zh rfl) (s':=⟨6,[(2,.fn 118 [A1])],WV a []⟩) km ?_;refine UG 0 (s':=⟨6,[(2,.fn 118 [.bm [[.sl (bN a)]] 0 0])],[.gone,.front 3 1 a.length]⟩) km ?_;refine cT ?_;have c:=Zl J;subst c;exact jQ km
def C6(N:Nat)(c:Bool):U Int->Nat->Int->O Int
 |[],_,_=>some (0:Int)
 |f::b,g,a=>(bif c then some false else bif (a !=0)then some (decide (f>(i64.wrap (((65536:Int)).tdiv a))))else none).bind λd=>bif d then some (2:Int)else bif c then(λe=>C6 N c b (g+1) e) a else(λe=>C6 N c b (g+1) e) (aY (a*f))
def MQ(N:Nat)(b:U Int):U Int->Nat->Bool->O Int
 |[],_,a=>C6 N a b 0 (1:Int)
 |v4::c,d,a=>bif (decide (v4<0))then some (1:Int)else(bif a then some true else some (v4==0)).bind λe=>(λf=>MQ N b c (d+1) f) e
def QA(N:Nat)(a:U Int):O Int:=bif (decide ((a.length:Int)>16))then some (2:Int)else MQ N a a 0 false
def anE{N c}:KO 193 [I (bN c)] Y (QA N c):=
 fw func193 (gA [[],[(4,oL c ig)]] (bV λq=>gA [[f0 q],[],[(4,oL c ig)]] (gT o6 0 c λr=>iC 1 [] [0,3,4,12,13,14] 0 (λi(h:Bool)=>⟨46,[(0,I (bN c)),(3,Y 1),(4,aG h),(12,I (bN c)),(13,Y c.length),(14,Y i)],[]⟩) (λi h f t=>gA [[],[f0 (bY f)],[(4,oL c ig)]] (gT o6 0 c λo=>iC 2 [] [3,4,26,27,28] 0 (λj(a:Int)=>⟨46,[(3,Y a),(4,aG h),(26,I (bN c)),(27,Y c.length),(28,Y j)],[]⟩) (λj a e u=>gR [[],[f0 (bY e)],[]]) (λj v w a e u p=>gA [[],[t0 (bZ e)],[(1,oE (kK (bA e)))]] (gG (λg=>[(39,aG g)]) (λ_=>[]) (aC (λk=>gE [(2,bF (dG k))] []) λk=>dW λx=>gE [(2,bT (eF k))] [(16,⟨_,_,.nz (b:=a) (Ui.1 x)⟩)]) λg=>iy λ_=>aC (λl=>gb p a [[f0 (dG l)],[(2,oq (ck e rfl o))]] e) λl=>gb p (aY (a*v)) [[t0 (eF l)],[],[(2,oq (ck e rfl o))]] e)))) (λi A B h f t y=>gA [[],[t0 (bZ f)],[(1,oE (kK (bA f)))],[]] (bV λz=>gA [[f0 z]] (gG (λm=>[(4,aG m)]) (λ_=>[]) (aC (λn=>gE [(1,bT n)] []) λn=>gE [(1,bF n)] []) λm=>gb y m [[(2,oq (ck f rfl r))]] f))))))
def BH(N:Nat):U Int->Nat->Int->O Int
 |[],_,a=>some a
 |c::b,d,a=>(λe=>BH N b (d+1) e) (aY (a*c))
def Mg(N:Nat)(a:U Int):U Int->Nat->O Int
 |[],_=>BH N a 0 (1:Int)
 |b::c,d=>bif (b==0)then some (0:Int)else(Mg N a c (d+1))
def GJ(N:Nat)(a:U Int):O Int:=(QA N a).bind λb=>bif (b !=0)then some (0:Int)else Mg N a a 0
def avW{N a}:KO 156 [I (bN a)] Y (GJ N a):=
 fw func156 (ay λt h=>gA [[],[(4,cK anE h)]] (bV λi=>gA [[f0 i],[],[(4,oL a ig)]] (gT o6 0 a λj=>eX 1 [] [0,3,11,12,13] 0 (λf=>⟨31,[(0,I (bN a)),(3,Y 1),(11,I (bN a)),(12,Y a.length),(13,Y f)],[]⟩) (λf c k=>gA [[],[f0 (bY c)],[(4,oL a ig)]] (gT o6 0 a λl=>iC 2 [] [3,20,21,22] 0 (λg(b:Int)=>⟨31,[(3,Y b),(20,I (bN a)),(21,Y a.length),(22,Y g)],[]⟩) (λg b e m=>gR [[],[f0 (bY e)],[]]) (λg n o b e m p=>gb p (aY (b*n)) [[],[t0 (bZ e)],[(1,oE (kK (bA e)))],[],[(2,oq (ck e rfl l))]] e))) (λf u v c k q=>gA [[],[t0 (bZ c)],[(1,oE (kK (bA c)))],[]] (bV λr=>gb q () [[f0 r],[(2,oq (ck c rfl j))]] c)))))
def Db(N:Nat)(b:U Int):Nat->Int->Int->(U Int)->O ((U Int)×Bool)
 |0,_,_,_=>none
 |f+1,e,a,c=>bif (decide (a>=0))then bif (decide ((0:Int)<=a))then(b[(a).toNat]?).bind λd=>bif (d !=0)then bif (Nat.beq c.length b.length)then bif (decide (a<(b.length:Int)))then(c[(a).toNat]?).bind λg=>(λh i j=>Db N b f h i j) (i64.wrap ((e).tdiv d)) (aY (a-(1:Int))) (c.set ((a).toNat) ((e).tmod d))else none else none else none else none else bif (Nat.beq c.length b.length)then some (c,true)else none
def FV(N:Nat)(a:U Int)(b:Int):O ((U Int)×Bool):=(bif (decide (b<0))then some true else (GJ N a).bind λc=>some (decide (b>=c))).bind λd=>bif d then some ([],false)else bif (Nat.ble (a.length*8) 140737488355328)then Db N a N b (aY ((a.length:Int)-(1:Int))) (List.replicate a.length 0)else none
def amP{N a o}:KO 120 [I (bN a),Y o] (λr=>.bw [I (bN r.1),aG r.2]) (FV N a o):=
 fw func120 (gA [[]] (gG (λp=>[(15,aG p)]) (λ_=>[]) (aC (λk=>gE [(2,bT k)] []) λk=>ay λE v=>gE [(2,bF k)] [(16,cK avW v)]) λp=>bV λw=>dW λx=>arn 1 [[f0 w],[(4,oL a ig),(7,⟨_,_,.pr (.mk (bf ((List.replicate a.length 0).map fu)) a.length a.length) (anZ (f:=fu) (d0:=0) (dc:=8) rfl rfl (lG x gy))⟩)],[(4,oL a ig)]] [0,1,6,7] 1 [] [] (λ(e:Int)(c:Int)(h:(U Int))=>⟨42,[(0,I (bN a)),(1,Y e),(6,.vec 0 0 a.length a.length 1),(7,Y c)],[.vec 3 1 (bf (h.map fu))]⟩) (Db N a) (λF e c h G z=>gA [[]] (aC (λl=>dW λm=>ay λg q=>dW λt=>dW λu=>dW λA=>ay λn B=>auR z (i64.wrap ((e).tdiv g),aY (c-(1:Int)),h.set ((c).toNat) ((e).tmod g)) [[t0 l],[(16,⟨_,_,.el (xs:=bN a) (i:=c) (Tr m) (kK q)⟩),(22,⟨_,_,.nz (b:=g) (Ui.1 t)⟩),(25,⟨_,_,.pr (.ix ((c).toNat)) (sB (lJ (f:=fu) (ZN u)) (Tr m) (Tr A) rfl)⟩),(28,⟨_,_,.pr (.st ((fu n).map AV.d) (bf ((h.set ((c).toNat) ((e).tmod g)).map fu))) (Gs (f:=fu) (j:=0) (y:=((e).tmod g)) (zs:=[Y ((e).tmod g)]) (ZN u) B rfl)⟩)],[(10,⟨_,_,.el (xs:=bN a) (i:=c) (Tr m) (kK q)⟩),(16,⟨_,_,.nz (b:=g) (Ui.1 t)⟩)],[]] (fI:=[.jk ((h.set ((c).toNat) ((e).tmod g)).map fu)])) λl=>dW λC=>gA [[f0 l]] (li (λ_=>(I7 [6] 0 (bN h) a.length 1 3 1 [.jk (h.map fu)] (vK (ZN C)) (pO _) (th (λ_=>rfl) _) ·)) (gR [[]])))) (fI:=[.jk ((List.replicate a.length 0).map fu)])))
def BT(N:Nat)(a:U Int):Nat->Nat->O (U (U Int))
 |0,_=>some []
 |n+1,k=>(FV N a (k:Int)).bind λr=>bif r.2 then (BT N a n (k+1)).bind λl=>some (r.1::l)else none
def Jl(N:Nat)(a:U Int):O (U (U Int)):=(GJ N a).bind λn=>bif (decide ((0:Int)<=n)&&Nat.ble n.toNat 9223372036854775807)then BT N a n.toNat 0 else none
def ahv{N:Nat}{d:U Int}:∀(n s:Nat)(r:U (U Int)),BT N d n s=some r->r.length=n/\∀(k:Nat)(p:U Int),r[k]?=some p->FV N d ((s+k:Nat):Int)=some (p,true)
 |0,s,r,h=>by cases h;exact⟨rfl,λk p c=>by simp at c⟩
 |n+1,s,r,h=>by
  rw[BT]at h;obtain⟨x,f,h⟩:=bJ h;obtain⟨e,h⟩:=lR h;obtain⟨l,g,h⟩:=bJ h;cases h
  obtain⟨q1,i⟩:=ahv n (s+1) l g;refine⟨by rw[Zp,q1],λk p c=> ?_⟩;cases k with
  |zero=>
   cases c
   obtain⟨a,b⟩:=x;simp only at e;subst e;exact f
  |succ k=>
   rw[show s+(k+1)=s+1+k by omega];exact i k p c
def avV{N:Nat}{a:U Int}{r:U (U Int)}(J:Jl N a=some r):Dy prog 118 [rD a] (r.map sI):=by
 obtain⟨n,c,J⟩:=bJ J;obtain⟨b,d⟩:=lR J;rw[Zo]at b;obtain⟨q1,e⟩:=ahv _ _ _ d;have f:((n.toNat:Nat):Int)=n:=Int.toNat_of_nonneg (Tr b.1);refine ajD a r (by rw[q1];exact Zh b.2) (by rw[q1,f];exact avW _ c) λk p g=> ?_;have:=e k p g;rw[ZQ]at this;exact amP _ this
def JM(N:Nat)(b:U aR)(d:U Int):U cq->Nat->(U aR)->O (U aR)
 |[],_,a=>bif (Nat.ble ((a.length+b.length)*24) 140737488355328)then some (a++b)else none
 |v6::f,e,a=>(d[((e:Int)).toNat]?).bind λc=>bif (aY c==c)then bif (Nat.ble ((a.length+1)*24) 140737488355328)then(λg=>JM N b d f (e+1) g) (a++[(⟨v6.ar,Int64.ofInt c⟩:aR)])else none else none
def OY(N:Nat)(a:U cq)(b:U Int)(c:U aR):O (U aR):=JM N c b a 0 []
def avU{N b f e}:KO 79 [I (dC b),I (bN f),I (bz e)] (λr=>.d (.sl (bz r))) (OY N b f e):=
 fw func79 (gA [[],[],[(4,oL b kt)]] (li (λ_=>(qK 7 33 2 [] (.inr km) ·)) (gT qD 0 b λj=>iC 1 [] [1,2,7,10,11,12] 1 (λg(a:U aR)=>⟨31,[(1,I (bN f)),(2,I (bz e)),(7,.own 0 (bz a)),(10,I (dC b)),(11,Y b.length),(12,Y g)],[.front 33 2 a.length]⟩) (λg a c k=>dW λl=>gR [[],[f0 (bY c)],[(7,oA IM a e l)]]) (λg h q a c k m=>ay λi n=>dW λo=>dW λp=>gb m (a++[(⟨h.ar,Int64.ofInt i⟩:aR)]) [[],[t0 (bZ c)],[(4,oE (uo (bA c)))],[(16,oE (kK n)),(23,oq (congrArg (λz=>AV.agg [cd h.ar,z]) (PE (TC.1 o)))),(28,oA IM a ([(⟨h.ar,Int64.ofInt i⟩:aR)]) p)],[(2,oq (ck c rfl j))]] c))))
def DM(N:Nat)(a:U aR)(b:U aO)(c:U (so×bo)):O (U aR):=some a
def F1(a:U aO)(b:U (so×bo))(c:U aR)(l:U ao):U ao:= .cells [.mp 2]:: .cells [I (bG a)]:: .map (cv cx b):: .cells [.fn 117 [A1,An]]:: .cells [I (bz c)]::l
abbrev K0:=λa b=>([.cells [.mp 2],.cells [I (bG a)],.map (cv cx b)]:List ao)
abbrev SW:=([.cells [.fn 159 [Ar,CV,DW],.fn 157 [DW]],.cells [DF]]:List ao)
def s4{N c a b r}(J:DM N c a b=some r):KH 121 [.fn 117 [A1,An],I (bz c)] (K0 a b) DF ([.cells [.mp 2],.cells [I (bG a)],.map (cv cx b),.cells [.fn 117 [A1,An]],.cells [I (bz r)],.cells [.fn 159 [Ar,CV,DW],.fn 157 [DW]],.cells [DF]]):=by
 rw[DM]at J;refine rz 7 func121 rfl km (Zh rfl) ?_;refine j0 (s':=⟨17,[(0,.fn 117 [A1,An]),(1,I (bz c))],K0 a b⟩) km ?_;refine az (CM [] [(2,Ar),(3,CV)] (F1 a b c []) ?_);refine az (CM [] [(5,DW)] (F1 a b c [.cells [.d (.v .nilFunc),.d (.v .nilFunc)],.cells [DF]]) ?_);refine az (CM [] [] (F1 a b c [.cells [.d (.v .nilFunc),.fn 157 [DW]],.cells [DF]]) ?_);refine az (CM [] [] (F1 a b c SW) ?_);refine az (CM [] [(4,DF)] (F1 a b c SW) ?_);refine cT ?_;have e:=Zl J;subst e;exact mw (cC trivial (cC trivial (cC trivial (cC trivial (cC trivial (cC trivial (cC trivial fM))))))) km
def Hm(N:Nat)(c:so)(d:U aO)(a:U (so×bo)):O (bo×Int×(U (so×bo))):=bif (nj a c)then some (ic a c (⟨(⟨0,0,0,0,0⟩:aQ),[],[]⟩:bo),(0:Int),a)else(wH N d c).bind λb=>bif b.2 then(HM N b.1).bind λe=>bif (e !=0)then some (b.1,(1:Int),a)else bif (Nat.blt a.length 9223372036854775807)then some (b.1,(0:Int),((c,b.1)::a))else none else some (b.1,(9:Int),a)
def ago{N a b c}:KP 117 [cd a,A1,An] (K0 b c) (λr=>.bw [jo r.1,Y r.2.1]) (λr=>(K0 b r.2.2)) (Hm N a b c):=
 fh 3 func117 (gA [[],[(8,oq (arP cx (.agg #[.int .i64 0,.int .i64 0,.int .i64 0,.int .i64 0,.int .i64 0,.slice none 0 0,.slice none 0 0]) (⟨(⟨0,0,0,0,0⟩:aQ),[],[]⟩:bo) rfl true c a))],[]] (aC (λe=>gH [[t0 e],[]]) λe=>ay λl i=>gA [[f0 e],[(7,cK NF i)],[]] (aC (λg=>ay λm j=>gA [[f0 (dG g)],[(4,cK agQ j)]] (aC (λh=>gH [[t0 h],[]]) λh=>dW λk=>gH [[f0 h],[(10,⟨_,_,.sd (o:= .none) (avj (f:=cx) k)⟩)],[]])) λg=>gH [[t0 (eF g)],[]])))
def Ij(N:Nat)(c:Int)(a:Int64)(b:Int):O (Int×Int):=(bif (decide (a.toInt<0))then some true else some (decide (a.toInt>=b))).bind λd=>bif d then some ((0:Int),(12:Int))else some (aY ((aY (c*b))+a.toInt),(0:Int))
def avT{N b c d}:KO 234 [Y b,bg c,Y d] (λr=>.bw [Y r.1,Y r.2]) (Ij N b c d):=
 fw func234 (gA [[]] (gG (λe=>[(14,aG e)]) (λ_=>[]) (aC (λa=>gE [(2,bT a)] []) λa=>gE [(2,bF a)] []) λe=>bV λf=>gR [[f0 f],[]]))
def Ga(N:Nat)(d:bo×Int×(U (so×bo)))(b:Int)(h:U aR):U aK->Nat->Int->O (Int64×Int×(U (so×bo)))
 |[],_,c=>bif (decide ((0:Int)<=c))then(d.1.fE[(c).toNat]?).bind λa=>bif (aY (if(if(aY (b-(1:Int)))<a.xN.toInt then(aY (b-(1:Int)))else a.xN.toInt)>0then(if(aY (b-(1:Int)))<a.xN.toInt then(aY (b-(1:Int)))else a.xN.toInt)else(0:Int))==(if(if(aY (b-(1:Int)))<a.xN.toInt then(aY (b-(1:Int)))else a.xN.toInt)>0then(if(aY (b-(1:Int)))<a.xN.toInt then(aY (b-(1:Int)))else a.xN.toInt)else(0:Int)))then some ((Int64.ofInt (if(if(aY (b-(1:Int)))<a.xN.toInt then(aY (b-(1:Int)))else a.xN.toInt)>0then(if(aY (b-(1:Int)))<a.xN.toInt then(aY (b-(1:Int)))else a.xN.toInt)else(0:Int))),(0:Int),d.2.2)else none else none
 |j::e,i,c=>(w8 N j h).bind λf=>bif (f.2 !=0)then some ((0:Int64),f.2,d.2.2)else(d.1.aJ[((i:Int)).toNat]?).bind λk=>(Ij N c f.1 k).bind λg=>bif (g.2 !=0)then some ((0:Int64),g.2,d.2.2)else(λl=>Ga N d b h e (i+1) l) g.1
def J2(N:Nat)(c:U aR)(b:aT)(d:Int)(e:U aO)(f:U (so×bo)):O (Int64×Int×(U (so×bo))):=(Hm N b.bp e f).bind λa=>bif (a.2.1 !=0)then some ((0:Int64),a.2.1,a.2.2)else bif (a.1.aw.bt !=3)then some ((0:Int64),(10:Int),a.2.2)else bif ((b.bC.length:Int) !=(a.1.aJ.length:Int))then some ((0:Int64),(11:Int),a.2.2)else Ga N a d c b.bC 0 (0:Int)
def aly{N g a h e j}:KP 233 [.fn 117 [A1,An],I (bz g),fK a,Y h] (K0 e j) (λr=>.bw [bg r.1,Y r.2.1]) (λr=>(K0 e r.2.2)) (J2 N g a h e j):=
 fh 3 func233 (ay λf q=>gA [[],[(10,oR [cd a.bp,A1,An] [.cells [.mp 2],.cells [I (bG e)],.map (cv cx j),.cells (fK a).cells] [0,1,2] (ago _ q))],[]] (aC (λk=>gH [[t0 k],[]]) λk=>gA [[f0 k],[]] (aC (λl=>gH [[t0 l],[]]) λl=>gA [[f0 l],[(7,oL a.bC fJ),(16,oL f.1.aJ ig)]] (aC (λm=>gH [[t0 m],[]]) λm=>gA [[f0 m],[],[(7,oL a.bC fJ)]] (gT ny 42 a.bC λt=>iC 1 [] [1,3,10,12,42,43,44] 5 (λn(b:Int)=>⟨83,[(1,I (bz g)),(3,Y h),(10,CV),(12,Y b),(42,I (dF a.bC)),(43,Y a.bC.length),(44,Y n)],[.cells [.mp 2],.cells [I (bG e)],.map (cv cx f.2.2),.cells (fK a).cells,.cells (jo f.1).cells]⟩) (λn b c u=>dW λv=>ay λw x=>dW λy=>gH [[],[f0 (bY c)],[(10,⟨_,_,.el (xs:=fa f.1.fE) (i:=b) (Tr v) (ta x)⟩),(32,oq (PE (TC.1 y)))]]) (λn G z b c u A=>ay λH B=>gA [[],[t0 (bZ c)],[(4,oE (mQ (bA c)))],[(7,cK EN B)],[]] (aC (λo=>gH [[t0 o],[]]) λo=>ay λJ C=>ay λE F=>gA [[f0 o],[(16,oE (kK C)),(22,cK avT F)],[]] (aC (λp=>gH [[t0 p],[]]) λp=>gb A E.1 [[f0 p],[(2,oq (ck c rfl t))]] c))))))))
def Ef(N:Nat)(e:bo×Int×(U (so×bo)))(f:Nat)(a:Int)(g:Int->(U (so×bo))->O (fG×Int×(U (so×bo))))(d:Int)(h:Int64)(b:U (so×bo)):O (fG×Int×(U (so×bo))):=bif (d !=0)then some (Dz,d,b)else(e.1.aJ[((f:Int)).toNat]?).bind λi=>(Ij N a h i).bind λc=>bif (c.2 !=0)then some (Dz,c.2,b)else g c.1 b
def se(N:Nat)(c:bo×Int×(U (so×bo)))(f:U aR)(g:U aO):U aT->Nat->Int->(U (so×bo))->O (fG×Int×(U (so×bo)))
 |[],_,a,b=>bif (decide ((0:Int)<=a))then(c.1.fE[(a).toNat]?).bind λh=>some ((⟨h,c.1.aw⟩:fG),(0:Int),b)else none
 |i::l,e,a,b=>bif (bL i.bp==bL (bs []))then(w8 N i.aU f).bind λm=>Ef N c e a (λj k=>se N c f g l (e+1) j k) m.2 m.1 b else(c.1.aJ[((e:Int)).toNat]?).bind λn=>(J2 N f i n g b).bind λd=>Ef N c e a (λj k=>se N c f g l (e+1) j k) d.2.1 d.1 d.2.2
def Iz(N:Nat)(d:U aR)(b:au)(c:U aO)(e:U (so×bo)):O (fG×Int×(U (so×bo))):=(Hm N b.ar c e).bind λa=>bif (a.2.1 !=0)then some (Dz,a.2.1,a.2.2)else bif ((b.xIdx.length:Int) !=(a.1.aJ.length:Int))then some (Dz,(11:Int),a.2.2)else se N a d c b.xIdx 0 (0:Int) a.2.2
def Bz(a:U aO)(b:U (so×bo))(c:au)(l:U ao):U ao:= .cells [.mp 2]:: .cells [I (bG a)]:: .map (cv cx b):: .cells (aL c).cells:: .cells eJ::l
def A3(b:U aO)(a:bo×Int×(U (so×bo)))(c:au)(l:U ao):U ao:= .cells [.mp 2]:: .cells [I (bG b)]:: .map (cv cx a.2.2):: .cells (aL c).cells:: .cells eJ:: .cells (jo a.1).cells::l
def qU(b:U aO)(a:U (so×bo))(c:au)(d:bo×Int×(U (so×bo)))(e:aT)(l:U ao):U ao:=Bz b a c (.cells (jo d.1).cells:: .cells (fK e).cells::l)
def SG(a:U aO)(l:U ao):U ao:= .cells [.mp 2]:: .cells [I (bG a)]::l
def apk(N:Nat)(l:U aR)(a:au)(c:U aO)(u:U (so×bo))(r:fG×Int×(U (so×bo)))(J:Iz N l a c u=some r):KH 196 [.fn 117 [A1,An],I (bz l),aL a] (K0 c u) (.bw [eQ r.1,Y r.2.1]) (K0 c r.2.2):=by
 rw[Iz]at J;refine sJ 3 func196 rfl km (Zh rfl) ?_;refine j0 (s':=⟨91,[(0,.fn 117 [A1,An]),(1,I (bz l)),(2,aL a)],SG c [.map (cv cx u)]⟩) km ?_;refine az (CM [] [(5,Ar),(6,CV)] (Bz c u a []) ?_);refine az ?_;obtain⟨b,H,J⟩:=bJ J;refine CM [(10,oR [cd a.ar,A1,An] (Bz c u a []) [0,1,2] (ago _ H))] [(8,DF),(9,Y b.2.1)] (A3 c b a []) ?_;refine az (az ?_);refine CM [] [(22,(aG (b.2.1 !=0)))] (A3 c b a []) ?_;rcases eo (b.2.1 !=0)with v|v
 ·replace J:=(cS v).symm.trans J;refine AY (t:=(b.2.1 !=0)) v ?_;refine az (CM [] [(7,Y b.2.1)] (A3 c b a []) ?_);refine cT (dd ?_);have n:=Zl J;subst n;exact jQ km
 replace J:=(eu v).symm.trans J;refine AX (t:=(b.2.1 !=0)) v ?_;refine dn ?_;refine bx ?_;refine az (az ?_);refine CM [(7,oL a.xIdx gv),(16,oL b.1.aJ ig)] [(31,(aG ((a.xIdx.length:Int) !=(b.1.aJ.length:Int))))] (A3 c b a []) ?_;rcases eo ((a.xIdx.length:Int) !=(b.1.aJ.length:Int))with w|w
 ·replace J:=(cS w).symm.trans J;refine AY (t:=((a.xIdx.length:Int) !=(b.1.aJ.length:Int))) w ?_;refine az (CM [] [(7,Y 11)] (A3 c b a []) ?_);refine cT (dd ?_);have n:=Zl J;subst n;exact jQ km
 replace J:=(eu w).symm.trans J;refine AX (t:=((a.xIdx.length:Int) !=(b.1.aJ.length:Int))) w ?_;refine dn ?_;refine bx ?_;refine az (CM [] [(10,Y 0)] (A3 c b a []) ?_);refine az (az ?_);refine CM [(7,oL a.xIdx gv)] [(34,I (cg a.xIdx)),(35,Y a.xIdx.length),(36,Y 0)] (A3 c b a []) ?_;refine ft ?_;refine rY 34 (cg a.xIdx) km λK=> ?_;have L:=tX gv K;refine Pf [0,1,6,8,10,34,35,36] 6 (λ((h,q,j,e):Nat×(U aT)×Int×(U (so×bo)))=>⟨91,[(0,.fn 117 [A1,An]),(1,I (bz l)),(6,CV),(8,DF),(10,Y j),(34,I (cg a.xIdx)),(35,Y a.xIdx.length),(36,Y h)],Bz c e a (T5 b.1)⟩) (λ((h,q,j,e):Nat×(U aT)×Int×(U (so×bo)))=>a.xIdx.drop h=q/\se N b l c q h j e=some r) (λ((h,q,j,e):Nat×(U aT)×Int×(U (so×bo)))=>q.length) (0,a.xIdx,(0:Int),b.2.2) (Zh rfl) km ⟨rfl,J⟩ ?_;rintro⟨h,q,j,e⟩ ⟨x,J⟩;cases q with
 |nil=>
  rw[se]at J;refine az (CM [] [(37,(aG (decide ((h:Int)<(a.xIdx.length:Int)))))] (Bz c e a (T5 b.1)) ?_);refine az (AX (t:=(decide ((h:Int)<(a.xIdx.length:Int)))) (bY x) ?_);refine mA (iK (iK (nx rfl ?_)));refine bx ?_;refine az ?_;have F:=iw J;replace J:=(cS F).symm.trans J;obtain⟨y,M,J⟩:=bJ J;refine rd bH km [(10,⟨_,_,.el (xs:=fa b.1.fE) (i:=j) (Tr F) (ta M)⟩)] [(7,Y 0)] (SG c [.map (cv cx e),.cells (aL a).cells,.cells [bg y.xN,bg y.xD,Y b.1.aw.bt,Y b.1.aw.bW,Y b.1.aw.bR,Y b.1.aw.b9,Y b.1.aw.b8],.cells (jo b.1).cells]) km ?_;refine cT ?_;have n:=Zl J;subst n;exact jQ km
 |cons g G=>
  rw[se]at J;refine az (CM [] [(37,(aG (decide ((h:Int)<(a.xIdx.length:Int)))))] (Bz c e a (T5 b.1)) ?_);refine az (AY (t:=(decide ((h:Int)<(a.xIdx.length:Int)))) (bZ x) ?_);refine dn ?_;refine bx ?_;refine az (ft ?_);refine az (CM [(4,oE (j5 (bA x)))] [(12,DW),(11,Y h)] (qU c e a b g []) ?_);refine az (CM [] [] (qU c e a b g []) ?_);refine az (az ?_);refine CM [] [(43,(aG (bL g.bp==bL (bs []))))] (qU c e a b g []) ?_;refine EU [0,1,6,8,9,10,11,13,34,35,36] 7 (λ((o,C,k):Int×Int64×(U (so×bo)))=>⟨91,[(0,.fn 117 [A1,An]),(1,I (bz l)),(6,CV),(8,DF),(9,Y o),(10,Y j),(11,Y h),(13,bg C),(34,I (cg a.xIdx)),(35,Y a.xIdx.length),(36,Y h)],qU c k a b g []⟩) (λ((o,C,k):Int×Int64×(U (so×bo)))=>Ef N b h j (λP Q=>se N b l c G (h+1) P Q) o C k=some r) (Zh rfl) ?_ ?_
  ·rcases eo (bL g.bp==bL (bs []))with z|z
   ·replace J:=(cS z).symm.trans J;refine AY (t:=(bL g.bp==bL (bs []))) z ?_;obtain⟨m,R,J⟩:=bJ J;refine BI [(10,cK EN R)] [(9,Y m.2),(13,bg m.1),(50,Y m.2),(49,bg m.1),(44,.bw [bg m.1,Y m.2]),(48,.bw [bg m.1,Y m.2]),(47,I (bz l)),(46,cJ g.aU),(45,DW)] (qU c e a b g []) ?_;refine bx ?_;exact⟨(m.2,m.1,e),by kernel_rfl,J⟩
   replace J:=(eu z).symm.trans J;refine AX (t:=(bL g.bp==bL (bs []))) z ?_;obtain⟨E,S,f,T,J⟩:=Z6 J;refine rle bH km [(19,oE (kK S)),(25,oR [.fn 117 [A1,An],I (bz l),fK g,Y E] (qU c e a b g []) [0,1,2] (aly _ T))] [(9,Y f.2.1),(13,bg f.1),(62,Y f.2.1),(61,bg f.1),(51,.bw [bg f.1,Y f.2.1]),(60,.bw [bg f.1,Y f.2.1]),(59,Y E),(58,.bm [fu E] 0 0),(57,Y h),(56,I (bN b.1.aJ)),(55,.ptr 5 5),(54,fK g),(53,I (bz l)),(52,.fn 117 [A1,An])] (SG c [.map (cv cx f.2.2),.cells (aL a).cells,.cells eJ,.cells (jo b.1).cells,.cells (fK g).cells]) ⟨by kernel_rfl,by kernel_rfl⟩ ?_;refine bx ?_;exact⟨(f.2.1,f.1,f.2.2),by kernel_rfl,J⟩
  rintro⟨o,C,k⟩ J
  try dsimp only at J
  rw[Ef]at J;refine az (az ?_);refine CM [] [(64,(aG (o !=0)))] (qU c k a b g []) ?_;rcases eo (o !=0)with A|A
  ·replace J:=(cS A).symm.trans J;refine AY (t:=(o !=0)) A ?_;refine az (CM [] [(7,Y o)] (qU c k a b g []) ?_);refine cT (dd (eI (dd (dd (eI (dd ?_))))));have n:=Zl J;subst n;exact jQ km
  replace J:=(eu A).symm.trans J;refine AX (t:=(o !=0)) A ?_;refine dn ?_;refine bx ?_;refine az ?_;obtain⟨aW,W,p,bP,J⟩:=Z6 J;refine CM [(16,oE (kK W)),(22,cK avT bP)] [(10,Y p.1),(9,Y p.2)] (qU c k a b g []) ?_;refine az (CM [] [(79,(aG (p.2 !=0)))] (qU c k a b g []) ?_);rcases eo (p.2 !=0)with B|B
  ·replace J:=(cS B).symm.trans J;refine AY (t:=(p.2 !=0)) B ?_;refine az (CM [] [(7,Y p.2)] (qU c k a b g []) ?_);refine cT (eI (dd (dd (eI (dd ?_)))));have n:=Zl J;subst n;exact jQ km
  replace J:=(eu B).symm.trans J;refine AX (t:=(p.2 !=0)) B ?_;refine dn ?_;refine hY ?_;refine bx ?_;refine BI [(2,oq (ck x rfl L))] [(36,Y ((h+1:Nat):Int)),(82,Y ((h+1:Nat):Int))] (qU c k a b g []) ?_;refine bx ?_;exact⟨(h+1,G,p.1,k),by kernel_rfl,⟨kG x,J⟩,ZC _⟩
def Py(N:Nat)(a:Int64×Int)(b:U (so×bo))(c:Int):O (fG×Int×(U (so×bo))):=some ((⟨(⟨a.1,1⟩:aH),(⟨3,0,0,0,0⟩:aQ)⟩:fG),c,b)
def JY(N:Nat)(e:U aR)(a:au)(f:U aO)(c:U (so×bo)):O (fG×Int×(U (so×bo))):=bif (a.aA==1)then some ((⟨a.cU,a.aw⟩:fG),(0:Int),c)else bif (a.aA==2)then(w8 N a.aU e).bind λb=>(bif (b.2==0)then(bif (decide (b.1.toInt>2147483647))then some true else some (decide (b.1.toInt<(-2147483647:Int))))else some false).bind λg=>bif g then Py N b c (3:Int)else Py N b c b.2 else(Iz N e a f c).bind λd=>some (d.1,d.2.1,d.2.2)
def R3(a:U aO)(b:U (so×bo))(c:au)(l:U ao):U ao:= .cells [.mp 2]:: .cells [I (bG a)]:: .map (cv cx b):: .cells (aL c).cells:: .cells eJ::l
def amX{N f a b c}:KP 160 [.fn 117 [A1,An],I (bz f),aL a] (K0 b c) (λr=>.bw [eQ r.1,Y r.2.1]) (λr=>(K0 b r.2.2)) (JY N f a b c):=
 fh 3 func160 (gA [[],[],[]] (aC (λg=>gH [[t0 g],[]]) λg=>gA [[f0 g],[]] (aC (λh=>ay λi o=>gA [[t0 h],[(10,cK EN o)]] (gG (λl=>[(37,aG l)]) (λ_=>(R3 b c a [])) (aC (λj=>dS (2,bT j) (aC (λe=>gE [(5,bT e)] [(25,bT e)]) λe=>gE [(5,bF e)] [(25,bF e)])) λj=>gE [(2,bF j),(5,uN)] []) λl=>nF 1 [] [6,8,9] 5 (λ(m:Int)=>⟨49,[(6,CV),(8,bg i.1),(9,Y m)],R3 b c a []⟩) (Py N i c) (λt n=>aC (λk=>gm n (3:Int) [[t0 k],[]]) λk=>gm n i.2 [[f0 k]]) (λm=>gH [[]]))) λh=>ay λp q=>gH [[f0 h],[(10,oR [.fn 117 [A1,An],I (bz f),aL a] (R3 b c a []) [0,1,2] (apk N f a b c p q))]])))
def Dc(N:Nat)(a:Int64)(b:Int64):O Int:=bif (decide (a.toInt<b.toInt))then some (-1:Int)else bif (decide (a.toInt>b.toInt))then some (1:Int)else some (0:Int)
def Uy{N a b}:KO 241 [bg a,bg b] Y (Dc N a b):=
 fw func241 (gA [[],[]] (iy λ_=>bV λc=>gR [[f0 c],[]]))
def TA(N:Nat)(a:aH)(b:aH):O Int:=(ma N a).bind λd=>(bif d then (ma N b).bind λe=>some e else some false).bind λf=>bif f then(Dc N (a.xN*b.xD) (b.xN*a.xD)).bind λg=>some g else(Dc N a.xN b.xN).bind λc=>bif (c !=0)then some c else(Dc N a.xD b.xD).bind λh=>some h
def aqZ{N a b}:KO 204 [bO a,bO b] Y (TA N a b):=
 fw func204 (gA [[]] (ay λl f=>gG (λe=>[(11,aG e)]) (λ_=>[.cells (bO a).cells,.cells (bO b).cells]) (dH (4,cK oM f) (aC (λc=>ay λm g=>gE [(2,bT c)] [(13,cK oM g)]) λc=>gE [(2,bF c)] [])) λe=>aC (λd=>ay λn h=>gR [[t0 d],[(14,oq (nJ a.xN b.xD)),(29,oq (nJ b.xN a.xD)),(31,cK Uy h)]]) λd=>ay λo i=>gA [[f0 d],[(13,cK Uy i)],[]] (bV λj=>ay λp k=>gR [[f0 j],[(13,cK Uy k)]])))
def GB(N:Nat)(c:aQ)(a:aH)(b:aH):O Int:=(nR N c a).bind λd=>(bif d then (nR N c b).bind λe=>some (!e)else some true).bind λf=>bif f then some (0:Int)else bif (c.bt==1)then(TA N a b).bind λg=>some g else bif (decide (a.xN.toInt<b.xN.toInt))then some (-1:Int)else bif (decide (a.xN.toInt>b.xN.toInt))then some (1:Int)else some (0:Int)
def aeM{N a b c}:KO 170 [cN a,bO b,bO c] Y (GB N a b c):=
 fw func170 (gA [[]] (ay λk g=>gG (λf=>[(7,aG f)]) (λ_=>[.cells (cN a).cells,.cells (bO b).cells,.cells (bO c).cells]) (dH (7,cK wy g) (aC (λd=>ay λl h=>gE [(4,bF (dG d))] [(22,cK wy h)]) λd=>gE [(4,bT (eF d))] [])) λf=>iy λ_=>aC (λe=>ay λm i=>gR [[t0 e],[(7,cK aqZ i)]]) λe=>gA [[f0 e],[]] (iy λ_=>bV λj=>gR [[f0 j],[]])))
def R5(N:Nat)(b:Int)(a:Int):O Bool:=bif (b==13)then some (decide (a<0))else bif (b==14)then some (decide (a<=0))else some (a==0)
def alx{N a b}:KO 195 [Y a,Y b] aG (R5 N a b):=
 fw func195 (gA [[],[],[]] (iy λ_=>bV λc=>gR [[f0 c],[]]))
def P5(N:Nat)(a:aQ):U aH->Nat->O Int
 |[],_=>some (0:Int)
 |v6::b,c=>(vq N a v6).bind λd=>bif d then(P5 N a b (c+1))else some (1:Int)
def tF(N:Nat)(a:aQ)(c:U aH):O Int:=(yv N a).bind λb=>bif (b !=0)then some b else P5 N a c 0
def El{N c a}:KO 274 [cN c,I (fa a)] Y (tF N c a):=
 fw func274 (ay λm f=>gA [[],[(4,cK Pq f)],[]] (bV λg=>gA [[f0 g],[(4,oL a nK)]] (gT CJ 1 a λh=>eX 1 [] [2,13,14,15] 1 (λe=>⟨24,[(2,A1),(13,I (fa a)),(14,Y a.length),(15,Y e)],T1 c⟩) (λe b i=>gR [[],[f0 (bY b)],[]]) (λe n o b i j=>ay λp k=>gA [[],[t0 (bZ b)],[(1,oE (ta (bA b)))],[(7,cK TV k)]] (kC λl=>gb j () [[f0 (dG l)],[(2,oq (ck b rfl h))]] b)))))
def wB(N:Nat)(e:Int64)(d:Int64):O (aH×Int):=bif (d.toInt==0)then some (dB,(4:Int))else(Bw N e).bind λb=>(Bw N d).bind λc=>(EK N b c).bind λa=>bif (a !=0)then(bif (decide ((u64.wrap ((b).tdiv a))>2147483647))then some true else some (decide ((u64.wrap ((c).tdiv a))>2147483647))).bind λf=>bif f then some (dB,(3:Int))else bif ((decide (e.toInt<0))==(decide (d.toInt<0)))then some ((⟨Int64.ofInt (u64.wrap ((b).tdiv a)),Int64.ofInt (u64.wrap ((c).tdiv a))⟩:aH),(0:Int))else some ((⟨(-(Int64.ofInt (u64.wrap ((b).tdiv a)))),Int64.ofInt (u64.wrap ((c).tdiv a))⟩:aH),(0:Int))else none
def GQ{N f g}:KO 247 [bg f,bg g] (λr=>.bw [bO r.1,Y r.2]) (wB N f g):=
 fw func247 (gA [[],[]] (bV λk=>ay λc l=>ay λh m=>ay λa n=>dW λi=>gA [[f0 k],[],[(4,cK UX l),(10,cK UX m)],[(7,cK ag0 n)],[(7,⟨_,_,.nz (b:=a) (Ui.1 i)⟩),(16,⟨_,_,.nz (b:=a) (Ui.1 i)⟩)]] (gG (λj=>[(36,aG j)]) (λ_=>[.cells jW]) (aC (λd=>gE [(2,bT d)] []) λd=>gE [(2,bF d)] []) λj=>iy λ_=>aC (λe=>gR [[f0 (dG e)],[(5,oq (kM (u64.wrap ((c).tdiv a)))),(11,oq (kM (u64.wrap ((h).tdiv a))))]]) λe=>gR [[t0 (eF e)],[(5,oq (kM (u64.wrap ((c).tdiv a)))),(8,oq (Oo (Int64.ofInt (u64.wrap ((c).tdiv a))))),(14,oq (kM (u64.wrap ((h).tdiv a))))]])))
def Qk(N:Nat)(a:aQ)(b:aH):O (aH×Int):=(tF N a [b]).bind λc=>bif (c !=0)then some (dB,c)else bif (decide ((0:Int)<=a.bR))then(wB N b.xN (Int64.ofInt ((1:Int)*2^(min (a.bR).toNat (IntKind.bits .i64))))).bind λd=>some (d.1,d.2)else none
def aiT{N a c}:KO 271 [cN a,bO c] (λr=>.bw [bO r.1,Y r.2]) (Qk N a c):=
 fw func271 (ay λh d=>gA [[],[(10,cK El d)],[]] (bV λe=>dW λf=>ay λi g=>gR [[f0 e],[(13,⟨_,_,.nn (b:=a.bR) (Tr f)⟩),(14,oq (kM ((1:Int)*2^(min (a.bR).toNat (IntKind.bits .i64))))),(16,cK GQ g)]]))
def Ly(N:Nat)(a:aQ)(b:aH):O aH:=bif (a.bt==2)then(Qk N a b).bind λc=>some c.1 else some b
def anx{N a b}:KO 235 [cN a,bO b] bO (Ly N a b):=
 fw func235 (gA [[],[]] (tY λc=>ay λe d=>gR [[t0 c],[(7,cK aiT d)],[]]))
def J1(N:Nat)(a:Int64):O Int64:=some a
def HY(N:Nat)(a:aH):O Int64:=(ma N a).bind λb=>bif b then bif (a.xD.toInt !=0)then bif (decide ((Int64.ofInt ((a.xN.toInt).tmod a.xD.toInt)).toInt<0))then J1 N ((Int64.ofInt ((a.xN.toInt).tdiv a.xD.toInt))-(1:Int64))else J1 N (Int64.ofInt ((a.xN.toInt).tdiv a.xD.toInt))else none else some (0:Int64)
def apf{N a}:KO 236 [bO a] bg (HY N a):=
 fw func236 (ay λi g=>gA [[],[(4,cK oM g)]] (kC λh=>dW λd=>nF 1 [[f0 (dG h)],[(13,⟨_,_,.nz (b:=a.xD.toInt) (Ui.1 d)⟩),(14,oq (kM ((a.xN.toInt).tdiv a.xD.toInt)))],[(13,⟨_,_,.nz (b:=a.xD.toInt) (Ui.1 d)⟩),(14,oq (adw a.xN a.xD.toInt))]] [3] 1 (λ(e:Int64)=>⟨21,[(3,bg e)],Sn a⟩) (J1 N) (λj f=>aC (λc=>gm f ((Int64.ofInt ((a.xN.toInt).tdiv a.xD.toInt))-(1:Int64)) [[t0 c],[(5,oq (Av (Int64.ofInt ((a.xN.toInt).tdiv a.xD.toInt)) (1:Int64)))]]) λc=>gm f (Int64.ofInt ((a.xN.toInt).tdiv a.xD.toInt)) [[f0 c]]) (λe=>gR [[]])))
def FL(N:Nat)(a:Int):O Bool:=(bif (decide (a>=1))then some (decide (a<=4))else some false).bind λb=>some b
def avS{N b}:KO 275 [Y b] aG (FL N b):=
 fw func275 (gA [[]] (gG (λc=>[(2,aG c)]) (λ_=>[]) (aC (λa=>gE [(2,bT a)] []) λa=>gE [(2,bF a)] []) λc=>gR []))
def Jp(N:Nat)(a:Int64):O Int:=bif (decide (a.toInt<0))then some (u64.wrap (0-(u64.wrap a.toInt)))else some (u64.wrap a.toInt)
def agY{N a}:KO 277 [bg a] (λr=>.d (.v (.int .u64 r))) (Jp N a):=
 fw func277 (gA [[],[]] (bV λb=>gR [[f0 b],[]]))
def WQ(N:Nat)(b a:Int)(c:Bool)(d:Int):O Int:=bif a !=0then some (vu b a c d)else none
def amA{N a b c e r}(J:WQ N a b c e=some r):gq prog 276 [Af a,Af b,aG c,Y e] (·=(Af r)):=aol a b c e r J
def Bu(N:Nat)(b:Int64)(a:Int64)(d:Int):O (Int64×Int):=(FL N d).bind λe=>bif e then bif (a.toInt==0)then some ((0:Int64),(4:Int))else(Jp N b).bind λf=>(Jp N a).bind λg=>(WQ N f g (!((decide (b.toInt<0))==(decide (a.toInt<0)))) d).bind λc=>bif ((decide (b.toInt<0))==(decide (a.toInt<0)))then bif (decide (c>=9223372036854775808))then some ((0:Int64),(3:Int))else some (Int64.ofInt c,(0:Int))else some (Int64.ofInt (u64.wrap (0-c)),(0:Int))else some ((0:Int64),(1:Int))
def Sa{N b c d}:KO 245 [bg b,bg c,Y d] (λr=>.bw [bg r.1,Y r.2]) (Bu N b c d):=
 fw func245 (ay λm f=>gA [[],[(4,cK avS f)]] (kC λg=>gA [[f0 (dG g)],[]] (bV λh=>ay λn i=>ay λo j=>ay λe k=>gA [[f0 h],[],[(4,cK agY i),(10,cK agY j),(19,cL (amA k))],[]] (aC (λa=>gA [[f0 (dG a)],[]] (bV λl=>gR [[f0 l],[(5,oq (kM e))]])) λa=>gR [[t0 (eF a)],[(8,oq (kM (u64.wrap (0-e))))]]))))
def Ug(N:Nat)(b:aH)(a:Int)(c:Int):O (Int64×Int):=(ma N b).bind λe=>(bif e then(bif (decide (a<0))then some true else(bif (decide (a>30))then some true else (FL N c).bind λf=>some (!f)))else some true).bind λg=>bif g then some ((0:Int64),(1:Int))else bif (decide ((0:Int)<=(u64.wrap a)))then(Bu N (Int64.ofInt (b.xN.toInt*2^(min (u64.wrap a).toNat (IntKind.bits .i64)))) b.xD c).bind λd=>some (d.1,d.2)else none
def ao9{N a c g}:KO 272 [bO a,Y c,Y g] (λr=>.bw [bg r.1,Y r.2]) (Ug N a c g):=
 fw func272 (gA [[]] (ay λn i=>gG (λh=>[(23,aG h)]) (λ_=>(Sn a)) (dH (4,cK oM i) (aC (λd=>dS (3,bF (dG d)) (aC (λe=>gE [(7,bT e),(11,bT rfl)] []) λe=>dS (7,bF e) (aC (λf=>gE [(11,bT f)] []) λf=>ay λo j=>gE [(11,bF f)] [(40,cK avS j)]))) λd=>gE [(3,bT (eF d)),(7,bT rfl),(11,bT rfl)] [])) λh=>bV λk=>dW λl=>ay λp m=>gR [[f0 k],[(13,⟨_,_,.nn (b:=(u64.wrap c)) (Tr l)⟩),(14,oq (kM (a.xN.toInt*2^(min (u64.wrap c).toNat (IntKind.bits .i64))))),(25,cK Sa m)]]))
def Wa(N:Nat)(b:Int64)(a:Int)(c:Int):O (Int64×Bool):=(Dh N a).bind λf=>(bif f then(bif (c !=1)then some (c !=2)else some false)else some true).bind λg=>bif g then some ((0:Int64),false)else(F9 N a).bind λd=>(Fl N a).bind λe=>(bif (decide (b.toInt>=d.toInt))then some (decide (b.toInt<=e.toInt))else some false).bind λh=>bif h then some (b,false)else(bif (c==1)then some (decide (b.toInt<d.toInt))else some false).bind λi=>bif i then some (d,true)else bif (c==1)then some (e,true)else bif (decide ((0:Int)<=(u64.wrap (aY ((64:Int)-a)))))then some (Int64.ofInt (((Int64.ofInt (u64.wrap ((u64.wrap b.toInt)*2^(min (u64.wrap (aY ((64:Int)-a))).toNat (IntKind.bits .u64))))).toInt).fdiv (2^(min (u64.wrap (aY ((64:Int)-a))).toNat (IntKind.bits .i64)))),true)else none
def au9{N d a h}:KO 285 [bg d,Y a,Y h] (λr=>.bw [bg r.1,aG r.2]) (Wa N d a h):=
 fw func285 (gA [[]] (ay λu m=>gG (λi=>[(21,aG i)]) (λ_=>[]) (dH (4,cK WM m) (aC (λe=>dS (3,bF (dG e)) (aC (λc=>gE [(6,bT c)] [(28,bT c)]) λc=>gE [(6,bF c)] [(28,bF c)])) λe=>gE [(3,bT (eF e)),(6,uN)] [])) λi=>bV λn=>ay λv o=>ay λw p=>gA [[f0 n],[(4,cK aan o),(10,cK afy p)]] (gG (λj=>[(26,aG j)]) (λ_=>[]) (aC (λf=>gE [(3,bT f)] []) λf=>gE [(3,bF f)] []) λj=>bV λq=>gA [[f0 q]] (gG (λk=>[(36,aG k)]) (λ_=>[]) (aC (λg=>gE [(2,bT g)] []) λg=>gE [(2,bF g)] []) λk=>iy λ_=>bV λt=>dW λl=>gR [[f0 t],[],[(10,⟨_,_,.nn (b:=(u64.wrap (aY ((64:Int)-a)))) (Tr l)⟩),(14,oq (kM (u64.wrap ((u64.wrap d.toInt)*2^(min (u64.wrap (aY ((64:Int)-a))).toNat (IntKind.bits .u64)))))),(19,⟨_,_,.nn (b:=(u64.wrap (aY ((64:Int)-a)))) (Tr l)⟩),(20,oq (ac8 (Int64.ofInt (u64.wrap ((u64.wrap d.toInt)*2^(min (u64.wrap (aY ((64:Int)-a))).toNat (IntKind.bits .u64))))) (min (u64.wrap (aY ((64:Int)-a))).toNat (IntKind.bits .i64))))]]))))
def q9(N:Nat)(a:aQ)(b:Int64):O aH:=(Wa N b a.bW a.b8).bind λc=>some (⟨c.1,1⟩:aH)
def BK{N a b}:KO 273 [cN a,bg b] bO (q9 N a b):=
 fw func273 (ay λd c=>gR [[],[(16,cK au9 c)],[]])
def GK(N:Nat)(a:aQ)(b:aH):O (aH×Int):=(yv N a).bind λc=>bif (c !=0)then some (dB,c)else(Ug N b a.bR a.b9).bind λd=>(bif (d.2 !=0)then some true else (ma N b).bind λe=>some (!e)).bind λf=>bif f then some (dB,(1:Int))else(q9 N a d.1).bind λg=>some (g,(0:Int))
def an8{N a b}:KO 237 [cN a,bO b] (λr=>.bw [bO r.1,Y r.2]) (GK N a b):=
 fw func237 (ay λk e=>gA [[],[(4,cK Pq e)],[]] (bV λf=>ay λl g=>gA [[f0 f],[(16,cK ao9 g)]] (gG (λd=>[(30,aG d)]) (λ_=>[.cells (cN a).cells,.cells (bO b).cells,.cells jW]) (aC (λc=>gE [(2,bT c)] []) λc=>ay λm h=>gE [(2,bF c)] [(13,cK oM h)]) λd=>bV λi=>ay λn j=>gR [[f0 i],[(7,cK BK j)]])))
def Nr(N:Nat)(c:aQ)(b:aQ)(e:aH):O (aH×Int):=(n9 N c).bind λf=>(bif (f !=0)then some true else (n9 N b).bind λg=>some (g !=0)).bind λh=>bif h then some (dB,(10:Int))else(nR N c e).bind λi=>bif i then(Ly N c e).bind λd=>bif (b.bt==3)then(HY N d).bind λj=>some ((⟨j,1⟩:aH),(0:Int))else bif (b.bt==2)then(GK N b d).bind λa=>some (a.1,a.2)else some (d,(0:Int))else some (dB,(1:Int))
def aox{N a b c}:KO 197 [cN a,cN b,bO c] (λr=>.bw [bO r.1,Y r.2]) (Nr N a b c):=
 fw func197 (gA [[]] (ay λq g=>gG (λf=>[(9,aG f)]) (λ_=>[.cells (cN a).cells,.cells (cN b).cells,.cells (bO c).cells,.cells jW]) (dH (4,cK qq g) (aC (λd=>gE [(3,bT d)] []) λd=>ay λt h=>gE [(3,bF d)] [(16,cK qq h)])) λf=>bV λi=>ay λu j=>gA [[f0 i],[(7,cK wy j)]] (kC λk=>ay λv l=>gA [[f0 (dG k)],[(7,cK anx l)],[],[]] (aC (λe=>ay λw m=>gR [[t0 e],[(4,cK apf m)]]) λe=>gA [[f0 e],[]] (tY λn=>ay λo p=>gR [[t0 n],[(7,cK an8 p)]])))))
def QG(N:Nat)(b:aQ)(a:Int64)(c:Int64):O (Int64×Int):=some ((-a),(0:Int))
def aqx{N b a c}:KO 240 [cN b,bg a,bg c] (λr=>.bw [bg r.1,Y r.2]) (QG N b a c):=
 fw func240 (gR [[],[(5,oq (Oo a))]])
def QQ(N:Nat)(a:aQ)(c:aH)(d:aH):O (aH×Int):=(tF N a ([c,d])).bind λe=>bif (e !=0)then some (dB,e)else(QG N a c.xN d.xN).bind λb=>bif (b.2 !=0)then some (dB,b.2)else(q9 N a b.1).bind λf=>some (f,(0:Int))
def as1{N c d e}:KP 239 [.agg [.fn 240 []],cN c,bO d,bO e] [] (λr=>.bw [bO r.1,Y r.2]) (λ_=>[]) (QQ N c d e):=
 fh 0 func239 (ay λi f=>gA [[],[(13,cK El f)],[]] (aC (λa=>gH [[t0 a],[]]) λa=>ay λj g=>gA [[f0 a],[(22,cK aqx g)],[]] (aC (λb=>gH [[t0 b],[]]) λb=>ay λk h=>gH [[f0 b],[(7,cK BK h)]])))
def JK(N:Nat)(c:aQ)(a:aH):O (aH×Int):=(QQ N c a a).bind λb=>some (b.1,b.2)
def aoc{N b a}:KO 203 [cN b,bO a] (λr=>.bw [bO r.1,Y r.2]) (JK N b a):=
 fw func203 (ay λd c=>gR [[],[(13,oQ [.agg [.fn 240 []],cN b,bO a,bO a] [.cells (cN b).cells,.cells (bO a).cells,.cells jW] [] (as1 _ c))]])
def L9(N:Nat)(b:aQ)(a:aH):O (aH×Int):=bif (b.bt==2)then(JK N b a).bind λc=>some (c.1,c.2)else some ((⟨(-a.xN),a.xD⟩:aH),(0:Int))
def aiX{N c a}:KO 169 [cN c,bO a] (λr=>.bw [bO r.1,Y r.2]) (L9 N c a):=
 fw func169 (gA [[],[]] (aC (λb=>ay λe d=>gR [[t0 b],[(7,cK aoc d)]]) λb=>gR [[f0 b],[(8,oq (Oo a.xN))]]))
def FR(N:Nat)(c:Int)(b:Int64)(a:Int64):O (aH×Int):=bif (c==4)then(rK N (b+a)).bind λd=>bif d then some ((⟨b+a,1⟩:aH),(0:Int))else some (dB,(3:Int))else bif (c==5)then(rK N (b-a)).bind λe=>bif e then some ((⟨b-a,1⟩:aH),(0:Int))else some (dB,(3:Int))else bif (c==6)then(rK N (b*a)).bind λf=>bif f then some ((⟨b*a,1⟩:aH),(0:Int))else some (dB,(3:Int))else bif (a.toInt==0)then some (dB,(4:Int))else bif (a.toInt !=0)then(bif ((Int64.ofInt ((b.toInt).tmod a.toInt)).toInt !=0)then some (!((decide (b.toInt<0))==(decide (a.toInt<0))))else some false).bind λg=>bif g then(rK N ((Int64.ofInt ((b.toInt).tdiv a.toInt))-(1:Int64))).bind λh=>bif h then some ((⟨(Int64.ofInt ((b.toInt).tdiv a.toInt))-(1:Int64),1⟩:aH),(0:Int))else some (dB,(3:Int))else(rK N (Int64.ofInt ((b.toInt).tdiv a.toInt))).bind λi=>bif i then some ((⟨Int64.ofInt ((b.toInt).tdiv a.toInt),1⟩:aH),(0:Int))else some (dB,(3:Int))else none
def aq9{N i c a}:KO 205 [Y i,bg c,bg a] (λr=>.bw [bO r.1,Y r.2]) (FR N i c a):=
 fw func205 (gA [[],[],[],[]] (aC (λd=>ay λy l=>gA [[t0 d],[(8,oq (IF c a))],[(4,cK Cg l)]] (qg λm=>gR [[t0 (eF m)],[]])) λd=>gA [[f0 d],[]] (aC (λe=>ay λz n=>gA [[t0 e],[(8,oq (Av c a))],[(4,cK Cg n)]] (qg λo=>gR [[t0 (eF o)],[]])) λe=>gA [[f0 e],[]] (aC (λf=>ay λA p=>gA [[t0 f],[(8,oq (nJ c a))],[(4,cK Cg p)]] (qg λq=>gR [[t0 (eF q)],[]])) λf=>gA [[f0 f],[]] (bV λt=>dW λj=>gA [[f0 t],[(7,⟨_,_,.nz (b:=a.toInt) (Ui.1 j)⟩),(8,oq (kM ((c.toInt).tdiv a.toInt)))]] (gG (λk=>[(26,aG k)]) (λ_=>[.cells jW]) (dH (7,⟨_,_,.nz (b:=a.toInt) (Ui.1 j)⟩) (dH (8,oq (adw c a.toInt)) (aC (λg=>gE [(4,bT g)] []) λg=>gE [(4,bF g)] []))) λk=>aC (λh=>ay λB u=>gA [[t0 h],[(5,oq (Av (Int64.ofInt ((c.toInt).tdiv a.toInt)) (1:Int64)))],[(4,cK Cg u)]] (qg λv=>gR [[t0 (eF v)],[]])) λh=>ay λC w=>gA [[f0 h],[(4,cK Cg w)]] (qg λx=>gR [[t0 (eF x)],[]])))))))
def Uv(N:Nat)(c:aQ)(a:Int64)(b:Int64):O (Int64×Int):=some (a+b,(0:Int))
def asH{N c a b}:KO 242 [cN c,bg a,bg b] (λr=>.bw [bg r.1,Y r.2]) (Uv N c a b):=
 fw func242 (gR [[],[(8,oq (IF a b))]])
def QF(N:Nat)(a:aQ)(c:aH)(d:aH):O (aH×Int):=(tF N a ([c,d])).bind λe=>bif (e !=0)then some (dB,e)else(Uv N a c.xN d.xN).bind λb=>bif (b.2 !=0)then some (dB,b.2)else(q9 N a b.1).bind λf=>some (f,(0:Int))
def atA{N c d e}:KP 239 [.agg [.fn 242 []],cN c,bO d,bO e] [] (λr=>.bw [bO r.1,Y r.2]) (λ_=>[]) (QF N c d e):=
 fh 0 func239 (ay λi f=>gA [[],[(13,cK El f)],[]] (aC (λa=>gH [[t0 a],[]]) λa=>ay λj g=>gA [[f0 a],[(22,cK asH g)],[]] (aC (λb=>gH [[t0 b],[]]) λb=>ay λk h=>gH [[f0 b],[(7,cK BK h)]])))
def Gb(N:Nat)(b:aQ)(c:aH)(d:aH):O (aH×Int):=(QF N b c d).bind λa=>some (a.1,a.2)
abbrev Pl:=λa b c=>([.cells (cN a).cells,.cells (bO b).cells,.cells (bO c).cells,.cells jW]:List ao)
def aob{N a b c}:KO 206 [cN a,bO b,bO c] (λr=>.bw [bO r.1,Y r.2]) (Gb N a b c):=
 fw func206 (ay λe d=>gR [[],[(13,oQ [.agg [.fn 242 []],cN a,bO b,bO c] (Pl a b c) [] (atA _ d))]])
def QH(N:Nat)(c:aQ)(a:Int64)(b:Int64):O (Int64×Int):=some (a-b,(0:Int))
def auh{N c a b}:KO 243 [cN c,bg a,bg b] (λr=>.bw [bg r.1,Y r.2]) (QH N c a b):=
 fw func243 (gR [[],[(8,oq (Av a b))]])
def TU(N:Nat)(a:aQ)(c:aH)(d:aH):O (aH×Int):=(tF N a ([c,d])).bind λe=>bif (e !=0)then some (dB,e)else(QH N a c.xN d.xN).bind λb=>bif (b.2 !=0)then some (dB,b.2)else(q9 N a b.1).bind λf=>some (f,(0:Int))
def asA{N c d e}:KP 239 [.agg [.fn 243 []],cN c,bO d,bO e] [] (λr=>.bw [bO r.1,Y r.2]) (λ_=>[]) (TU N c d e):=
 fh 0 func239 (ay λi f=>gA [[],[(13,cK El f)],[]] (aC (λa=>gH [[t0 a],[]]) λa=>ay λj g=>gA [[f0 a],[(22,cK auh g)],[]] (aC (λb=>gH [[t0 b],[]]) λb=>ay λk h=>gH [[f0 b],[(7,cK BK h)]])))
def F3(N:Nat)(b:aQ)(c:aH)(d:aH):O (aH×Int):=(TU N b c d).bind λa=>some (a.1,a.2)
def ara{N a b c}:KO 207 [cN a,bO b,bO c] (λr=>.bw [bO r.1,Y r.2]) (F3 N a b c):=
 fw func207 (ay λe d=>gR [[],[(13,oQ [.agg [.fn 243 []],cN a,bO b,bO c] (Pl a b c) [] (asA _ d))]])
def V8(N:Nat)(a:aQ)(c:Int64)(d:Int64):O (Int64×Int):=bif (decide ((0:Int)<=a.bR))then(Bu N (c*d) (Int64.ofInt ((1:Int)*2^(min (a.bR).toNat (IntKind.bits .i64)))) a.b9).bind λb=>some (b.1,b.2)else none
def akY{N a c d}:KO 244 [cN a,bg c,bg d] (λr=>.bw [bg r.1,Y r.2]) (V8 N a c d):=
 fw func244 (dW λe=>ay λg f=>gR [[],[(8,oq (nJ c d)),(16,⟨_,_,.nn (b:=a.bR) (Tr e)⟩),(17,oq (kM ((1:Int)*2^(min (a.bR).toNat (IntKind.bits .i64))))),(25,cK Sa f)]])
def UE(N:Nat)(a:aQ)(c:aH)(d:aH):O (aH×Int):=(tF N a ([c,d])).bind λe=>bif (e !=0)then some (dB,e)else(V8 N a c.xN d.xN).bind λb=>bif (b.2 !=0)then some (dB,b.2)else(q9 N a b.1).bind λf=>some (f,(0:Int))
def aoP{N c d e}:KP 239 [.agg [.fn 244 []],cN c,bO d,bO e] [] (λr=>.bw [bO r.1,Y r.2]) (λ_=>[]) (UE N c d e):=
 fh 0 func239 (ay λi f=>gA [[],[(13,cK El f)],[]] (aC (λa=>gH [[t0 a],[]]) λa=>ay λj g=>gA [[f0 a],[(22,cK akY g)],[]] (aC (λb=>gH [[t0 b],[]]) λb=>ay λk h=>gH [[f0 b],[(7,cK BK h)]])))
def HU(N:Nat)(b:aQ)(c:aH)(d:aH):O (aH×Int):=(UE N b c d).bind λa=>some (a.1,a.2)
def apR{N a b c}:KO 208 [cN a,bO b,bO c] (λr=>.bw [bO r.1,Y r.2]) (HU N a b c):=
 fw func208 (ay λe d=>gR [[],[(13,oQ [.agg [.fn 244 []],cN a,bO b,bO c] (Pl a b c) [] (aoP _ d))]])
def VS(N:Nat)(a:aQ)(c:Int64)(d:Int64):O (Int64×Int):=bif (decide ((0:Int)<=a.bR))then(Bu N (Int64.ofInt (c.toInt*2^(min (a.bR).toNat (IntKind.bits .i64)))) d a.b9).bind λb=>some (b.1,b.2)else none
def auE{N a c d}:KO 246 [cN a,bg c,bg d] (λr=>.bw [bg r.1,Y r.2]) (VS N a c d):=
 fw func246 (dW λe=>ay λg f=>gR [[],[(10,⟨_,_,.nn (b:=a.bR) (Tr e)⟩),(11,oq (kM (c.toInt*2^(min (a.bR).toNat (IntKind.bits .i64))))),(22,cK Sa f)]])
def cf4(v:fG)(r:U AV):U AV:=(Y v.gC.bt)::(Y v.gC.bW)::(Y v.gC.bR)::(Y v.gC.b9)::(Y v.gC.b8)::r
def Xx(N:Nat)(a:aQ)(c:aH)(d:aH):O (aH×Int):=(tF N a ([c,d])).bind λe=>bif (e !=0)then some (dB,e)else(VS N a c.xN d.xN).bind λb=>bif (b.2 !=0)then some (dB,b.2)else(q9 N a b.1).bind λf=>some (f,(0:Int))
def akV{N c d e}:KP 239 [.agg [.fn 246 []],cN c,bO d,bO e] [] (λr=>.bw [bO r.1,Y r.2]) (λ_=>[]) (Xx N c d e):=
 fh 0 func239 (ay λi f=>gA [[],[(13,cK El f)],[]] (aC (λa=>gH [[t0 a],[]]) λa=>ay λj g=>gA [[f0 a],[(22,cK auE g)],[]] (aC (λb=>gH [[t0 b],[]]) λb=>ay λk h=>gH [[f0 b],[(7,cK BK h)]])))
def Jq(N:Nat)(b:aQ)(c:aH)(d:aH):O (aH×Int):=(Xx N b c d).bind λa=>some (a.1,a.2)
def alb{N a b c}:KO 209 [cN a,bO b,bO c] (λr=>.bw [bO r.1,Y r.2]) (Jq N a b c):=
 fw func209 (ay λe d=>gR [[],[(13,oQ [.agg [.fn 246 []],cN a,bO b,bO c] (Pl a b c) [] (akV _ d))]])
def H4(N:Nat)(a:aH)(b:aH):O (aH×Int):=(ma N a).bind λd=>(bif d then (ma N b).bind λe=>some (!e)else some true).bind λf=>bif f then some (dB,(1:Int))else(wB N ((a.xN*b.xD)+(b.xN*a.xD)) (a.xD*b.xD)).bind λc=>some (c.1,c.2)
abbrev QM:=λa b=>([.cells (bO a).cells,.cells (bO b).cells,.cells jW]:List ao)
def aj5{N a b}:KO 210 [bO a,bO b] (λr=>.bw [bO r.1,Y r.2]) (H4 N a b):=
 fw func210 (gA [[]] (ay λi e=>gG (λd=>[(13,aG d)]) (λ_=>(QM a b)) (dH (4,cK oM e) (aC (λc=>ay λj f=>gE [(3,bF (dG c))] [(16,cK oM f)]) λc=>gE [(3,bT (eF c))] [])) λd=>bV λg=>ay λk h=>gR [[f0 g],[(14,oq (nJ a.xN b.xD)),(29,oq (nJ b.xN a.xD)),(32,oq (IF (a.xN*b.xD) (b.xN*a.xD))),(47,oq (nJ a.xD b.xD)),(49,cK GQ h)]]))
def Jw(N:Nat)(a:aH)(b:aH):O (aH×Int):=(ma N a).bind λd=>(bif d then (ma N b).bind λe=>some (!e)else some true).bind λf=>bif f then some (dB,(1:Int))else(wB N ((a.xN*b.xD)-(b.xN*a.xD)) (a.xD*b.xD)).bind λc=>some (c.1,c.2)
def ao2{N a b}:KO 211 [bO a,bO b] (λr=>.bw [bO r.1,Y r.2]) (Jw N a b):=
 fw func211 (gA [[]] (ay λi e=>gG (λd=>[(13,aG d)]) (λ_=>(QM a b)) (dH (4,cK oM e) (aC (λc=>ay λj f=>gE [(3,bF (dG c))] [(16,cK oM f)]) λc=>gE [(3,bT (eF c))] [])) λd=>bV λg=>ay λk h=>gR [[f0 g],[(14,oq (nJ a.xN b.xD)),(29,oq (nJ b.xN a.xD)),(32,oq (Av (a.xN*b.xD) (b.xN*a.xD))),(47,oq (nJ a.xD b.xD)),(49,cK GQ h)]]))
def FP(N:Nat)(a:aH)(b:aH):O (aH×Int):=(ma N a).bind λd=>(bif d then (ma N b).bind λe=>some (!e)else some true).bind λf=>bif f then some (dB,(1:Int))else(wB N (a.xN*b.xN) (a.xD*b.xD)).bind λc=>some (c.1,c.2)
def aud{N a b}:KO 212 [bO a,bO b] (λr=>.bw [bO r.1,Y r.2]) (FP N a b):=
 fw func212 (gA [[]] (ay λi e=>gG (λd=>[(13,aG d)]) (λ_=>(QM a b)) (dH (4,cK oM e) (aC (λc=>ay λj f=>gE [(3,bF (dG c))] [(16,cK oM f)]) λc=>gE [(3,bT (eF c))] [])) λd=>bV λg=>ay λk h=>gR [[f0 g],[(14,oq (nJ a.xN b.xN)),(29,oq (nJ a.xD b.xD)),(31,cK GQ h)]]))
def FN(N:Nat)(a:aH)(b:aH):O (aH×Int):=(ma N a).bind λd=>(bif d then (ma N b).bind λe=>some (!e)else some true).bind λf=>bif f then some (dB,(1:Int))else(wB N (a.xN*b.xD) (a.xD*b.xN)).bind λc=>some (c.1,c.2)
def ajb{N a b}:KO 213 [bO a,bO b] (λr=>.bw [bO r.1,Y r.2]) (FN N a b):=
 fw func213 (gA [[]] (ay λi e=>gG (λd=>[(13,aG d)]) (λ_=>(QM a b)) (dH (4,cK oM e) (aC (λc=>ay λj f=>gE [(3,bF (dG c))] [(16,cK oM f)]) λc=>gE [(3,bT (eF c))] [])) λd=>bV λg=>ay λk h=>gR [[f0 g],[(14,oq (nJ a.xN b.xD)),(29,oq (nJ a.xD b.xN)),(31,cK GQ h)]]))
def OJ(N:Nat)(d:Int)(a:aQ)(b:aH)(c:aH):O (aH×Int):=bif (a.bt==3)then(FR N d b.xN c.xN).bind λh=>some (h.1,h.2)else(bif (d==4)then some (a.bt==2)else some false).bind λo=>bif o then(Gb N a b c).bind λi=>some (i.1,i.2)else(bif (d==5)then some (a.bt==2)else some false).bind λp=>bif p then(F3 N a b c).bind λj=>some (j.1,j.2)else(bif (d==6)then some (a.bt==2)else some false).bind λg=>bif g then(HU N a b c).bind λe=>some (e.1,e.2)else bif (a.bt==2)then(Jq N a b c).bind λf=>some (f.1,f.2)else bif (d==4)then(H4 N b c).bind λk=>some (k.1,k.2)else bif (d==5)then(Jw N b c).bind λl=>some (l.1,l.2)else bif (d==6)then(FP N b c).bind λm=>some (m.1,m.2)else(FN N b c).bind λn=>some (n.1,n.2)
def Ss(a:aQ)(b:aH)(c:aH)(l:U ao):U ao:= .cells (cN a).cells:: .cells (bO b).cells:: .cells (bO c).cells:: .cells jW::l
def aqf{N p a b c}:KO 171 [Y p,cN a,bO b,bO c] (λr=>.bw [bO r.1,Y r.2]) (OJ N p a b c):=
 fw func171 (gA [[],[],[]] (aC (λe=>ay λG u=>gR [[t0 e],[(16,cK aq9 u)]]) λe=>gA [[f0 e]] (gG (λq=>[(26,aG q)]) (λ_=>(Ss a b c [])) (aC (λf=>gE [(2,bT f)] []) λf=>gE [(2,bF f)] []) λq=>aC (λg=>ay λH v=>gR [[t0 g],[(10,cK aob v)]]) λg=>gA [[f0 g]] (gG (λt=>[(38,aG t)]) (λ_=>(Ss a b c [])) (aC (λh=>gE [(2,bT h)] []) λh=>gE [(2,bF h)] []) λt=>aC (λi=>ay λJ w=>gR [[t0 i],[(10,cK ara w)]]) λi=>gA [[f0 i]] (gG (λd=>[(50,aG d)]) (λ_=>(Ss a b c [])) (aC (λj=>gE [(2,bT j)] []) λj=>gE [(2,bF j)] []) λd=>aC (λk=>ay λx y=>gR [[t0 k],[(10,cK apR y)]]) λk=>gA [[f0 k],[]] (aC (λl=>ay λz A=>gR [[t0 l],[(10,cK alb A)]]) λl=>gA [[f0 l],[]] (aC (λm=>ay λK B=>gR [[t0 m],[(7,cK aj5 B)]]) λm=>gA [[f0 m],[]] (aC (λn=>ay λL C=>gR [[t0 n],[(7,cK ao2 C)]]) λn=>gA [[f0 n],[]] (aC (λo=>ay λM E=>gR [[t0 o],[(7,cK aud E)]]) λo=>ay λP F=>gR [[f0 o],[(7,cK ajb F)]])))))))))
def C5(N:Nat)(e:aQ)(b:aH)(c:aH)(f:Int)(d:Bool):O (aH×Int):=bif d then(GB N e b c).bind λa=>(bif ((decide (a>0))==(f==9))then some (a !=0)else some false).bind λh=>bif h then some (c,(0:Int))else some (b,(0:Int))else(OJ N f e b c).bind λg=>some (g.1,g.2)
def z6(N:Nat)(a:Int)(b:aQ)(d:aH)(e:aH):O (aH×Int):=(bif (decide (a<4))then some true else some (decide (a>10))).bind λf=>bif f then some (dB,(1:Int))else(n9 N b).bind λg=>bif (g !=0)then some (dB,(10:Int))else(nR N b d).bind λh=>(bif h then(bif (a !=8)then (nR N b e).bind λi=>some (!i)else some false)else some true).bind λj=>bif j then some (dB,(1:Int))else bif (a==8)then(L9 N b d).bind λc=>some (c.1,c.2)else bif (a==9)then C5 N b d e a (a==9)else C5 N b d e a (a==10)
def K5(a:aQ)(b:aH)(c:aH)(l:U ao):U ao:= .cells (cN a).cells:: .cells (bO b).cells:: .cells (bO c).cells:: .cells jW::l
def R0{N d a b c}:KO 126 [Y d,cN a,bO b,bO c] (λr=>.bw [bO r.1,Y r.2]) (z6 N d a b c):=
 fw func126 (gA [[]] (gG (λm=>[(11,aG m)]) (λ_=>(K5 a b c [])) (aC (λg=>gE [(2,bT g)] []) λg=>gE [(2,bF g)] []) λm=>bV λq=>ay λF t=>gA [[f0 q],[(4,cK qq t)]] (bV λu=>gA [[f0 u]] (ay λG v=>gG (λn=>[(24,aG n)]) (λ_=>(K5 a b c [])) (dH (7,cK wy v) (aC (λh=>dS (4,bF (dG h)) (aC (λe=>ay λH w=>gE [(7,bT e)] [(31,cK wy w),(37,bT e)]) λe=>gE [(7,bF e)] [(37,bF e)])) λh=>gE [(4,bT (eF h)),(7,uN)] [])) λn=>bV λx=>gA [[f0 x],[],[]] (aC (λi=>ay λy z=>gR [[t0 i],[(7,cK aiX z)]]) λi=>nF 1 [[f0 i],[]] [0,5,6,7,8,48] 4 (λ(f:Bool)=>⟨73,[(0,Y d),(5,A1),(6,An),(7,D0),(8,Ar),(48,aG f)],K5 a b c []⟩) (C5 N a b c d) (λJ o=>aC (λj=>gm o (d==9) [[t0 j]]) λj=>gm o (d==10) [[f0 j],[]]) (λf=>aC (λk=>ay λA B=>gA [[t0 k],[(10,cK aeM B)]] (gG (λp=>[(63,aG p)]) (λ_=>(K5 a b c [])) (aC (λl=>gE [(5,bT l)] []) λl=>gE [(5,bF l)] []) λp=>bV λC=>gR [[f0 C],[]])) λk=>ay λK E=>gR [[f0 k],[(13,cK aqf E)]]))))))
def y6(N:Nat)(e:U aR)(c:au)(f:U aO)(h:U (so×bo))(i:au->(U aR)->(U aO)->(U (so×bo))->O (Bool×Int×(U (so×bo))))(g:au->(U aR)->(U aO)->(U (so×bo))->O (fG×Int×(U (so×bo))))(j:au->(U aR)->(U aO)->(U (so×bo))->O (fG×Int×(U (so×bo))))(n:Bool):O (fG×Int×(U (so×bo))):=bif n then(JY N e c f h).bind λk=>some (k.1,k.2.1,k.2.2)else bif (c.aA==11)then(c.bk[0]?).bind λo=>(i o e f h).bind λd=>bif (d.2.1 !=0)then some (Dz,d.2.1,d.2.2)else bif d.1 then(c.bk[1]?).bind λp=>(g p e f d.2.2).bind λa=>some (a.1,a.2.1,a.2.2)else(c.bk[2]?).bind λl=>(g l e f d.2.2).bind λb=>some (b.1,b.2.1,b.2.2)else(j c e f h).bind λm=>some (m.1,m.2.1,m.2.2)
def Gf(N:Nat)(c:fG×Int×(U (so×bo)))(b:fG×Int×(U (so×bo)))(a:Int):O (fG×fG×Int×(U (so×bo))):=some (c.1,b.1,a,b.2.2)
mutual
def m8(N:Nat):Nat->au->(U aR)->(U aO)->(U (so×bo))->O (fG×Int×(U (so×bo)))
 |0,_,_,_,_=>none
 |d+1,v1,v2,v3,v4=>bif (v1.aA==1)then y6 N v2 v1 v3 v4 (qX N d) (m8 N d) (sQ N d) (v1.aA==1)else bif (v1.aA==2)then y6 N v2 v1 v3 v4 (qX N d) (m8 N d) (sQ N d) (v1.aA==2)else y6 N v2 v1 v3 v4 (qX N d) (m8 N d) (sQ N d) (v1.aA==3)
def qX(N:Nat):Nat->au->(U aR)->(U aO)->(U (so×bo))->O (Bool×Int×(U (so×bo)))
 |0,_,_,_,_=>none
 |d+1,v1,v2,v3,v4=>((GM N d) v1 v2 v3 v4).bind λv5=>some (v5.1,v5.2.1,v5.2.2)
def GM(N:Nat):Nat->au->(U aR)->(U aO)->(U (so×bo))->O (Bool×Int×(U (so×bo)))
 |0,_,_,_,_=>none
 |d+1,v1,v2,v3,v4=>bif (decide (v1.aA<16))then((y0 N d) v1 v2 v3 v4).bind λv5=>bif (v5.2.2.1 !=0)then some (false,v5.2.2.1,v5.2.2.2)else(GB N v5.1.gC v5.1.js v5.2.1.js).bind λv6=>(R5 N v1.aA v6).bind λv7=>some (v7,(0:Int),v5.2.2.2)else(v1.bk[0]?).bind λv8=>((qX N d) v8 v2 v3 v4).bind λv9=>(bif (v9.2.1 !=0)then some true else some (v1.aA==18)).bind λv10=>bif v10 then(bif (v9.2.1==0)then some (!v9.1)else some false).bind λv11=>some (v11,v9.2.1,v9.2.2)else(v1.bk[1]?).bind λv12=>((qX N d) v12 v2 v3 v9.2.2).bind λaD=>bif (aD.2.1 !=0)then some (false,aD.2.1,aD.2.2)else bif (v1.aA==16)then(bif v9.1 then some aD.1 else some false).bind λaE=>some (aE,(0:Int),aD.2.2)else(bif v9.1 then some true else some aD.1).bind λaZ=>some (aZ,(0:Int),aD.2.2)
def y0(N:Nat):Nat->au->(U aR)->(U aO)->(U (so×bo))->O (fG×fG×Int×(U (so×bo)))
 |0,_,_,_,_=>none
 |d+1,v1,v2,v3,v4=>(v1.bk[0]?).bind λv5=>((m8 N d) v5 v2 v3 v4).bind λv6=>bif (v6.2.1 !=0)then some (v6.1,v6.1,v6.2.1,v6.2.2)else(v1.bk[1]?).bind λv7=>((m8 N d) v7 v2 v3 v6.2.2).bind λv8=>(bif (v8.2.1==0)then some (!((v6.1.gC.bt==v8.1.gC.bt)&&((v6.1.gC.bW==v8.1.gC.bW)&&((v6.1.gC.bR==v8.1.gC.bR)&&((v6.1.gC.b9==v8.1.gC.b9)&&((v6.1.gC.b8==v8.1.gC.b8)&&true))))))else some false).bind λv9=>bif v9 then Gf N v6 v8 (10:Int)else Gf N v6 v8 v8.2.1
def sQ(N:Nat):Nat->au->(U aR)->(U aO)->(U (so×bo))->O (fG×Int×(U (so×bo)))
 |0,_,_,_,_=>none
 |d+1,v1,v2,v3,v4=>(bif (v1.aA==8)then some true else some (v1.aA==12)).bind λv5=>bif v5 then(v1.bk[0]?).bind λv6=>((m8 N d) v6 v2 v3 v4).bind λv7=>bif (v7.2.1 !=0)then some (v7.1,v7.2.1,v7.2.2)else bif (v1.aA==12)then(Nr N v7.1.gC v1.aw v7.1.js).bind λv8=>some ((⟨v8.1,v1.aw⟩:fG),v8.2,v7.2.2)else(z6 N (8:Int) v7.1.gC v7.1.js v7.1.js).bind λv9=>some ((⟨v9.1,v7.1.gC⟩:fG),v9.2,v7.2.2)else((y0 N d) v1 v2 v3 v4).bind λv10=>bif (v10.2.2.1 !=0)then some (Dz,v10.2.2.1,v10.2.2.2)else(z6 N v1.aA v10.1.gC v10.1.js v10.2.1.js).bind λv11=>some ((⟨v11.1,v10.1.gC⟩:fG),v11.2,v10.2.2.2)
end
def Gd(N:Nat)(a:au)(b:U aR)(c:U aO)(d:U (so×bo)):O (fG×Int×(U (so×bo))):=m8 N N a b c d
abbrev Ha:=λa b c d=>([.cells [.fn 159 [An,D0,Ar],.fn 157 [Ar]],.cells [.fn 117 [CV,DF]],.cells [I (bz a)],.cells [A1],.cells [.mp 6],.cells [I (bG b)],.map (cv cx c),.cells (aL d).cells]:List ao)
abbrev Hf:=λa b c d=>([.cells [.fn 117 [Ar,CV]],.cells [I (bz a)],.cells [DF],.cells [.mp 6],.cells [I (bG b)],.cells [.fn 159 [A1,An,D0],.fn 157 [D0]],.map (cv cx c),.cells (aL d).cells,.cells eJ]:List ao)
abbrev Hs:=λa b c=>([.cells [.fn 159 [An,D0,Ar],.fn 157 [Ar]],.cells [.fn 117 [CV,DF]],.cells [I (bz a)],.cells [A1],.cells [.mp 6],.cells [I (bG b)],.map (cv cx c)]:List ao)
abbrev Ip:=λa b c d e f=>([.cells [.fn 159 [An,D0,Ar],.fn 157 [Ar]],.cells [.fn 117 [CV,DF]],.cells [I (bz a)],.cells [A1],.cells [.mp 6],.cells [I (bG b)],.map (cv cx c),.cells (aL d).cells,.cells eJ,.cells eJ,.cells (eQ e).cells,.cells (eQ f).cells]:List ao)
abbrev IK:=λa b c d=>([.cells [.fn 159 [An,D0,Ar],.fn 157 [Ar]],.cells [.fn 117 [CV,DF]],.cells [I (bz a)],.cells [A1],.cells [.mp 6],.cells [I (bG b)],.map (cv cx c),.cells (aL d).cells,.cells eJ]:List ao)
abbrev IU:=λa b c d e f=>([.cells [.fn 159 [An,D0,Ar],.fn 157 [Ar]],.cells [.fn 117 [CV,DF]],.cells [I (bz a)],.cells [A1],.cells [.mp 6],.cells [I (bG b)],.map (cv cx c),.cells (aL d).cells,.cells eJ,.cells (eQ e).cells,.cells (eQ f).cells]:List ao)
abbrev Jf:=λa b c d e=>([.cells [.fn 159 [An,D0,Ar],.fn 157 [Ar]],.cells [.fn 117 [CV,DF]],.cells [I (bz a)],.cells [A1],.cells [.mp 6],.cells [I (bG b)],.map (cv cx c),.cells (aL d).cells,.cells eJ,.cells eJ,.cells (eQ e).cells]:List ao)
abbrev K2:=λa b c d e=>([.cells [.fn 159 [An,D0,Ar],.fn 157 [Ar]],.cells [.fn 117 [CV,DF]],.cells [I (bz a)],.cells [A1],.cells [.mp 6],.cells [I (bG b)],.map (cv cx c),.cells (aL d).cells,.cells eJ,.cells (eQ e).cells]:List ao)
abbrev KL:=λa b c=>([.cells [.fn 117 [Ar,CV]],.cells [I (bz a)],.cells [DF],.cells [.mp 6],.cells [I (bG b)],.cells [.fn 159 [A1,An,D0],.fn 157 [D0]],.map (cv cx c)]:List ao)
abbrev L1:=λa b c d=>([.cells [.fn 159 [An,D0,Ar],.fn 157 [Ar]],.cells [.fn 117 [CV,DF]],.cells [I (bz a)],.cells [A1],.cells [.mp 6],.cells [I (bG b)],.map (cv cx c),.cells (aL d).cells,.cells eJ,.cells eJ]:List ao)
abbrev L3:=λa b c d e f=>([.cells [.fn 159 [An,D0,Ar],.fn 157 [Ar]],.cells [.fn 117 [CV,DF]],.cells [I (bz a)],.cells [A1],.cells [.mp 6],.cells [I (bG b)],.map (cv cx c),.cells (aL d).cells,.cells eJ,.cells (eQ e).cells,.cells (bO f).cells]:List ao)
abbrev My:=λa b c d e=>([.cells [.fn 117 [Ar,CV]],.cells [I (bz a)],.cells [DF],.cells [.mp 6],.cells [I (bG b)],.cells [.fn 159 [A1,An,D0],.fn 157 [D0]],.map (cv cx c),.cells (aL d).cells,.cells (eQ e).cells]:List ao)
abbrev Oy:=λa b c=>([.cells [An],.cells [.fn 159 [D0,Ar,A1],.fn 157 [A1]],.cells [.fn 117 [CV,DF]],.cells [I (bz a)],.cells [.mp 6],.cells [I (bG b)],.map (cv cx c)]:List ao)
def anl(N:Nat):∀d:Nat,(∀{a:au}{b:U aR}{c:U aO}{f:U (so×bo)}{r:fG×Int×(U (so×bo))},m8 N d a b c f=some r->KH 159 [aL a,A1,An,D0] (KL b c f) (.bw [eQ r.1,Y r.2.1]) (KL b c r.2.2))/\(∀{a:au}{b:U aR}{c:U aO}{f:U (so×bo)}{r:Bool×Int×(U (so×bo))},qX N d a b c f=some r->KH 157 [aL a,A1] (Oy b c f) (.bw [aG r.1,Y r.2.1]) (Oy b c r.2.2))/\(∀{a:au}{b:U aR}{c:U aO}{f:U (so×bo)}{r:Bool×Int×(U (so×bo))},GM N d a b c f=some r->KH 158 [A1,aL a] (Hs b c f) (.bw [aG r.1,Y r.2.1]) (Hs b c r.2.2))/\(∀{a:au}{b:U aR}{c:U aO}{f:U (so×bo)}{r:fG×fG×Int×(U (so×bo))},y0 N d a b c f=some r->KH 194 [A1,aL a] (Hs b c f) (.bw [eQ r.1,eQ r.2.1,Y r.2.2.1]) (Hs b c r.2.2.2))/\(∀{a:au}{b:U aR}{c:U aO}{f:U (so×bo)}{r:fG×Int×(U (so×bo))},sQ N d a b c f=some r->KH 161 [A1,aL a] (Hs b c f) (.bw [eQ r.1,Y r.2.1]) (Hs b c r.2.2)):=by
 intro d
 induction d with
 |zero=>exact⟨(by intro a b c f r J;rw[m8]at J;cases J),(by intro a b c f r J;rw[qX]at J;cases J),(by intro a b c f r J;rw[GM]at J;cases J),(by intro a b c f r J;rw[y0]at J;cases J),(by intro a b c f r J;rw[sQ]at J;cases J)⟩
 |succ d ih=>
  have y:= @ih.1;have P:= @ih.2.1;have Q:= @ih.2.2.1;have G:= @ih.2.2.2.1;have R:= @ih.2.2.2.2;refine⟨?_,?_,?_,?_,?_⟩
  ·intro a b c f r J;rw[m8]at J;refine AN 7 func159 ?_;refine GO bH r 1 [[],[],[]] [1,2,3,4,5,10,11] 9 (λ(q:Bool)=>⟨67,[(1,A1),(2,An),(3,D0),(4,Gl),(5,EA),(10,Y a.aA),(11,aG q)],Hf b c f a⟩) (y6 N b a c f (qX N d) (m8 N d) (sQ N d)) ?_ ?_
   ·intro f1 S;apply bc J<;>intro H J
    ·exact nU bH S (a.aA==1) [[(0,bT H)]] J
    refine gr bH [[(0,bF H)],[]] ?_;apply bc J<;>intro K J;{exact nU bH S (a.aA==2) [[(0,bT K)]] J}
    exact nU bH S (a.aA==3) [[(0,bF K)],[]] J
   intro q J;rw[y6]at J;apply bc J<;>intro l J;{obtain⟨g,h2,J⟩:=bJ J;cases J;exact lz bH [[(0,bT l)],[(10,oR [.fn 117 [Ar,CV],I (bz b),aL a] (Hf b c f a) [3,4,6] (amX _ h2))]]}
   refine gr bH [[(0,bF l)],[]] ?_;apply bc J<;>intro o J
   ·refine gr bH [[(0,bT o)]] ?_;obtain⟨h,B,i,x,J⟩:=Z6 J;refine vc bH [(19,oE (k:=0) (kg B)),(25,oR [aL h,D0] (Hf b c f a) [2,5,0,1,3,4,6] (P x))] [(7,aG i.1),(8,Y i.2.1)] (Hf b c i.2.2 a) ?_;refine gr bH [[]] ?_;apply bc J<;>intro j J
    ·cases J;exact lz bH [[(0,bT j)],[]]
    refine gr bH [[(0,bF j)],[]] ?_;apply bc J<;>intro h7 J;{refine gr bH [[(0,bT h7)]] ?_;obtain⟨m,u,e,z,J⟩:=Z6 J;refine vc bH [(19,oE (k:=1) (kg u)),(25,oR [aL m,A1,An,D0] (Hf b c i.2.2 a) [0,1,2,3,4,5,6] (y z))] [(6,Y e.2.1)] (My b c e.2.2 a e.1) ?_;cases J;exact lz bH []}
    refine gr bH [[(0,bF h7)]] ?_;obtain⟨n,E,v,w,J⟩:=Z6 J;refine vc bH [(19,oE (k:=2) (kg E)),(25,oR [aL n,A1,An,D0] (Hf b c i.2.2 a) [0,1,2,3,4,5,6] (y w))] [(6,Y v.2.1)] (My b c v.2.2 a v.1) ?_;cases J;exact lz bH []
   obtain⟨F,A,J⟩:=bJ J;cases J;exact lz bH [[(0,bF o)],[(7,oR [DF,aL a] (Hf b c f a) [5,0,1,2,3,4,6] (R A))]]
  ·intro a b c f r J;rw[qX]at J;refine AN 7 func157 ?_;obtain⟨q,l,J⟩:=bJ J;cases J;exact lz bH [[],[(7,oR [An,aL a] [.cells [An],.cells [.fn 159 [D0,Ar,A1],.fn 157 [A1]],.cells [.fn 117 [CV,DF]],.cells [I (bz b)],.cells [.mp 6],.cells [I (bG c)],.map (cv cx f),.cells (aL a).cells] [1,2,3,0,4,5,6] (Q l))]]
  ·intro a b c f r J;rw[GM]at J;refine AN 7 func158 ?_;refine gr bH [[],[]] ?_;apply bc J<;>intro l J
   ·obtain⟨q,h2,J⟩:=bJ J;refine gr bH [[(0,bT l)],[(7,oR [A1,aL a] (Ha b c f a) [0,1,2,3,4,5,6] (G h2))],[]] ?_;apply bc J<;>intro o J
    ·cases J;exact lz bH [[(0,bT o)],[]]
    obtain⟨g,B,h,x,J⟩:=Z6 J;cases J;exact lz bH [[(0,bF o)],[(25,cK aeM B),(28,cK alx x)]]
   refine gr bH [[(0,bF l)]] ?_;obtain⟨i,j,m,h7,J⟩:=Z6 J;refine vc bH [(19,oE (k:=0) (kg j)),(25,oR [aL i,Ar] (Ha b c f a) [3,0,1,2,4,5,6] (P h7))] [(9,aG m.1),(10,Y m.2.1)] (Ha b c m.2.2 a) ?_;obtain⟨e,z,J⟩:=bJ J;refine yc bH [(53,aG e)] (Ha b c m.2.2 a) ?_ ?_
   ·apply bc z<;>intro u z
    ·cases z;exact Ys [(2,bT u)] []
    cases z;exact Ys [(2,bF u)] []
   apply bc J<;>intro E J
   ·refine gr bH [[(0,bT E)]] ?_;obtain⟨n,A,J⟩:=bJ J;refine yc bH [(4,aG n),(5,Y m.2.1)] (Ha b c m.2.2 a) ?_ ?_
    ·apply bc A<;>intro w A
     ·cases A;exact Ys [(2,bT w)] []
     cases A;exact Ys [(2,bF w)] []
    cases J;exact lz bH []
   refine gr bH [[(0,bF E)]] ?_;obtain⟨v,H,F,K,J⟩:=Z6 J;refine vc bH [(19,oE (k:=1) (kg H)),(25,oR [aL v,Ar] (Ha b c m.2.2 a) [3,0,1,2,4,5,6] (P K))] [(11,aG F.1),(10,Y F.2.1)] (Ha b c F.2.2 a) ?_;refine gr bH [[]] ?_;apply bc J<;>intro T J;{cases J;exact lz bH [[(0,bT T)],[]]}
   refine gr bH [[(0,bF T)],[]] ?_;apply bc J<;>intro W J
   ·refine gr bH [[(0,bT W)]] ?_;obtain⟨aE,L,J⟩:=bJ J;refine yc bH [(4,aG aE),(5,Y 0)] (Ha b c F.2.2 a) ?_ ?_
    ·apply bc L<;>intro dQ L
     ·cases L;exact Ys [(1,bT dQ)] []
     cases L;exact Ys [(1,bF dQ)] []
    cases J;exact lz bH []
   refine gr bH [[(0,bF W)]] ?_;obtain⟨aZ,M,J⟩:=bJ J;refine yc bH [(4,aG aZ),(5,Y 0)] (Ha b c F.2.2 a) ?_ ?_
   ·apply bc M<;>intro ff M
    ·cases M;exact Ys [(1,bT ff)] []
    cases M;exact Ys [(1,bF ff)] []
   cases J;exact lz bH []
  ·intro a b c f r J;rw[y0]at J;refine sJ 7 func194 rfl km (Zh rfl) ?_;refine j0 (s':=⟨51,[(0,A1),(1,aL a)],Hs b c f⟩) km ?_;refine az (CM [] [(3,Gl),(4,EA),(5,FW)] (L1 b c f a) ?_);refine az ?_;obtain⟨q,l,g,h2,J⟩:=Z6 J;refine ro 2 bH (.node 0 [] (.node 1 [] (.node 2 [] (.node 3 [] (.node 4 [] (.node 5 [] (.node 6 [(19,oE (k:=0) (kg l))] (.node 7 [] (.node 8 [(25,oR [aL q,An,D0,Ar] (L1 b c f a) [1,2,3,4,5,0,6] (y h2))] (.node 9 [] (.node 10 [] (.node 11 [] (.node 12 [] (.node 13 [] (.node 14 [] .nil .nil) .nil) .nil) .nil) .nil) .nil) (.node 12 [] (.node 8 [(25,oR [aL q,An,D0,Ar] [.cells [.fn 159 [An,D0,Ar],.fn 157 [Ar]],.cells [.fn 117 [CV,DF]],.cells [I (bz b)],.cells [A1],.cells [.mp 6],.cells [I (bG c)],.map (cv cx f),.cells (aL a).cells,.cells eJ,.cells eJ,.cells eJ] [1,2,3,4,5,0,6] (y h2))] (.node 9 [] (.node 10 [] (.node 11 [] (.node 13 [] (.node 14 [] .nil .nil) .nil) .nil) .nil) .nil) .nil) .nil)) .nil) .nil) .nil) .nil) .nil) .nil) .nil) .nil) [(7,Ge),(8,Y g.2.1)] (Jf b c g.2.2 a g.1) km ?_
   refine az (az ?_);refine CM [] [(23,(aG (g.2.1 !=0)))] (Jf b c g.2.2 a g.1) ?_;rcases eo (g.2.1 !=0)with o|o
   ·replace J:=(cS o).symm.trans J;refine AY (t:=(g.2.1 !=0)) o ?_;refine az (rt 2 bH [] [(6,Y g.2.1)] [.cells [.fn 159 [An,D0,Ar],.fn 157 [Ar]],.cells [.fn 117 [CV,DF]],.cells [I (bz b)],.cells [A1],.cells [.mp 6],.cells [I (bG c)],.map (cv cx g.2.2),.cells (aL a).cells,.cells (eQ g.1).cells,.cells (eQ g.1).cells,.cells (eQ g.1).cells] km ?_);refine cT (dd ?_);have p:=Zl J;subst p;exact jQ km
   replace J:=(eu o).symm.trans J;refine AX (t:=(g.2.1 !=0)) o ?_;refine dn ?_;refine bx ?_;refine az ?_;obtain⟨h,B,i,x,J⟩:=Z6 J;refine ro 2 bH (.node 0 [] (.node 1 [] (.node 2 [] (.node 3 [] (.node 4 [] (.node 5 [] (.node 6 [(19,oE (k:=1) (kg B))] (.node 7 [] (.node 8 [(25,oR [aL h,An,D0,Ar] (Jf b c g.2.2 a g.1) [1,2,3,4,5,0,6] (y x))] (.node 9 [] (.node 10 [] (.node 11 [] (.node 12 [] (.node 13 [] (.node 14 [] .nil .nil) .nil) .nil) .nil) .nil) .nil) (.node 12 [] (.node 8 [(25,oR [aL h,An,D0,Ar] [.cells [.fn 159 [An,D0,Ar],.fn 157 [Ar]],.cells [.fn 117 [CV,DF]],.cells [I (bz b)],.cells [A1],.cells [.mp 6],.cells [I (bG c)],.map (cv cx g.2.2),.cells (aL a).cells,.cells eJ,.cells eJ,.cells (eQ g.1).cells,.cells eJ] [1,2,3,4,5,0,6] (y x))] (.node 9 [] (.node 10 [] (.node 11 [] (.node 13 [] (.node 14 [] .nil .nil) .nil) .nil) .nil) .nil) .nil) .nil)) .nil) .nil) .nil) .nil) .nil) .nil) .nil) .nil) [(9,Gv),(8,Y i.2.1)] (Ip b c i.2.2 a g.1 i.1) km ?_
   refine az (az ?_);obtain⟨m,h7,J⟩:=bJ J;refine yS [(47,aG m)] (Ip b c i.2.2 a g.1 i.1) ?_ ?_
   ·rcases eo (i.2.1==0)with j|j
    ·replace h7:=(cS j).symm.trans h7;have C:=Zl h7;subst C;exact⟨[(9,bT j),(12,bT j),(15,bT j),(18,bT j),(21,bT j),(25,bT j)],by kernel_rfl⟩
    replace h7:=(eu j).symm.trans h7;have C:=Zl h7;subst C;exact⟨[(9,bF j),(12,bF j),(15,bF j),(18,bF j),(21,bF j),(25,bF j)],by kernel_rfl⟩
   refine EU [4,5,7,8,9] 12 (λ(e:Int)=>⟨51,[(4,EA),(5,FW),(7,Ge),(8,Y e),(9,Gv)],Ip b c i.2.2 a g.1 i.1⟩) (λ(e:Int)=>Gf N g i e=some r) (Zh rfl) ?_ ?_
   ·rcases eo m with u|u
    ·replace J:=(cS u).symm.trans J;refine AY (t:=m) u ?_;refine BI [] [(8,Y 10)] (Ip b c i.2.2 a g.1 i.1) ?_;refine bx ?_;exact⟨(10:Int),by kernel_rfl,J⟩
    replace J:=(eu u).symm.trans J;refine AX (t:=m) u ?_;refine dn ?_;refine bx ?_;exact⟨i.2.1,by kernel_rfl,J⟩
   rintro e J
   try dsimp only at J
   rw[Gf]at J;refine az (rt 2 bH [] [(6,Y e)] [.cells [.fn 159 [An,D0,Ar],.fn 157 [Ar]],.cells [.fn 117 [CV,DF]],.cells [I (bz b)],.cells [A1],.cells [.mp 6],.cells [I (bG c)],.map (cv cx i.2.2),.cells (aL a).cells,.cells (eQ g.1).cells,.cells (eQ i.1).cells,.cells (eQ g.1).cells,.cells (eQ i.1).cells] km ?_);refine cT ?_;have p:=Zl J;subst p;exact jQ km
  intro a b c f r J;rw[sQ]at J;refine sJ 7 func161 rfl km (Zh rfl) ?_;refine j0 (s':=⟨100,[(0,A1),(1,aL a)],Hs b c f⟩) km ?_;refine az (CM [] [(3,Gl),(4,EA)] (IK b c f a) ?_);refine az (az ?_);obtain⟨q,h2,J⟩:=bJ J;refine yS [(22,aG q)] (IK b c f a) ?_ ?_
  ·rcases eo (a.aA==8)with l|l
   ·replace h2:=(cS l).symm.trans h2;have C:=Zl h2;subst C;exact⟨[(12,bT l),(15,bT l),(18,bT l),(22,bT l)],by kernel_rfl⟩
   replace h2:=(eu l).symm.trans h2;have C:=Zl h2;subst C;exact⟨[(12,bF l),(15,bF l),(18,bF l),(22,bF l)],by kernel_rfl⟩
  rcases eo q with o|o
  ·replace J:=(cS o).symm.trans J;refine AY (t:=q) o ?_;refine az ?_;obtain⟨g,B,h,x,J⟩:=Z6 J;refine ro 2 bH (.node 0 [] (.node 1 [] (.node 2 [] (.node 3 [] (.node 4 [] (.node 5 [] (.node 6 [(19,oE (k:=0) (kg B))] (.node 7 [] (.node 8 [(25,oR [aL g,An,D0,Ar] (IK b c f a) [1,2,3,4,5,0,6] (y x))] (.node 9 [] (.node 10 [] (.node 11 [] (.node 12 [] (.node 13 [] (.node 14 [] .nil .nil) .nil) .nil) .nil) .nil) .nil) (.node 12 [] (.node 8 [(25,oR [aL g,An,D0,Ar] (L1 b c f a) [1,2,3,4,5,0,6] (y x))] (.node 9 [] (.node 10 [] (.node 11 [] (.node 13 [] (.node 14 [] .nil .nil) .nil) .nil) .nil) .nil) .nil) .nil)) .nil) .nil) .nil) .nil) .nil) .nil) .nil) .nil) [(6,FW),(7,Y h.2.1)] (K2 b c h.2.2 a h.1) km ?_
   refine az (az ?_);refine CM [] [(36,(aG (h.2.1 !=0)))] (K2 b c h.2.2 a h.1) ?_;rcases eo (h.2.1 !=0)with j|j
   ·replace J:=(cS j).symm.trans J;refine AY (t:=(h.2.1 !=0)) j ?_;refine az (CM [] [(5,Y h.2.1)] [.cells [.fn 159 [An,D0,Ar],.fn 157 [Ar]],.cells [.fn 117 [CV,DF]],.cells [I (bz b)],.cells [A1],.cells [.mp 6],.cells [I (bG c)],.map (cv cx h.2.2),.cells (aL a).cells,.cells (eQ h.1).cells,.cells (eQ h.1).cells] ?_);refine cT (dd (dd ?_));have p:=Zl J;subst p;exact jQ km
   replace J:=(eu j).symm.trans J;refine AX (t:=(h.2.1 !=0)) j ?_;refine dn ?_;refine bx ?_;refine az (az ?_);refine CM [] [(41,(aG (a.aA==12)))] (K2 b c h.2.2 a h.1) ?_;rcases eo (a.aA==12)with h7|h7
   ·replace J:=(cS h7).symm.trans J;refine AY (t:=(a.aA==12)) h7 ?_;refine az ?_;obtain⟨i,u,J⟩:=bJ J;refine CM [(19,cK aox u)] [(8,Ge),(9,Y i.2)] (L3 b c h.2.2 a h.1 i.1) ?_;refine az (CM [] [(5,Y i.2)] [.cells [.fn 159 [An,D0,Ar],.fn 157 [Ar]],.cells [.fn 117 [CV,DF]],.cells [I (bz b)],.cells [A1],.cells [.mp 6],.cells [I (bG c)],.map (cv cx h.2.2),.cells (aL a).cells,.cells [bg i.1.xN,bg i.1.xD,Y a.aw.bt,Y a.aw.bW,Y a.aw.bR,Y a.aw.b9,Y a.aw.b8],.cells (eQ h.1).cells,.cells (bO i.1).cells] ?_);refine cT (dd (dd ?_));have p:=Zl J;subst p;exact jQ km
   replace J:=(eu h7).symm.trans J;refine AX (t:=(a.aA==12)) h7 ?_;refine dn ?_;refine bx ?_;refine az ?_;obtain⟨m,z,J⟩:=bJ J;refine CM [(19,cK R0 z)] [(10,Ge),(7,Y m.2)] (L3 b c h.2.2 a h.1 m.1) ?_;refine az (CM [] [(5,Y m.2)] [.cells [.fn 159 [An,D0,Ar],.fn 157 [Ar]],.cells [.fn 117 [CV,DF]],.cells [I (bz b)],.cells [A1],.cells [.mp 6],.cells [I (bG c)],.map (cv cx h.2.2),.cells (aL a).cells,.cells ((bg m.1.xN)::(bg m.1.xD)::cf4 h.1 []),.cells (eQ h.1).cells,.cells (bO m.1).cells] ?_);refine cT (dd ?_);have p:=Zl J;subst p;exact jQ km
  replace J:=(eu o).symm.trans J;refine AX (t:=q) o ?_;refine dn ?_;refine bx ?_;refine az ?_;obtain⟨e,E,J⟩:=bJ J;refine CM [(7,oR [A1,aL a] (IK b c f a) [0,1,2,3,4,5,6] (G E))] [(11,FW),(12,Ge),(13,Y e.2.2.1)] (IU b c e.2.2.2 a e.1 e.2.1) ?_;refine az (az ?_);refine CM [] [(80,(aG (e.2.2.1 !=0)))] (IU b c e.2.2.2 a e.1 e.2.1) ?_;rcases eo (e.2.2.1 !=0)with w|w
  ·replace J:=(cS w).symm.trans J;refine AY (t:=(e.2.2.1 !=0)) w ?_;refine az (CM [] [(5,Y e.2.2.1)] (IU b c e.2.2.2 a e.1 e.2.1) ?_);refine cT (dd ?_);have p:=Zl J;subst p;exact jQ km
  replace J:=(eu w).symm.trans J;refine AX (t:=(e.2.2.1 !=0)) w ?_;refine dn ?_;refine bx ?_;refine az ?_;obtain⟨n,A,J⟩:=bJ J;refine CM [(25,cK R0 A)] [(14,Gv),(13,Y n.2)] [.cells [.fn 159 [An,D0,Ar],.fn 157 [Ar]],.cells [.fn 117 [CV,DF]],.cells [I (bz b)],.cells [A1],.cells [.mp 6],.cells [I (bG c)],.map (cv cx e.2.2.2),.cells (aL a).cells,.cells eJ,.cells (eQ e.1).cells,.cells (eQ e.2.1).cells,.cells (bO n.1).cells] ?_;refine az (CM [] [(5,Y n.2)] [.cells [.fn 159 [An,D0,Ar],.fn 157 [Ar]],.cells [.fn 117 [CV,DF]],.cells [I (bz b)],.cells [A1],.cells [.mp 6],.cells [I (bG c)],.map (cv cx e.2.2.2),.cells (aL a).cells,.cells ((bg n.1.xN)::(bg n.1.xD)::cf4 e.1 []),.cells (eQ e.1).cells,.cells (eQ e.2.1).cells,.cells (bO n.1).cells] ?_);refine cT ?_;have p:=Zl J;subst p;exact jQ km
def oy(N:Nat)(c:au)(a:U aR)(b:U aO)(e:U (so×bo))(r:fG×Int×(U (so×bo)))(J:Gd N c a b e=some r):KH 159 [aL c,A1,An,D0] (KL a b e) (.bw [eQ r.1,Y r.2.1]) (KL a b r.2.2):=(anl N N).1 J
def K1(N:Nat)(a:Int)(b:Bool):O (Int×Bool):=bif b then some ((4:Int),true)else bif (a==2)then some ((6:Int),true)else bif (a==3)then some ((9:Int),true)else bif (a==4)then some ((10:Int),true)else some ((0:Int),false)
def Lh(N:Nat)(a:Int):O (Int×Bool):=bif (a==1)then K1 N a (a==1)else K1 N a (a==5)
def anA{N a}:KO 122 [Y a] (λr=>.bw [Y r.1,aG r.2]) (Lh N a):=
 fw func122 (nF 1 [[],[],[]] [4,5] 0 (λ(c:Bool)=>⟨14,[(4,Y a),(5,aG c)],[]⟩) (K1 N a) (λf d=>aC (λb=>gm d (a==1) [[t0 b]]) λb=>gm d (a==5) [[f0 b],[]]) (λc=>iy λ_=>iy λ_=>iy λ_=>bV λe=>gR [[f0 e],[]]))
def avR(N:Nat)(a:aQ):O aH:=(n9 N a).bind λb=>bif (b !=0)then some dB else some (⟨0,1⟩:aH)
def akB{N a}:KO 167 [cN a] bO (avR N a):=
 fw func167 (ay λd b=>gA [[],[(4,cK qq b)]] (bV λc=>gR [[f0 c],[]]))
def afH(N:Nat)(a:aQ):O (aH×Int):=(n9 N a).bind λb=>bif (b !=0)then some (dB,(10:Int))else bif (a.bt !=2)then some ((⟨1,1⟩:aH),(0:Int))else bif (decide ((0:Int)<=a.bR))then(vq N a (⟨Int64.ofInt ((1:Int)*2^(min (a.bR).toNat (IntKind.bits .i64))),1⟩:aH)).bind λc=>bif c then some ((⟨Int64.ofInt ((1:Int)*2^(min (a.bR).toNat (IntKind.bits .i64))),1⟩:aH),(0:Int))else some (dB,(3:Int))else none
def anj{N a}:KO 168 [cN a] (λr=>.bw [bO r.1,Y r.2]) (afH N a):=
 fw func168 (ay λh c=>gA [[],[(4,cK qq c)]] (iy λ_=>bV λd=>dW λe=>ay λi f=>gA [[f0 d],[(7,⟨_,_,.nn (b:=a.bR) (Tr e)⟩),(8,oq (kM ((1:Int)*2^(min (a.bR).toNat (IntKind.bits .i64)))))],[(7,cK TV f)]] (qg λg=>gR [[t0 (eF g)],[]])))
def WW(N:Nat)(a:aQ)(c:Int)(d:Bool):O (aH×Bool):=bif d then(avR N a).bind λe=>some (e,true)else bif (c==2)then(afH N a).bind λb=>some (b.1,(b.2==0))else some (dB,false)
def avQ(N:Nat)(a:Int)(b:aQ):O (aH×Bool):=(n9 N b).bind λc=>bif (c !=0)then some (dB,false)else bif (a==1)then WW N b a (a==1)else WW N b a (a==5)
def asy{N a b}:KO 125 [Y a,cN b] (λr=>.bw [bO r.1,aG r.2]) (avQ N a b):=
 fw func125 (ay λl g=>gA [[],[(4,cK qq g)]] (bV λh=>nF 1 [[f0 h],[],[]] [3,4,12,13] 2 (λ(e:Bool)=>⟨29,[(3,A1),(4,An),(12,Y a),(13,aG e)],[.cells (cN b).cells,.cells jW]⟩) (WW N b a) (λm f=>aC (λc=>gm f (a==1) [[t0 c]]) λc=>gm f (a==5) [[f0 c],[]]) (λe=>aC (λd=>ay λn i=>gR [[t0 d],[(4,cK akB i)]]) λd=>gA [[f0 d],[]] (tY λj=>ay λo k=>gR [[t0 j],[(4,cK anj k)],[]]))))
def afX(N:Nat)(e:Int×Bool)(f:aQ):U aH->Nat->Int64->Int64->O (aH×Int)
 |[],_,b,c=>some ((⟨b,c⟩:aH),(0:Int))
 |g::h,d,b,c=>(z6 N e.1 f (⟨b,c⟩:aH) g).bind λa=>bif (a.2 !=0)then some (dB,a.2)else(λi j=>afX N e f h (d+1) i j) a.1.xN a.1.xD
def abR(N:Nat)(a:U aH)(e:Int)(d:aQ)(f:Int×Bool):U aH->Nat->O (aH×Int)
 |[],_=>bif ((a.length:Int)==0)then(avQ N e d).bind λb=>bif b.2 then some (b.1,(0:Int))else some (dB,(1:Int))else(a[0]?).bind λc=>bif (decide (1<=a.length))then afX N f d (a.drop 1) 0 c.xN c.xD else none
 |g::h,i=>(nR N d g).bind λj=>bif j then(abR N a e d f h (i+1))else some (dB,(1:Int))
def HX(N:Nat)(a:Int)(b:aQ)(c:U aH):O (aH×Int):=(Lh N a).bind λd=>bif d.2 then(n9 N b).bind λe=>bif (e !=0)then some (dB,(10:Int))else abR N c a b d c 0 else some (dB,(1:Int))
def avP{N g f a}:KO 80 [Y g,cN f,I (fa a)] (λr=>.bw [bO r.1,Y r.2]) (HX N g f a):=
 fw func80 (ay λn p=>gA [[],[(4,cK anA p)],[]] (kC λq=>ay λP t=>gA [[f0 (dG q)],[(4,cK qq t)]] (bV λu=>gA [[f0 u],[(4,oL a nK)]] (gT CJ 2 a λv=>eX 1 [] [0,2,4,6,8,33,34,35] 2 (λh=>⟨83,[(0,Y g),(2,I (fa a)),(4,A1),(6,An),(8,Y n.1),(33,I (fa a)),(34,Y a.length),(35,Y h)],[.cells (cN f).cells,.cells jW]⟩) (λh c w=>gA [[],[f0 (bY c)],[(4,oL a nK)]] (aC (λj=>ay λx y=>gA [[t0 j],[(7,cK asy y)],[]] (qg λz=>gR [[t0 (eF z)],[]])) λj=>ay λA B=>dW λC=>gA [[f0 j],[(4,oE (k:=0) (ta B))],[(4,⟨_,_,.CC (xs:=fa a) (lo:=1) gy (by rw[nK];exact(Tr C)) W3 an1⟩),(7,oL (a.drop 1) nK)]] (gT CJ 62 (a.drop 1) λE=>S7 2 [] [4,6,8,14,62,63,64] 3 (λb(l:Int64)(m:Int64)=>⟨83,[(4,A1),(6,An),(8,Y n.1),(14,D0),(62,I (fa (a.drop 1))),(63,Y ((a.drop 1).length:Int)),(64,Y b)],[.cells (cN f).cells,.cells jW,.cells [bg l,bg m]]⟩) (λb l m e F=>gR [[],[f0 (bY e)],[]]) (λb Q R l m e F G=>ay λo H=>gA [[],[t0 (bZ e)],[(1,⟨_,_,.el (xs:=fa (a.drop 1)) (i:=(b:Int)) (Int.natCast_nonneg _) (ta (bA e))⟩)],[(13,cK R0 H)],[]] (bV λJ=>gb G (o.1.xN,o.1.xD) [[f0 J],[],[(2,oq (ck e rfl E))]] e))))) (λh S T c w K=>ay λW L=>gA [[],[t0 (bZ c)],[(1,oE (ta (bA c)))],[(7,cK wy L)]] (kC λM=>gb K () [[f0 (dG M)],[(2,oq (ck c rfl v))]] c))))))
def wE(N:Nat)(e:aF)(h:U aR)(f:U aO):U (U Int)->Int64->Int64->Bool->(U (so×bo))->O (aH×Int×(U (so×bo)))
 |[],c,d,_,g=>some ((⟨c,d⟩:aH),(0:Int),g)
 |o::m,c,d,n,g=>(OY N e.bI o h).bind λp=>(DM N p f g).bind λq=>(Gd N e.aX q f g).bind λa=>bif (a.2.1 !=0)then some (dB,a.2.1,a.2.2)else bif n then(λi j k l=>wE N e h f m i j k l) a.1.js.xN a.1.js.xD false a.2.2 else(HX N e.cE e.aw ([(⟨c,d⟩:aH),a.1.js])).bind λb=>bif (b.2 !=0)then some (dB,b.2,a.2.2)else(λi j k l=>wE N e h f m i j k l) b.1.xN b.1.xD n a.2.2
def CL(N:Nat)(a:aF)(g:U Int)(f:U aR)(b:U aO)(c:U (so×bo)):O (aH×Int×(U (so×bo))):=(bif (a.cE==0)then some true else some (a.cE==5)).bind λh=>bif h then(DM N f b c).bind λi=>(Gd N a.aX i b c).bind λd=>some (d.1.js,d.2.1,d.2.2)else(C2 N g).bind λj=>(Jl N j).bind λe=>wE N a f b e (0:Int64) (0:Int64) true c
def qn(a:U aO)(b:U (so×bo))(c:aF)(e:U aR)(l:U ao):U ao:= .cells [.mp 2]:: .cells [I (bG a)]:: .map (cv cx b):: .cells [.fn 117 [A1,An]]:: .cells (dX c).cells:: .cells [I (bz e)]:: .cells jW:: .cells [Y 0]::l
def IJ(c:U aO)(d:U (so×bo))(e:aF)(f:U aR)(a:Int64)(b:Int64)(g:Bool)(h:Code)(i:Code)(j:(U Int))(l:U ao):U ao:=qn c d e f (.cells [bg a,bg b]:: .cells [aG g]:: .lp .busy 42 h i (dL 83 [(4,Ar),(5,CV),(7,DF),(8,DW),(9,Gl),(12,EA),(13,FW),(41,.fn 118 [.bm [[.sl (bN j)]] 0 0])])::l)
def tu(a:U aO)(b:fG×Int×(U (so×bo)))(c:aF)(e:U aR)(l:U ao):U ao:= .cells [.mp 2]:: .cells [I (bG a)]:: .map (cv cx b.2.2):: .cells [.fn 117 [A1,An]]:: .cells (dX c).cells:: .cells [I (bz e)]:: .cells jW::l
def Un(e:U aO)(c:fG×Int×(U (so×bo)))(f:aF)(g:U aR)(a:Int64)(b:Int64)(h:Bool)(i:Code)(j:Code)(k:(U Int))(m:(U aR))(l:U ao):U ao:=tu e c f g (.cells [Y 0]:: .cells [bg a,bg b]:: .cells [aG h]:: .lp .busy 42 i j (dL 83 [(4,Ar),(5,CV),(7,DF),(8,DW),(9,Gl),(12,EA),(13,FW),(41,.fn 118 [.bm [[.sl (bN k)]] 0 0])]):: .cells [.fn 117 [A1,An]]:: .cells [I (bz m)]:: .cells [.fn 159 [Gv,GH,GL],.fn 157 [GL]]:: .cells [H5]:: .cells (eQ c.1).cells::l)
def MP(a:U aO)(b:U (so×bo))(c:aF)(d:U aR)(l:U ao):U ao:=qn a b c d (.cells eJ::l)
def L8(c:U aO)(d:U (so×bo))(e:aF)(f:U aR)(a:Int64)(b:Int64)(g:Bool)(h:Code)(i:Code)(j:(U Int))(l:U ao):U ao:=IJ c d e f a b g h i j (.cells eJ::l)
def OX(a:U aO)(b:U (so×bo))(c:aF)(e:U aR)(f:(U aR))(l:U ao):U ao:=qn a b c e (.cells [.fn 117 [A1,An]]:: .cells [I (bz f)]:: .cells [.fn 159 [EA,FW,Gv],.fn 157 [Gv]]:: .cells [Ge]::l)
def Pk(c:U aO)(e:U (so×bo))(f:aF)(g:U aR)(a:Int64)(b:Int64)(h:Bool)(i:Code)(j:Code)(k:(U Int))(m:(U aR))(l:U ao):U ao:=IJ c e f g a b h i j k (.cells [.fn 117 [A1,An]]:: .cells [I (bz m)]:: .cells [.fn 159 [Gv,GH,GL],.fn 157 [GL]]:: .cells [H5]::l)
def avO(c:U aO)(b:fG×Int×(U (so×bo)))(e:aF)(f:U aR)(a:aH×Int)(g:Bool)(h:Code)(i:Code)(j:(U Int))(k:(U aR))(l:U ao):U ao:=tu c b e f (.cells [Y 0]:: .cells (bO a.1).cells:: .cells [aG g]:: .lp .busy 42 h i (dL 83 [(4,Ar),(5,CV),(7,DF),(8,DW),(9,Gl),(12,EA),(13,FW),(41,.fn 118 [.bm [[.sl (bN j)]] 0 0])]):: .cells [.fn 117 [A1,An]]:: .cells [I (bz k)]:: .cells [.fn 159 [Gv,GH,GL],.fn 157 [GL]]:: .cells [H5]:: .cells (eQ b.1).cells::l)
def Rz(a:U aO)(b:U (so×bo))(c:aF)(e:U aR)(f:(U aR))(l:U ao):U ao:=MP a b c e (.cells [.fn 117 [A1,An]]:: .cells [I (bz f)]:: .cells [.fn 159 [FW,Ge,GH],.fn 157 [GH]]:: .cells [Gv]::l)
def Rh(c:U aO)(e:U (so×bo))(f:aF)(g:U aR)(a:Int64)(b:Int64)(h:Bool)(i:Code)(j:Code)(k:(U Int))(m:(U aR))(l:U ao):U ao:=L8 c e f g a b h i j k (.cells [.fn 117 [A1,An]]:: .cells [I (bz m)]:: .cells [.fn 159 [GH,H5,.ptr 15 0],.fn 157 [.ptr 15 0]]:: .cells [GL]::l)
def Oe(a:U aO)(b:U (so×bo))(c:aF)(d:U aR)(l:U ao):U ao:=qn a b c d (.cells jW:: .cells [aG true]::l)
def Vs(a:U aO)(l:U ao):U ao:= .cells [.mp 2]:: .cells [I (bG a)]::l
def aad(c:U aO)(d:U (so×bo))(e:aF)(f:U aR)(a:Int64)(b:Int64)(g:Bool)(h:Code)(i:Code)(j:(U Int))(l:U ao):U ao:=qn c d e f (.cells [bg a,bg b]:: .cells [aG g]:: .lp .ready 42 h i (dL 83 [(4,Ar),(5,CV),(7,DF),(8,DW),(9,Gl),(12,EA),(13,FW),(41,.fn 118 [.bm [[.sl (bN j)]] 0 0])])::l)
def afi(N:Nat)(a:aF)(K:U Int)(f:U aR)(b:U aO)(j:U (so×bo))(r:aH×Int×(U (so×bo)))(J:CL N a K f b j=some r):KH 78 [.fn 117 [A1,An],dX a,I (bN K),I (bz f)] (K0 b j) (.bw [bO r.1,Y r.2.1]) (K0 b r.2.2):=by
 rw[CL]at J;refine sJ 3 func78 rfl km (Zh rfl) ?_;refine j0 (s':=⟨83,[(0,.fn 117 [A1,An]),(1,dX a),(2,I (bN K)),(3,I (bz f))],Vs b [.map (cv cx j)]⟩) km ?_;refine az (CM [] [(4,Ar),(5,CV),(7,DF),(8,DW),(9,Gl)] (qn b j a f []) ?_);refine az (az ?_);obtain⟨L,h2,J⟩:=bJ J;refine yS [(24,aG L)] (qn b j a f []) ?_ ?_
 ·rcases eo (a.cE==0)with w|w
  ·replace h2:=(cS w).symm.trans h2;have M:=Zl h2;subst M;exact⟨[(12,bT w),(15,bT w),(18,bT w),(22,bT w)],by kernel_rfl⟩
  replace h2:=(eu w).symm.trans h2;have M:=Zl h2;subst M;exact⟨[(12,bF w),(15,bF w),(18,bF w),(22,bF w)],by kernel_rfl⟩
 rcases eo L with A|A
 ·replace J:=(cS A).symm.trans J;refine AY (t:=L) A ?_;refine az ?_;obtain⟨u,B,v,x,J⟩:=Z6 J;refine ro 7 bH (.node 0 [] (.node 1 [] (.node 6 [] (.node 2 [(7,oX (cZ (cZ (lh eV))) (cZ (cZ (lh (cZ (cZ (cZ (cZ eV))))))) [.fn 117 [A1,An],I (bz f)] (qn b j a f []) [0,1,2] (s4 B))] (.node 3 [] (.node 4 [] (.node 5 [] (.node 7 [] (.node 8 [(25,oR [aL a.aX,EA,FW,Gv] (OX b j a f u []) [8,9,11,0,1,10,2] (oy N a.aX u b j v x))] (.node 9 [] (.node 10 [] (.node 11 [] (.node 12 [] (.node 13 [] (.node 14 [] .nil .nil) .nil) .nil) .nil) .nil) .nil) (.node 12 [] (.node 8 [(25,oR [aL a.aX,EA,FW,Gv] (OX b j a f u [.cells eJ]) [8,9,11,0,1,10,2] (oy N a.aX u b j v x))] (.node 9 [] (.node 10 [] (.node 11 [] (.node 13 [] (.node 14 [] .nil .nil) .nil) .nil) .nil) .nil) .nil) .nil)) .nil) .nil) .nil) .nil) (.node 7 [] (.node 2 [(7,oX (cZ (cZ (lh eV))) (cZ (cZ (lh (cZ (cZ (cZ (cZ eV))))))) [.fn 117 [A1,An],I (bz f)] (qn b j a f []) [0,1,2] (s4 B))] (.node 3 [] (.node 4 [] (.node 5 [] (.node 8 [(25,oR [aL a.aX,EA,FW,Gv] (OX b j a f u []) [8,9,11,0,1,10,2] (oy N a.aX u b j v x))] (.node 9 [] (.node 10 [] (.node 11 [] (.node 12 [] (.node 13 [] (.node 14 [] .nil .nil) .nil) .nil) .nil) .nil) .nil) (.node 12 [] (.node 8 [(25,oR [aL a.aX,EA,FW,Gv] (OX b j a f u [.cells eJ]) [8,9,11,0,1,10,2] (oy N a.aX u b j v x))] (.node 9 [] (.node 10 [] (.node 11 [] (.node 13 [] (.node 14 [] .nil .nil) .nil) .nil) .nil) .nil) .nil) .nil)) .nil) .nil) .nil) (.node 12 [] (.node 2 [(7,oX (cZ (cZ (lh eV))) (cZ (cZ (lh (cZ (cZ (cZ (cZ eV))))))) [.fn 117 [A1,An],I (bz f)] (MP b j a f []) [0,1,2] (s4 B))] (.node 3 [] (.node 4 [] (.node 5 [] (.node 8 [(25,oR [aL a.aX,FW,Ge,GH] (Rz b j a f u []) [9,10,12,0,1,11,2] (oy N a.aX u b j v x))] (.node 9 [] (.node 10 [] (.node 11 [] (.node 13 [] (.node 14 [] .nil .nil) .nil) .nil) .nil) .nil) .nil) .nil) .nil) .nil) .nil) .nil)) (.node 12 [] (.node 2 [(7,oX (cZ (cZ (lh eV))) (cZ (cZ (lh (cZ (cZ (cZ (cZ eV))))))) [.fn 117 [A1,An],I (bz f)] (MP b j a f []) [0,1,2] (s4 B))] (.node 3 [] (.node 4 [] (.node 5 [] (.node 7 [] (.node 8 [(25,oR [aL a.aX,FW,Ge,GH] (Rz b j a f u []) [9,10,12,0,1,11,2] (oy N a.aX u b j v x))] (.node 9 [] (.node 10 [] (.node 11 [] (.node 13 [] (.node 14 [] .nil .nil) .nil) .nil) .nil) .nil) .nil) .nil) .nil) .nil) .nil) (.node 7 [] (.node 2 [(7,oX (cZ (cZ (lh eV))) (cZ (cZ (lh (cZ (cZ (cZ (cZ eV))))))) [.fn 117 [A1,An],I (bz f)] (MP b j a f []) [0,1,2] (s4 B))] (.node 3 [] (.node 4 [] (.node 5 [] (.node 8 [(25,oR [aL a.aX,FW,Ge,GH] (Rz b j a f u []) [9,10,12,0,1,11,2] (oy N a.aX u b j v x))] (.node 9 [] (.node 10 [] (.node 11 [] (.node 13 [] (.node 14 [] .nil .nil) .nil) .nil) .nil) .nil) .nil) .nil) .nil) .nil) .nil) .nil)) .nil))) .nil) .nil) .nil) [(10,GH),(11,Y v.2.1)] (tu b v a f [.cells [Y 0],.cells [.fn 117 [A1,An]],.cells [I (bz u)],.cells [.fn 159 [EA,FW,Gv],.fn 157 [Gv]],.cells [Ge],.cells (eQ v.1).cells]) km ?_
  refine az (CM [] [] (Vs b [.map (cv cx v.2.2),.cells [.fn 117 [A1,An]],.cells (dX a).cells,.cells [I (bz f)],.cells (bO v.1.js).cells,.cells [Y v.2.1],.cells [.fn 117 [A1,An]],.cells [I (bz u)],.cells [.fn 159 [EA,FW,Gv],.fn 157 [Gv]],.cells [Ge],.cells (eQ v.1).cells]) ?_);refine cT (dd ?_);have y:=Zl J;subst y;exact jQ km
 replace J:=(eu A).symm.trans J;refine AX (t:=L) A ?_;refine dn ?_;refine bx ?_;refine az (CM [] [(12,EA)] (qn b j a f [.cells jW]) ?_);refine az (CM [] [(13,FW)] (Oe b j a f []) ?_);refine az (az ?_);obtain⟨n,R,J⟩:=bJ J;refine CM [(4,oQ [I (bN K)] (Oe b j a f []) [] (aeV R))] [(41,.fn 118 [.bm [[.sl (bN n)]] 0 0])] (Oe b j a f []) ?_;refine ft ?_;obtain⟨P,S,J⟩:=bJ J;refine fR [4,5,7,8,9,12,13,41] 10 (Zh rfl) (s':=⟨83,[(4,Ar),(5,CV),(7,DF),(8,DW),(9,Gl),(12,EA),(13,FW),(41,.fn 118 [.bm [[.sl (bN n)]] 0 0])],Oe b j a f []⟩) km ?_;refine ya (m:=10) (enc:=sI) (xs:=P) km (avV S) (λ((c,e,g,i):Int64×Int64×Bool×(U (so×bo)))=>(qn b i a f [.cells [bg c,bg e],.cells [aG g]])) (λ((c,e,g,i):Int64×Int64×Bool×(U (so×bo))) l=>wE N a f b l c e g i=some r) ((0:Int64),(0:Int64),true,j) km J (by rintro⟨c,e,g,i⟩;rfl) (by rintro⟨c,e,g,i⟩;kernel_rfl) km rfl ?_ ?_
 ·rintro⟨c,e,g,i⟩ Q aW J h8 o p
  try dsimp only at J
  rw[wE]at J;refine fR [4,5,7,8,9,12,13,42] 11 (Zx _) (s':=⟨83,[(4,Ar),(5,CV),(7,DF),(8,DW),(9,Gl),(12,EA),(13,FW),(42,I (bN Q))],aad b i a f c e g o p n []⟩) km ?_;refine BI [] [(14,I (bN Q))] (aad b i a f c e g o p n []) ?_;refine bx ?_;refine⟨qn b i a f [.cells [bg c,bg e],.cells [aG g]],[],rfl,km,?_⟩;refine fR [4,5,7,8,9,12,13,14] 11 (Zh rfl) (s':=⟨83,[(4,Ar),(5,CV),(7,DF),(8,DW),(9,Gl),(12,EA),(13,FW),(14,I (bN Q))],IJ b i a f c e g o p n []⟩) km ?_;refine ft ?_;refine az ?_;obtain⟨C,T,q,E,J⟩:=Z6 J;obtain⟨h,z,J⟩:=bJ J;refine ro 7 bH (.node 0 [] (.node 1 [] (.node 2 [] (.node 3 [] (.node 4 [] (.node 5 [(16,cK avU T)] (.node 10 [] (.node 6 [(19,oX (cZ (cZ (lh eV))) (cZ (cZ (lh (cZ (cZ (cZ (cZ eV))))))) [.fn 117 [A1,An],I (bz C)] (IJ b i a f c e g o p n []) [0,1,2] (s4 E))] (.node 7 [] (.node 8 [] (.node 9 [] (.node 11 [] (.node 12 [(37,oR [aL a.aX,Gv,GH,GL] (Pk b i a f c e g o p n q []) [11,12,14,0,1,13,2] (oy N a.aX q b i h z))] (.node 13 [] (.node 14 [] (.node 15 [] (.node 16 [] (.node 17 [] (.node 18 [] .nil .nil) .nil) .nil) .nil) .nil) .nil) (.node 16 [] (.node 12 [(37,oR [aL a.aX,Gv,GH,GL] (Pk b i a f c e g o p n q [.cells eJ]) [11,12,14,0,1,13,2] (oy N a.aX q b i h z))] (.node 13 [] (.node 14 [] (.node 15 [] (.node 17 [] (.node 18 [] .nil .nil) .nil) .nil) .nil) .nil) .nil) .nil)) .nil) .nil) .nil) .nil) (.node 11 [] (.node 6 [(19,oX (cZ (cZ (lh eV))) (cZ (cZ (lh (cZ (cZ (cZ (cZ eV))))))) [.fn 117 [A1,An],I (bz C)] (IJ b i a f c e g o p n []) [0,1,2] (s4 E))] (.node 7 [] (.node 8 [] (.node 9 [] (.node 12 [(37,oR [aL a.aX,Gv,GH,GL] (Pk b i a f c e g o p n q []) [11,12,14,0,1,13,2] (oy N a.aX q b i h z))] (.node 13 [] (.node 14 [] (.node 15 [] (.node 16 [] (.node 17 [] (.node 18 [] .nil .nil) .nil) .nil) .nil) .nil) .nil) (.node 16 [] (.node 12 [(37,oR [aL a.aX,Gv,GH,GL] (Pk b i a f c e g o p n q [.cells eJ]) [11,12,14,0,1,13,2] (oy N a.aX q b i h z))] (.node 13 [] (.node 14 [] (.node 15 [] (.node 17 [] (.node 18 [] .nil .nil) .nil) .nil) .nil) .nil) .nil) .nil)) .nil) .nil) .nil) (.node 16 [] (.node 6 [(19,oX (cZ (cZ (lh eV))) (cZ (cZ (lh (cZ (cZ (cZ (cZ eV))))))) [.fn 117 [A1,An],I (bz C)] (L8 b i a f c e g o p n []) [0,1,2] (s4 E))] (.node 7 [] (.node 8 [] (.node 9 [] (.node 12 [(37,oR [aL a.aX,GH,H5,.ptr 15 0] (Rh b i a f c e g o p n q []) [12,13,15,0,1,14,2] (oy N a.aX q b i h z))] (.node 13 [] (.node 14 [] (.node 15 [] (.node 17 [] (.node 18 [] .nil .nil) .nil) .nil) .nil) .nil) .nil) .nil) .nil) .nil) .nil) .nil)) (.node 16 [] (.node 6 [(19,oX (cZ (cZ (lh eV))) (cZ (cZ (lh (cZ (cZ (cZ (cZ eV))))))) [.fn 117 [A1,An],I (bz C)] (L8 b i a f c e g o p n []) [0,1,2] (s4 E))] (.node 7 [] (.node 8 [] (.node 9 [] (.node 11 [] (.node 12 [(37,oR [aL a.aX,GH,H5,.ptr 15 0] (Rh b i a f c e g o p n q []) [12,13,15,0,1,14,2] (oy N a.aX q b i h z))] (.node 13 [] (.node 14 [] (.node 15 [] (.node 17 [] (.node 18 [] .nil .nil) .nil) .nil) .nil) .nil) .nil) .nil) .nil) .nil) .nil) (.node 11 [] (.node 6 [(19,oX (cZ (cZ (lh eV))) (cZ (cZ (lh (cZ (cZ (cZ (cZ eV))))))) [.fn 117 [A1,An],I (bz C)] (L8 b i a f c e g o p n []) [0,1,2] (s4 E))] (.node 7 [] (.node 8 [] (.node 9 [] (.node 12 [(37,oR [aL a.aX,GH,H5,.ptr 15 0] (Rh b i a f c e g o p n q []) [12,13,15,0,1,14,2] (oy N a.aX q b i h z))] (.node 13 [] (.node 14 [] (.node 15 [] (.node 17 [] (.node 18 [] .nil .nil) .nil) .nil) .nil) .nil) .nil) .nil) .nil) .nil) .nil) .nil)) .nil))) .nil) .nil) .nil) .nil) .nil) .nil) .nil) [(15,.ptr 15 0),(16,Y h.2.1)] (Un b h a f c e g o p n q []) km ?_
  refine az (az ?_);refine CM [] [(60,(aG (h.2.1 !=0)))] (Un b h a f c e g o p n q []) ?_;rcases eo (h.2.1 !=0)with F|F
  ·replace J:=(cS F).symm.trans J;refine AY (t:=(h.2.1 !=0)) F ?_;refine az (CM [] [] (tu b h a f [.cells [Y h.2.1],.cells [bg c,bg e],.cells [aG g],.lp .busy 42 o p (dL 83 [(4,Ar),(5,CV),(7,DF),(8,DW),(9,Gl),(12,EA),(13,FW),(41,.fn 118 [.bm [[.sl (bN n)]] 0 0])]),.cells [.fn 117 [A1,An]],.cells [I (bz q)],.cells [.fn 159 [Gv,GH,GL],.fn 157 [GL]],.cells [H5],.cells (eQ h.1).cells]) ?_);refine cT (dd (eI ?_));refine DC (tu b h a f [.cells [Y h.2.1],.cells [bg c,bg e],.cells [aG g]]) rfl km km ?_;refine(eI (dd ?_));have y:=Zl J;subst y;exact jQ km
  replace J:=(eu F).symm.trans J;refine AX (t:=(h.2.1 !=0)) F ?_;refine dn ?_;refine bx ?_;refine az (az ?_);refine CM [] [(63,aG g)] (Un b h a f c e g o p n q []) ?_;rcases eo g with G|G
  ·replace J:=(cS G).symm.trans J;refine AY (t:=g) G ?_;refine az (CM [] [] (tu b h a f [.cells [Y 0],.cells (bO h.1.js).cells,.cells [aG false],.lp .busy 42 o p (dL 83 [(4,Ar),(5,CV),(7,DF),(8,DW),(9,Gl),(12,EA),(13,FW),(41,.fn 118 [.bm [[.sl (bN n)]] 0 0])]),.cells [.fn 117 [A1,An]],.cells [I (bz q)],.cells [.fn 159 [Gv,GH,GL],.fn 157 [GL]],.cells [H5],.cells (eQ h.1).cells]) ?_);refine mA (iK (nx rfl ?_));refine zA (tu b h a f [.cells [Y 0],.cells (bO h.1.js).cells,.cells [aG false]]) rfl km km ?_;exact⟨(h.1.js.xN,h.1.js.xD,false,h.2.2),km,J⟩
  replace J:=(eu G).symm.trans J;refine AX (t:=g) G ?_;refine dn ?_;refine bx ?_;refine az ?_;obtain⟨k,W,J⟩:=bJ J;refine CM [(25,cK avP W)] [(16,Y k.2)] (avO b h a f k g o p n q []) ?_;refine az (CM [] [(79,(aG (k.2 !=0)))] (avO b h a f k g o p n q []) ?_);rcases eo (k.2 !=0)with H|H
  ·replace J:=(cS H).symm.trans J;refine AY (t:=(k.2 !=0)) H ?_;refine az (CM [] [] (tu b h a f [.cells [Y k.2],.cells (bO k.1).cells,.cells [aG g],.lp .busy 42 o p (dL 83 [(4,Ar),(5,CV),(7,DF),(8,DW),(9,Gl),(12,EA),(13,FW),(41,.fn 118 [.bm [[.sl (bN n)]] 0 0])]),.cells [.fn 117 [A1,An]],.cells [I (bz q)],.cells [.fn 159 [Gv,GH,GL],.fn 157 [GL]],.cells [H5],.cells (eQ h.1).cells]) ?_);refine cT (eI ?_);refine DC (tu b h a f [.cells [Y k.2],.cells (bO k.1).cells,.cells [aG g]]) rfl km km ?_;refine(eI (dd ?_));have y:=Zl J;subst y;exact jQ km
  replace J:=(eu H).symm.trans J;refine AX (t:=(k.2 !=0)) H ?_;refine dn ?_;refine hY ?_;refine zA (tu b h a f [.cells [Y 0],.cells (bO k.1).cells,.cells [aG g]]) rfl km km ?_;exact⟨(k.1.xN,k.1.xD,g,h.2.2),km,J⟩
 rintro⟨c,e,g,i⟩ J
 try dsimp only at J
 rw[wE]at J;refine hY ?_;refine bx ?_;refine az (CM [] [] (Vs b [.map (cv cx i),.cells [.fn 117 [A1,An]],.cells (dX a).cells,.cells [I (bz f)],.cells [bg c,bg e],.cells [Y 0],.cells [bg c,bg e],.cells [aG g],.gone]) ?_);refine cT ?_;have y:=Zl J;subst y;exact jQ km
end Go.Proofs.YtjploedinjiflaaGreatDoor
