/-
  Part 5 of the proof: AbsDat, IterE, KwS, AbsKern.
-/
import Derived.Test.YtnnapanbbbcalaaGreatDoorPr4
import Derived.Test.YtnnapanbbbcalaaGreatDoorProg
import Derived.WalkKit
import Derived.Shelf.Strings.Fields
import Derived.KernelRfl
namespace Go.Proofs.YtnnapanbbbcalaaGreatDoor
open Go.RowKit
set_option linter.unusedVariables false
def dStr(x:ak5):ak4 D:=[.v (.string x)]
def cW(l:ak4 ak5):ak4 (ak4 D):=l.map dStr
theorem mn(l:ak4 ak5):cW l=l.map dStr:=rfl
theorem fR{l:ak4 ak5}:(cW l).length=l.length:=by rw[mn,akl]
theorem mo{l:ak4 ak5}{k:Nat}{x:ak5}(h:l[k]?=some x):(cW l)[k]?=some (dStr x):=by rw[mn,akn,h];rfl
theorem abv{a b:ak4 ak5}:cW a++cW b=cW (a++b):=by rw[mn,mn,mn,List.map_append]
theorem yL{l:ak4 ak5}:∀c∈cW l,c.length=1:=by
 intro c hc;rw[mn]at hc;obtain⟨x,_,rfl⟩:=List.mem_map.1 hc;rfl
theorem On{l:ak4 ak5}{k n:Nat}:((cW l).take n).drop k=cW ((l.take n).drop k):=by rw[mn,mn,List.map_drop,List.map_take]
def eI(x:Int):ak4 D:=[.v (.int .i64 x)]
def bq(l:ak4 Int):ak4 (ak4 D):=l.map eI
theorem nX(l:ak4 Int):bq l=l.map eI:=rfl
theorem fQ{l:ak4 Int}:(bq l).length=l.length:=by rw[nX,akl]
theorem jb{l:ak4 Int}{k:Nat}{x:Int}(h:l[k]?=some x):(bq l)[k]?=some (eI x):=by rw[nX,akn,h];rfl
theorem Y2{a b:ak4 Int}:bq a++bq b=bq (a++b):=by rw[nX,nX,nX,List.map_append]
theorem Cy{l:ak4 Int}:∀c∈bq l,c.length=1:=by
 intro c hc;rw[nX]at hc;obtain⟨x,_,rfl⟩:=List.mem_map.1 hc;rfl
structure dK where
 aF:ByteArray
 eN:Int64
def As(x:dK):ak4 D:=[.v (.string x.aF), .v (.int .i64 x.eN.toInt)]
def qP(x:dK):AV:= .agg [.d (.v (.string x.aF)), .d (.v (.int .i64 x.eN.toInt))]
structure aV where
 cg:Int
 cE:Int
 cB:Int
 cY:Int
 c8:Int
def Jh(x:aV):ak4 D:=[.v (.int .i64 x.cg), .v (.int .i64 x.cE), .v (.int .i64 x.cB), .v (.int .i64 x.cY), .v (.int .i64 x.c8)]
def bX(x:aV):AV:= .agg [.d (.v (.int .i64 x.cg)), .d (.v (.int .i64 x.cE)), .d (.v (.int .i64 x.cB)), .d (.v (.int .i64 x.cY)), .d (.v (.int .i64 x.c8))]
structure aR where
 xN:Int64
 xD:Int64
def Ch(x:aR):ak4 D:=[.v (.int .i64 x.xN.toInt), .v (.int .i64 x.xD.toInt)]
def bx(x:aR):AV:= .agg [.d (.v (.int .i64 x.xN.toInt)), .d (.v (.int .i64 x.xD.toInt))]
structure aX where
 aF:ByteArray
 dS:Int64
def BS(x:aX):ak4 D:=[.v (.string x.aF), .v (.int .i64 x.dS.toInt)]
def IB(x:aX):AV:= .agg [.d (.v (.string x.aF)), .d (.v (.int .i64 x.dS.toInt))]
structure fv where
 jI:aR
 gF:aV
def dQ(x:fv):AV:= .agg [.d (.v (.int .i64 x.jI.xN.toInt)), .d (.v (.int .i64 x.jI.xD.toInt)), .d (.v (.int .i64 x.gF.cg)), .d (.v (.int .i64 x.gF.cE)), .d (.v (.int .i64 x.gF.cB)), .d (.v (.int .i64 x.gF.cY)), .d (.v (.int .i64 x.gF.c8))]
structure jx where
 mL:Int
 kL:Int
 jN:Int
def AO(x:jx):AV:= .agg [.d (.v (.int .u64 x.mL)), .d (.v (.int .u64 x.kL)), .d (.v (.int .u64 x.jN))]
structure cm where
 cu:Int
 cC:Int
 cX:Int
 cS:Int
 cJ:Int
 cF:Int
def eD(x:cm):AV:= .agg [.d (.v (.int .u64 x.cu)), .d (.v (.int .u64 x.cC)), .d (.v (.int .u64 x.cX)), .d (.v (.int .u64 x.cS)), .d (.v (.int .u64 x.cJ)), .d (.v (.int .u64 x.cF))]
def ga(l:ak4 dK):ak4 (ak4 D):=l.map As
theorem uD(l:ak4 dK):ga l=l.map As:=rfl
theorem iZ{l:ak4 dK}:(ga l).length=l.length:=by rw[uD,akl]
theorem lX{l:ak4 dK}{k:Nat}{x:dK}(h:l[k]?=some x):(ga l)[k]?=some (As x):=by rw[uD,akn,h];rfl
theorem ZG{a b:ak4 dK}:ga a++ga b=ga (a++b):=by rw[uD,uD,uD,List.map_append]
theorem SH{l:ak4 dK}:∀c∈ga l,c.length=2:=by
 intro c hc;rw[uD]at hc;obtain⟨x,_,rfl⟩:=List.mem_map.1 hc;rfl
def aN(l:ak4 aX):ak4 (ak4 D):=l.map BS
theorem tY(l:ak4 aX):aN l=l.map BS:=rfl
theorem nI{l:ak4 aX}:(aN l).length=l.length:=by rw[tY,akl]
theorem qb{l:ak4 aX}{k:Nat}{x:aX}(h:l[k]?=some x):(aN l)[k]?=some (BS x):=by rw[tY,akn,h];rfl
theorem ajG{a b:ak4 aX}:aN a++aN b=aN (a++b):=by rw[tY,tY,tY,List.map_append]
theorem aeQ{l:ak4 aX}:∀c∈aN l,c.length=2:=by
 intro c hc;rw[tY]at hc;obtain⟨x,_,rfl⟩:=List.mem_map.1 hc;rfl
def dV(l:ak4 aR):ak4 (ak4 D):=l.map Ch
theorem tk(l:ak4 aR):dV l=l.map Ch:=rfl
theorem lV{l:ak4 aR}:(dV l).length=l.length:=by rw[tk,akl]
theorem pM{l:ak4 aR}{k:Nat}{x:aR}(h:l[k]?=some x):(dV l)[k]?=some (Ch x):=by rw[tk,akn,h];rfl
theorem aeC{a b:ak4 aR}:dV a++dV b=dV (a++b):=by rw[tk,tk,tk,List.map_append]
theorem KJ{l:ak4 aR}:∀c∈dV l,c.length=2:=by
 intro c hc;rw[tk]at hc;obtain⟨x,_,rfl⟩:=List.mem_map.1 hc;rfl
theorem adG{l:ak4 aR}{k:Nat}:(dV l).drop k=dV (l.drop k):=by rw[tk,tk,List.map_drop]
def mH(l:ak4 aV):ak4 (ak4 D):=l.map Jh
theorem yJ(l:ak4 aV):mH l=l.map Jh:=rfl
theorem agm{l:ak4 aV}:(mH l).length=l.length:=by rw[yJ,akl]
theorem kZ{l:ak4 aV}{k:Nat}{x:aV}(h:l[k]?=some x):(mH l)[k]?=some (Jh x):=by rw[yJ,akn,h];rfl
theorem afs{a b:ak4 aV}:mH a++mH b=mH (a++b):=by rw[yJ,yJ,yJ,List.map_append]
theorem ahG{l:ak4 aV}:∀c∈mH l,c.length=5:=by
 intro c hc;rw[yJ]at hc;obtain⟨x,_,rfl⟩:=List.mem_map.1 hc;rfl
structure bp where
 xK:Int64
 xL:List dK
def Be(x:bp):ak4 D:=[.v (.int .i64 x.xK.toInt), .sl (ga x.xL)]
def dN(x:bp):AV:= .agg [.d (.v (.int .i64 x.xK.toInt)), .d (.sl (ga x.xL))]
structure gr where
 bO:bp
 BX:Bool
def Dz(x:gr):ak4 D:=[.v (.int .i64 x.bO.xK.toInt), .sl (ga x.bO.xL), .v (.bool x.BX)]
def qv(x:gr):AV:= .agg [.d (.v (.int .i64 x.bO.xK.toInt)), .d (.sl (ga x.bO.xL)), .d (.v (.bool x.BX))]
structure dJ where
 aF:ByteArray
 ff:bp
def BI(x:dJ):ak4 D:=[.v (.string x.aF), .v (.int .i64 x.ff.xK.toInt), .sl (ga x.ff.xL)]
def O7(x:dJ):AV:= .agg [.d (.v (.string x.aF)), .d (.v (.int .i64 x.ff.xK.toInt)), .d (.sl (ga x.ff.xL))]
structure bA where
 aJ:aV
 bo:List Int
 kh:List aR
def cf(x:bA):ak4 D:=[.v (.int .i64 x.aJ.cg), .v (.int .i64 x.aJ.cE), .v (.int .i64 x.aJ.cB), .v (.int .i64 x.aJ.cY), .v (.int .i64 x.aJ.c8), .sl (bq x.bo), .sl (dV x.kh)]
def jv(x:bA):AV:= .agg [.d (.v (.int .i64 x.aJ.cg)), .d (.v (.int .i64 x.aJ.cE)), .d (.v (.int .i64 x.aJ.cB)), .d (.v (.int .i64 x.aJ.cY)), .d (.v (.int .i64 x.aJ.c8)), .d (.sl (bq x.bo)), .d (.sl (dV x.kh))]
structure bI where
 aF:ByteArray
 kY:bA
def OY(x:bI):ak4 D:=[.v (.string x.aF), .v (.int .i64 x.kY.aJ.cg), .v (.int .i64 x.kY.aJ.cE), .v (.int .i64 x.kY.aJ.cB), .v (.int .i64 x.kY.aJ.cY), .v (.int .i64 x.kY.aJ.c8), .sl (bq x.kY.bo), .sl (dV x.kY.kh)]
def Xx(x:bI):AV:= .agg [.d (.v (.string x.aF)), .d (.v (.int .i64 x.kY.aJ.cg)), .d (.v (.int .i64 x.kY.aJ.cE)), .d (.v (.int .i64 x.kY.aJ.cB)), .d (.v (.int .i64 x.kY.aJ.cY)), .d (.v (.int .i64 x.kY.aJ.c8)), .d (.sl (bq x.kY.bo)), .d (.sl (dV x.kY.kh))]
def mz(l:ak4 gr):ak4 (ak4 D):=l.map Dz
theorem vV(l:ak4 gr):mz l=l.map Dz:=rfl
theorem nS{l:ak4 gr}:(mz l).length=l.length:=by rw[vV,akl]
theorem Cp{l:ak4 gr}{k:Nat}{x:gr}(h:l[k]?=some x):(mz l)[k]?=some (Dz x):=by rw[vV,akn,h];rfl
theorem ahv{a b:ak4 gr}:mz a++mz b=mz (a++b):=by rw[vV,vV,vV,List.map_append]
theorem ajw{l:ak4 gr}:∀c∈mz l,c.length=3:=by
 intro c hc;rw[vV]at hc;obtain⟨x,_,rfl⟩:=List.mem_map.1 hc;rfl
def eW(l:ak4 bp):ak4 (ak4 D):=l.map Be
theorem wz(l:ak4 bp):eW l=l.map Be:=rfl
theorem fy{l:ak4 bp}:(eW l).length=l.length:=by rw[wz,akl]
theorem ng{l:ak4 bp}{k:Nat}{x:bp}(h:l[k]?=some x):(eW l)[k]?=some (Be x):=by rw[wz,akn,h];rfl
theorem abD{a b:ak4 bp}:eW a++eW b=eW (a++b):=by rw[wz,wz,wz,List.map_append]
theorem YR{l:ak4 bp}:∀c∈eW l,c.length=2:=by
 intro c hc;rw[wz]at hc;obtain⟨x,_,rfl⟩:=List.mem_map.1 hc;rfl
def gx(l:ak4 dJ):ak4 (ak4 D):=l.map BI
theorem uI(l:ak4 dJ):gx l=l.map BI:=rfl
theorem fO{l:ak4 dJ}:(gx l).length=l.length:=by rw[uI,akl]
theorem mV{l:ak4 dJ}{k:Nat}{x:dJ}(h:l[k]?=some x):(gx l)[k]?=some (BI x):=by rw[uI,akn,h];rfl
theorem dAxiss_app{a b:ak4 dJ}:gx a++gx b=gx (a++b):=by rw[uI,uI,uI,List.map_append]
theorem ahR{l:ak4 dJ}:∀c∈gx l,c.length=3:=by
 intro c hc;rw[uI]at hc;obtain⟨x,_,rfl⟩:=List.mem_map.1 hc;rfl
def bk(l:ak4 bI):ak4 (ak4 D):=l.map OY
theorem ym(l:ak4 bI):bk l=l.map OY:=rfl
theorem LO{l:ak4 bI}:(bk l).length=l.length:=by rw[ym,akl]
theorem M1{l:ak4 bI}{k:Nat}{x:bI}(h:l[k]?=some x):(bk l)[k]?=some (OY x):=by rw[ym,akn,h];rfl
theorem ajp{a b:ak4 bI}:bk a++bk b=bk (a++b):=by rw[ym,ym,ym,List.map_append]
theorem acy{l:ak4 bI}:∀c∈bk l,c.length=8:=by
 intro c hc;rw[ym]at hc;obtain⟨x,_,rfl⟩:=List.mem_map.1 hc;rfl
def Nz(x:ak4 dJ):ak4 D:=[.sl (gx x)]
def nL(l:ak4 (ak4 dJ)):ak4 (ak4 D):=l.map Nz
theorem yE(l:ak4 (ak4 dJ)):nL l=l.map Nz:=rfl
theorem J8{l:ak4 (ak4 dJ)}:(nL l).length=l.length:=by rw[yE,akl]
theorem Rz{l:ak4 (ak4 dJ)}{k:Nat}{x:(ak4 dJ)}(h:l[k]?=some x):(nL l)[k]?=some (Nz x):=by rw[yE,akn,h];rfl
theorem Zz{a b:ak4 (ak4 dJ)}:nL a++nL b=nL (a++b):=by rw[yE,yE,yE,List.map_append]
theorem aju{l:ak4 (ak4 dJ)}:∀c∈nL l,c.length=1:=by
 intro c hc;rw[yE]at hc;obtain⟨x,_,rfl⟩:=List.mem_map.1 hc;rfl
structure eV where
 aF:ByteArray
 aJ:aV
 bo:List bp
def Dc(x:eV):ak4 D:=[.v (.string x.aF), .v (.int .i64 x.aJ.cg), .v (.int .i64 x.aJ.cE), .v (.int .i64 x.aJ.cB), .v (.int .i64 x.aJ.cY), .v (.int .i64 x.aJ.c8), .sl (eW x.bo)]
def nb(x:eV):AV:= .agg [.d (.v (.string x.aF)), .d (.v (.int .i64 x.aJ.cg)), .d (.v (.int .i64 x.aJ.cE)), .d (.v (.int .i64 x.aJ.cB)), .d (.v (.int .i64 x.aJ.cY)), .d (.v (.int .i64 x.aJ.c8)), .d (.sl (eW x.bo))]
structure dd where
 bO:bp
 dk:ByteArray
 da:List bp
def Am(x:dd):ak4 D:=[.v (.int .i64 x.bO.xK.toInt), .sl (ga x.bO.xL), .v (.string x.dk), .sl (eW x.da)]
def gC(x:dd):AV:= .agg [.d (.v (.int .i64 x.bO.xK.toInt)), .d (.sl (ga x.bO.xL)), .d (.v (.string x.dk)), .d (.sl (eW x.da))]
def jW(l:ak4 eV):ak4 (ak4 D):=l.map Dc
theorem uR(l:ak4 eV):jW l=l.map Dc:=rfl
theorem lu{l:ak4 eV}:(jW l).length=l.length:=by rw[uR,akl]
theorem na{l:ak4 eV}{k:Nat}{x:eV}(h:l[k]?=some x):(jW l)[k]?=some (Dc x):=by rw[uR,akn,h];rfl
theorem ac6{a b:ak4 eV}:jW a++jW b=jW (a++b):=by rw[uR,uR,uR,List.map_append]
theorem acM{l:ak4 eV}:∀c∈jW l,c.length=7:=by
 intro c hc;rw[uR]at hc;obtain⟨x,_,rfl⟩:=List.mem_map.1 hc;rfl
def eJ(l:ak4 dd):ak4 (ak4 D):=l.map Am
theorem tQ(l:ak4 dd):eJ l=l.map Am:=rfl
theorem fZ{l:ak4 dd}:(eJ l).length=l.length:=by rw[tQ,akl]
theorem iG{l:ak4 dd}{k:Nat}{x:dd}(h:l[k]?=some x):(eJ l)[k]?=some (Am x):=by rw[tQ,akn,h];rfl
theorem ah8{a b:ak4 dd}:eJ a++eJ b=eJ (a++b):=by rw[tQ,tQ,tQ,List.map_append]
theorem ajL{l:ak4 dd}:∀c∈eJ l,c.length=4:=by
 intro c hc;rw[tQ]at hc;obtain⟨x,_,rfl⟩:=List.mem_map.1 hc;rfl
structure ay where
 aQ:Int
 aF:ByteArray
 dS:aR
 aJ:aV
 bO:bp
 xIdx:List dd
 cl:List ay
mutual
def OO:ay->ak4 D
 |⟨aQ,aF,dS,aJ,bO,xIdx,cl⟩=>[.v (.int .i64 aQ), .v (.string aF), .v (.int .i64 dS.xN.toInt), .v (.int .i64 dS.xD.toInt), .v (.int .i64 aJ.cg), .v (.int .i64 aJ.cE), .v (.int .i64 aJ.cB), .v (.int .i64 aJ.cY), .v (.int .i64 aJ.c8), .v (.int .i64 bO.xK.toInt), .sl (ga bO.xL), .sl (eJ xIdx), .sl (ig cl)]
def ig:ak4 ay->ak4 (ak4 D)
 |[]=>[]
 |x::l=>OO x::ig l
end
def eK(x:ay):ak4 D:=[.v (.int .i64 x.aQ), .v (.string x.aF), .v (.int .i64 x.dS.xN.toInt), .v (.int .i64 x.dS.xD.toInt), .v (.int .i64 x.aJ.cg), .v (.int .i64 x.aJ.cE), .v (.int .i64 x.aJ.cB), .v (.int .i64 x.aJ.cY), .v (.int .i64 x.aJ.c8), .v (.int .i64 x.bO.xK.toInt), .sl (ga x.bO.xL), .sl (eJ x.xIdx), .sl (ig x.cl)]
theorem ab0(x:ay):OO x=eK x:=by cases x;simp only[OO];rfl
theorem ox:∀l:ak4 ay,ig l=l.map eK
 |[]=>by simp [ig]
 |x::l=>by simp [ig,ab0,ox l]
theorem iO{l:ak4 ay}:(ig l).length=l.length:=by rw[ox,akl]
theorem jM{l:ak4 ay}{k:Nat}{x:ay}(h:l[k]?=some x):(ig l)[k]?=some (eK x):=by rw[ox,akn,h];rfl
theorem Z3{a b:ak4 ay}:ig a++ig b=ig (a++b):=by rw[ox,ox,ox,List.map_append]
theorem Zi{l:ak4 ay}:∀c∈ig l,c.length=13:=by
 intro c hc;rw[ox]at hc;obtain⟨x,_,rfl⟩:=List.mem_map.1 hc;rfl
def aB(x:ay):AV:= .agg [.d (.v (.int .i64 x.aQ)), .d (.v (.string x.aF)), .d (.v (.int .i64 x.dS.xN.toInt)), .d (.v (.int .i64 x.dS.xD.toInt)), .d (.v (.int .i64 x.aJ.cg)), .d (.v (.int .i64 x.aJ.cE)), .d (.v (.int .i64 x.aJ.cB)), .d (.v (.int .i64 x.aJ.cY)), .d (.v (.int .i64 x.aJ.c8)), .d (.v (.int .i64 x.bO.xK.toInt)), .d (.sl (ga x.bO.xL)), .d (.sl (eJ x.xIdx)), .d (.sl (ig x.cl))]
structure cv where
 aF:ByteArray
 aJ:aV
 bo:List dJ
 cO:List dJ
 eQ:Int
 cP:ay
def C3(x:cv):ak4 D:=[.v (.string x.aF), .v (.int .i64 x.aJ.cg), .v (.int .i64 x.aJ.cE), .v (.int .i64 x.aJ.cB), .v (.int .i64 x.aJ.cY), .v (.int .i64 x.aJ.c8), .sl (gx x.bo), .sl (gx x.cO), .v (.int .i64 x.eQ), .v (.int .i64 x.cP.aQ), .v (.string x.cP.aF), .v (.int .i64 x.cP.dS.xN.toInt), .v (.int .i64 x.cP.dS.xD.toInt), .v (.int .i64 x.cP.aJ.cg), .v (.int .i64 x.cP.aJ.cE), .v (.int .i64 x.cP.aJ.cB), .v (.int .i64 x.cP.aJ.cY), .v (.int .i64 x.cP.aJ.c8), .v (.int .i64 x.cP.bO.xK.toInt), .sl (ga x.cP.bO.xL), .sl (eJ x.cP.xIdx), .sl (ig x.cP.cl)]
def eR(x:cv):AV:= .agg [.d (.v (.string x.aF)), .d (.v (.int .i64 x.aJ.cg)), .d (.v (.int .i64 x.aJ.cE)), .d (.v (.int .i64 x.aJ.cB)), .d (.v (.int .i64 x.aJ.cY)), .d (.v (.int .i64 x.aJ.c8)), .d (.sl (gx x.bo)), .d (.sl (gx x.cO)), .d (.v (.int .i64 x.eQ)), .d (.v (.int .i64 x.cP.aQ)), .d (.v (.string x.cP.aF)), .d (.v (.int .i64 x.cP.dS.xN.toInt)), .d (.v (.int .i64 x.cP.dS.xD.toInt)), .d (.v (.int .i64 x.cP.aJ.cg)), .d (.v (.int .i64 x.cP.aJ.cE)), .d (.v (.int .i64 x.cP.aJ.cB)), .d (.v (.int .i64 x.cP.aJ.cY)), .d (.v (.int .i64 x.cP.aJ.c8)), .d (.v (.int .i64 x.cP.bO.xK.toInt)), .d (.sl (ga x.cP.bO.xL)), .d (.sl (eJ x.cP.xIdx)), .d (.sl (ig x.cP.cl))]
def gD(l:ak4 cv):ak4 (ak4 D):=l.map C3
theorem qG(l:ak4 cv):gD l=l.map C3:=rfl
theorem kp{l:ak4 cv}:(gD l).length=l.length:=by rw[qG,akl]
theorem jm{l:ak4 cv}{k:Nat}{x:cv}(h:l[k]?=some x):(gD l)[k]?=some (C3 x):=by rw[qG,akn,h];rfl
theorem afw{a b:ak4 cv}:gD a++gD b=gD (a++b):=by rw[qG,qG,qG,List.map_append]
theorem Lu{l:ak4 cv}:∀c∈gD l,c.length=22:=by
 intro c hc;rw[qG]at hc;obtain⟨x,_,rfl⟩:=List.mem_map.1 hc;rfl
theorem Ss{l:ak4 cv}{k n:Nat}:((gD l).take n).drop k=gD ((l.take n).drop k):=by rw[qG,qG,List.map_drop,List.map_take]
structure aZ where
 bE:List ByteArray
 dL:List gr
 bu:List eV
 aU:List cv
 dU:List ByteArray
def Yp(x:aZ):ak4 D:=[.sl (cW x.bE), .sl (mz x.dL), .sl (jW x.bu), .sl (gD x.aU), .sl (cW x.dU)]
def c7(x:aZ):AV:= .agg [.d (.sl (cW x.bE)), .d (.sl (mz x.dL)), .d (.sl (jW x.bu)), .d (.sl (gD x.aU)), .d (.sl (cW x.dU))]
def c6(s:ak5):AV:= .d (.v (.string s))
def aq(n:Int):AV:= .d (.v (.int .i64 n))
def bG(n:Int64):AV:= .d (.v (.int .i64 n.toInt))
def ax(b:Bool):AV:= .d (.v (.bool b))
abbrev aK(n:Int):Int:=IntKind.i64.wrap n
theorem zf(a:Int):IntKind.i64.wrap a=a.bmod (2^64):=by
 rw[IntKind.wrap_i64,Int.bmod_def];omega
theorem jt(a:Int):aq (aK a)=bG (Int64.ofInt a):=by
 unfold aq bG aK;rw[zf,Int64.toInt_ofInt]
theorem Fj(a b:Int64):aq (aK (a.toInt+b.toInt))=bG (a+b):=by
 unfold aq bG aK;rw[zf,Int64.toInt_add]
theorem vC(a b:Int64):aq (aK (a.toInt-b.toInt))=bG (a-b):=by
 unfold aq bG aK;rw[zf,Int64.toInt_sub]
theorem ml(a b:Int64):aq (aK (a.toInt*b.toInt))=bG (a*b):=by
 unfold aq bG aK;rw[zf,Int64.toInt_mul]
theorem sW(a:Int64):aq (aK (0-a.toInt))=bG (-a):=by
 unfold aq bG aK;rw[zf,Int64.toInt_neg,Int.zero_sub]
theorem Ez{a:Int}(h:aK a=a):aq a=bG (Int64.ofInt a):=by
 rw[<-jt,h]
theorem aa6(a:Int)(m:Nat)(J: -9223372036854775808<=a)(h2:a<9223372036854775808): -9223372036854775808<=a.fdiv (2^m)/\a.fdiv (2^m)<9223372036854775808:=by
 have hp:(0:Int)<2^m:=Int.pow_pos (by decide);rw[Int.fdiv_eq_ediv_of_nonneg _ (Int.le_of_lt hp)];generalize (2:Int)^m=p at*;by_cases h:0<=a
 ·have h3:=Int.ediv_nonneg h (Int.le_of_lt hp);have h4:=Int.ediv_le_self p h;omega
 ·have h3:a / p<0:=Int.ediv_neg_of_neg_of_pos (by omega) hp;have h4:a<=a / p:=by
   refine(Int.le_ediv_iff_mul_le hp).2 ?_;have:=Int.mul_le_mul_of_nonpos_left (a:=a) (b:=p) (c:=1) (by omega) (by omega);omega
  omega
theorem Qw(a:Int64)(m:Nat):aq (a.toInt.fdiv (2^m))=bG (Int64.ofInt (a.toInt.fdiv (2^m))):=by
 refine Ez ?_;have h:=aa6 a.toInt m (by have:=a.le_toInt;simpa using this) (by have:=a.toInt_lt;simpa using this);unfold aK;rw[IntKind.wrap_i64];omega
theorem JM(a:Int64)(b:Int):aq (a.toInt.tmod b)=bG (Int64.ofInt (a.toInt.tmod b)):=by
 refine Ez ?_;unfold aK;rw[IntKind.wrap_i64];have J:=a.le_toInt;have h2:=a.toInt_lt;have h3:=Int.natAbs_tmod a.toInt b;have h4:(a.toInt.tmod b).natAbs<=a.toInt.natAbs:=by rw[h3];exact Nat.mod_le _ _
 have h7: -9223372036854775808<=a.toInt/\a.toInt<=9223372036854775807:=by omega
 clear J h2 h3;by_cases h5:0<=a.toInt
 ·have:=Int.tmod_nonneg b h5;generalize a.toInt.tmod b=x at*;omega
 ·have h6:=Int.tmod_nonneg b (show 0<=-a.toInt by omega);rw[Int.neg_tmod]at h6;generalize a.toInt.tmod b=x at*;omega
theorem bS{α:Type}{l:ak4 α}{k:Nat}{x:α}{xs:ak4 α}{n:Nat}(hd:l.drop k=x::xs)(hn:l.length=n)(hl:n<=maxLen):aq (aK ((k:Int)+1))=aq ((k+1:Nat):Int):=by
 have:(l.drop k).length=(x::xs).length:=by rw[hd]
 rw[List.length_drop,akj]at this;have J:k<maxLen:=by omega
 unfold maxLen at J;have e:IntKind.i64.wrap ((k:Int)+1)=((k+1:Nat):Int):=by rw[IntKind.wrap_i64];omega
 unfold aq aK;rw[e]
theorem bm{α:Type}{l:ak4 α}{k:Nat}{x:α}{xs:ak4 α}(hd:l.drop k=x::xs):l[k]?=some x:=by
 have:(l.drop k)[0]?=some x:=by rw[hd];rfl
 rwa [List.getElem?_drop]at this
theorem ly{α:Type}{l:ak4 α}{k:Nat}{x:α}{xs:ak4 α}(hd:l.drop k=x::xs):l.drop (k+1)=xs:=by
 rw[<-List.drop_drop,hd];rfl
theorem bJ{α:Type}{l:ak4 α}{k:Nat}{x:α}{xs:ak4 α}(hd:l.drop k=x::xs):decide ((k:Int)<(l.length:Int))=true:=by
 have:(l.drop k).length=(x::xs).length:=by rw[hd]
 rw[List.length_drop,akj]at this;exact akX (by omega)
theorem bK{α:Type}{l:ak4 α}{k:Nat}(hd:l.drop k=[]):decide ((k:Int)<(l.length:Int))=false:=by
 have:=List.drop_eq_nil_iff.1 hd;exact akY (by omega)
theorem mu{n de:Nat}(h:Nat.ble (n*de) 140737488355328=true)(hb:1<=de):n<=maxLen/\n*de<=140737488355328:=by
 have h:=ako h;refine⟨?_,h⟩;unfold maxLen;have:=Nat.le_mul_of_pos_right n hb;omega
theorem bB:Tryz.prog.follows .mixedOrders=true:=by kernel_rfl
set_option maxRecDepth 100000
set_option maxHeartbeats 0
def yv(a b:Int64):Int64:=if b.toInt>a.toInt then b else a
theorem Vj(a b:Int64):(if b.toInt>a.toInt then b.toInt else a.toInt)=(yv a b).toInt:=by unfold yv;split<;>rfl
theorem ag1(a b:Int64):AV.d (.v (.int .i64 (if b.toInt>a.toInt then b.toInt else a.toInt)))=bG (yv a b):=by rw[Vj];rfl
mutual
def O4:ay->ak4 ay
 |⟨o,n,v,t,l,i,xs⟩=>⟨o,n,v,t,l,i,xs⟩::lz xs
def lz:ak4 ay->ak4 ay
 |[]=>[]
 |x::l=>O4 x++lz l
end
def et(e:ay):ak4 ay:=e::lz e.cl
theorem aiY(e:ay):O4 e=et e:=by cases e;simp only[O4];rfl
theorem Co(x:ay)(l:ak4 ay):lz (x::l)=et x++lz l:=by rw[lz,aiY]
theorem CN{P:ak7}{k:Nat}:∀(l:ak4 AV){C:Bool->ak4 ao->Prop}{h:ak4 ao},h.all (ao.aC h.length)=true->kX P k l C h->kX P k l (λb J=>C b J/\nB h J) h
 |[],_,_,hl,hs=>⟨hs,rfl,hl⟩
 |x::l,C,h,hl,hs=>YS.mono hs λb J ⟨h2,h3⟩=>⟨h2,by
  cases b with
  |true=>exact Ui l (λb h4 ⟨h5,h6,h7⟩=>⟨h5,by rw[h6,h2.1],by rw[h2.1]at h7;exact h7⟩) (CN l (by rw[h2.1];exact h2.2) h3)
  |false=>exact⟨h3,h2⟩⟩
def H5(e:ay):Prop:=∀(k:Nat)(h:ak4 ao)(C:Bool->ak4 ao->Prop),h.all (ao.aC h.length)=true->k<h.length->kX Tryz.prog k ((et e).map aB) C h->cZ Tryz.prog 150 [aB e, .cp k] h λr J=>∃b,r= .d (.v (.bool b))/\C b J/\nB h J
theorem N5{P:ak7}{fn:Func}{n:Nat}{t:ak4 (Nat×AV)}{H J l:ak4 ao}{K:AV->ak4 ao->Prop}(k1:J.length=H.length)(k2:J.all (ao.aC H.length)=true)(hr:mj P ⟨n,t,J++l⟩ fn.results.toList λrs=>((jG rs).bz J.length).aC J.length=true/\K ((jG rs).bz J.length) J):qg P fn H.length K ⟨n,t,J++l⟩:=by
 rw[<-k1]at k2 ⊢;exact ajF k2 hr
theorem xB{P:ak7}{fn:Func}{n:Nat}{t:ak4 (Nat×AV)}{H J l:ak4 ao}{K:AV->ak4 ao->Prop}(k1:J.length=H.length)(k2:J.all (ao.aC H.length)=true)(hr:mj P ⟨n,t,J++l⟩ fn.results.toList λrs=>((jG rs).bz J.length).aC J.length=true/\K ((jG rs).bz J.length) J):EX P fn H.length K .ret ⟨n,t,J++l⟩:=N5 k1 k2 hr
theorem Yt(e:ay)(qK:∀x∈e.cl,H5 x):H5 e:=by
 intro k h C jL hk hs;refine tq h.length Tryz.func150 rfl (by kernel_rfl) (akr _) ?_
 suffices hA:bD Tryz.prog none h.length _ _ ⟨23,[(0,aB e),(1, .cp k)],h++[]⟩ by rw[akB]at hA;exact hA
 repeat refine ar ?_
 refine e7 ?_;refine bQ rfl ?_;refine xr (Xe (l:=[]) (v:=aB e) rfl (by kernel_rfl)) rfl rfl DG ?_;refine bQ rfl ?_;refine cG (x:= .d (.v (.bool false))) (by kernel_rfl) rfl rfl ?_;refine aI ?_
 repeat refine ar ?_
 refine e7 ?_;refine bQ rfl ?_;refine cG (x:= .cp k) (by kernel_rfl) rfl rfl ?_;refine bQ rfl ?_;refine cG (um (i:=0) (off:=0) (l:=[]++[.cells (aB e).cells]) (x:=aB e) (by kernel_rfl) rfl (by kernel_rfl)) rfl rfl ?_;refine bQ rfl ?_;rw[et,akF]at hs;have hy:=GB (CN (aB e::_) jL hs) [.cells (aB e).cells] jL (by kernel_rfl) (λb h' hh=>hh.1);refine yu (k:=k) (x:=aB e) rfl rfl (by kernel_rfl) (by kernel_rfl) rfl rfl ?_;refine hy.mono λb h' hh=> ?_;obtain⟨J,⟨⟨k1,k2⟩,k3⟩,rfl⟩:=hh;refine bQ rfl ?_;refine cG (x:= .d (.v (.bool (!b)))) (by kernel_rfl) rfl rfl ?_;refine aI ?_;cases b with
 |false=>
  refine lq (by kernel_rfl) ?_
  repeat refine ar ?_
  refine e7 ?_;refine bQ rfl ?_;refine cG (x:= .d (.v (.bool false))) (by kernel_rfl) rfl rfl ?_;refine aI ?_;refine cV (cU ?_);refine xB k1 k2 ?_;exact⟨rfl,false,rfl,k3⟩
 |true=>
  refine kW (by kernel_rfl) ?_;refine cx ?_;refine aI ?_;simp only[cond_true]at k3
  repeat refine ar ?_
  refine e7 ?_;refine bQ rfl ?_;refine cG (x:= .ptr (h.length+0) 12) (by kernel_rfl) rfl rfl ?_;refine bQ rfl ?_;refine cG (um (h:=J) (i:=0) (off:=12) (l:=[.cells (aB e).cells]) (x:= .d (.sl (ig e.cl))) (by rw[k1];rfl) rfl (by kernel_rfl)) rfl rfl ?_;refine bQ rfl ?_;refine cG (x:= .d (.v (.int .i64 (ig e.cl).length))) (by kernel_rfl) rfl rfl ?_;refine bQ rfl ?_;refine cG (x:= .d (.v (.int .i64 0))) (by kernel_rfl) rfl rfl ?_;refine aI ?_;refine uc 12 (ig e.cl) (by kernel_rfl) λca=> ?_;have oH:e.cl.length<=maxLen:=by rw[<-iO];exact Hl ca
  rw[iO]
  repeat refine ar ?_
  refine dt ?_;refine Gp (ι:=Nat×ak4 ay×ak4 ao) [1,12,13,14] h.length (λi=>⟨23,[(1, .cp k),(12, .d (.sl (ig e.cl))),(13, .d (.v (.int .i64 e.cl.length))),(14, .d (.v (.int .i64 i.1)))],i.2.2⟩)
   (λi=>e.cl.drop i.1=i.2.1/\nB h i.2.2/\kX Tryz.prog k ((lz i.2.1).map aB) (λb h2=>C b h2/\nB h h2) i.2.2) (λi=>i.2.1.length) (0,e.cl,J) (akr _) ?_ ?_ ⟨rfl,⟨k1,k2⟩,k3⟩ ?_
  ·rw[<-k1];exact xT _ (by rw[k1];exact k2) (by
     show(((AV.cp k).bz J.length).aC J.length&&(true&&(true&&(true&&true))))=true;rw[k1];simp [AV.bz,AV.aC,ct];omega)
  ·rw[<-k1];exact zZ _ (by rw[k1];exact k2)
  rintro⟨i,rest,hc⟩ ⟨hd,⟨c1,c2⟩,iD⟩;simp only at hd c1 c2 iD ⊢
  repeat refine ar ?_
  refine e7 ?_;refine bQ rfl ?_;refine cG (x:= .d (.v (.bool (decide ((i:Int)<(e.cl.length:Int)))))) (by kernel_rfl) rfl rfl ?_;refine aI ?_;refine ar ?_;cases rest with
  |nil=>
   rw[bK hd];refine kW (by kernel_rfl) ?_;refine kR (gO (gO (lS rfl ?_)));refine aI ?_
   repeat refine ar ?_
   refine e7 ?_;refine bQ rfl ?_;rw[<-akB hc];refine cG (x:= .d (.v (.bool true))) (by kernel_rfl) rfl rfl ?_;refine aI ?_;refine cV ?_;refine xB c1 c2 ?_;rw[lz,List.map_nil]at iD;exact⟨rfl,true,rfl,iD⟩
  |cons x rest=>
   rw[bJ hd];refine lq (by kernel_rfl) ?_;refine cx ?_;refine aI ?_
   repeat refine ar ?_
   refine dt ?_
   repeat refine ar ?_
   refine e7 ?_;refine bQ rfl ?_;rw[<-akB hc];refine cG (LJ (q:=i) (e:=52) (k:=13) rfl rfl (by kernel_rfl) (jM (bm hd)) rfl) rfl rfl ?_;refine bQ rfl ?_;refine cG (x:=aB x) (by kernel_rfl) rfl rfl ?_;refine bQ rfl ?_;refine xr (Ms (l:=[]) (by kernel_rfl)) rfl rfl DG ?_;refine bQ rfl ?_;refine Ly (Pg (i:=0) (off:=0) (k:=13) (l:=[_]) (v:=aB x) (cD:=(aB x).cells) (by kernel_rfl) rfl (by kernel_rfl) rfl (by kernel_rfl) (by kernel_rfl)) rfl K8 ?_;refine aI ?_
   repeat refine ar ?_
   refine e7 ?_;refine bQ rfl ?_;refine cG (um (i:=0) (off:=0) (l:=[.cells (aB x).cells]) (x:=aB x) (by kernel_rfl) rfl (by kernel_rfl)) rfl rfl ?_;refine bQ rfl ?_;refine cG (x:= .cp k) (by kernel_rfl) rfl rfl ?_;refine bQ rfl ?_;rw[Co,List.map_append]at iD;have tZ:=Sg _ _ iD;have hw:=qK x (akt (bm hd)) k hc _ (by rw[c1];exact c2) (by rw[c1];exact hk) tZ;have Mi:=Ze hw [.cells (aB x).cells] (by rw[c1];exact c2) (by
    rw[c1];show((aB x).aC h.length&&((AV.cp k).aC h.length&&true))=true;rw[show(aB x).aC h.length=true by kernel_rfl];simp [AV.aC,ct];omega) (λr h' hh=>by
    obtain⟨b,rfl,_,q1,q2⟩:=hh;exact⟨q1,q2,rfl⟩)
   refine Az (g:=150) (di:=[]) rfl rfl rfl ?_;refine Mi.mono λr h' hh=> ?_;obtain⟨h2,⟨b,rfl,q0,q1,q2⟩,rfl⟩:=hh;refine bQ rfl ?_;refine cG (x:= .d (.v (.bool (!b)))) (by kernel_rfl) rfl rfl ?_;refine aI ?_;cases b with
   |false=>
    refine lq (by kernel_rfl) ?_
    repeat refine ar ?_
    refine e7 ?_;refine bQ rfl ?_;refine cG (x:= .d (.v (.bool false))) (by kernel_rfl) rfl rfl ?_;refine aI ?_;refine cV (dW (cU (cU (dW (cU ?_)))));refine xB (J:=h2) (by rw[q1,c1]) (by rw[c1]at q2;exact q2) ?_;exact⟨rfl,false,rfl,q0⟩
   |true=>
    refine kW (by kernel_rfl) ?_;refine cx ?_;refine dX ?_;refine aI ?_;simp only[cond_true]at q0;refine e7 ?_;refine bQ rfl ?_;refine cG (x:= .d (.v (.int .i64 ((i+1:Nat):Int)))) (by
     show some ((.d (.v (.int .i64 (aK ((i:Int)+1)))):AV),HD.same)=_;have:=bS hd rfl oH;unfold aq at this;rw[this]) rfl rfl ?_
    refine bQ rfl ?_;refine cG (x:= .d (.v (.int .i64 ((i+1:Nat):Int)))) (by kernel_rfl) rfl rfl ?_;refine aI ?_;have e1:h2.length=h.length:=by rw[q1,c1]
    have e2:h2.all (ao.aC h2.length)=true:=by rw[q1];exact q2
    refine⟨?_,(i+1,rest,h2),?_,⟨ly hd,⟨e1,by rw[<-e1];exact e2⟩,q0⟩,ak2 _⟩
    ·rw[<-e1];exact xT _ e2 (by
       show(((AV.cp k).bz h2.length).aC h2.length&&(true&&(true&&(true&&true))))=true;rw[e1];simp [AV.bz,AV.aC,ct];omega)
    ·rw[<-e1];exact zZ _ e2
mutual
theorem Tm:(e:ay)->H5 e
 |⟨_,_,_,_,_,_,xs⟩=>Yt _ (Vp xs)
theorem Vp:(l:ak4 ay)->∀x∈l,H5 x
 |[],_,h=>absurd h akW
 |x::l,y,h=>(akK.1 h).elim (λe=>e▸Tm x) (Vp l y)
end
theorem FR{P:ak7}{fn:Func}{n:Nat}{t:ak4 (Nat×AV)}{H J:ak4 ao}{K:AV->ak4 ao->Prop}(k1:J.length=H.length)(k2:J.all (ao.aC H.length)=true)(hr:mj P ⟨n,t,J⟩ fn.results.toList λrs=>((jG rs).bz J.length).aC J.length=true/\K ((jG rs).bz J.length) J):EX P fn H.length K .normal ⟨n,t,J⟩:=by
 have:=N5 (P:=P) (fn:=fn) (n:=n) (t:=t) (l:=[]) (K:=K) k1 k2;rw[akB]at this;exact this hr
theorem Qo{P:ak7}{fn:Func}{n:Nat}{t:ak4 (Nat×AV)}{H J:ak4 ao}{K:AV->ak4 ao->Prop}(k1:J.length=H.length)(k2:J.all (ao.aC H.length)=true)(hr:mj P ⟨n,t,J⟩ fn.results.toList λrs=>((jG rs).bz J.length).aC J.length=true/\K ((jG rs).bz J.length) J):EX P fn H.length K .ret ⟨n,t,J⟩:=FR k1 k2 hr
theorem JK(e:ay):wT Tryz.prog 149 [.bn [eK e] 0 0] ((et e).map aB):=by
 intro k h C jL hk hs;refine tq h.length Tryz.func149 rfl (by kernel_rfl) (akr _) ?_;show bD Tryz.prog none h.length _ _ ⟨6,[(0, .cp k),(1, .bn [eK e] 0 0)],h⟩;refine e7 ?_;refine bQ rfl ?_;refine cG (x:=aB e) (by kernel_rfl) rfl rfl ?_;refine bQ rfl ?_;refine cG (x:= .cp k) (by kernel_rfl) rfl rfl ?_;refine bQ rfl ?_;refine Az (g:=150) (di:=[]) rfl rfl rfl ?_;refine(Tm e k h C jL hk hs).mono λr h' hh=> ?_;obtain⟨b,rfl,q0,q1,q2⟩:=hh;refine FR (n:=6) (t:=[(5, .d (.v (.bool b))),(4, .cp k),(3,aB e),(0, .cp k),(1, .bn [eK e] 0 0)]) q1 q2 ?_;exact⟨rfl,b,q0⟩
def wx(x:dd):ak4 bp:=x.bO::x.da
def ni(e:ay):ak4 bp:=e.bO::e.xIdx.flatMap wx
theorem aem(e:ay):wT Tryz.prog 235 [.bn [eK e] 0 0] ((ni e).map dN):=by
 intro k h C jL hk nr;have hs:=CN _ jL nr;refine tq h.length Tryz.func235 rfl (by kernel_rfl) (akr _) ?_;show bD Tryz.prog none h.length _ _ ⟨37,[(0, .cp k),(1, .bn [eK e] 0 0)],h⟩
 repeat refine ar ?_
 refine e7 ?_;refine bQ rfl ?_;refine cG (x:= .cp k) (by kernel_rfl) rfl rfl ?_;refine bQ rfl ?_;refine cG (x:= .bn [eK e] 0 9) (by kernel_rfl) rfl rfl ?_;refine bQ rfl ?_;refine cG (x:=dN e.bO) (by kernel_rfl) rfl rfl ?_;refine bQ rfl ?_;rw[ni,akF]at hs;refine yu (k:=k) (x:=dN e.bO) rfl rfl (by kernel_rfl) (by kernel_rfl) rfl rfl ?_;refine YS.mono hs λb J hh=> ?_;obtain⟨⟨k1,k2⟩,k3⟩:=hh;refine bQ rfl ?_;refine cG (x:= .d (.v (.bool (!b)))) (by kernel_rfl) rfl rfl ?_;refine aI ?_;cases b with
 |false=>
  refine lq (by kernel_rfl) ?_;refine cV (cU ?_);exact Qo k1 k2 ⟨rfl,false,k3.1⟩
 |true=>
  refine kW (by kernel_rfl) ?_;refine cx ?_;refine aI ?_;simp only[cond_true]at k3
  repeat refine ar ?_
  refine e7 ?_;refine bQ rfl ?_;refine cG (x:= .bn [eK e] 0 11) (by kernel_rfl) rfl rfl ?_;refine bQ rfl ?_;refine cG (x:= .d (.sl (eJ e.xIdx))) (by kernel_rfl) rfl rfl ?_;refine bQ rfl ?_;refine cG (x:= .d (.v (.int .i64 (eJ e.xIdx).length))) (by kernel_rfl) rfl rfl ?_;refine bQ rfl ?_;refine cG (x:= .d (.v (.int .i64 0))) (by kernel_rfl) rfl rfl ?_;refine aI ?_;refine uc 13 (eJ e.xIdx) (by kernel_rfl) λca=> ?_;have oH:e.xIdx.length<=maxLen:=by rw[<-fZ];exact Hl ca
  rw[fZ];refine dt ?_;refine Gp (ι:=Nat×ak4 dd×ak4 ao) [0,13,14,15] h.length (λi=>⟨37,[(0, .cp k),(13, .d (.sl (eJ e.xIdx))),(14, .d (.v (.int .i64 e.xIdx.length))),(15, .d (.v (.int .i64 i.1)))],i.2.2⟩)
    (λi=>e.xIdx.drop i.1=i.2.1/\nB h i.2.2/\kX Tryz.prog k ((i.2.1.flatMap wx).map dN) (λb h2=>C b h2/\nB h h2) i.2.2) (λi=>i.2.1.length) (0,e.xIdx,J) (akr _) ?_ ?_ ⟨rfl,⟨k1,k2⟩,k3⟩ ?_
  ·rw[<-k1];exact Jn _ (by rw[k1];exact k2) (by
     show(((AV.cp k).bz J.length).aC J.length&&(true&&(true&&(true&&true))))=true;rw[k1,xn hk];rfl)
  ·rw[<-k1];exact IV _ (by rw[k1];exact k2)
  rintro⟨i,rest,hc⟩ ⟨hd,⟨c1,c2⟩,iD⟩;simp only at hd c1 c2 iD ⊢
  repeat refine ar ?_
  refine e7 ?_;refine bQ rfl ?_;refine cG (x:= .d (.v (.bool (decide ((i:Int)<(e.xIdx.length:Int)))))) (by kernel_rfl) rfl rfl ?_;refine aI ?_
  repeat refine ar ?_
  cases rest with
  |nil=>
   rw[bK hd];refine kW (by kernel_rfl) ?_;refine kR (gO (gO (lS rfl ?_)));rw[List.flatMap_nil,List.map_nil]at iD;exact FR c1 c2 ⟨rfl,true,iD.1⟩
  |cons x rest=>
   rw[bJ hd];refine lq (by kernel_rfl) ?_;refine cx ?_;refine aI ?_
   repeat refine ar ?_
   refine dt ?_
   repeat refine ar ?_
   refine e7 ?_;refine bQ rfl ?_;rw[<-akB hc];refine cG (LJ (q:=i) (e:=83) (k:=4) rfl rfl (by kernel_rfl) (iG (bm hd)) rfl) rfl rfl ?_;refine bQ rfl ?_;refine cG (x:=gC x) (by kernel_rfl) rfl rfl ?_;refine bQ rfl ?_;refine xr (Ms (l:=[]) (by kernel_rfl)) rfl rfl DG ?_;refine bQ rfl ?_;refine Ly (Pg (i:=0) (off:=0) (k:=4) (l:=[_]) (v:=gC x) (cD:=(gC x).cells) (by kernel_rfl) rfl (by kernel_rfl) rfl (by kernel_rfl) (by kernel_rfl)) rfl K8 ?_;refine aI ?_
   repeat refine ar ?_
   refine e7 ?_;refine bQ rfl ?_;refine cG (x:= .cp k) (by kernel_rfl) rfl rfl ?_;refine bQ rfl ?_;refine cG (x:= .ptr (hc.length+0) 0) (by kernel_rfl) rfl rfl ?_;refine bQ rfl ?_;refine cG (um (i:=0) (off:=0) (l:=[.cells (gC x).cells]) (x:=dN x.bO) (by kernel_rfl) rfl (by kernel_rfl)) rfl rfl ?_;refine bQ rfl ?_;rw[List.flatMap_cons,wx,List.cons_append,akF]at iD;have hy:=GB iD [.cells (gC x).cells] (by rw[c1];exact c2) (by kernel_rfl) (λb h' hh=>hh.1);refine yu (k:=k) (x:=dN x.bO) rfl rfl (by kernel_rfl) (by kernel_rfl) rfl rfl ?_;refine hy.mono λb h' hh=> ?_;obtain⟨h2,⟨⟨p1,p2⟩,p3⟩,rfl⟩:=hh;refine bQ rfl ?_;refine cG (x:= .d (.v (.bool (!b)))) (by kernel_rfl) rfl rfl ?_;refine aI ?_;have q1:h2.length=h.length:=by rw[p1,c1]
   have q2:h2.all (ao.aC h.length)=true:=by rw[c1]at p2;exact p2
   cases b with
   |false=>
    refine lq (by kernel_rfl) ?_;refine cV ?_
    repeat (first|(with_reducible refine cU ?_)|(with_reducible refine dW ?_))
    exact xB q1 q2 ⟨rfl,false,p3.1⟩
   |true=>
    refine kW (by kernel_rfl) ?_;refine cx ?_;refine aI ?_;simp only[cond_true]at p3
    repeat refine ar ?_
    refine e7 ?_;refine bQ rfl ?_;refine cG (x:= .ptr (hc.length+0) 3) (by kernel_rfl) rfl rfl ?_;refine bQ rfl ?_;refine cG (um (h:=h2) (i:=0) (off:=3) (l:=[.cells (gC x).cells]) (x:= .d (.sl (eW x.da))) (by rw[p1];rfl) rfl (by kernel_rfl)) rfl rfl ?_;refine bQ rfl ?_;refine cG (x:= .d (.v (.int .i64 (eW x.da).length))) (by kernel_rfl) rfl rfl ?_;refine bQ rfl ?_;refine cG (x:= .d (.v (.int .i64 0))) (by kernel_rfl) rfl rfl ?_;refine aI ?_;refine uc 25 (eW x.da) (by kernel_rfl) λacq=> ?_;have acJ:x.da.length<=maxLen:=by rw[<-fy];exact Hl acq
    rw[fy];refine dt ?_;refine Gp (ι:=Nat×ak4 bp×ak4 ao) [0,13,14,15,25,26,27] h.length (λj=>⟨37,[(0, .cp k),(13, .d (.sl (eJ e.xIdx))),(14, .d (.v (.int .i64 e.xIdx.length))),(15, .d (.v (.int .i64 i))),(25, .d (.sl (eW x.da))),(26, .d (.v (.int .i64 x.da.length))),(27, .d (.v (.int .i64 j.1)))],j.2.2⟩)
      (λj=>x.da.drop j.1=j.2.1/\nB h j.2.2/\kX Tryz.prog k ((j.2.1++rest.flatMap wx).map dN) (λb h2=>C b h2/\nB h h2) j.2.2) (λj=>j.2.1.length) (0,x.da,h2) (akr _) ?_ ?_ ⟨rfl,⟨q1,q2⟩,p3⟩ ?_
    ·rw[<-q1];exact xT _ (by rw[q1];exact q2) (by
       show(((AV.cp k).bz h2.length).aC h2.length&&(true&&(true&&(true&&(true&&(true&&(true&&true)))))))=true;rw[q1,xn hk];rfl)
    ·rw[<-q1];exact zZ _ (by rw[q1];exact q2)
    rintro⟨j,r2,hb⟩ ⟨nM,⟨b1,b2⟩,tZ⟩;simp only at nM b1 b2 tZ ⊢
    repeat refine ar ?_
    refine e7 ?_;refine bQ rfl ?_;refine cG (x:= .d (.v (.bool (decide ((j:Int)<(x.da.length:Int)))))) (by kernel_rfl) rfl rfl ?_;refine aI ?_
    repeat refine ar ?_
    cases r2 with
    |nil=>
     rw[bK nM];refine kW (by kernel_rfl) ?_;refine kR (gO (gO (lS rfl ?_)));refine dX ?_;refine aI ?_;rw[List.nil_append]at tZ;refine e7 ?_;refine bQ rfl ?_;refine cG (x:= .d (.v (.int .i64 ((i+1:Nat):Int)))) (by
       show some ((.d (.v (.int .i64 (aK ((i:Int)+1)))):AV),HD.same)=_;have:=bS hd rfl oH;unfold aq at this;rw[this]) rfl rfl ?_
     refine bQ rfl ?_;refine cG (x:= .d (.v (.int .i64 ((i+1:Nat):Int)))) (by kernel_rfl) rfl rfl ?_;refine aI ?_;refine⟨?_,(i+1,rest,hb),?_,⟨ly hd,⟨b1,b2⟩,tZ⟩,ak2 _⟩
     ·rw[<-b1];exact Jn _ (by rw[b1];exact b2) (by
        show(((AV.cp k).bz hb.length).aC hb.length&&(true&&(true&&(true&&true))))=true;rw[b1,xn hk];rfl)
     ·rw[<-b1];exact IV _ (by rw[b1];exact b2)
    |cons y r2=>
     rw[bJ nM];refine lq (by kernel_rfl) ?_;refine cx ?_;refine aI ?_
     repeat refine ar ?_
     refine dt ?_
     repeat refine ar ?_
     refine e7 ?_;refine bQ rfl ?_;rw[<-akB hb];refine cG (LJ (q:=j) (e:=48) (k:=2) rfl rfl (by kernel_rfl) (ng (bm nM)) rfl) rfl rfl ?_;refine bQ rfl ?_;refine cG (x:=dN y) (by kernel_rfl) rfl rfl ?_;refine bQ rfl ?_;refine xr (Ms (l:=[]) (by kernel_rfl)) rfl rfl DG ?_;refine bQ rfl ?_;refine Ly (Pg (i:=0) (off:=0) (k:=2) (l:=[_]) (v:=dN y) (cD:=(dN y).cells) (by kernel_rfl) rfl (by kernel_rfl) rfl (by kernel_rfl) (by kernel_rfl)) rfl K8 ?_;refine aI ?_
     repeat refine ar ?_
     refine e7 ?_;refine bQ rfl ?_;refine cG (x:= .cp k) (by kernel_rfl) rfl rfl ?_;refine bQ rfl ?_;refine cG (um (i:=0) (off:=0) (l:=[.cells (dN y).cells]) (x:=dN y) (by kernel_rfl) rfl (by kernel_rfl)) rfl rfl ?_;refine bQ rfl ?_;rw[List.cons_append,akF]at tZ;have Ng:=GB tZ [.cells (dN y).cells] (by rw[b1];exact b2) (by kernel_rfl) (λb h' hh=>hh.1);refine yu (k:=k) (x:=dN y) rfl rfl (by kernel_rfl) (by kernel_rfl) rfl rfl ?_;refine Ng.mono λb h' hh=> ?_;obtain⟨h3,⟨⟨r1,r3⟩,r4⟩,rfl⟩:=hh;refine bQ rfl ?_;refine cG (x:= .d (.v (.bool (!b)))) (by kernel_rfl) rfl rfl ?_;refine aI ?_;have u1:h3.length=h.length:=by rw[r1,b1]
     have u2:h3.all (ao.aC h.length)=true:=by rw[b1]at r3;exact r3
     cases b with
     |false=>
      refine lq (by kernel_rfl) ?_;refine cV ?_
      repeat (first|(with_reducible refine cU ?_)|(with_reducible refine dW ?_))
      exact xB u1 u2 ⟨rfl,false,r4.1⟩
     |true=>
      refine kW (by kernel_rfl) ?_;refine cx ?_;refine dX ?_;refine aI ?_;simp only[cond_true]at r4;refine e7 ?_;refine bQ rfl ?_;refine cG (x:= .d (.v (.int .i64 ((j+1:Nat):Int)))) (by
       show some ((.d (.v (.int .i64 (aK ((j:Int)+1)))):AV),HD.same)=_;have:=bS nM rfl acJ;unfold aq at this;rw[this]) rfl rfl ?_
      refine bQ rfl ?_;refine cG (x:= .d (.v (.int .i64 ((j+1:Nat):Int)))) (by kernel_rfl) rfl rfl ?_;refine aI ?_;refine⟨?_,(j+1,r2,h3),?_,⟨ly nM,⟨u1,u2⟩,r4⟩,ak2 _⟩
      ·rw[<-u1];exact xT _ (by rw[u1];exact u2) (by
         show(((AV.cp k).bz h3.length).aC h3.length&&(true&&(true&&(true&&(true&&(true&&(true&&true)))))))=true;rw[u1,xn hk];rfl)
      ·rw[<-u1];exact zZ _ (by rw[u1];exact u2)
theorem ai5(v1:ay):fX Tryz.prog 89 [(aB v1)] (·= .fn 149 [.bn [eK v1] 0 0]):=by
 refine Lx (r:= .fn 149 [(.ptr 0 0)]) (h:=[.cells (aB v1).cells]) ?_ (by kernel_rfl) rfl;refine pj 1 Tryz.func89 rfl (by kernel_rfl) (ako rfl) ?_;refine lG (s':=⟨4,[(0,(aB v1))],[]⟩) (by kernel_rfl) ?_;refine ar ?_;refine rg [] [(1,(.ptr 0 0))] [.cells (aB v1).cells] (by kernel_rfl) ?_;refine ar ?_;refine rg [] [(2,(.fn 149 [(.ptr 0 0)]))] [.cells (aB v1).cells] (by kernel_rfl) ?_;refine cV ?_;exact iT (by kernel_rfl)
theorem aaJ(v1:ay):fX Tryz.prog 155 [(aB v1)] (·= .fn 235 [.bn [eK v1] 0 0]):=by
 refine Lx (r:= .fn 235 [(.ptr 0 0)]) (h:=[.cells (aB v1).cells]) ?_ (by kernel_rfl) rfl;refine pj 1 Tryz.func155 rfl (by kernel_rfl) (ako rfl) ?_;refine lG (s':=⟨4,[(0,(aB v1))],[]⟩) (by kernel_rfl) ?_;refine ar ?_;refine rg [] [(1,(.ptr 0 0))] [.cells (aB v1).cells] (by kernel_rfl) ?_;refine ar ?_;refine rg [] [(2,(.fn 235 [(.ptr 0 0)]))] [.cells (aB v1).cells] (by kernel_rfl) ?_;refine cV ?_;exact iT (by kernel_rfl)
end Go.Proofs.YtnnapanbbbcalaaGreatDoor
namespace Go.Proofs.YtnnapanbbbcalaaGreatDoor
open Go.RowKit Go.Shelf
set_option maxRecDepth 100000
def ZU:Ren where
 f:=fun
  |157=>307
  |229=>322
  |199=>323
  |261=>330
  |311=>332
  |312=>333
  |n=>n
 t:=fun
  |9=>9
  |31=>22
  |3=>3
  |5=>5
  |4=>4
  |119=>303
  |0=>0
  |40=>260
  |152=>312
  |21=>21
  |154=>314
  |51=>300
  |141=>316
  |196=>323
  |193=>320
  |198=>326
  |49=>324
  |194=>321
  |201=>329
  |226=>331
  |46=>250
  |227=>332
  |n=>n
 g:=fun
  |0=>0
  |6=>1
  |n=>n
def mE:ak4 ak5:=[bs [115,105,122,101],bs [119,104,101,114,101],bs [105,110],bs [100,101,102],bs [111,117,116],bs [115,117,109],bs [112,114,111,100],bs [109,105,110],bs [109,97,120],bs [115,99,97,110],bs [111,118,101,114],bs [105,102],bs [99,97,115,116],bs [102,114,97,99],bs [105,110,116],bs [102,105,120],bs [99,101,105,108],bs [102,108,111,111,114],bs [122,101,114,111],bs [101,118,101,110],bs [115,97,116],bs [119,114,97,112]]
theorem ah1:Lays.n157 Tryz.prog ZU:=by
 constructor<;>first|kernel_rfl|(intro w;rfl)
def AP:ak5:=⟨#[115,105,122,101,32,119,104,101,114,101,32,105,110,32,100,101,102,32,111,117,116,32,115,117,109,32,112,114,111,100,32,109,105,110,32,109,97,120,32,115,99,97,110,32,111,118,101,114,32,105,102,32,99,97,115,116,32,102,114,97,99,32,105,110,116,32,102,105,120,32,99,101,105,108,32,102,108,111,111,114,32,122,101,114,111,32,101,118,101,110,32,115,97,116,32,119,114,97,112]⟩
theorem afP(w:ak9)(hT:∀c:Nat,c<256->w.cell? ⟨0,c,none⟩=some (.int .u8 (if Lib.isSp (UInt8.ofNat c)then 1 else 0))):
 Calls Tryz.prog 307 #[.string AP] w λe w'=>e= .returned (.slice (some ⟨w.heap.size,0,none⟩) 22 22)/\w'=w.alloc (.cells (mE.map Value.string).toArray 9):=by
 have ha:(AP.data.toList.all λb=>decide (b.toNat<128))=true:=by kernel_rfl
 have h:=Any.strings_Fields_core ah1 (by kernel_rfl) AP w (of_decide_eq_true (by kernel_rfl)) (λj b hb=>of_decide_eq_true (akG.1 ha b (akt hb))) hT;have e1:(Lib.fields AP.data.toList).length=22:=by kernel_rfl
 have e2:((Lib.fields AP.data.toList).map λl=>Value.string ⟨l.toArray⟩)=mE.map Value.string:=by kernel_rfl
 rw[e1,e2]at h;exact h
theorem ajM(w:ak9)(hT:∀c:Nat,c<256->w.cell? ⟨0,c,none⟩=some (.int .u8 (if Lib.isSp (UInt8.ofNat c)then 1 else 0))):
 Calls Tryz.prog 285 #[] w λe w'=>e= .returned (.slice (some ⟨w.heap.size,0,none⟩) 22 22)/\w'=w.alloc (.cells (mE.map Value.string).toArray 9):=by
 go_enter Tryz.func285,Tryz.ntmps285
 go_wp2_with (go_at_call 307;refine(afP _ hT).mono ?_;rintro e w' ⟨rfl,rfl⟩)
 go_ret
 exact⟨rfl,rfl⟩
theorem aeR:∀c:Nat,c<256->(vi B8)[c]?=some (.int .u8 (if Lib.isSp (UInt8.ofNat c)then 1 else 0)):=λc hc=>by
 rw[show vi B8=(List.range 256).map λc=>Value.int .u8 (if Lib.isSp (UInt8.ofNat c)then 1 else 0) by kernel_rfl,akn,List.getElem?_range hc];rfl
theorem Zh:fX Tryz.prog 285 [] (·= .d (.sl (cW mE))):=by
 refine⟨by kernel_rfl,λG w vs hi hl hr=> ?_⟩;obtain rfl:vs= #[]:=Array.size_eq_zero_iff.1 hl;refine(ajM w λc hc=> ?_).mono λe w' hp=> ?_
 ·exact(hi.gl.1 0 (vi B8) akm c _ (aeR c hc)).2
 ·obtain⟨rfl,rfl⟩:=hp;obtain⟨i1,i2⟩:=WI hi (.cells (mE.map Value.string).toArray 9) 22;have vA:Rd (G.oK w.heap.size 22).S (w.alloc (.cells (mE.map Value.string).toArray 9)) 1 (cW mE) (mE.map Value.string):=
   ⟨rfl,λx hx=>(by obtain⟨y,_,rfl⟩:=List.mem_map.1 hx;rfl),λu hu=>(by obtain⟨y,_,rfl⟩:=List.mem_map.1 hu;rfl),λi j x d hx hd=>by
    rw[mn,akn]at hx;cases hk:mE[i]? with
    |none=>rw[hk]at hx;cases hx
    |some y=>
     rw[hk]at hx;cases hx;cases j with
     |zero=>cases hd;exact⟨.string y,by rw[Nat.mul_one,Nat.add_zero,akn,hk];rfl, .v _⟩
     |succ j=>cases hd⟩
  have hp:=vA.Cm w.heap.size 22 (by decide) (by decide) (λo ho=> .inr ⟨rfl,ho⟩) (λo u hu=>by
   rw[World.cell?_alloc_new,List.getElem?_toArray];exact hu)
  exact⟨_,_,_,_,rfl,i1,akr _,i2, .d hp,rfl,rfl⟩
end Go.Proofs.YtnnapanbbbcalaaGreatDoor
namespace Go.Proofs.YtnnapanbbbcalaaGreatDoor
open Go.RowKit
set_option maxRecDepth 1000000
end Go.Proofs.YtnnapanbbbcalaaGreatDoor
