/-
  Part 5 of the proof: AbsDat, IterE, KwS, AbsKern.
-/
import Derived.Test.YtpeecnpmcbnahaaGreatDoorPq4
import Derived.Test.YtpeecnpmcbnahaaGreatDoorProg
import Derived.WalkKit
import Derived.Shelf.Strings.Fields
import Derived.KernelRfl
namespace Go.Proofs.YtpeecnpmcbnahaaGreatDoor
open Go.RowKit
set_option linter.unusedVariables false
def iw(x:aqQ):aqP D:=[.v (.string x)]
def ep(l:aqP aqQ):aqP (aqP D):=l.map iw
theorem nu(l:aqP aqQ):ep l=l.map iw:=rfl
theorem jT{l:aqP aqQ}:(ep l).length=l.length:=by rw[nu,ap6]
theorem n8{l:aqP aqQ}{k:Nat}{x:aqQ}(h:l[k]?=some x):(ep l)[k]?=some (iw x):=by rw[nu,ap8,h];rfl
theorem alS{a b:aqP aqQ}:ep a++ep b=ep (a++b):=by rw[nu,nu,nu,List.map_append]
theorem Js{l:aqP aqQ}:∀c∈ep l,c.length=1:=by
 intro c hc;rw[nu]at hc;obtain⟨x,_,rfl⟩:=List.mem_map.1 hc;rfl
theorem aiu{l:aqP aqQ}{k n:Nat}:((ep l).take n).drop k=ep ((l.take n).drop k):=by rw[nu,nu,List.map_drop,List.map_take]
def eK(x:Int):aqP D:=[.v (.int .i64 x)]
def bn(l:aqP Int):aqP (aqP D):=l.map eK
theorem ox(l:aqP Int):bn l=l.map eK:=rfl
theorem fy{l:aqP Int}:(bn l).length=l.length:=by rw[ox,ap6]
theorem iK{l:aqP Int}{k:Nat}{x:Int}(h:l[k]?=some x):(bn l)[k]?=some (eK x):=by rw[ox,ap8,h];rfl
theorem aok{a b:aqP Int}:bn a++bn b=bn (a++b):=by rw[ox,ox,ox,List.map_append]
theorem EG{l:aqP Int}:∀c∈bn l,c.length=1:=by
 intro c hc;rw[ox]at hc;obtain⟨x,_,rfl⟩:=List.mem_map.1 hc;rfl
structure dC where
 au:ByteArray
 dU:Int64
def ES(x:dC):aqP D:=[.v (.string x.au), .v (.int .i64 x.dU.toInt)]
def sU(x:dC):AV:= .agg [.d (.v (.string x.au)), .d (.v (.int .i64 x.dU.toInt))]
structure aF where
 bg:Int
 bN:Int
 bM:Int
 cn:Int
 ck:Int
def Kb(x:aF):aqP D:=[.v (.int .i64 x.bg), .v (.int .i64 x.bN), .v (.int .i64 x.bM), .v (.int .i64 x.cn), .v (.int .i64 x.ck)]
def cq(x:aF):AV:= .agg [.d (.v (.int .i64 x.bg)), .d (.v (.int .i64 x.bN)), .d (.v (.int .i64 x.bM)), .d (.v (.int .i64 x.cn)), .d (.v (.int .i64 x.ck))]
structure aA where
 xN:Int64
 xD:Int64
def A2(x:aA):aqP D:=[.v (.int .i64 x.xN.toInt), .v (.int .i64 x.xD.toInt)]
def bq(x:aA):AV:= .agg [.d (.v (.int .i64 x.xN.toInt)), .d (.v (.int .i64 x.xD.toInt))]
structure aJ where
 au:ByteArray
 dt:Int64
def EA(x:aJ):aqP D:=[.v (.string x.au), .v (.int .i64 x.dt.toInt)]
def HM(x:aJ):AV:= .agg [.d (.v (.string x.au)), .d (.v (.int .i64 x.dt.toInt))]
structure fa where
 iq:aA
 fG:aF
def dK(x:fa):AV:= .agg [.d (.v (.int .i64 x.iq.xN.toInt)), .d (.v (.int .i64 x.iq.xD.toInt)), .d (.v (.int .i64 x.fG.bg)), .d (.v (.int .i64 x.fG.bN)), .d (.v (.int .i64 x.fG.bM)), .d (.v (.int .i64 x.fG.cn)), .d (.v (.int .i64 x.fG.ck))]
structure j7 where
 od:Int
 lD:Int
 kR:Int
def CY(x:j7):AV:= .agg [.d (.v (.int .u64 x.od)), .d (.v (.int .u64 x.lD)), .d (.v (.int .u64 x.kR))]
structure dH where
 fX:Int
 gd:Int
 gM:Int
 gJ:Int
 gD:Int
 gK:Int
def gN(l:aqP dC):aqP (aqP D):=l.map ES
theorem yc(l:aqP dC):gN l=l.map ES:=rfl
theorem lV{l:aqP dC}:(gN l).length=l.length:=by rw[yc,ap6]
theorem ta{l:aqP dC}{k:Nat}{x:dC}(h:l[k]?=some x):(gN l)[k]?=some (ES x):=by rw[yc,ap8,h];rfl
theorem akF{a b:aqP dC}:gN a++gN b=gN (a++b):=by rw[yc,yc,yc,List.map_append]
theorem Y5{l:aqP dC}:∀c∈gN l,c.length=2:=by
 intro c hc;rw[yc]at hc;obtain⟨x,_,rfl⟩:=List.mem_map.1 hc;rfl
def aW(l:aqP aJ):aqP (aqP D):=l.map EA
theorem yW(l:aqP aJ):aW l=l.map EA:=rfl
theorem qE{l:aqP aJ}:(aW l).length=l.length:=by rw[yW,ap6]
theorem rl{l:aqP aJ}{k:Nat}{x:aJ}(h:l[k]?=some x):(aW l)[k]?=some (EA x):=by rw[yW,ap8,h];rfl
theorem ak7{a b:aqP aJ}:aW a++aW b=aW (a++b):=by rw[yW,yW,yW,List.map_append]
theorem ami{l:aqP aJ}:∀c∈aW l,c.length=2:=by
 intro c hc;rw[yW]at hc;obtain⟨x,_,rfl⟩:=List.mem_map.1 hc;rfl
def dO(l:aqP aA):aqP (aqP D):=l.map A2
theorem sC(l:aqP aA):dO l=l.map A2:=rfl
theorem kX{l:aqP aA}:(dO l).length=l.length:=by rw[sC,ap6]
theorem qO{l:aqP aA}{k:Nat}{x:aA}(h:l[k]?=some x):(dO l)[k]?=some (A2 x):=by rw[sC,ap8,h];rfl
theorem ajC{a b:aqP aA}:dO a++dO b=dO (a++b):=by rw[sC,sC,sC,List.map_append]
theorem Ol{l:aqP aA}:∀c∈dO l,c.length=2:=by
 intro c hc;rw[sC]at hc;obtain⟨x,_,rfl⟩:=List.mem_map.1 hc;rfl
theorem ajX{l:aqP aA}{k:Nat}:(dO l).drop k=dO (l.drop k):=by rw[sC,sC,List.map_drop]
def oP(l:aqP aF):aqP (aqP D):=l.map Kb
theorem Ay(l:aqP aF):oP l=l.map Kb:=rfl
theorem aj8{l:aqP aF}:(oP l).length=l.length:=by rw[Ay,ap6]
theorem te{l:aqP aF}{k:Nat}{x:aF}(h:l[k]?=some x):(oP l)[k]?=some (Kb x):=by rw[Ay,ap8,h];rfl
theorem ajZ{a b:aqP aF}:oP a++oP b=oP (a++b):=by rw[Ay,Ay,Ay,List.map_append]
theorem ael{l:aqP aF}:∀c∈oP l,c.length=5:=by
 intro c hc;rw[Ay]at hc;obtain⟨x,_,rfl⟩:=List.mem_map.1 hc;rfl
structure bz where
 xK:Int64
 xL:List dC
def FZ(x:bz):aqP D:=[.v (.int .i64 x.xK.toInt), .sl (gN x.xL)]
def dV(x:bz):AV:= .agg [.d (.v (.int .i64 x.xK.toInt)), .d (.sl (gN x.xL))]
structure gC where
 bo:bz
 G8:Bool
def Hc(x:gC):aqP D:=[.v (.int .i64 x.bo.xK.toInt), .sl (gN x.bo.xL), .v (.bool x.G8)]
def xS(x:gC):AV:= .agg [.d (.v (.int .i64 x.bo.xK.toInt)), .d (.sl (gN x.bo.xL)), .d (.v (.bool x.G8))]
structure du where
 au:ByteArray
 dG:bz
def F3(x:du):aqP D:=[.v (.string x.au), .v (.int .i64 x.dG.xK.toInt), .sl (gN x.dG.xL)]
def Ny(x:du):AV:= .agg [.d (.v (.string x.au)), .d (.v (.int .i64 x.dG.xK.toInt)), .d (.sl (gN x.dG.xL))]
structure aT where
 ax:aF
 aS:List Int
 dn:List aA
def bZ(x:aT):aqP D:=[.v (.int .i64 x.ax.bg), .v (.int .i64 x.ax.bN), .v (.int .i64 x.ax.bM), .v (.int .i64 x.ax.cn), .v (.int .i64 x.ax.ck), .sl (bn x.aS), .sl (dO x.dn)]
def gZ(x:aT):AV:= .agg [.d (.v (.int .i64 x.ax.bg)), .d (.v (.int .i64 x.ax.bN)), .d (.v (.int .i64 x.ax.bM)), .d (.v (.int .i64 x.ax.cn)), .d (.v (.int .i64 x.ax.ck)), .d (.sl (bn x.aS)), .d (.sl (dO x.dn))]
structure aI where
 au:ByteArray
 cB:aT
def Ei(x:aI):aqP D:=[.v (.string x.au), .v (.int .i64 x.cB.ax.bg), .v (.int .i64 x.cB.ax.bN), .v (.int .i64 x.cB.ax.bM), .v (.int .i64 x.cB.ax.cn), .v (.int .i64 x.cB.ax.ck), .sl (bn x.cB.aS), .sl (dO x.cB.dn)]
def acZ(x:aI):AV:= .agg [.d (.v (.string x.au)), .d (.v (.int .i64 x.cB.ax.bg)), .d (.v (.int .i64 x.cB.ax.bN)), .d (.v (.int .i64 x.cB.ax.bM)), .d (.v (.int .i64 x.cB.ax.cn)), .d (.v (.int .i64 x.cB.ax.ck)), .d (.sl (bn x.cB.aS)), .d (.sl (dO x.cB.dn))]
def nr(l:aqP gC):aqP (aqP D):=l.map Hc
theorem yJ(l:aqP gC):nr l=l.map Hc:=rfl
theorem wP{l:aqP gC}:(nr l).length=l.length:=by rw[yJ,ap6]
theorem RJ{l:aqP gC}{k:Nat}{x:gC}(h:l[k]?=some x):(nr l)[k]?=some (Hc x):=by rw[yJ,ap8,h];rfl
theorem aeh{a b:aqP gC}:nr a++nr b=nr (a++b):=by rw[yJ,yJ,yJ,List.map_append]
theorem alL{l:aqP gC}:∀c∈nr l,c.length=3:=by
 intro c hc;rw[yJ]at hc;obtain⟨x,_,rfl⟩:=List.mem_map.1 hc;rfl
def gj(l:aqP bz):aqP (aqP D):=l.map FZ
theorem w8(l:aqP bz):gj l=l.map FZ:=rfl
theorem jz{l:aqP bz}:(gj l).length=l.length:=by rw[w8,ap6]
theorem vN{l:aqP bz}{k:Nat}{x:bz}(h:l[k]?=some x):(gj l)[k]?=some (FZ x):=by rw[w8,ap8,h];rfl
theorem ai9{a b:aqP bz}:gj a++gj b=gj (a++b):=by rw[w8,w8,w8,List.map_append]
theorem apf{l:aqP bz}:∀c∈gj l,c.length=2:=by
 intro c hc;rw[w8]at hc;obtain⟨x,_,rfl⟩:=List.mem_map.1 hc;rfl
def dAxiss(l:aqP du):aqP (aqP D):=l.map F3
theorem wI(l:aqP du):dAxiss l=l.map F3:=rfl
theorem kZ{l:aqP du}:(dAxiss l).length=l.length:=by rw[wI,ap6]
theorem xC{l:aqP du}{k:Nat}{x:du}(h:l[k]?=some x):(dAxiss l)[k]?=some (F3 x):=by rw[wI,ap8,h];rfl
theorem an3{a b:aqP du}:dAxiss a++dAxiss b=dAxiss (a++b):=by rw[wI,wI,wI,List.map_append]
theorem ao0{l:aqP du}:∀c∈dAxiss l,c.length=3:=by
 intro c hc;rw[wI]at hc;obtain⟨x,_,rfl⟩:=List.mem_map.1 hc;rfl
def aZ(l:aqP aI):aqP (aqP D):=l.map Ei
theorem tH(l:aqP aI):aZ l=l.map Ei:=rfl
theorem kg{l:aqP aI}:(aZ l).length=l.length:=by rw[tH,ap6]
theorem jJ{l:aqP aI}{k:Nat}{x:aI}(h:l[k]?=some x):(aZ l)[k]?=some (Ei x):=by rw[tH,ap8,h];rfl
theorem aiH{a b:aqP aI}:aZ a++aZ b=aZ (a++b):=by rw[tH,tH,tH,List.map_append]
theorem Uq{l:aqP aI}:∀c∈aZ l,c.length=8:=by
 intro c hc;rw[tH]at hc;obtain⟨x,_,rfl⟩:=List.mem_map.1 hc;rfl
theorem agy{l:aqP aI}{k:Nat}:(aZ l).drop k=aZ (l.drop k):=by rw[tH,tH,List.map_drop]
def Qm(x:aqP du):aqP D:=[.sl (dAxiss x)]
def o7(l:aqP (aqP du)):aqP (aqP D):=l.map Qm
theorem Bx(l:aqP (aqP du)):o7 l=l.map Qm:=rfl
theorem OZ{l:aqP (aqP du)}:(o7 l).length=l.length:=by rw[Bx,ap6]
theorem Ul{l:aqP (aqP du)}{k:Nat}{x:(aqP du)}(h:l[k]?=some x):(o7 l)[k]?=some (Qm x):=by rw[Bx,ap8,h];rfl
theorem amN{a b:aqP (aqP du)}:o7 a++o7 b=o7 (a++b):=by rw[Bx,Bx,Bx,List.map_append]
theorem ao2{l:aqP (aqP du)}:∀c∈o7 l,c.length=1:=by
 intro c hc;rw[Bx]at hc;obtain⟨x,_,rfl⟩:=List.mem_map.1 hc;rfl
structure eN where
 au:ByteArray
 ax:aF
 aS:List bz
def Dm(x:eN):aqP D:=[.v (.string x.au), .v (.int .i64 x.ax.bg), .v (.int .i64 x.ax.bN), .v (.int .i64 x.ax.bM), .v (.int .i64 x.ax.cn), .v (.int .i64 x.ax.ck), .sl (gj x.aS)]
def pN(x:eN):AV:= .agg [.d (.v (.string x.au)), .d (.v (.int .i64 x.ax.bg)), .d (.v (.int .i64 x.ax.bN)), .d (.v (.int .i64 x.ax.bM)), .d (.v (.int .i64 x.ax.cn)), .d (.v (.int .i64 x.ax.ck)), .d (.sl (gj x.aS))]
structure cO where
 bo:bz
 cU:ByteArray
 cT:List bz
def Eg(x:cO):aqP D:=[.v (.int .i64 x.bo.xK.toInt), .sl (gN x.bo.xL), .v (.string x.cU), .sl (gj x.cT)]
def h1(x:cO):AV:= .agg [.d (.v (.int .i64 x.bo.xK.toInt)), .d (.sl (gN x.bo.xL)), .d (.v (.string x.cU)), .d (.sl (gj x.cT))]
def kO(l:aqP eN):aqP (aqP D):=l.map Dm
theorem yj(l:aqP eN):kO l=l.map Dm:=rfl
theorem ri{l:aqP eN}:(kO l).length=l.length:=by rw[yj,ap6]
theorem Dt{l:aqP eN}{k:Nat}{x:eN}(h:l[k]?=some x):(kO l)[k]?=some (Dm x):=by rw[yj,ap8,h];rfl
theorem alO{a b:aqP eN}:kO a++kO b=kO (a++b):=by rw[yj,yj,yj,List.map_append]
theorem aiw{l:aqP eN}:∀c∈kO l,c.length=7:=by
 intro c hc;rw[yj]at hc;obtain⟨x,_,rfl⟩:=List.mem_map.1 hc;rfl
def eZ(l:aqP cO):aqP (aqP D):=l.map Eg
theorem yQ(l:aqP cO):eZ l=l.map Eg:=rfl
theorem ld{l:aqP cO}:(eZ l).length=l.length:=by rw[yQ,ap6]
theorem nW{l:aqP cO}{k:Nat}{x:cO}(h:l[k]?=some x):(eZ l)[k]?=some (Eg x):=by rw[yQ,ap8,h];rfl
theorem ahg{a b:aqP cO}:eZ a++eZ b=eZ (a++b):=by rw[yQ,yQ,yQ,List.map_append]
theorem aiI{l:aqP cO}:∀c∈eZ l,c.length=4:=by
 intro c hc;rw[yQ]at hc;obtain⟨x,_,rfl⟩:=List.mem_map.1 hc;rfl
structure aw where
 az:Int
 au:ByteArray
 dt:aA
 ax:aF
 bo:bz
 xIdx:List cO
 bJ:List aw
mutual
def RQ:aw->aqP D
 |⟨az,au,dt,ax,bo,xIdx,bJ⟩=>[.v (.int .i64 az), .v (.string au), .v (.int .i64 dt.xN.toInt), .v (.int .i64 dt.xD.toInt), .v (.int .i64 ax.bg), .v (.int .i64 ax.bN), .v (.int .i64 ax.bM), .v (.int .i64 ax.cn), .v (.int .i64 ax.ck), .v (.int .i64 bo.xK.toInt), .sl (gN bo.xL), .sl (eZ xIdx), .sl (jg bJ)]
def jg:aqP aw->aqP (aqP D)
 |[]=>[]
 |x::l=>RQ x::jg l
end
def eV(x:aw):aqP D:=[.v (.int .i64 x.az), .v (.string x.au), .v (.int .i64 x.dt.xN.toInt), .v (.int .i64 x.dt.xD.toInt), .v (.int .i64 x.ax.bg), .v (.int .i64 x.ax.bN), .v (.int .i64 x.ax.bM), .v (.int .i64 x.ax.cn), .v (.int .i64 x.ax.ck), .v (.int .i64 x.bo.xK.toInt), .sl (gN x.bo.xL), .sl (eZ x.xIdx), .sl (jg x.bJ)]
theorem aoh(x:aw):RQ x=eV x:=by cases x;simp only[RQ];rfl
theorem qB:∀l:aqP aw,jg l=l.map eV
 |[]=>by simp [jg]
 |x::l=>by simp [jg,aoh,qB l]
theorem qi{l:aqP aw}:(jg l).length=l.length:=by rw[qB,ap6]
theorem nb{l:aqP aw}{k:Nat}{x:aw}(h:l[k]?=some x):(jg l)[k]?=some (eV x):=by rw[qB,ap8,h];rfl
theorem aeA{a b:aqP aw}:jg a++jg b=jg (a++b):=by rw[qB,qB,qB,List.map_append]
theorem ahT{l:aqP aw}:∀c∈jg l,c.length=13:=by
 intro c hc;rw[qB]at hc;obtain⟨x,_,rfl⟩:=List.mem_map.1 hc;rfl
def aP(x:aw):AV:= .agg [.d (.v (.int .i64 x.az)), .d (.v (.string x.au)), .d (.v (.int .i64 x.dt.xN.toInt)), .d (.v (.int .i64 x.dt.xD.toInt)), .d (.v (.int .i64 x.ax.bg)), .d (.v (.int .i64 x.ax.bN)), .d (.v (.int .i64 x.ax.bM)), .d (.v (.int .i64 x.ax.cn)), .d (.v (.int .i64 x.ax.ck)), .d (.v (.int .i64 x.bo.xK.toInt)), .d (.sl (gN x.bo.xL)), .d (.sl (eZ x.xIdx)), .d (.sl (jg x.bJ))]
structure bB where
 au:ByteArray
 ax:aF
 aS:List du
 bR:List du
 dj:Int
 bP:aw
def FO(x:bB):aqP D:=[.v (.string x.au), .v (.int .i64 x.ax.bg), .v (.int .i64 x.ax.bN), .v (.int .i64 x.ax.bM), .v (.int .i64 x.ax.cn), .v (.int .i64 x.ax.ck), .sl (dAxiss x.aS), .sl (dAxiss x.bR), .v (.int .i64 x.dj), .v (.int .i64 x.bP.az), .v (.string x.bP.au), .v (.int .i64 x.bP.dt.xN.toInt), .v (.int .i64 x.bP.dt.xD.toInt), .v (.int .i64 x.bP.ax.bg), .v (.int .i64 x.bP.ax.bN), .v (.int .i64 x.bP.ax.bM), .v (.int .i64 x.bP.ax.cn), .v (.int .i64 x.bP.ax.ck), .v (.int .i64 x.bP.bo.xK.toInt), .sl (gN x.bP.bo.xL), .sl (eZ x.bP.xIdx), .sl (jg x.bP.bJ)]
def fY(x:bB):AV:= .agg [.d (.v (.string x.au)), .d (.v (.int .i64 x.ax.bg)), .d (.v (.int .i64 x.ax.bN)), .d (.v (.int .i64 x.ax.bM)), .d (.v (.int .i64 x.ax.cn)), .d (.v (.int .i64 x.ax.ck)), .d (.sl (dAxiss x.aS)), .d (.sl (dAxiss x.bR)), .d (.v (.int .i64 x.dj)), .d (.v (.int .i64 x.bP.az)), .d (.v (.string x.bP.au)), .d (.v (.int .i64 x.bP.dt.xN.toInt)), .d (.v (.int .i64 x.bP.dt.xD.toInt)), .d (.v (.int .i64 x.bP.ax.bg)), .d (.v (.int .i64 x.bP.ax.bN)), .d (.v (.int .i64 x.bP.ax.bM)), .d (.v (.int .i64 x.bP.ax.cn)), .d (.v (.int .i64 x.bP.ax.ck)), .d (.v (.int .i64 x.bP.bo.xK.toInt)), .d (.sl (gN x.bP.bo.xL)), .d (.sl (eZ x.bP.xIdx)), .d (.sl (jg x.bP.bJ))]
def iV(l:aqP bB):aqP (aqP D):=l.map FO
theorem sS(l:aqP bB):iV l=l.map FO:=rfl
theorem lz{l:aqP bB}:(iV l).length=l.length:=by rw[sS,ap6]
theorem k9{l:aqP bB}{k:Nat}{x:bB}(h:l[k]?=some x):(iV l)[k]?=some (FO x):=by rw[sS,ap8,h];rfl
theorem ajY{a b:aqP bB}:iV a++iV b=iV (a++b):=by rw[sS,sS,sS,List.map_append]
theorem Zd{l:aqP bB}:∀c∈iV l,c.length=22:=by
 intro c hc;rw[sS]at hc;obtain⟨x,_,rfl⟩:=List.mem_map.1 hc;rfl
theorem aps{l:aqP bB}{k n:Nat}:((iV l).take n).drop k=iV ((l.take n).drop k):=by rw[sS,sS,List.map_drop,List.map_take]
structure aV where
 bm:List ByteArray
 dM:List gC
 aX:List eN
 aG:List bB
 c9:List ByteArray
def amc(x:aV):aqP D:=[.sl (ep x.bm), .sl (nr x.dM), .sl (kO x.aX), .sl (iV x.aG), .sl (ep x.c9)]
def dW(x:aV):AV:= .agg [.d (.sl (ep x.bm)), .d (.sl (nr x.dM)), .d (.sl (kO x.aX)), .d (.sl (iV x.aG)), .d (.sl (ep x.c9))]
def di(s:aqQ):AV:= .d (.v (.string s))
def ar(n:Int):AV:= .d (.v (.int .i64 n))
def bC(n:Int64):AV:= .d (.v (.int .i64 n.toInt))
def aK(b:Bool):AV:= .d (.v (.bool b))
abbrev aO(n:Int):Int:=IntKind.i64.wrap n
theorem Cf(a:Int):IntKind.i64.wrap a=a.bmod (2^64):=by
 rw[IntKind.wrap_i64,Int.bmod_def];omega
theorem kA(a:Int):ar (aO a)=bC (Int64.ofInt a):=by
 unfold ar bC aO;rw[Cf,Int64.toInt_ofInt]
theorem Ea(a b:Int64):ar (aO (a.toInt+b.toInt))=bC (a+b):=by
 unfold ar bC aO;rw[Cf,Int64.toInt_add]
theorem xQ(a b:Int64):ar (aO (a.toInt-b.toInt))=bC (a-b):=by
 unfold ar bC aO;rw[Cf,Int64.toInt_sub]
theorem lQ(a b:Int64):ar (aO (a.toInt*b.toInt))=bC (a*b):=by
 unfold ar bC aO;rw[Cf,Int64.toInt_mul]
theorem zP(a:Int64):ar (aO (0-a.toInt))=bC (-a):=by
 unfold ar bC aO;rw[Cf,Int64.toInt_neg,Int.zero_sub]
theorem IF{a:Int}(h:aO a=a):ar a=bC (Int64.ofInt a):=by
 rw[<-kA,h]
theorem anl(a:Int)(m:Nat)(J: -9223372036854775808<=a)(h2:a<9223372036854775808): -9223372036854775808<=a.fdiv (2^m)/\a.fdiv (2^m)<9223372036854775808:=by
 have hp:(0:Int)<2^m:=Int.pow_pos (by decide);rw[Int.fdiv_eq_ediv_of_nonneg _ (Int.le_of_lt hp)];generalize (2:Int)^m=p at*;by_cases h:0<=a
 ·have h3:=Int.ediv_nonneg h (Int.le_of_lt hp);have h4:=Int.ediv_le_self p h;omega
 ·have h3:a / p<0:=Int.ediv_neg_of_neg_of_pos (by omega) hp;have h4:a<=a / p:=by
   refine(Int.le_ediv_iff_mul_le hp).2 ?_;have:=Int.mul_le_mul_of_nonpos_left (a:=a) (b:=p) (c:=1) (by omega) (by omega);omega
  omega
theorem ac7(a:Int64)(m:Nat):ar (a.toInt.fdiv (2^m))=bC (Int64.ofInt (a.toInt.fdiv (2^m))):=by
 refine IF ?_;have h:=anl a.toInt m (by have:=a.le_toInt;simpa using this) (by have:=a.toInt_lt;simpa using this);unfold aO;rw[IntKind.wrap_i64];omega
theorem Sq(a:Int64)(b:Int):ar (a.toInt.tmod b)=bC (Int64.ofInt (a.toInt.tmod b)):=by
 refine IF ?_;unfold aO;rw[IntKind.wrap_i64];have J:=a.le_toInt;have h2:=a.toInt_lt;have h3:=Int.natAbs_tmod a.toInt b;have h4:(a.toInt.tmod b).natAbs<=a.toInt.natAbs:=by rw[h3];exact Nat.mod_le _ _
 have h7: -9223372036854775808<=a.toInt/\a.toInt<=9223372036854775807:=by omega
 clear J h2 h3;by_cases h5:0<=a.toInt
 ·have:=Int.tmod_nonneg b h5;generalize a.toInt.tmod b=x at*;omega
 ·have h6:=Int.tmod_nonneg b (show 0<=-a.toInt by omega);rw[Int.neg_tmod]at h6;generalize a.toInt.tmod b=x at*;omega
theorem cD{α:Type}{l:aqP α}{k:Nat}{x:α}{xs:aqP α}{n:Nat}(hd:l.drop k=x::xs)(hn:l.length=n)(hl:n<=maxLen):ar (aO ((k:Int)+1))=ar ((k+1:Nat):Int):=by
 have:(l.drop k).length=(x::xs).length:=by rw[hd]
 rw[List.length_drop,ap4]at this;have J:k<maxLen:=by omega
 unfold maxLen at J;have e:IntKind.i64.wrap ((k:Int)+1)=((k+1:Nat):Int):=by rw[IntKind.wrap_i64];omega
 unfold ar aO;rw[e]
theorem bI{α:Type}{l:aqP α}{k:Nat}{x:α}{xs:aqP α}(hd:l.drop k=x::xs):l[k]?=some x:=by
 have:(l.drop k)[0]?=some x:=by rw[hd];rfl
 rwa [List.getElem?_drop]at this
theorem ma{α:Type}{l:aqP α}{k:Nat}{x:α}{xs:aqP α}(hd:l.drop k=x::xs):l.drop (k+1)=xs:=by
 rw[<-List.drop_drop,hd];rfl
theorem cv{α:Type}{l:aqP α}{k:Nat}{x:α}{xs:aqP α}(hd:l.drop k=x::xs):decide ((k:Int)<(l.length:Int))=true:=by
 have:(l.drop k).length=(x::xs).length:=by rw[hd]
 rw[List.length_drop,ap4]at this;exact aqI (by omega)
theorem cu{α:Type}{l:aqP α}{k:Nat}(hd:l.drop k=[]):decide ((k:Int)<(l.length:Int))=false:=by
 have:=List.drop_eq_nil_iff.1 hd;exact aqJ (by omega)
theorem nD{n c6:Nat}(h:Nat.ble (n*c6) 140737488355328=true)(hb:1<=c6):n<=maxLen/\n*c6<=140737488355328:=by
 have h:=ap9 h;refine⟨?_,h⟩;unfold maxLen;have:=Nat.le_mul_of_pos_right n hb;omega
theorem bA:Tryz.prog.follows .mixedOrders=true:=by kernel_rfl
set_option maxRecDepth 100000
set_option maxHeartbeats 0
def yM(a b:Int64):Int64:=if b.toInt>a.toInt then b else a
def Em(a b:Int64):Int64:=if b.toInt<a.toInt then b else a
theorem Uj(a b:Int64):(if b.toInt>a.toInt then b.toInt else a.toInt)=(yM a b).toInt:=by unfold yM;split<;>rfl
theorem alb(a b:Int64):(if b.toInt<a.toInt then b.toInt else a.toInt)=(Em a b).toInt:=by unfold Em;split<;>rfl
theorem aa7(a b:Int64):AV.d (.v (.int .i64 (if b.toInt>a.toInt then b.toInt else a.toInt)))=bC (yM a b):=by rw[Uj];rfl
theorem anu(a b:Int64):AV.d (.v (.int .i64 (if b.toInt<a.toInt then b.toInt else a.toInt)))=bC (Em a b):=by rw[alb];rfl
mutual
def NO:aw->aqP aw
 |⟨o,n,v,t,l,i,xs⟩=>⟨o,n,v,t,l,i,xs⟩::mT xs
def mT:aqP aw->aqP aw
 |[]=>[]
 |x::l=>NO x++mT l
end
def dF(e:aw):aqP aw:=e::mT e.bJ
theorem aoG(e:aw):NO e=dF e:=by cases e;simp only[NO];rfl
theorem FJ(x:aw)(l:aqP aw):mT (x::l)=dF x++mT l:=by rw[mT,aoG]
theorem E9{P:aqS}{k:Nat}:∀(l:aqP AV){C:Bool->aqP aq->Prop}{h:aqP aq},h.all (aq.aE h.length)=true->me P k l C h->me P k l (λb J=>C b J/\oK h J) h
 |[],_,_,hl,hs=>⟨hs,rfl,hl⟩
 |x::l,C,h,hl,hs=>YS.mono hs λb J ⟨h2,h3⟩=>⟨h2,by
  cases b with
  |true=>exact X8 l (λb h4 ⟨h5,h6,h7⟩=>⟨h5,by rw[h6,h2.1],by rw[h2.1]at h7;exact h7⟩) (E9 l (by rw[h2.1];exact h2.2) h3)
  |false=>exact⟨h3,h2⟩⟩
def MQ(e:aw):Prop:=∀(k:Nat)(h:aqP aq)(C:Bool->aqP aq->Prop),h.all (aq.aE h.length)=true->k<h.length->me Tryz.prog k ((dF e).map aP) C h->cV Tryz.prog 102 [aP e, .cr k] h λr J=>∃b,r= .d (.v (.bool b))/\C b J/\oK h J
theorem Rb{P:aqS}{fn:Func}{n:Nat}{t:aqP (Nat×AV)}{H J l:aqP aq}{K:AV->aqP aq->Prop}(k1:J.length=H.length)(k2:J.all (aq.aE H.length)=true)(hr:nH P ⟨n,t,J++l⟩ fn.results.toList λrs=>((kp rs).bx J.length).aE J.length=true/\K ((kp rs).bx J.length) J):qS P fn H.length K ⟨n,t,J++l⟩:=by
 rw[<-k1]at k2 ⊢;exact api k2 hr
theorem AS{P:aqS}{fn:Func}{n:Nat}{t:aqP (Nat×AV)}{H J l:aqP aq}{K:AV->aqP aq->Prop}(k1:J.length=H.length)(k2:J.all (aq.aE H.length)=true)(hr:nH P ⟨n,t,J++l⟩ fn.results.toList λrs=>((kp rs).bx J.length).aE J.length=true/\K ((kp rs).bx J.length) J):HU P fn H.length K .ret ⟨n,t,J++l⟩:=Rb k1 k2 hr
theorem agW(e:aw)(tw:∀x∈e.bJ,MQ x):MQ e:=by
 intro k h C kJ hk hs;refine vV h.length Tryz.func102 rfl (by kernel_rfl) (aqc _) ?_
 suffices hA:bH Tryz.prog none h.length _ _ ⟨23,[(0,aP e),(1, .cr k)],h++[]⟩ by rw[aqm]at hA;exact hA
 repeat refine aD ?_
 refine ff ?_;refine bS rfl ?_;refine Be (Xt (l:=[]) (v:=aP e) rfl (by kernel_rfl)) rfl rfl DM ?_;refine bS rfl ?_;refine cF (x:= .d (.v (.bool false))) (by kernel_rfl) rfl rfl ?_;refine bK ?_
 repeat refine aD ?_
 refine ff ?_;refine bS rfl ?_;refine cF (x:= .cr k) (by kernel_rfl) rfl rfl ?_;refine bS rfl ?_;refine cF (wD (i:=0) (off:=0) (l:=[]++[.cells (aP e).cells]) (x:=aP e) (by kernel_rfl) rfl (by kernel_rfl)) rfl rfl ?_;refine bS rfl ?_;rw[dF,aqq]at hs;have hy:=Lh (E9 (aP e::_) kJ hs) [.cells (aP e).cells] kJ (by kernel_rfl) (λb h' hh=>hh.1);refine zQ (k:=k) (x:=aP e) rfl rfl (by kernel_rfl) (by kernel_rfl) rfl rfl ?_;refine hy.mono λb h' hh=> ?_;obtain⟨J,⟨⟨k1,k2⟩,k3⟩,rfl⟩:=hh;refine bS rfl ?_;refine cF (x:= .d (.v (.bool (!b)))) (by kernel_rfl) rfl rfl ?_;refine bK ?_;cases b with
 |false=>
  refine mg (by kernel_rfl) ?_
  repeat refine aD ?_
  refine ff ?_;refine bS rfl ?_;refine cF (x:= .d (.v (.bool false))) (by kernel_rfl) rfl rfl ?_;refine bK ?_;refine c8 (dg ?_);refine AS k1 k2 ?_;exact⟨rfl,false,rfl,k3⟩
 |true=>
  refine mj (by kernel_rfl) ?_;refine dI ?_;refine bK ?_;simp only[cond_true]at k3
  repeat refine aD ?_
  refine ff ?_;refine bS rfl ?_;refine cF (x:= .ptr (h.length+0) 12) (by kernel_rfl) rfl rfl ?_;refine bS rfl ?_;refine cF (wD (h:=J) (i:=0) (off:=12) (l:=[.cells (aP e).cells]) (x:= .d (.sl (jg e.bJ))) (by rw[k1];rfl) rfl (by kernel_rfl)) rfl rfl ?_;refine bS rfl ?_;refine cF (x:= .d (.v (.int .i64 (jg e.bJ).length))) (by kernel_rfl) rfl rfl ?_;refine bS rfl ?_;refine cF (x:= .d (.v (.int .i64 0))) (by kernel_rfl) rfl rfl ?_;refine bK ?_;refine yT 12 (jg e.bJ) (by kernel_rfl) λcd=> ?_;have pW:e.bJ.length<=maxLen:=by rw[<-qi];exact Iv cd
  rw[qi]
  repeat refine aD ?_
  refine gq ?_;refine Ki (ι:=Nat×aqP aw×aqP aq) [1,12,13,14] h.length (λi=>⟨23,[(1, .cr k),(12, .d (.sl (jg e.bJ))),(13, .d (.v (.int .i64 e.bJ.length))),(14, .d (.v (.int .i64 i.1)))],i.2.2⟩)
   (λi=>e.bJ.drop i.1=i.2.1/\oK h i.2.2/\me Tryz.prog k ((mT i.2.1).map aP) (λb h2=>C b h2/\oK h h2) i.2.2) (λi=>i.2.1.length) (0,e.bJ,J) (aqc _) ?_ ?_ ⟨rfl,⟨k1,k2⟩,k3⟩ ?_
  ·rw[<-k1];exact zW _ (by rw[k1];exact k2) (by
     show(((AV.cr k).bx J.length).aE J.length&&(true&&(true&&(true&&true))))=true;rw[k1];simp [AV.bx,AV.aE,ct];omega)
  ·rw[<-k1];exact BG _ (by rw[k1];exact k2)
  rintro⟨i,rest,hc⟩ ⟨hd,⟨c1,c2⟩,jx⟩;simp only at hd c1 c2 jx ⊢
  repeat refine aD ?_
  refine ff ?_;refine bS rfl ?_;refine cF (x:= .d (.v (.bool (decide ((i:Int)<(e.bJ.length:Int)))))) (by kernel_rfl) rfl rfl ?_;refine bK ?_;refine aD ?_;cases rest with
  |nil=>
   rw[cu hd];refine mj (by kernel_rfl) ?_;refine oT (lF (lF (rX rfl ?_)));refine bK ?_
   repeat refine aD ?_
   refine ff ?_;refine bS rfl ?_;rw[<-aqm hc];refine cF (x:= .d (.v (.bool true))) (by kernel_rfl) rfl rfl ?_;refine bK ?_;refine c8 ?_;refine AS c1 c2 ?_;rw[mT,List.map_nil]at jx;exact⟨rfl,true,rfl,jx⟩
  |cons x rest=>
   rw[cv hd];refine mg (by kernel_rfl) ?_;refine dI ?_;refine bK ?_
   repeat refine aD ?_
   refine gq ?_
   repeat refine aD ?_
   refine ff ?_;refine bS rfl ?_;rw[<-aqm hc];refine cF (Nu (q:=i) (e:=61) (k:=13) rfl rfl (by kernel_rfl) (nb (bI hd)) rfl) rfl rfl ?_;refine bS rfl ?_;refine cF (x:=aP x) (by kernel_rfl) rfl rfl ?_;refine bS rfl ?_;refine Be (TF (l:=[]) (by kernel_rfl)) rfl rfl DM ?_;refine bS rfl ?_;refine TV (P8 (i:=0) (off:=0) (k:=13) (l:=[_]) (v:=aP x) (cC:=(aP x).cells) (by kernel_rfl) rfl (by kernel_rfl) rfl (by kernel_rfl) (by kernel_rfl)) rfl S1 ?_;refine bK ?_
   repeat refine aD ?_
   refine ff ?_;refine bS rfl ?_;refine cF (wD (i:=0) (off:=0) (l:=[.cells (aP x).cells]) (x:=aP x) (by kernel_rfl) rfl (by kernel_rfl)) rfl rfl ?_;refine bS rfl ?_;refine cF (x:= .cr k) (by kernel_rfl) rfl rfl ?_;refine bS rfl ?_;rw[FJ,List.map_append]at jx;have xa:=Vw _ _ jx;have hw:=tw x (aqe (bI hd)) k hc _ (by rw[c1];exact c2) (by rw[c1];exact hk) xa;have Qj:=amK hw [.cells (aP x).cells] (by rw[c1];exact c2) (by
    rw[c1];show((aP x).aE h.length&&((AV.cr k).aE h.length&&true))=true;rw[show(aP x).aE h.length=true by kernel_rfl];simp [AV.aE,ct];omega) (λr h' hh=>by
    obtain⟨b,rfl,_,q1,q2⟩:=hh;exact⟨q1,q2,rfl⟩)
   refine DZ (g:=102) (db:=[]) rfl rfl rfl ?_;refine Qj.mono λr h' hh=> ?_;obtain⟨h2,⟨b,rfl,q0,q1,q2⟩,rfl⟩:=hh;refine bS rfl ?_;refine cF (x:= .d (.v (.bool (!b)))) (by kernel_rfl) rfl rfl ?_;refine bK ?_;cases b with
   |false=>
    refine mg (by kernel_rfl) ?_
    repeat refine aD ?_
    refine ff ?_;refine bS rfl ?_;refine cF (x:= .d (.v (.bool false))) (by kernel_rfl) rfl rfl ?_;refine bK ?_;refine c8 (fv (dg (dg (fv (dg ?_)))));refine AS (J:=h2) (by rw[q1,c1]) (by rw[c1]at q2;exact q2) ?_;exact⟨rfl,false,rfl,q0⟩
   |true=>
    refine mj (by kernel_rfl) ?_;refine dI ?_;refine iU ?_;refine bK ?_;simp only[cond_true]at q0;refine ff ?_;refine bS rfl ?_;refine cF (x:= .d (.v (.int .i64 ((i+1:Nat):Int)))) (by
     show some ((.d (.v (.int .i64 (aO ((i:Int)+1)))):AV),HD.same)=_;have:=cD hd rfl pW;unfold ar at this;rw[this]) rfl rfl ?_
    refine bS rfl ?_;refine cF (x:= .d (.v (.int .i64 ((i+1:Nat):Int)))) (by kernel_rfl) rfl rfl ?_;refine bK ?_;have e1:h2.length=h.length:=by rw[q1,c1]
    have e2:h2.all (aq.aE h2.length)=true:=by rw[q1];exact q2
    refine⟨?_,(i+1,rest,h2),?_,⟨ma hd,⟨e1,by rw[<-e1];exact e2⟩,q0⟩,aqN _⟩
    ·rw[<-e1];exact zW _ e2 (by
       show(((AV.cr k).bx h2.length).aE h2.length&&(true&&(true&&(true&&true))))=true;rw[e1];simp [AV.bx,AV.aE,ct];omega)
    ·rw[<-e1];exact BG _ e2
mutual
theorem WK:(e:aw)->MQ e
 |⟨_,_,_,_,_,_,xs⟩=>agW _ (abR xs)
theorem abR:(l:aqP aw)->∀x∈l,MQ x
 |[],_,h=>absurd h aqH
 |x::l,y,h=>(aqv.1 h).elim (λe=>e▸WK x) (abR l y)
end
theorem Mw{P:aqS}{fn:Func}{n:Nat}{t:aqP (Nat×AV)}{H J:aqP aq}{K:AV->aqP aq->Prop}(k1:J.length=H.length)(k2:J.all (aq.aE H.length)=true)(hr:nH P ⟨n,t,J⟩ fn.results.toList λrs=>((kp rs).bx J.length).aE J.length=true/\K ((kp rs).bx J.length) J):HU P fn H.length K .normal ⟨n,t,J⟩:=by
 have:=Rb (P:=P) (fn:=fn) (n:=n) (t:=t) (l:=[]) (K:=K) k1 k2;rw[aqm]at this;exact this hr
theorem acT{P:aqS}{fn:Func}{n:Nat}{t:aqP (Nat×AV)}{H J:aqP aq}{K:AV->aqP aq->Prop}(k1:J.length=H.length)(k2:J.all (aq.aE H.length)=true)(hr:nH P ⟨n,t,J⟩ fn.results.toList λrs=>((kp rs).bx J.length).aE J.length=true/\K ((kp rs).bx J.length) J):HU P fn H.length K .ret ⟨n,t,J⟩:=Mw k1 k2 hr
theorem Sr(e:aw):Cm Tryz.prog 101 [.bk [eV e] 0 0] ((dF e).map aP):=by
 intro k h C kJ hk hs;refine vV h.length Tryz.func101 rfl (by kernel_rfl) (aqc _) ?_;show bH Tryz.prog none h.length _ _ ⟨6,[(0, .cr k),(1, .bk [eV e] 0 0)],h⟩;refine ff ?_;refine bS rfl ?_;refine cF (x:=aP e) (by kernel_rfl) rfl rfl ?_;refine bS rfl ?_;refine cF (x:= .cr k) (by kernel_rfl) rfl rfl ?_;refine bS rfl ?_;refine DZ (g:=102) (db:=[]) rfl rfl rfl ?_;refine(WK e k h C kJ hk hs).mono λr h' hh=> ?_;obtain⟨b,rfl,q0,q1,q2⟩:=hh;refine Mw (n:=6) (t:=[(5, .d (.v (.bool b))),(4, .cr k),(3,aP e),(0, .cr k),(1, .bk [eV e] 0 0)]) q1 q2 ?_;exact⟨rfl,b,q0⟩
def wi(x:cO):aqP bz:=x.bo::x.cT
def pD(e:aw):aqP bz:=e.bo::e.xIdx.flatMap wi
theorem anY(e:aw):Cm Tryz.prog 168 [.bk [eV e] 0 0] ((pD e).map dV):=by
 intro k h C kJ hk rp;have hs:=E9 _ kJ rp;refine vV h.length Tryz.func168 rfl (by kernel_rfl) (aqc _) ?_;show bH Tryz.prog none h.length _ _ ⟨37,[(0, .cr k),(1, .bk [eV e] 0 0)],h⟩
 repeat refine aD ?_
 refine ff ?_;refine bS rfl ?_;refine cF (x:= .cr k) (by kernel_rfl) rfl rfl ?_;refine bS rfl ?_;refine cF (x:= .bk [eV e] 0 9) (by kernel_rfl) rfl rfl ?_;refine bS rfl ?_;refine cF (x:=dV e.bo) (by kernel_rfl) rfl rfl ?_;refine bS rfl ?_;rw[pD,aqq]at hs;refine zQ (k:=k) (x:=dV e.bo) rfl rfl (by kernel_rfl) (by kernel_rfl) rfl rfl ?_;refine YS.mono hs λb J hh=> ?_;obtain⟨⟨k1,k2⟩,k3⟩:=hh;refine bS rfl ?_;refine cF (x:= .d (.v (.bool (!b)))) (by kernel_rfl) rfl rfl ?_;refine bK ?_;cases b with
 |false=>
  refine mg (by kernel_rfl) ?_;refine c8 (dg ?_);exact acT k1 k2 ⟨rfl,false,k3.1⟩
 |true=>
  refine mj (by kernel_rfl) ?_;refine dI ?_;refine bK ?_;simp only[cond_true]at k3
  repeat refine aD ?_
  refine ff ?_;refine bS rfl ?_;refine cF (x:= .bk [eV e] 0 11) (by kernel_rfl) rfl rfl ?_;refine bS rfl ?_;refine cF (x:= .d (.sl (eZ e.xIdx))) (by kernel_rfl) rfl rfl ?_;refine bS rfl ?_;refine cF (x:= .d (.v (.int .i64 (eZ e.xIdx).length))) (by kernel_rfl) rfl rfl ?_;refine bS rfl ?_;refine cF (x:= .d (.v (.int .i64 0))) (by kernel_rfl) rfl rfl ?_;refine bK ?_;refine yT 13 (eZ e.xIdx) (by kernel_rfl) λcd=> ?_;have pW:e.xIdx.length<=maxLen:=by rw[<-ld];exact Iv cd
  rw[ld];refine gq ?_;refine Ki (ι:=Nat×aqP cO×aqP aq) [0,13,14,15] h.length (λi=>⟨37,[(0, .cr k),(13, .d (.sl (eZ e.xIdx))),(14, .d (.v (.int .i64 e.xIdx.length))),(15, .d (.v (.int .i64 i.1)))],i.2.2⟩)
    (λi=>e.xIdx.drop i.1=i.2.1/\oK h i.2.2/\me Tryz.prog k ((i.2.1.flatMap wi).map dV) (λb h2=>C b h2/\oK h h2) i.2.2) (λi=>i.2.1.length) (0,e.xIdx,J) (aqc _) ?_ ?_ ⟨rfl,⟨k1,k2⟩,k3⟩ ?_
  ·rw[<-k1];exact Lu _ (by rw[k1];exact k2) (by
     show(((AV.cr k).bx J.length).aE J.length&&(true&&(true&&(true&&true))))=true;rw[k1,Cd hk];rfl)
  ·rw[<-k1];exact JS _ (by rw[k1];exact k2)
  rintro⟨i,rest,hc⟩ ⟨hd,⟨c1,c2⟩,jx⟩;simp only at hd c1 c2 jx ⊢
  repeat refine aD ?_
  refine ff ?_;refine bS rfl ?_;refine cF (x:= .d (.v (.bool (decide ((i:Int)<(e.xIdx.length:Int)))))) (by kernel_rfl) rfl rfl ?_;refine bK ?_
  repeat refine aD ?_
  cases rest with
  |nil=>
   rw[cu hd];refine mj (by kernel_rfl) ?_;refine oT (lF (lF (rX rfl ?_)));rw[List.flatMap_nil,List.map_nil]at jx;exact Mw c1 c2 ⟨rfl,true,jx.1⟩
  |cons x rest=>
   rw[cv hd];refine mg (by kernel_rfl) ?_;refine dI ?_;refine bK ?_
   repeat refine aD ?_
   refine gq ?_
   repeat refine aD ?_
   refine ff ?_;refine bS rfl ?_;rw[<-aqm hc];refine cF (Nu (q:=i) (e:=55) (k:=4) rfl rfl (by kernel_rfl) (nW (bI hd)) rfl) rfl rfl ?_;refine bS rfl ?_;refine cF (x:=h1 x) (by kernel_rfl) rfl rfl ?_;refine bS rfl ?_;refine Be (TF (l:=[]) (by kernel_rfl)) rfl rfl DM ?_;refine bS rfl ?_;refine TV (P8 (i:=0) (off:=0) (k:=4) (l:=[_]) (v:=h1 x) (cC:=(h1 x).cells) (by kernel_rfl) rfl (by kernel_rfl) rfl (by kernel_rfl) (by kernel_rfl)) rfl S1 ?_;refine bK ?_
   repeat refine aD ?_
   refine ff ?_;refine bS rfl ?_;refine cF (x:= .cr k) (by kernel_rfl) rfl rfl ?_;refine bS rfl ?_;refine cF (x:= .ptr (hc.length+0) 0) (by kernel_rfl) rfl rfl ?_;refine bS rfl ?_;refine cF (wD (i:=0) (off:=0) (l:=[.cells (h1 x).cells]) (x:=dV x.bo) (by kernel_rfl) rfl (by kernel_rfl)) rfl rfl ?_;refine bS rfl ?_;rw[List.flatMap_cons,wi,List.cons_append,aqq]at jx;have hy:=Lh jx [.cells (h1 x).cells] (by rw[c1];exact c2) (by kernel_rfl) (λb h' hh=>hh.1);refine zQ (k:=k) (x:=dV x.bo) rfl rfl (by kernel_rfl) (by kernel_rfl) rfl rfl ?_;refine hy.mono λb h' hh=> ?_;obtain⟨h2,⟨⟨p1,p2⟩,p3⟩,rfl⟩:=hh;refine bS rfl ?_;refine cF (x:= .d (.v (.bool (!b)))) (by kernel_rfl) rfl rfl ?_;refine bK ?_;have q1:h2.length=h.length:=by rw[p1,c1]
   have q2:h2.all (aq.aE h.length)=true:=by rw[c1]at p2;exact p2
   cases b with
   |false=>
    refine mg (by kernel_rfl) ?_;refine c8 ?_
    repeat (first|(with_reducible refine dg ?_)|(with_reducible refine fv ?_))
    exact AS q1 q2 ⟨rfl,false,p3.1⟩
   |true=>
    refine mj (by kernel_rfl) ?_;refine dI ?_;refine bK ?_;simp only[cond_true]at p3
    repeat refine aD ?_
    refine ff ?_;refine bS rfl ?_;refine cF (x:= .ptr (hc.length+0) 3) (by kernel_rfl) rfl rfl ?_;refine bS rfl ?_;refine cF (wD (h:=h2) (i:=0) (off:=3) (l:=[.cells (h1 x).cells]) (x:= .d (.sl (gj x.cT))) (by rw[p1];rfl) rfl (by kernel_rfl)) rfl rfl ?_;refine bS rfl ?_;refine cF (x:= .d (.v (.int .i64 (gj x.cT).length))) (by kernel_rfl) rfl rfl ?_;refine bS rfl ?_;refine cF (x:= .d (.v (.int .i64 0))) (by kernel_rfl) rfl rfl ?_;refine bK ?_;refine yT 25 (gj x.cT) (by kernel_rfl) λaoz=> ?_;have ali:x.cT.length<=maxLen:=by rw[<-jz];exact Iv aoz
    rw[jz];refine gq ?_;refine Ki (ι:=Nat×aqP bz×aqP aq) [0,13,14,15,25,26,27] h.length (λj=>⟨37,[(0, .cr k),(13, .d (.sl (eZ e.xIdx))),(14, .d (.v (.int .i64 e.xIdx.length))),(15, .d (.v (.int .i64 i))),(25, .d (.sl (gj x.cT))),(26, .d (.v (.int .i64 x.cT.length))),(27, .d (.v (.int .i64 j.1)))],j.2.2⟩)
      (λj=>x.cT.drop j.1=j.2.1/\oK h j.2.2/\me Tryz.prog k ((j.2.1++rest.flatMap wi).map dV) (λb h2=>C b h2/\oK h h2) j.2.2) (λj=>j.2.1.length) (0,x.cT,h2) (aqc _) ?_ ?_ ⟨rfl,⟨q1,q2⟩,p3⟩ ?_
    ·rw[<-q1];exact zW _ (by rw[q1];exact q2) (by
       show(((AV.cr k).bx h2.length).aE h2.length&&(true&&(true&&(true&&(true&&(true&&(true&&true)))))))=true;rw[q1,Cd hk];rfl)
    ·rw[<-q1];exact BG _ (by rw[q1];exact q2)
    rintro⟨j,r2,hb⟩ ⟨mE,⟨b1,b2⟩,xa⟩;simp only at mE b1 b2 xa ⊢
    repeat refine aD ?_
    refine ff ?_;refine bS rfl ?_;refine cF (x:= .d (.v (.bool (decide ((j:Int)<(x.cT.length:Int)))))) (by kernel_rfl) rfl rfl ?_;refine bK ?_
    repeat refine aD ?_
    cases r2 with
    |nil=>
     rw[cu mE];refine mj (by kernel_rfl) ?_;refine oT (lF (lF (rX rfl ?_)));refine iU ?_;refine bK ?_;rw[List.nil_append]at xa;refine ff ?_;refine bS rfl ?_;refine cF (x:= .d (.v (.int .i64 ((i+1:Nat):Int)))) (by
       show some ((.d (.v (.int .i64 (aO ((i:Int)+1)))):AV),HD.same)=_;have:=cD hd rfl pW;unfold ar at this;rw[this]) rfl rfl ?_
     refine bS rfl ?_;refine cF (x:= .d (.v (.int .i64 ((i+1:Nat):Int)))) (by kernel_rfl) rfl rfl ?_;refine bK ?_;refine⟨?_,(i+1,rest,hb),?_,⟨ma hd,⟨b1,b2⟩,xa⟩,aqN _⟩
     ·rw[<-b1];exact Lu _ (by rw[b1];exact b2) (by
        show(((AV.cr k).bx hb.length).aE hb.length&&(true&&(true&&(true&&true))))=true;rw[b1,Cd hk];rfl)
     ·rw[<-b1];exact JS _ (by rw[b1];exact b2)
    |cons y r2=>
     rw[cv mE];refine mg (by kernel_rfl) ?_;refine dI ?_;refine bK ?_
     repeat refine aD ?_
     refine gq ?_
     repeat refine aD ?_
     refine ff ?_;refine bS rfl ?_;rw[<-aqm hb];refine cF (Nu (q:=j) (e:=53) (k:=2) rfl rfl (by kernel_rfl) (vN (bI mE)) rfl) rfl rfl ?_;refine bS rfl ?_;refine cF (x:=dV y) (by kernel_rfl) rfl rfl ?_;refine bS rfl ?_;refine Be (TF (l:=[]) (by kernel_rfl)) rfl rfl DM ?_;refine bS rfl ?_;refine TV (P8 (i:=0) (off:=0) (k:=2) (l:=[_]) (v:=dV y) (cC:=(dV y).cells) (by kernel_rfl) rfl (by kernel_rfl) rfl (by kernel_rfl) (by kernel_rfl)) rfl S1 ?_;refine bK ?_
     repeat refine aD ?_
     refine ff ?_;refine bS rfl ?_;refine cF (x:= .cr k) (by kernel_rfl) rfl rfl ?_;refine bS rfl ?_;refine cF (wD (i:=0) (off:=0) (l:=[.cells (dV y).cells]) (x:=dV y) (by kernel_rfl) rfl (by kernel_rfl)) rfl rfl ?_;refine bS rfl ?_;rw[List.cons_append,aqq]at xa;have QN:=Lh xa [.cells (dV y).cells] (by rw[b1];exact b2) (by kernel_rfl) (λb h' hh=>hh.1);refine zQ (k:=k) (x:=dV y) rfl rfl (by kernel_rfl) (by kernel_rfl) rfl rfl ?_;refine QN.mono λb h' hh=> ?_;obtain⟨h3,⟨⟨r1,r3⟩,r4⟩,rfl⟩:=hh;refine bS rfl ?_;refine cF (x:= .d (.v (.bool (!b)))) (by kernel_rfl) rfl rfl ?_;refine bK ?_;have u1:h3.length=h.length:=by rw[r1,b1]
     have u2:h3.all (aq.aE h.length)=true:=by rw[b1]at r3;exact r3
     cases b with
     |false=>
      refine mg (by kernel_rfl) ?_;refine c8 ?_
      repeat (first|(with_reducible refine dg ?_)|(with_reducible refine fv ?_))
      exact AS u1 u2 ⟨rfl,false,r4.1⟩
     |true=>
      refine mj (by kernel_rfl) ?_;refine dI ?_;refine iU ?_;refine bK ?_;simp only[cond_true]at r4;refine ff ?_;refine bS rfl ?_;refine cF (x:= .d (.v (.int .i64 ((j+1:Nat):Int)))) (by
       show some ((.d (.v (.int .i64 (aO ((j:Int)+1)))):AV),HD.same)=_;have:=cD mE rfl ali;unfold ar at this;rw[this]) rfl rfl ?_
      refine bS rfl ?_;refine cF (x:= .d (.v (.int .i64 ((j+1:Nat):Int)))) (by kernel_rfl) rfl rfl ?_;refine bK ?_;refine⟨?_,(j+1,r2,h3),?_,⟨ma mE,⟨u1,u2⟩,r4⟩,aqN _⟩
      ·rw[<-u1];exact zW _ (by rw[u1];exact u2) (by
         show(((AV.cr k).bx h3.length).aE h3.length&&(true&&(true&&(true&&(true&&(true&&(true&&true)))))))=true;rw[u1,Cd hk];rfl)
      ·rw[<-u1];exact BG _ (by rw[u1];exact u2)
theorem aj4(v1:aw):gi Tryz.prog 61 [(aP v1)] (·= .fn 101 [.bk [eV v1] 0 0]):=by
 refine Q1 (r:= .fn 101 [(.ptr 0 0)]) (h:=[.cells (aP v1).cells]) ?_ (by kernel_rfl) rfl;refine rK 1 Tryz.func61 rfl (by kernel_rfl) (ap9 rfl) ?_;refine mz (s':=⟨4,[(0,(aP v1))],[]⟩) (by kernel_rfl) ?_;refine aD ?_;refine rg [] [(1,(.ptr 0 0))] [.cells (aP v1).cells] (by kernel_rfl) ?_;refine aD ?_;refine rg [] [(2,(.fn 101 [(.ptr 0 0)]))] [.cells (aP v1).cells] (by kernel_rfl) ?_;refine c8 ?_;exact jA (by kernel_rfl)
theorem ahH(v1:aw):gi Tryz.prog 108 [(aP v1)] (·= .fn 168 [.bk [eV v1] 0 0]):=by
 refine Q1 (r:= .fn 168 [(.ptr 0 0)]) (h:=[.cells (aP v1).cells]) ?_ (by kernel_rfl) rfl;refine rK 1 Tryz.func108 rfl (by kernel_rfl) (ap9 rfl) ?_;refine mz (s':=⟨4,[(0,(aP v1))],[]⟩) (by kernel_rfl) ?_;refine aD ?_;refine rg [] [(1,(.ptr 0 0))] [.cells (aP v1).cells] (by kernel_rfl) ?_;refine aD ?_;refine rg [] [(2,(.fn 168 [(.ptr 0 0)]))] [.cells (aP v1).cells] (by kernel_rfl) ?_;refine c8 ?_;exact jA (by kernel_rfl)
end Go.Proofs.YtpeecnpmcbnahaaGreatDoor
namespace Go.Proofs.YtpeecnpmcbnahaaGreatDoor
open Go.RowKit Go.Shelf
set_option maxRecDepth 100000
def ano:Ren where
 f:=fun
  |157=>290
  |229=>313
  |199=>314
  |261=>323
  |311=>325
  |312=>326
  |n=>n
 t:=fun
  |9=>9
  |31=>22
  |3=>3
  |5=>5
  |4=>4
  |119=>301
  |0=>0
  |40=>247
  |152=>310
  |21=>21
  |154=>312
  |51=>299
  |141=>314
  |196=>321
  |193=>318
  |198=>324
  |49=>322
  |194=>319
  |201=>327
  |226=>329
  |46=>255
  |227=>330
  |n=>n
 g:=fun
  |0=>0
  |6=>1
  |n=>n
def n7:aqP aqQ:=[bs [115,105,122,101],bs [119,104,101,114,101],bs [105,110],bs [100,101,102],bs [111,117,116],bs [115,117,109],bs [112,114,111,100],bs [109,105,110],bs [109,97,120],bs [115,99,97,110],bs [111,118,101,114],bs [105,102],bs [99,97,115,116],bs [102,114,97,99],bs [105,110,116],bs [102,105,120],bs [99,101,105,108],bs [102,108,111,111,114],bs [122,101,114,111],bs [101,118,101,110],bs [115,97,116],bs [119,114,97,112]]
theorem aiS:Lays.n157 Tryz.prog ano:=by
 constructor<;>first|kernel_rfl|(intro w;rfl)
def CD:aqQ:=⟨#[115,105,122,101,32,119,104,101,114,101,32,105,110,32,100,101,102,32,111,117,116,32,115,117,109,32,112,114,111,100,32,109,105,110,32,109,97,120,32,115,99,97,110,32,111,118,101,114,32,105,102,32,99,97,115,116,32,102,114,97,99,32,105,110,116,32,102,105,120,32,99,101,105,108,32,102,108,111,111,114,32,122,101,114,111,32,101,118,101,110,32,115,97,116,32,119,114,97,112]⟩
theorem akc(w:aqU)(hT:∀c:Nat,c<256->w.cell? ⟨0,c,none⟩=some (.int .u8 (if Lib.isSp (UInt8.ofNat c)then 1 else 0))):
 Calls Tryz.prog 290 #[.string CD] w λe w'=>e= .returned (.slice (some ⟨w.heap.size,0,none⟩) 22 22)/\w'=w.alloc (.cells (n7.map Value.string).toArray 9):=by
 have ha:(CD.data.toList.all λb=>decide (b.toNat<128))=true:=by kernel_rfl
 have h:=Any.strings_Fields_core aiS (by kernel_rfl) CD w (of_decide_eq_true (by kernel_rfl)) (λj b hb=>of_decide_eq_true (aqr.1 ha b (aqe hb))) hT;have e1:(Lib.fields CD.data.toList).length=22:=by kernel_rfl
 have e2:((Lib.fields CD.data.toList).map λl=>Value.string ⟨l.toArray⟩)=n7.map Value.string:=by kernel_rfl
 rw[e1,e2]at h;exact h
theorem akC(w:aqU)(hT:∀c:Nat,c<256->w.cell? ⟨0,c,none⟩=some (.int .u8 (if Lib.isSp (UInt8.ofNat c)then 1 else 0))):
 Calls Tryz.prog 261 #[] w λe w'=>e= .returned (.slice (some ⟨w.heap.size,0,none⟩) 22 22)/\w'=w.alloc (.cells (n7.map Value.string).toArray 9):=by
 go_enter Tryz.func261,Tryz.ntmps261
 go_wp2_with (go_at_call 290;refine(akc _ hT).mono ?_;rintro e w' ⟨rfl,rfl⟩)
 go_ret
 exact⟨rfl,rfl⟩
theorem an4:∀c:Nat,c<256->(yd Gp)[c]?=some (.int .u8 (if Lib.isSp (UInt8.ofNat c)then 1 else 0)):=λc hc=>by
 rw[show yd Gp=(List.range 256).map λc=>Value.int .u8 (if Lib.isSp (UInt8.ofNat c)then 1 else 0) by kernel_rfl,ap8,List.getElem?_range hc];rfl
theorem aki:gi Tryz.prog 261 [] (·= .d (.sl (ep n7))):=by
 refine⟨by kernel_rfl,λG w vs hi hl hr=> ?_⟩;obtain rfl:vs= #[]:=Array.size_eq_zero_iff.1 hl;refine(akC w λc hc=> ?_).mono λe w' hp=> ?_
 ·exact(hi.gl.1 0 (yd Gp) ap7 c _ (an4 c hc)).2
 ·obtain⟨rfl,rfl⟩:=hp;obtain⟨i1,i2⟩:=XJ hi (.cells (n7.map Value.string).toArray 9) 22;have wY:Rd (G.pZ w.heap.size 22).S (w.alloc (.cells (n7.map Value.string).toArray 9)) 1 (ep n7) (n7.map Value.string):=
   ⟨rfl,λx hx=>(by obtain⟨y,_,rfl⟩:=List.mem_map.1 hx;rfl),λu hu=>(by obtain⟨y,_,rfl⟩:=List.mem_map.1 hu;rfl),λi j x d hx hd=>by
    rw[nu,ap8]at hx;cases hk:n7[i]? with
    |none=>rw[hk]at hx;cases hx
    |some y=>
     rw[hk]at hx;cases hx;cases j with
     |zero=>cases hd;exact⟨.string y,by rw[Nat.mul_one,Nat.add_zero,ap8,hk];rfl, .v _⟩
     |succ j=>cases hd⟩
  have hp:=wY.Ft w.heap.size 22 (by decide) (by decide) (λo ho=> .inr ⟨rfl,ho⟩) (λo u hu=>by
   rw[World.cell?_alloc_new,List.getElem?_toArray];exact hu)
  exact⟨_,_,_,_,rfl,i1,aqc _,i2, .d hp,rfl,rfl⟩
end Go.Proofs.YtpeecnpmcbnahaaGreatDoor
namespace Go.Proofs.YtpeecnpmcbnahaaGreatDoor
open Go.RowKit
set_option maxRecDepth 1000000
end Go.Proofs.YtpeecnpmcbnahaaGreatDoor
