/- No conditions. -/
import Derived.Test.YtdbfbedholdjaaaGreatGDC
import Derived.Test.YtdbfbedholdjaaaGreatGPz
import Derived.Test.YtdbfbedholdjaaaGreatGDE
set_option linter.unusedVariables false
set_option linter.unusedSectionVars false
set_option linter.unusedSimpArgs false
namespace Go.Proofs.YtdbfbedholdjaaaGreat
open Go Go.Dl
variable [dK]
abbrev aOE:Bytes:=[84,79,78]
abbrev aOF:Bytes:=[84,79,70]
abbrev wTP:Bytes:=[84,80]
abbrev aOG:Bytes:=[67,84,85]
abbrev aOH:Bytes:=[67,84,68]
abbrev yD:Bytes:=[82,95,84,82,73,71]
abbrev yE:Bytes:=[70,95,84,82,73,71]
abbrev vA:Bytes:=[84,72,73,83]
abbrev pU:Bytes:=[83,85,80,69,82]
abbrev wIF:Bytes:=[73,70]
abbrev aGV:Bytes:=[67,65,83,69]
abbrev aCJ:Bytes:=[87,72,73,76,69]
abbrev aOM:Bytes:=[70,79,82]
abbrev yG:Bytes:=[82,69,84,85,82,78]
abbrev aGW:Bytes:=[69,88,73,84]
abbrev aGX:Bytes:=[83,84,69,80]
abbrev aOO:Bytes:=[43]
abbrev z6:Bytes:=[45]
abbrev aOP:Bytes:=[42]
abbrev aOQ:Bytes:=[47]
abbrev aOR:Bytes:=[77,79,68]
abbrev aOS:Bytes:=[61]
abbrev yH:Bytes:=[60,62]
abbrev aOT:Bytes:=[60]
abbrev yI:Bytes:=[60,61]
abbrev aOU:Bytes:=[62]
abbrev yJ:Bytes:=[62,61]
abbrev aOV:Bytes:=[65,78,68]
abbrev wOR:Bytes:=[79,82]
abbrev aOW:Bytes:=[88,79,82]
abbrev aOX:Bytes:=[78,79,84]
abbrev aGY:Bytes:=[84,82,85,69]
abbrev aCK:Bytes:=[70,65,76,83,69]
abbrev aGZ:Bytes:=[78,85,76,76]
abbrev aOY:Bytes:=[82,69,70]
abbrev aG0:Bytes:=[68,79,78,69]
abbrev aCL:Bytes:=[67,79,85,78,84]
abbrev wAS:Bytes:=[65,83]
abbrev aOZ:Bytes:=[40]
abbrev aO5:Bytes:=[69,76,83,73,70]
abbrev aCQ:Bytes:=[69,76,83,69]
abbrev aSw:Bytes:=[69,78,68,95,73,70]
abbrev aLH:Bytes:=[48]
abbrev nX:Bytes:=[69,78,68,95,67,65,83,69]
abbrev wx:Bytes:=[120]
abbrev wP:Bytes:=[80]
abbrev aLW:Bytes:=[32]
end Go.Proofs.YtdbfbedholdjaaaGreat

namespace Go.Proofs.YtdbfbedholdjaaaGreat
open Go Go.Dl
variable [dK]
def E3:El Int:=⟨3,1,fun x=>[.val (.int .i64 x)],default⟩
def E9:El Bytes:=⟨9,1,fun x=>[.str x],default⟩
structure qM where
 bR:Int
 aCG:Bytes
 fN:Int
 fAt:Int
deriving Inhabited,DecidableEq
def qM.cs (x:qM):List C:=[.val (.int .i64 x.bR),.str x.aCG,.val (.int .i64 x.fN),.val (.int .i64 x.fAt)]
def oK:El qM:=⟨153,4,qM.cs,default⟩
structure cC where
 ft:(List qM)
 qJ:Int
 aGR:Int
 iS:Int
 aGS:Int
deriving Inhabited,DecidableEq
def cC.cs (x:cC):List C:=[oK.tree x.ft,.val (.int .i64 x.qJ),.val (.int .i64 x.aGR),.val (.int .i64 x.iS),.val (.int .i64 x.aGS)]
def cV:El cC:=⟨110,5,cC.cs,default⟩
structure cI where
 bR:Int
 fN:Int
 cD:Bytes
 xS:Bytes
 fM:(List cI)
deriving Inhabited
mutual
def cI.ct:cI→List C
 | ⟨a0,a1,a2,a3,a4⟩=>[.val (.int .i64 a0),.val (.int .i64 a1),.str a2,.str a3,.tree 5 a4.length (wN (cI.ctl a4))]
def cI.ctl:List cI→List (List C)
 | []=>[]
 | x::r=>cI.ct x::cI.ctl r
end
theorem cI.aCT:∀ l,cI.ctl l=l.map cI.ct
 | []=>by rw[cI.ctl];rfl
 | x::r=>by rw[cI.ctl,cI.aCT r];rfl
def qH (l:List cI):C:=.tree 5 l.length (wN (l.map cI.ct))
def cI.cs (x:cI):List C:=[.val (.int .i64 x.bR),.val (.int .i64 x.fN),.str x.cD,.str x.xS,qH x.fM]
theorem cI.aG8:∀ x:cI,x.ct=x.cs
 | ⟨a0,a1,a2,a3,a4⟩=>by rw[cI.ct,cI.aCT];rfl
def cL:El cI:=⟨195,5,cI.cs,default⟩
theorem tF (l:List cI):hO (qH l) (cL.tree l):=aMI cL cI.ct cI.aG8 l
theorem qL (l:List cI):hO (cL.tree l) (qH l):=aTn cL cI.ct cI.aG8 l
def kJ:El (List Int):=⟨45,1,fun x=>[E3.tree x],default⟩
structure cG where
 bR:Int
 fN:Int
 cD:Bytes
 cT:(List cI)
 eT:(List (List Int))
 bY:(List (List cG))
deriving Inhabited
mutual
def cG.ct:cG→List C
 | ⟨a0,a1,a2,a3,a4,a5⟩=>[.val (.int .i64 a0),.val (.int .i64 a1),.str a2,cL.tree a3,kJ.tree a4,.tree 1 a5.length (wN (cG.aPA a5))]
def cG.ctl:List cG→List (List C)
 | []=>[]
 | x::r=>cG.ct x::cG.ctl r
def cG.aPA:List (List cG)→List (List C)
 | []=>[]
 | x::r=>[.tree 6 x.length (wN (cG.ctl x))]::cG.aPA r
end
theorem cG.aCT:∀ l,cG.ctl l=l.map cG.ct
 | []=>by rw[cG.ctl];rfl
 | x::r=>by rw[cG.ctl,cG.aCT r];rfl
def aEe (l:List cG):C:=.tree 6 l.length (wN (l.map cG.ct))
def lX (l:List (List cG)):C:=.tree 1 l.length (wN (l.map fun b=>[aEe b]))
theorem cG.aKj:∀ l,cG.aPA l=l.map fun b=>[aEe b]
 | []=>by rw[cG.aPA];rfl
 | x::r=>by rw[cG.aPA,cG.aKj r,cG.aCT];rfl
def cG.cs (x:cG):List C:=[.val (.int .i64 x.bR),.val (.int .i64 x.fN),.str x.cD,cL.tree x.cT,kJ.tree x.eT,lX x.bY]
theorem cG.aG8:∀ x:cG,x.ct=x.cs
 | ⟨a0,a1,a2,a3,a4,a5⟩=>by rw[cG.ct,cG.aKj];rfl
def dO:El cG:=⟨179,6,cG.cs,default⟩
theorem aPB (l:List cG):hO (aEe l) (dO.tree l):=aMI dO cG.ct cG.aG8 l
theorem aPC (l:List cG):hO (dO.tree l) (aEe l):=aTn dO cG.ct cG.aG8 l
def jQ:El (List cG):=⟨33,1,fun x=>[dO.tree x],default⟩
theorem jM (l:List (List cG)):hO (lX l) (jQ.tree l):=aUK dO jQ rfl (fun _=>rfl) aEe aPB l
theorem uK (l:List (List cG)):hO (jQ.tree l) (lX l):=aUL dO jQ rfl (fun _=>rfl) aEe aPC l
structure fU where
 bR:Int
 fLo:Int
 fHi:Int
 cD:Bytes
deriving Inhabited,DecidableEq
def fU.cs (x:fU):List C:=[.val (.int .i64 x.bR),.val (.int .i64 x.fLo),.val (.int .i64 x.fHi),.str x.cD]
def kD:El fU:=⟨37,4,fU.cs,default⟩
structure fE where
 cD:Bytes
 cO:fU
 dU:Int
 kO:Int
 lW:Int
deriving Inhabited,DecidableEq
def fE.cs (x:fE):List C:=[.str x.cD,.val (.int .i64 x.cO.bR),.val (.int .i64 x.cO.fLo),.val (.int .i64 x.cO.fHi),.str x.cO.cD,.val (.int .i64 x.dU),.val (.int .i64 x.kO),.val (.int .i64 x.lW)]
def eX:El fE:=⟨41,8,fE.cs,default⟩
def E4:El Bool:=⟨4,1,fun x=>[.val (.bool x)],default⟩
structure iT where
 cD:Bytes
 aDQ:Bool
 eQ:Bool
 tE:Bool
 cN:(List fE)
 eY:fU
 cH:(List fE)
 rP:(List cG)
deriving Inhabited
def iT.cs (x:iT):List C:=[.str x.cD,.val (.bool x.aDQ),.val (.bool x.eQ),.val (.bool x.tE),eX.tree x.cN,.val (.int .i64 x.eY.bR),.val (.int .i64 x.eY.fLo),.val (.int .i64 x.eY.fHi),.str x.eY.cD,eX.tree x.cH,dO.tree x.rP]
def j3:El iT:=⟨39,11,iT.cs,default⟩
def E30:El (List Bytes):=⟨30,1,fun x=>[E9.tree x],default⟩
structure gX where
 bR:Int
 cD:Bytes
 fV:Bytes
 cK:(List Bytes)
 eQ:Bool
 tE:Bool
 cH:(List fE)
 bQ:(List iT)
 rP:(List cG)
 rA:Int
 rB:Int
deriving Inhabited
def gX.cs (x:gX):List C:=[.val (.int .i64 x.bR),.str x.cD,.str x.fV,E9.tree x.cK,.val (.bool x.eQ),.val (.bool x.tE),eX.tree x.cH,j3.tree x.bQ,dO.tree x.rP,.val (.int .i64 x.rA),.val (.int .i64 x.rB)]
def gT:El gX:=⟨35,11,gX.cs,default⟩
structure cM where
 bM:(List gX)
deriving Inhabited
def cM.cs (x:cM):List C:=[gT.tree x.bM]
def dP:El cM:=⟨25,1,cM.cs,default⟩
structure dR where
 c6:Int
 dJ:Int
deriving Inhabited,DecidableEq
def dR.cs (x:dR):List C:=[.val (.int .i64 x.c6),.val (.int .i64 x.dJ)]
def eD:El dR:=⟨66,2,dR.cs,default⟩
structure wO where
 uV:Bool
 jH:(List UInt8)
deriving Inhabited
def E5:El UInt8:=⟨5,1,fun x=>[.val (.int .u8 (Int.ofNat x.toNat))],default⟩
structure aDC where
 fK:Int
 fA:Int
 fB:Int
deriving Inhabited,DecidableEq
def aDC.cs (x:aDC):List C:=[.val (.int .i64 x.fK),.val (.int .i64 x.fA),.val (.int .i64 x.fB)]
def zZ:El aDC:=⟨170,3,aDC.cs,default⟩
structure uF where
 aFA:Int
 cN:Bytes
 aFB:Bytes
 aWB:Bool
 aIS:Int
 aIj:(List aDC)
deriving Inhabited,DecidableEq
def uF.cs (x:uF):List C:=[.val (.int .i64 x.aFA),.str x.cN,.str x.aFB,.val (.bool x.aWB),.val (.int .i64 x.aIS),zZ.tree x.aIj]
def zY:El uF:=⟨62,6,uF.cs,default⟩
structure q9 where
 aCS:Int
 zR:(List Int)
deriving Inhabited,DecidableEq
def q9.cs (x:q9):List C:=[.val (.int .i64 x.aCS),E3.tree x.zR]
def aFC:El q9:=⟨135,2,q9.cs,default⟩
structure S56 where
 fV:Int
 uL:Bytes
 dU:(List Int)
 pJ:(List Int)
 rO:(List Bytes)
 fZ:(List q9)
deriving Inhabited,DecidableEq
def S56.cs (x:S56):List C:=[.val (.int .i64 x.fV),.str x.uL,E3.tree x.dU,E3.tree x.pJ,E9.tree x.rO,aFC.tree x.fZ]
def yA:El S56:=⟨56,6,S56.cs,default⟩
structure jU where
 aFz:Int
 lW:Int
 aO9:Bool
deriving Inhabited,DecidableEq
def jU.cs (x:jU):List C:=[.val (.int .i64 x.aFz),.val (.int .i64 x.lW),.val (.bool x.aO9)]
def iZ:El jU:=⟨137,3,jU.cs,default⟩
structure S85 where
 yM:Int
 rA:Int
 rB:Int
deriving Inhabited,DecidableEq
def S85.cs (x:S85):List C:=[.val (.int .i64 x.yM),.val (.int .i64 x.rA),.val (.int .i64 x.rB)]
def E85:El S85:=⟨85,3,S85.cs,default⟩
structure gK where
 cK:(List (List Bytes))
 cS:(List S56)
 dQ:(List uF)
 eM:(List Int)
 dS:Bytes
 dU:(List Int)
 bY:(List Int)
 iK:(List jU)
 fJ:(List jU)
 eV:(List S85)
 fD:Int
 fW:Int
deriving Inhabited
def gK.oc (x:gK) (o0:Nat) (o1:Nat) (o2:Nat) (o3:Nat) (o4:Nat) (o5:Nat) (o6:Nat) (o7:Nat) (o8:Nat):List C:=[.own o0 x.cK.length,.own o1 x.cS.length,.own o2 x.dQ.length,.own o3 x.eM.length,.str x.dS,.own o4 x.dU.length,.own o5 x.bY.length,.own o6 x.iK.length,.own o7 x.fJ.length,.own o8 x.eV.length,.val (.int .i64 x.fD),.val (.int .i64 x.fW)]
def gK.cs (x:gK):List C:=[E30.tree x.cK,yA.tree x.cS,zY.tree x.dQ,E3.tree x.eM,.str x.dS,E3.tree x.dU,E3.tree x.bY,iZ.tree x.iK,iZ.tree x.fJ,E85.tree x.eV,.val (.int .i64 x.fD),.val (.int .i64 x.fW)]
def vC:El gK:=⟨49,12,gK.cs,default⟩
structure uJ where
 yM:Int
 fAt:Int
deriving Inhabited,DecidableEq
def uJ.cs (x:uJ):List C:=[.val (.int .i64 x.yM),.val (.int .i64 x.fAt)]
def zW:El uJ:=⟨73,2,uJ.cs,default⟩
abbrev oX0:Go.Dl.Obj:=.cells [.nil,.nil,.nil,.nil,.str [],.nil,.nil,.nil,.nil,.nil,iC 0,iC 0]
abbrev wK:Go.Dl.Obj:=.cells [iC 0,iC 0,.str [],.nil,.nil,.nil]
abbrev oX2:Go.Dl.Obj:=.cells [iC 0,.str [],.str [],.nil,bC false,bC false,.nil,.nil,.nil,iC 0,iC 0]
abbrev oX3:Go.Dl.Obj:=.cells [iC 0,.str [],.nil,.nil,.nil,.nil]
abbrev uI:Go.Dl.Obj:=.cells [iC 0,iC 0,iC 0,.str []]
abbrev oX5:Go.Dl.Obj:=.cells [iC 0,.str [],iC 0,iC 0]
abbrev oX6:Go.Dl.Obj:=.cells [iC 0,iC 0,.str [],.str [],.nil]
abbrev oX7:Go.Dl.Obj:=.cells [.str [],iC 0,iC 0,iC 0,.str [],iC 0,iC 0,iC 0]
end Go.Proofs.YtdbfbedholdjaaaGreat
