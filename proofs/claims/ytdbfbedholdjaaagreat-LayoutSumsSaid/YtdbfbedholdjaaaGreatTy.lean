/- No conditions. -/
import Derived.Test.YtdbfbedholdjaaaGreatDC
import Derived.Test.YtdbfbedholdjaaaGreatP0
import Derived.Test.YtdbfbedholdjaaaGreatDE
set_option linter.unusedVariables false
set_option linter.unusedSectionVars false
set_option linter.unusedSimpArgs false
namespace Go.Proofs.YtdbfbedholdjaaaGreat
open Go Go.Dl
variable [eC]
abbrev aHa:Bytes:=[84,79,78]
abbrev aHb:Bytes:=[84,79,70]
abbrev wTP:Bytes:=[84,80]
abbrev aHc:Bytes:=[67,84,85]
abbrev aHd:Bytes:=[67,84,68]
abbrev rY:Bytes:=[82,95,84,82,73,71]
abbrev rZ:Bytes:=[70,95,84,82,73,71]
abbrev pO:Bytes:=[84,72,73,83]
abbrev lZ:Bytes:=[83,85,80,69,82]
abbrev wIF:Bytes:=[73,70]
abbrev aBR:Bytes:=[67,65,83,69]
abbrev wN:Bytes:=[87,72,73,76,69]
abbrev aHh:Bytes:=[70,79,82]
abbrev sA:Bytes:=[82,69,84,85,82,78]
abbrev aBS:Bytes:=[69,88,73,84]
abbrev aBT:Bytes:=[83,84,69,80]
abbrev aHi:Bytes:=[43]
abbrev uM:Bytes:=[45]
abbrev aHj:Bytes:=[42]
abbrev aHk:Bytes:=[47]
abbrev aHl:Bytes:=[77,79,68]
abbrev aHm:Bytes:=[61]
abbrev sC:Bytes:=[60,62]
abbrev aHn:Bytes:=[60]
abbrev sD:Bytes:=[60,61]
abbrev aHo:Bytes:=[62]
abbrev sF:Bytes:=[62,61]
abbrev aHp:Bytes:=[65,78,68]
abbrev wOR:Bytes:=[79,82]
abbrev aHq:Bytes:=[88,79,82]
abbrev aHr:Bytes:=[78,79,84]
abbrev aBU:Bytes:=[84,82,85,69]
abbrev wO:Bytes:=[70,65,76,83,69]
abbrev aBV:Bytes:=[78,85,76,76]
abbrev aHs:Bytes:=[82,69,70]
abbrev aBW:Bytes:=[68,79,78,69]
abbrev wQ:Bytes:=[67,79,85,78,84]
abbrev wAS:Bytes:=[65,83]
abbrev aHt:Bytes:=[40]
abbrev uN:Bytes:=[69,76,83,73,70]
abbrev yC:Bytes:=[69,76,83,69]
abbrev xF:Bytes:=[69,78,68,95,73,70]
abbrev aMn:Bytes:=[48]
abbrev mP:Bytes:=[69,78,68,95,67,65,83,69]
abbrev wx:Bytes:=[120]
abbrev wP:Bytes:=[80]
abbrev aMz:Bytes:=[32]
end Go.Proofs.YtdbfbedholdjaaaGreat

namespace Go.Proofs.YtdbfbedholdjaaaGreat
open Go Go.Dl
variable [eC]
def E3:El Int:=⟨3,1,fun x=>[.val (.int .i64 x)],default⟩
def E9:El Bytes:=⟨9,1,fun x=>[.str x],default⟩
structure tS where
 bP:Int
 aBP:Bytes
 fN:Int
 zF:Int
deriving Inhabited,DecidableEq
def tS.cs (x:tS):List C:=[.val (.int .i64 x.bP),.str x.aBP,.val (.int .i64 x.fN),.val (.int .i64 x.zF)]
def mI:El tS:=⟨153,4,tS.cs,default⟩
structure cB where
 ft:(List tS)
 qE:Int
 aG8:Int
 iN:Int
 aCe:Int
deriving Inhabited,DecidableEq
def cB.cs (x:cB):List C:=[mI.tree x.ft,.val (.int .i64 x.qE),.val (.int .i64 x.aG8),.val (.int .i64 x.iN),.val (.int .i64 x.aCe)]
def cL:El cB:=⟨110,5,cB.cs,default⟩
structure cM where
 bP:Int
 fN:Int
 cG:Bytes
 wE:Bytes
 gD:(List cM)
deriving Inhabited
mutual
def cM.ct:cM→List C
 | ⟨a0,a1,a2,a3,a4⟩=>[.val (.int .i64 a0),.val (.int .i64 a1),.str a2,.str a3,.tree 5 a4.length (hG (cM.ctl a4))]
def cM.ctl:List cM→List (List C)
 | []=>[]
 | x::r=>cM.ct x::cM.ctl r
end
theorem cM.aD2:∀ l,cM.ctl l=l.map cM.ct
 | []=>by rw[cM.ctl];rfl
 | x::r=>by rw[cM.ctl,cM.aD2 r];rfl
def tM (l:List cM):C:=.tree 5 l.length (hG (l.map cM.ct))
def cM.cs (x:cM):List C:=[.val (.int .i64 x.bP),.val (.int .i64 x.fN),.str x.cG,.str x.wE,tM x.gD]
theorem cM.aHE:∀ x:cM,x.ct=x.cs
 | ⟨a0,a1,a2,a3,a4⟩=>by rw[cM.ct,cM.aD2];rfl
def cA:El cM:=⟨195,5,cM.cs,default⟩
theorem wF (l:List cM):eD (tM l) (cA.tree l):=aNl cA cM.ct cM.aHE l
theorem tQ (l:List cM):eD (cA.tree l) (tM l):=aSL cA cM.ct cM.aHE l
def lJ:El (List Int):=⟨45,1,fun x=>[E3.tree x],default⟩
structure cJ where
 bP:Int
 fN:Int
 cG:Bytes
 cT:(List cM)
 eP:(List (List Int))
 bX:(List (List cJ))
deriving Inhabited
mutual
def cJ.ct:cJ→List C
 | ⟨a0,a1,a2,a3,a4,a5⟩=>[.val (.int .i64 a0),.val (.int .i64 a1),.str a2,cA.tree a3,lJ.tree a4,.tree 1 a5.length (hG (cJ.aPd a5))]
def cJ.ctl:List cJ→List (List C)
 | []=>[]
 | x::r=>cJ.ct x::cJ.ctl r
def cJ.aPd:List (List cJ)→List (List C)
 | []=>[]
 | x::r=>[.tree 6 x.length (hG (cJ.ctl x))]::cJ.aPd r
end
theorem cJ.aD2:∀ l,cJ.ctl l=l.map cJ.ct
 | []=>by rw[cJ.ctl];rfl
 | x::r=>by rw[cJ.ctl,cJ.aD2 r];rfl
def aE8 (l:List cJ):C:=.tree 6 l.length (hG (l.map cJ.ct))
def nE (l:List (List cJ)):C:=.tree 1 l.length (hG (l.map fun b=>[aE8 b]))
theorem cJ.aKX:∀ l,cJ.aPd l=l.map fun b=>[aE8 b]
 | []=>by rw[cJ.aPd];rfl
 | x::r=>by rw[cJ.aPd,cJ.aKX r,cJ.aD2];rfl
def cJ.cs (x:cJ):List C:=[.val (.int .i64 x.bP),.val (.int .i64 x.fN),.str x.cG,cA.tree x.cT,lJ.tree x.eP,nE x.bX]
theorem cJ.aHE:∀ x:cJ,x.ct=x.cs
 | ⟨a0,a1,a2,a3,a4,a5⟩=>by rw[cJ.ct,cJ.aKX];rfl
def dL:El cJ:=⟨179,6,cJ.cs,default⟩
theorem aPe (l:List cJ):eD (aE8 l) (dL.tree l):=aNl dL cJ.ct cJ.aHE l
theorem aPf (l:List cJ):eD (dL.tree l) (aE8 l):=aSL dL cJ.ct cJ.aHE l
def jA:El (List cJ):=⟨33,1,fun x=>[dL.tree x],default⟩
theorem kV (l:List (List cJ)):eD (nE l) (jA.tree l):=aTS dL jA rfl (fun _=>rfl) aE8 aPe l
theorem xE (l:List (List cJ)):eD (jA.tree l) (nE l):=aTT dL jA rfl (fun _=>rfl) aE8 aPf l
structure fP where
 bP:Int
 fLo:Int
 vG:Int
 cG:Bytes
deriving Inhabited,DecidableEq
def fP.cs (x:fP):List C:=[.val (.int .i64 x.bP),.val (.int .i64 x.fLo),.val (.int .i64 x.vG),.str x.cG]
def gC:El fP:=⟨37,4,fP.cs,default⟩
structure fG where
 cG:Bytes
 cI:fP
 fY:Int
 l9:Int
 gF:Int
deriving Inhabited,DecidableEq
def fG.cs (x:fG):List C:=[.str x.cG,.val (.int .i64 x.cI.bP),.val (.int .i64 x.cI.fLo),.val (.int .i64 x.cI.vG),.str x.cI.cG,.val (.int .i64 x.fY),.val (.int .i64 x.l9),.val (.int .i64 x.gF)]
def eU:El fG:=⟨41,8,fG.cs,default⟩
def E4:El Bool:=⟨4,1,fun x=>[.val (.bool x)],default⟩
structure iI where
 cG:Bytes
 aES:Bool
 eN:Bool
 wD:Bool
 cV:(List fG)
 fH:fP
 cU:(List fG)
 uV:(List cJ)
deriving Inhabited
def iI.cs (x:iI):List C:=[.str x.cG,.val (.bool x.aES),.val (.bool x.eN),.val (.bool x.wD),eU.tree x.cV,.val (.int .i64 x.fH.bP),.val (.int .i64 x.fH.fLo),.val (.int .i64 x.fH.vG),.str x.fH.cG,eU.tree x.cU,dL.tree x.uV]
def kT:El iI:=⟨39,11,iI.cs,default⟩
def E30:El (List Bytes):=⟨30,1,fun x=>[E9.tree x],default⟩
structure jX where
 bP:Int
 cG:Bytes
 lE:Bytes
 dZ:(List Bytes)
 eN:Bool
 wD:Bool
 cU:(List fG)
 bN:(List iI)
 uV:(List cJ)
 wH:Int
 uE:Int
deriving Inhabited
def jX.cs (x:jX):List C:=[.val (.int .i64 x.bP),.str x.cG,.str x.lE,E9.tree x.dZ,.val (.bool x.eN),.val (.bool x.wD),eU.tree x.cU,kT.tree x.bN,dL.tree x.uV,.val (.int .i64 x.wH),.val (.int .i64 x.uE)]
def iY:El jX:=⟨35,11,jX.cs,default⟩
structure dD where
 bK:(List jX)
deriving Inhabited
def dD.cs (x:dD):List C:=[iY.tree x.bK]
def dQ:El dD:=⟨25,1,dD.cs,default⟩
structure dX where
 dA:Int
 dH:Int
deriving Inhabited,DecidableEq
def dX.cs (x:dX):List C:=[.val (.int .i64 x.dA),.val (.int .i64 x.dH)]
def dS:El dX:=⟨66,2,dX.cs,default⟩
structure zL where
 xW:Bool
 kM:(List UInt8)
deriving Inhabited
def E5:El UInt8:=⟨5,1,fun x=>[.val (.int .u8 (Int.ofNat x.toNat))],default⟩
structure aPg where
 fK:Int
 fA:Int
 fB:Int
deriving Inhabited,DecidableEq
def aPg.cs (x:aPg):List C:=[.val (.int .i64 x.fK),.val (.int .i64 x.fA),.val (.int .i64 x.fB)]
def aOI:El aPg:=⟨170,3,aPg.cs,default⟩
structure uW where
 aO0:Int
 cV:Bytes
 aR0:Bytes
 aZ9:Bool
 aU4:Int
 a0a:(List aPg)
deriving Inhabited,DecidableEq
def uW.cs (x:uW):List C:=[.val (.int .i64 x.aO0),.str x.cV,.str x.aR0,.val (.bool x.aZ9),.val (.int .i64 x.aU4),aOI.tree x.a0a]
def E62:El uW:=⟨62,6,uW.cs,default⟩
structure nM where
 aYg:Int
 aU5:(List Int)
deriving Inhabited,DecidableEq
def nM.cs (x:nM):List C:=[.val (.int .i64 x.aYg),E3.tree x.aU5]
def aBo:El nM:=⟨135,2,nM.cs,default⟩
structure S56 where
 lE:Int
 aKY:Bytes
 fY:(List Int)
 aKZ:(List Int)
 aPh:(List Bytes)
 aR1:(List nM)
deriving Inhabited,DecidableEq
def S56.cs (x:S56):List C:=[.val (.int .i64 x.lE),.str x.aKY,E3.tree x.fY,E3.tree x.aKZ,E9.tree x.aPh,aBo.tree x.aR1]
def E56:El S56:=⟨56,6,S56.cs,default⟩
structure gJ where
 aR2:Int
 gF:Int
 aYh:Bool
deriving Inhabited,DecidableEq
def gJ.cs (x:gJ):List C:=[.val (.int .i64 x.aR2),.val (.int .i64 x.gF),.val (.bool x.aYh)]
def iZ:El gJ:=⟨137,3,gJ.cs,default⟩
structure yG where
 oL:Int
 wH:Int
 uE:Int
deriving Inhabited,DecidableEq
def yG.cs (x:yG):List C:=[.val (.int .i64 x.oL),.val (.int .i64 x.wH),.val (.int .i64 x.uE)]
def E85:El yG:=⟨85,3,yG.cs,default⟩
structure j6 where
 dZ:(List (List Bytes))
 dW:(List S56)
 fO:(List uW)
 eO:(List Int)
 fM:Bytes
 fY:(List Int)
 bX:(List Int)
 jN:(List gJ)
 fV:(List gJ)
 kJ:(List yG)
 fD:Int
 fW:Int
deriving Inhabited
def j6.oc (x:j6) (o0:Nat) (o1:Nat) (o2:Nat) (o3:Nat) (o4:Nat) (o5:Nat) (o6:Nat) (o7:Nat) (o8:Nat):List C:=[.own o0 x.dZ.length,.own o1 x.dW.length,.own o2 x.fO.length,.own o3 x.eO.length,.str x.fM,.own o4 x.fY.length,.own o5 x.bX.length,.own o6 x.jN.length,.own o7 x.fV.length,.own o8 x.kJ.length,.val (.int .i64 x.fD),.val (.int .i64 x.fW)]
def j6.cs (x:j6):List C:=[E30.tree x.dZ,E56.tree x.dW,E62.tree x.fO,E3.tree x.eO,.str x.fM,E3.tree x.fY,E3.tree x.bX,iZ.tree x.jN,iZ.tree x.fV,E85.tree x.kJ,.val (.int .i64 x.fD),.val (.int .i64 x.fW)]
def E49:El j6:=⟨49,12,j6.cs,default⟩
structure oC where
 oL:Int
 zF:Int
deriving Inhabited,DecidableEq
def oC.cs (x:oC):List C:=[.val (.int .i64 x.oL),.val (.int .i64 x.zF)]
def tA:El oC:=⟨73,2,oC.cs,default⟩
abbrev oX0:Go.Dl.Obj:=.cells [.nil,.nil,.nil,.nil,.str [],.nil,.nil,.nil,.nil,.nil,iC 0,iC 0]
abbrev oJ:Go.Dl.Obj:=.cells [iC 0,iC 0,.str [],.nil,.nil,.nil]
abbrev oX2:Go.Dl.Obj:=.cells [iC 0,.str [],.nil,.nil,.nil,.nil]
abbrev oX3:Go.Dl.Obj:=.cells [iC 0,.str [],.str [],.nil,bC false,bC false,.nil,.nil,.nil,iC 0,iC 0]
abbrev qC:Go.Dl.Obj:=.cells [iC 0,iC 0,iC 0,.str []]
abbrev oX5:Go.Dl.Obj:=.cells [.str [],bC false,bC false,bC false,.nil,iC 0,iC 0,iC 0,.str [],.nil,.nil]
abbrev oX6:Go.Dl.Obj:=.cells [iC 0,iC 0,.str [],.str [],.nil]
abbrev oX7:Go.Dl.Obj:=.cells [iC 0,.str [],iC 0,iC 0]
abbrev oX8:Go.Dl.Obj:=.cells [iC 0,.str [],.str [],bC false,iC 0,.nil]
abbrev oX9:Go.Dl.Obj:=.cells [.str [],iC 0,iC 0,iC 0,.str [],iC 0,iC 0,iC 0]
end Go.Proofs.YtdbfbedholdjaaaGreat
