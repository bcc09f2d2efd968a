/- No conditions. -/
import Derived.Test.YtdbfbedholdjaaaGreatPDC
import Derived.Test.YtdbfbedholdjaaaGreatPPz
import Derived.Test.YtdbfbedholdjaaaGreatPDE
set_option linter.unusedVariables false
set_option linter.unusedSectionVars false
set_option linter.unusedSimpArgs false
namespace Go.Proofs.YtdbfbedholdjaaaGreat
open Go Go.Dl
variable [dW]
abbrev aHj:Bytes:=[84,79,78]
abbrev aHk:Bytes:=[84,79,70]
abbrev wTP:Bytes:=[84,80]
abbrev aHl:Bytes:=[67,84,85]
abbrev aHm:Bytes:=[67,84,68]
abbrev sA:Bytes:=[82,95,84,82,73,71]
abbrev sC:Bytes:=[70,95,84,82,73,71]
abbrev pN:Bytes:=[84,72,73,83]
abbrev lX:Bytes:=[83,85,80,69,82]
abbrev wIF:Bytes:=[73,70]
abbrev aBT:Bytes:=[67,65,83,69]
abbrev wO:Bytes:=[87,72,73,76,69]
abbrev aHq:Bytes:=[70,79,82]
abbrev sD:Bytes:=[82,69,84,85,82,78]
abbrev aBU:Bytes:=[69,88,73,84]
abbrev aBV:Bytes:=[83,84,69,80]
abbrev aHr:Bytes:=[43]
abbrev uN:Bytes:=[45]
abbrev aHs:Bytes:=[42]
abbrev aHt:Bytes:=[47]
abbrev aHu:Bytes:=[77,79,68]
abbrev aHv:Bytes:=[61]
abbrev sF:Bytes:=[60,62]
abbrev aHw:Bytes:=[60]
abbrev sG:Bytes:=[60,61]
abbrev aHx:Bytes:=[62]
abbrev sH:Bytes:=[62,61]
abbrev aHy:Bytes:=[65,78,68]
abbrev wOR:Bytes:=[79,82]
abbrev aHz:Bytes:=[88,79,82]
abbrev aHA:Bytes:=[78,79,84]
abbrev aBW:Bytes:=[84,82,85,69]
abbrev wQ:Bytes:=[70,65,76,83,69]
abbrev aBX:Bytes:=[78,85,76,76]
abbrev aHB:Bytes:=[82,69,70]
abbrev aBY:Bytes:=[68,79,78,69]
abbrev wR:Bytes:=[67,79,85,78,84]
abbrev wAS:Bytes:=[65,83]
abbrev aHC:Bytes:=[40]
abbrev uO:Bytes:=[69,76,83,73,70]
abbrev yG:Bytes:=[69,76,83,69]
abbrev xI:Bytes:=[69,78,68,95,73,70]
abbrev aMC:Bytes:=[48]
abbrev mK:Bytes:=[69,78,68,95,67,65,83,69]
abbrev wx:Bytes:=[120]
abbrev wP:Bytes:=[80]
abbrev aMO:Bytes:=[32]
end Go.Proofs.YtdbfbedholdjaaaGreat

namespace Go.Proofs.YtdbfbedholdjaaaGreat
open Go Go.Dl
variable [dW]
def E3:El Int:=⟨3,1,fun x=>[.val (.int .i64 x)],default⟩
def E9:El Bytes:=⟨9,1,fun x=>[.str x],default⟩
structure tS where
 bP:Int
 aBR:Bytes
 fN:Int
 zK:Int
deriving Inhabited,DecidableEq
def tS.cs (x:tS):List C:=[.val (.int .i64 x.bP),.str x.aBR,.val (.int .i64 x.fN),.val (.int .i64 x.zK)]
def mD:El tS:=⟨153,4,tS.cs,default⟩
structure cB where
 ft:(List tS)
 qG:Int
 aHh:Int
 iL:Int
 aCk:Int
deriving Inhabited,DecidableEq
def cB.cs (x:cB):List C:=[mD.tree x.ft,.val (.int .i64 x.qG),.val (.int .i64 x.aHh),.val (.int .i64 x.iL),.val (.int .i64 x.aCk)]
def cK:El cB:=⟨110,5,cB.cs,default⟩
structure cL where
 bP:Int
 fN:Int
 cC:Bytes
 wF:Bytes
 fY:(List cL)
deriving Inhabited
mutual
def cL.ct:cL→List C
 | ⟨a0,a1,a2,a3,a4⟩=>[.val (.int .i64 a0),.val (.int .i64 a1),.str a2,.str a3,.tree 5 a4.length (gY (cL.ctl a4))]
def cL.ctl:List cL→List (List C)
 | []=>[]
 | x::r=>cL.ct x::cL.ctl r
end
theorem cL.aEc:∀ l,cL.ctl l=l.map cL.ct
 | []=>by rw[cL.ctl];rfl
 | x::r=>by rw[cL.ctl,cL.aEc r];rfl
def tM (l:List cL):C:=.tree 5 l.length (gY (l.map cL.ct))
def cL.cs (x:cL):List C:=[.val (.int .i64 x.bP),.val (.int .i64 x.fN),.str x.cC,.str x.wF,tM x.fY]
theorem cL.aHM:∀ x:cL,x.ct=x.cs
 | ⟨a0,a1,a2,a3,a4⟩=>by rw[cL.ct,cL.aEc];rfl
def cA:El cL:=⟨195,5,cL.cs,default⟩
theorem wG (l:List cL):dY (tM l) (cA.tree l):=aNB cA cL.ct cL.aHM l
theorem tQ (l:List cL):dY (cA.tree l) (tM l):=aS4 cA cL.ct cL.aHM l
def lH:El (List Int):=⟨45,1,fun x=>[E3.tree x],default⟩
structure cJ where
 bP:Int
 fN:Int
 cC:Bytes
 cT:(List cL)
 eL:(List (List Int))
 bY:(List (List cJ))
deriving Inhabited
mutual
def cJ.ct:cJ→List C
 | ⟨a0,a1,a2,a3,a4,a5⟩=>[.val (.int .i64 a0),.val (.int .i64 a1),.str a2,cA.tree a3,lH.tree a4,.tree 1 a5.length (gY (cJ.aPx a5))]
def cJ.ctl:List cJ→List (List C)
 | []=>[]
 | x::r=>cJ.ct x::cJ.ctl r
def cJ.aPx:List (List cJ)→List (List C)
 | []=>[]
 | x::r=>[.tree 6 x.length (gY (cJ.ctl x))]::cJ.aPx r
end
theorem cJ.aEc:∀ l,cJ.ctl l=l.map cJ.ct
 | []=>by rw[cJ.ctl];rfl
 | x::r=>by rw[cJ.ctl,cJ.aEc r];rfl
def aFf (l:List cJ):C:=.tree 6 l.length (gY (l.map cJ.ct))
def mZ (l:List (List cJ)):C:=.tree 1 l.length (gY (l.map fun b=>[aFf b]))
theorem cJ.aLc:∀ l,cJ.aPx l=l.map fun b=>[aFf b]
 | []=>by rw[cJ.aPx];rfl
 | x::r=>by rw[cJ.aPx,cJ.aLc r,cJ.aEc];rfl
def cJ.cs (x:cJ):List C:=[.val (.int .i64 x.bP),.val (.int .i64 x.fN),.str x.cC,cA.tree x.cT,lH.tree x.eL,mZ x.bY]
theorem cJ.aHM:∀ x:cJ,x.ct=x.cs
 | ⟨a0,a1,a2,a3,a4,a5⟩=>by rw[cJ.ct,cJ.aLc];rfl
def dJ:El cJ:=⟨179,6,cJ.cs,default⟩
theorem aPy (l:List cJ):dY (aFf l) (dJ.tree l):=aNB dJ cJ.ct cJ.aHM l
theorem aPz (l:List cJ):dY (dJ.tree l) (aFf l):=aS4 dJ cJ.ct cJ.aHM l
def iW:El (List cJ):=⟨33,1,fun x=>[dJ.tree x],default⟩
theorem kS (l:List (List cJ)):dY (mZ l) (iW.tree l):=aUb dJ iW rfl (fun _=>rfl) aFf aPy l
theorem xH (l:List (List cJ)):dY (iW.tree l) (mZ l):=aUc dJ iW rfl (fun _=>rfl) aFf aPz l
structure fL where
 bP:Int
 fLo:Int
 fHi:Int
 cC:Bytes
deriving Inhabited,DecidableEq
def fL.cs (x:fL):List C:=[.val (.int .i64 x.bP),.val (.int .i64 x.fLo),.val (.int .i64 x.fHi),.str x.cC]
def fX:El fL:=⟨37,4,fL.cs,default⟩
structure fE where
 cC:Bytes
 cQ:fL
 gA:Int
 nF:Int
 gB:Int
deriving Inhabited,DecidableEq
def fE.cs (x:fE):List C:=[.str x.cC,.val (.int .i64 x.cQ.bP),.val (.int .i64 x.cQ.fLo),.val (.int .i64 x.cQ.fHi),.str x.cQ.cC,.val (.int .i64 x.gA),.val (.int .i64 x.nF),.val (.int .i64 x.gB)]
def eN:El fE:=⟨41,8,fE.cs,default⟩
def E4:El Bool:=⟨4,1,fun x=>[.val (.bool x)],default⟩
structure hU where
 cC:Bytes
 aBt:Bool
 eV:Bool
 wE:Bool
 cV:(List fE)
 fG:fL
 cU:(List fE)
 uW:(List cJ)
deriving Inhabited
def hU.cs (x:hU):List C:=[.str x.cC,.val (.bool x.aBt),.val (.bool x.eV),.val (.bool x.wE),eN.tree x.cV,.val (.int .i64 x.fG.bP),.val (.int .i64 x.fG.fLo),.val (.int .i64 x.fG.fHi),.str x.fG.cC,eN.tree x.cU,dJ.tree x.uW]
def kJ:El hU:=⟨39,11,hU.cs,default⟩
def E30:El (List Bytes):=⟨30,1,fun x=>[E9.tree x],default⟩
structure jG where
 bP:Int
 cC:Bytes
 j6:Bytes
 eB:(List Bytes)
 eV:Bool
 wE:Bool
 cU:(List fE)
 bM:(List hU)
 uW:(List cJ)
 wI:Int
 uF:Int
deriving Inhabited
def jG.cs (x:jG):List C:=[.val (.int .i64 x.bP),.str x.cC,.str x.j6,E9.tree x.eB,.val (.bool x.eV),.val (.bool x.wE),eN.tree x.cU,kJ.tree x.bM,dJ.tree x.uW,.val (.int .i64 x.wI),.val (.int .i64 x.uF)]
def jR:El jG:=⟨35,11,jG.cs,default⟩
structure cZ where
 bK:(List jG)
deriving Inhabited
def cZ.cs (x:cZ):List C:=[jR.tree x.bK]
def dM:El cZ:=⟨25,1,cZ.cs,default⟩
structure dR where
 c8:Int
 dD:Int
deriving Inhabited,DecidableEq
def dR.cs (x:dR):List C:=[.val (.int .i64 x.c8),.val (.int .i64 x.dD)]
def dO:El dR:=⟨66,2,dR.cs,default⟩
structure zO where
 yA:Bool
 kK:(List UInt8)
deriving Inhabited
def E5:El UInt8:=⟨5,1,fun x=>[.val (.int .u8 (Int.ofNat x.toNat))],default⟩
structure aPA where
 fK:Int
 fA:Int
 fB:Int
deriving Inhabited,DecidableEq
def aPA.cs (x:aPA):List C:=[.val (.int .i64 x.fK),.val (.int .i64 x.fA),.val (.int .i64 x.fB)]
def aOY:El aPA:=⟨170,3,aPA.cs,default⟩
structure uX where
 aPh:Int
 cV:Bytes
 aSn:Bytes
 a0v:Bool
 aVn:Int
 a0w:(List aPA)
deriving Inhabited,DecidableEq
def uX.cs (x:uX):List C:=[.val (.int .i64 x.aPh),.str x.cV,.str x.aSn,.val (.bool x.a0v),.val (.int .i64 x.aVn),aOY.tree x.a0w]
def E62:El uX:=⟨62,6,uX.cs,default⟩
structure nH where
 aYE:Int
 aVo:(List Int)
deriving Inhabited,DecidableEq
def nH.cs (x:nH):List C:=[.val (.int .i64 x.aYE),E3.tree x.aVo]
def aBp:El nH:=⟨135,2,nH.cs,default⟩
structure S56 where
 j6:Int
 dV:Bytes
 gA:(List Int)
 xJ:(List Int)
 fM:(List Bytes)
 aSo:(List nH)
deriving Inhabited,DecidableEq
def S56.cs (x:S56):List C:=[.val (.int .i64 x.j6),.str x.dV,E3.tree x.gA,E3.tree x.xJ,E9.tree x.fM,aBp.tree x.aSo]
def uY:El S56:=⟨56,6,S56.cs,default⟩
structure gG where
 aSp:Int
 gB:Int
 aYF:Bool
deriving Inhabited,DecidableEq
def gG.cs (x:gG):List C:=[.val (.int .i64 x.aSp),.val (.int .i64 x.gB),.val (.bool x.aYF)]
def iV:El gG:=⟨137,3,gG.cs,default⟩
structure yK where
 oK:Int
 wI:Int
 uF:Int
deriving Inhabited,DecidableEq
def yK.cs (x:yK):List C:=[.val (.int .i64 x.oK),.val (.int .i64 x.wI),.val (.int .i64 x.uF)]
def E85:El yK:=⟨85,3,yK.cs,default⟩
structure jN where
 eB:(List (List Bytes))
 bQ:(List S56)
 gW:(List uX)
 eS:(List Int)
 fT:Bytes
 gA:(List Int)
 bY:(List Int)
 kD:(List gG)
 gC:(List gG)
 kW:(List yK)
 fD:Int
 fW:Int
deriving Inhabited
def jN.oc (x:jN) (o0:Nat) (o1:Nat) (o2:Nat) (o3:Nat) (o4:Nat) (o5:Nat) (o6:Nat) (o7:Nat) (o8:Nat):List C:=[.own o0 x.eB.length,.own o1 x.bQ.length,.own o2 x.gW.length,.own o3 x.eS.length,.str x.fT,.own o4 x.gA.length,.own o5 x.bY.length,.own o6 x.kD.length,.own o7 x.gC.length,.own o8 x.kW.length,.val (.int .i64 x.fD),.val (.int .i64 x.fW)]
def jN.cs (x:jN):List C:=[E30.tree x.eB,uY.tree x.bQ,E62.tree x.gW,E3.tree x.eS,.str x.fT,E3.tree x.gA,E3.tree x.bY,iV.tree x.kD,iV.tree x.gC,E85.tree x.kW,.val (.int .i64 x.fD),.val (.int .i64 x.fW)]
def E49:El jN:=⟨49,12,jN.cs,default⟩
structure nV where
 oK:Int
 zK:Int
deriving Inhabited,DecidableEq
def nV.cs (x:nV):List C:=[.val (.int .i64 x.oK),.val (.int .i64 x.zK)]
def tB:El nV:=⟨73,2,nV.cs,default⟩
abbrev oX0:Go.Dl.Obj:=.cells [.nil,.nil,.nil,.nil,.str [],.nil,.nil,.nil,.nil,.nil,iC 0,iC 0]
abbrev oI:Go.Dl.Obj:=.cells [iC 0,iC 0,.str [],.nil,.nil,.nil]
abbrev oX2:Go.Dl.Obj:=.cells [iC 0,.str [],.nil,.nil,.nil,.nil]
abbrev oX3:Go.Dl.Obj:=.cells [iC 0,.str [],.str [],.nil,bC false,bC false,.nil,.nil,.nil,iC 0,iC 0]
abbrev qE:Go.Dl.Obj:=.cells [iC 0,iC 0,iC 0,.str []]
abbrev oX5:Go.Dl.Obj:=.cells [.str [],bC false,bC false,bC false,.nil,iC 0,iC 0,iC 0,.str [],.nil,.nil]
abbrev oX6:Go.Dl.Obj:=.cells [iC 0,iC 0,.str [],.str [],.nil]
abbrev oX7:Go.Dl.Obj:=.cells [iC 0,.str [],iC 0,iC 0]
abbrev oX8:Go.Dl.Obj:=.cells [iC 0,.str [],.str [],bC false,iC 0,.nil]
abbrev oX9:Go.Dl.Obj:=.cells [.str [],iC 0,iC 0,iC 0,.str [],iC 0,iC 0,iC 0]
end Go.Proofs.YtdbfbedholdjaaaGreat
