/- No conditions. -/
import Derived.Test.YtidjangjfekfjaaGreatDoorDC
import Derived.Test.YtidjangjfekfjaaGreatDoorP0
set_option linter.unusedVariables false
set_option linter.unusedSectionVars false
set_option linter.unusedSimpArgs false
namespace Go.Proofs.YtidjangjfekfjaaGreatDoor
open Go Go.Dl
variable [fT]
abbrev aDY:Bytes:=[45]
abbrev aG0:Bytes:=[43]
abbrev aG1:Bytes:=[42]
abbrev aG2:Bytes:=[47]
abbrev aG3:Bytes:=[77,79,68]
abbrev aG4:Bytes:=[61]
abbrev qW:Bytes:=[60,62]
abbrev aG5:Bytes:=[60]
abbrev qX:Bytes:=[60,61]
abbrev aG6:Bytes:=[62]
abbrev qY:Bytes:=[62,61]
abbrev aG7:Bytes:=[65,78,68]
abbrev wOR:Bytes:=[79,82]
abbrev aG8:Bytes:=[88,79,82]
abbrev aLK:Bytes:=[82,69,70]
abbrev aEp:Bytes:=[68,79,78,69]
abbrev aAK:Bytes:=[67,79,85,78,84]
abbrev wAS:Bytes:=[65,83]
abbrev kO:Bytes:=[40]
abbrev wV:Bytes:=[41]
abbrev zS:Bytes:=[91]
abbrev aEq:Bytes:=[84,72,73,83]
abbrev aG9:Bytes:=[84,79,78]
abbrev aHa:Bytes:=[84,79,70]
abbrev wTP:Bytes:=[84,80]
abbrev aHb:Bytes:=[67,84,85]
abbrev aHc:Bytes:=[67,84,68]
abbrev rA:Bytes:=[82,95,84,82,73,71]
abbrev rB:Bytes:=[70,95,84,82,73,71]
abbrev k7:Bytes:=[58,61]
abbrev tU:Bytes:=[63,61]
abbrev aI3:Bytes:=[48]
abbrev wIF:Bytes:=[73,70]
abbrev aI4:Bytes:=[70,79,82]
abbrev aCI:Bytes:=[83,84,69,80]
abbrev tW:Bytes:=[69,76,83,73,70]
abbrev rD:Bytes:=[69,76,83,69]
abbrev o9:Bytes:=[69,78,68,95,73,70]
abbrev mB:Bytes:=[69,78,68,95,67,65,83,69]
abbrev wAT:Bytes:=[65,84]
abbrev tX:Bytes:=[58]
abbrev wL:Bytes:=[65,66,83,84,82,65,67,84]
abbrev aFt:Bytes:=[70,73,78,65,76]
abbrev pW:Bytes:=[69,88,84,69,78,68,83]
abbrev aCN:Bytes:=[83,85,80,69,82]
abbrev aLQ:Bytes:=[46]
abbrev aLR:Bytes:=[86,65,82]
abbrev nL:Bytes:=[73,78,84,69,82,70,65,67,69]
abbrev uP:Bytes:=[59]
abbrev sV:Bytes:=[80,82,79,71,82,65,77]
abbrev aEt:Bytes:=[84,65,83,75]
abbrev pM:Bytes:=[73,78,84,69,82,86,65,76]
abbrev wa:Bytes:=[97]
abbrev wP:Bytes:=[80]
end Go.Proofs.YtidjangjfekfjaaGreatDoor

namespace Go.Proofs.YtidjangjfekfjaaGreatDoor
open Go Go.Dl
variable [fT]
abbrev fH (e:mF):C:=aRT 96 e
theorem pY:eU (.val .nilIface) (fH []):=aLv
def E3:El Int:=⟨3,1,fun x=>[.val (.int .i64 x)],default⟩
def E9:El Bytes:=⟨9,1,fun x=>[.str x],default⟩
structure fS where
 b9:Int
 eG:Bytes
 fN:Int
 kQ:Int
deriving Inhabited,DecidableEq
def fS.cs (x:fS):List C:=[.val (.int .i64 x.b9),.str x.eG,.val (.int .i64 x.fN),.val (.int .i64 x.kQ)]
def eN:El fS:=⟨69,4,fS.cs,default⟩
structure cV where
 bZ:(List fS)
 fi:Int
 lT:Int
 j9:mF
deriving Inhabited,DecidableEq
def cV.cs (x:cV):List C:=[eN.tree x.bZ,.val (.int .i64 x.fi),.val (.int .i64 x.lT),fH x.j9]
def cL:El cV:=⟨56,4,cV.cs,default⟩
structure dM where
 b9:Int
 fN:Int
 cA:Bytes
 mV:Bytes
 gK:(List dM)
deriving Inhabited
mutual
def dM.ct:dM→List C
 | ⟨a0,a1,a2,a3,a4⟩=>[.val (.int .i64 a0),.val (.int .i64 a1),.str a2,.str a3,.tree 5 a4.length (iM (dM.ctl a4))]
def dM.ctl:List dM→List (List C)
 | []=>[]
 | x::r=>dM.ct x::dM.ctl r
end
theorem dM.aDl:∀ l,dM.ctl l=l.map dM.ct
 | []=>by rw[dM.ctl];rfl
 | x::r=>by rw[dM.ctl,dM.aDl r];rfl
def sQ (l:List dM):C:=.tree 5 l.length (iM (l.map dM.ct))
def dM.cs (x:dM):List C:=[.val (.int .i64 x.b9),.val (.int .i64 x.fN),.str x.cA,.str x.mV,sQ x.gK]
theorem dM.aHY:∀ x:dM,x.ct=x.cs
 | ⟨a0,a1,a2,a3,a4⟩=>by rw[dM.ct,dM.aDl];rfl
def dD:El dM:=⟨25,5,dM.cs,default⟩
theorem pE (l:List dM):eU (sQ l) (dD.tree l):=aMW dD dM.ct dM.aHY l
theorem iW (l:List dM):eU (dD.tree l) (sQ l):=aRV dD dM.ct dM.aHY l
def iI:El (List Int):=⟨37,1,fun x=>[E3.tree x],default⟩
structure cU where
 b9:Int
 fN:Int
 cA:Bytes
 eD:(List dM)
 dF:(List (List Int))
 dL:(List (List cU))
deriving Inhabited
mutual
def cU.ct:cU→List C
 | ⟨a0,a1,a2,a3,a4,a5⟩=>[.val (.int .i64 a0),.val (.int .i64 a1),.str a2,dD.tree a3,iI.tree a4,.tree 1 a5.length (iM (cU.aPo a5))]
def cU.ctl:List cU→List (List C)
 | []=>[]
 | x::r=>cU.ct x::cU.ctl r
def cU.aPo:List (List cU)→List (List C)
 | []=>[]
 | x::r=>[.tree 6 x.length (iM (cU.ctl x))]::cU.aPo r
end
theorem cU.aDl:∀ l,cU.ctl l=l.map cU.ct
 | []=>by rw[cU.ctl];rfl
 | x::r=>by rw[cU.ctl,cU.aDl r];rfl
def aEG (l:List cU):C:=.tree 6 l.length (iM (l.map cU.ct))
def iE (l:List (List cU)):C:=.tree 1 l.length (iM (l.map fun b=>[aEG b]))
theorem cU.aKY:∀ l,cU.aPo l=l.map fun b=>[aEG b]
 | []=>by rw[cU.aPo];rfl
 | x::r=>by rw[cU.aPo,cU.aKY r,cU.aDl];rfl
def cU.cs (x:cU):List C:=[.val (.int .i64 x.b9),.val (.int .i64 x.fN),.str x.cA,dD.tree x.eD,iI.tree x.dF,iE x.dL]
theorem cU.aHY:∀ x:cU,x.ct=x.cs
 | ⟨a0,a1,a2,a3,a4,a5⟩=>by rw[cU.ct,cU.aKY];rfl
def cF:El cU:=⟨110,6,cU.cs,default⟩
theorem aPp (l:List cU):eU (aEG l) (cF.tree l):=aMW cF cU.ct cU.aHY l
theorem aPq (l:List cU):eU (cF.tree l) (aEG l):=aRV cF cU.ct cU.aHY l
def fQ:El (List cU):=⟨48,1,fun x=>[cF.tree x],default⟩
theorem iO (l:List (List cU)):eU (iE l) (fQ.tree l):=aTk cF fQ rfl (fun _=>rfl) aEG aPp l
theorem lF (l:List (List cU)):eU (fQ.tree l) (iE l):=aTl cF fQ rfl (fun _=>rfl) aEG aPq l
def E4:El Bool:=⟨4,1,fun x=>[.val (.bool x)],default⟩
structure kI where
 b9:Int
 jJ:Int
 jM:Int
 cA:Bytes
deriving Inhabited,DecidableEq
def kI.cs (x:kI):List C:=[.val (.int .i64 x.b9),.val (.int .i64 x.jJ),.val (.int .i64 x.jM),.str x.cA]
def E44:El kI:=⟨44,4,kI.cs,default⟩
structure fO where
 cA:Bytes
 jN:kI
 uL:Int
 zV:Int
 xG:Int
deriving Inhabited,DecidableEq
def fO.cs (x:fO):List C:=[.str x.cA,.val (.int .i64 x.jN.b9),.val (.int .i64 x.jN.jJ),.val (.int .i64 x.jN.jM),.str x.jN.cA,.val (.int .i64 x.uL),.val (.int .i64 x.zV),.val (.int .i64 x.xG)]
def dG:El fO:=⟨106,8,fO.cs,default⟩
structure jT where
 cA:Bytes
 iD:Bool
 dP:Bool
 eS:Bool
 dH:(List fO)
 cI:kI
 fB:(List fO)
 fM:(List cU)
deriving Inhabited
def jT.cs (x:jT):List C:=[.str x.cA,.val (.bool x.iD),.val (.bool x.dP),.val (.bool x.eS),dG.tree x.dH,.val (.int .i64 x.cI.b9),.val (.int .i64 x.cI.jJ),.val (.int .i64 x.cI.jM),.str x.cI.cA,dG.tree x.fB,cF.tree x.fM]
def fC:El jT:=⟨83,11,jT.cs,default⟩
structure kY where
 b9:Int
 cA:Bytes
 iG:Bytes
 eL:(List Bytes)
 dP:Bool
 eS:Bool
 fB:(List fO)
 b6:(List jT)
 fM:(List cU)
 tY:Int
 tZ:Int
deriving Inhabited
def kY.cs (x:kY):List C:=[.val (.int .i64 x.b9),.str x.cA,.str x.iG,E9.tree x.eL,.val (.bool x.dP),.val (.bool x.eS),dG.tree x.fB,fC.tree x.b6,cF.tree x.fM,.val (.int .i64 x.tY),.val (.int .i64 x.tZ)]
def eP:El kY:=⟨50,11,kY.cs,default⟩
structure gI where
 dU:Bytes
 eR:Int
 bZ:(List fS)
deriving Inhabited
def E5:El UInt8:=⟨5,1,fun x=>[.val (.int .u8 (Int.ofNat x.toNat))],default⟩
structure dA where
 fl:(List Bytes)
deriving Inhabited
structure S75 where
 rE:Bool
 kG:(List UInt8)
deriving Inhabited
structure yL where
 b7:(List kY)
deriving Inhabited
def yL.cs (x:yL):List C:=[eP.tree x.b7]
def iA:El yL:=⟨36,1,yL.cs,default⟩
abbrev fD:Go.Dl.Obj:=.cells [iC 0,iC 0,.str [],.nil,.nil,.nil]
abbrev jY:Go.Dl.Obj:=.cells [iC 0,.str [],.str [],.nil,bC false,bC false,.nil,.nil,.nil,iC 0,iC 0]
abbrev kH:Go.Dl.Obj:=.cells [iC 0,iC 0,.str [],.str [],.nil]
abbrev oX3:Go.Dl.Obj:=.cells [.str [],bC false,bC false,bC false,.nil,iC 0,iC 0,iC 0,.str [],.nil,.nil]
abbrev oX4:Go.Dl.Obj:=.cells [iC 0,iC 0,iC 0,.str []]
abbrev oX5:Go.Dl.Obj:=.cells [iC 0,.str [],iC 0,iC 0]
abbrev oX7:Go.Dl.Obj:=.cells [iC 9,iC 0,.str [],.nil,.nil,.nil]
abbrev oX8:Go.Dl.Obj:=.cells [iC 13,iC 1,.str [],.str [],.nil]
end Go.Proofs.YtidjangjfekfjaaGreatDoor
