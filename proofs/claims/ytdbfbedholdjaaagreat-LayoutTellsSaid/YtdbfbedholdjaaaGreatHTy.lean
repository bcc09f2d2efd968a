/- No conditions. -/
import Derived.Test.YtdbfbedholdjaaaGreatHDC
import Derived.Test.YtdbfbedholdjaaaGreatHPz
import Derived.Test.YtdbfbedholdjaaaGreatHDE
set_option linter.unusedVariables false
set_option linter.unusedSectionVars false
set_option linter.unusedSimpArgs false
namespace Go.Proofs.YtdbfbedholdjaaaGreat
open Go Go.Dl
variable [dO]
abbrev aPY:Bytes:=[84,79,78]
abbrev aPZ:Bytes:=[84,79,70]
abbrev wTP:Bytes:=[84,80]
abbrev aP0:Bytes:=[67,84,85]
abbrev aP1:Bytes:=[67,84,68]
abbrev yX:Bytes:=[82,95,84,82,73,71]
abbrev yY:Bytes:=[70,95,84,82,73,71]
abbrev vR:Bytes:=[84,72,73,83]
abbrev pZ:Bytes:=[83,85,80,69,82]
abbrev wIF:Bytes:=[73,70]
abbrev aHA:Bytes:=[67,65,83,69]
abbrev aDe:Bytes:=[87,72,73,76,69]
abbrev aP6:Bytes:=[70,79,82]
abbrev y3:Bytes:=[82,69,84,85,82,78]
abbrev aHB:Bytes:=[69,88,73,84]
abbrev aHC:Bytes:=[83,84,69,80]
abbrev aP8:Bytes:=[43]
abbrev aAr:Bytes:=[45]
abbrev aP9:Bytes:=[42]
abbrev aQa:Bytes:=[47]
abbrev aQb:Bytes:=[77,79,68]
abbrev aQc:Bytes:=[61]
abbrev y4:Bytes:=[60,62]
abbrev aQd:Bytes:=[60]
abbrev y5:Bytes:=[60,61]
abbrev aQe:Bytes:=[62]
abbrev y6:Bytes:=[62,61]
abbrev aQf:Bytes:=[65,78,68]
abbrev wOR:Bytes:=[79,82]
abbrev aQg:Bytes:=[88,79,82]
abbrev aQh:Bytes:=[78,79,84]
abbrev aHD:Bytes:=[84,82,85,69]
abbrev aDf:Bytes:=[70,65,76,83,69]
abbrev aHE:Bytes:=[78,85,76,76]
abbrev aQi:Bytes:=[82,69,70]
abbrev aHF:Bytes:=[68,79,78,69]
abbrev aDg:Bytes:=[67,79,85,78,84]
abbrev wAS:Bytes:=[65,83]
abbrev aQj:Bytes:=[40]
abbrev aQp:Bytes:=[69,76,83,73,70]
abbrev aDl:Bytes:=[69,76,83,69]
abbrev aT4:Bytes:=[69,78,68,95,73,70]
abbrev aMJ:Bytes:=[48]
abbrev n8:Bytes:=[69,78,68,95,67,65,83,69]
abbrev wx:Bytes:=[120]
abbrev wP:Bytes:=[80]
abbrev aMX:Bytes:=[32]
end Go.Proofs.YtdbfbedholdjaaaGreat

namespace Go.Proofs.YtdbfbedholdjaaaGreat
open Go Go.Dl
variable [dO]
def E3:El Int:=⟨3,1,fun x=>[.val (.int .i64 x)],default⟩
def E9:El Bytes:=⟨9,1,fun x=>[.str x],default⟩
structure qW where
 bU:Int
 aDb:Bytes
 fN:Int
 fAt:Int
deriving Inhabited,DecidableEq
def qW.cs (x:qW):List C:=[.val (.int .i64 x.bU),.str x.aDb,.val (.int .i64 x.fN),.val (.int .i64 x.fAt)]
def oN:El qW:=⟨153,4,qW.cs,default⟩
structure cF where
 ft:(List qW)
 qT:Int
 aHw:Int
 iQ:Int
 aHx:Int
deriving Inhabited,DecidableEq
def cF.cs (x:cF):List C:=[oN.tree x.ft,.val (.int .i64 x.qT),.val (.int .i64 x.aHw),.val (.int .i64 x.iQ),.val (.int .i64 x.aHx)]
def cW:El cF:=⟨110,5,cF.cs,default⟩
structure cM where
 bU:Int
 fN:Int
 cD:Bytes
 yL:Bytes
 fP:(List cM)
deriving Inhabited
mutual
def cM.ct:cM→List C
 | ⟨a0,a1,a2,a3,a4⟩=>[.val (.int .i64 a0),.val (.int .i64 a1),.str a2,.str a3,.tree 5 a4.length (xE (cM.ctl a4))]
def cM.ctl:List cM→List (List C)
 | []=>[]
 | x::r=>cM.ct x::cM.ctl r
end
theorem cM.aDt:∀ l,cM.ctl l=l.map cM.ct
 | []=>by rw[cM.ctl];rfl
 | x::r=>by rw[cM.ctl,cM.aDt r];rfl
def qO (l:List cM):C:=.tree 5 l.length (xE (l.map cM.ct))
def cM.cs (x:cM):List C:=[.val (.int .i64 x.bU),.val (.int .i64 x.fN),.str x.cD,.str x.yL,qO x.fP]
theorem cM.aHR:∀ x:cM,x.ct=x.cs
 | ⟨a0,a1,a2,a3,a4⟩=>by rw[cM.ct,cM.aDt];rfl
def cN:El cM:=⟨195,5,cM.cs,default⟩
theorem tS (l:List cM):hG (qO l) (cN.tree l):=aNL cN cM.ct cM.aHR l
theorem qV (l:List cM):hG (cN.tree l) (qO l):=aU0 cN cM.ct cM.aHR l
def kO:El (List Int):=⟨45,1,fun x=>[E3.tree x],default⟩
structure cI where
 bU:Int
 fN:Int
 cD:Bytes
 cU:(List cM)
 eY:(List (List Int))
 b8:(List (List cI))
deriving Inhabited
mutual
def cI.ct:cI→List C
 | ⟨a0,a1,a2,a3,a4,a5⟩=>[.val (.int .i64 a0),.val (.int .i64 a1),.str a2,cN.tree a3,kO.tree a4,.tree 1 a5.length (xE (cI.aRl a5))]
def cI.ctl:List cI→List (List C)
 | []=>[]
 | x::r=>cI.ct x::cI.ctl r
def cI.aRl:List (List cI)→List (List C)
 | []=>[]
 | x::r=>[.tree 6 x.length (xE (cI.ctl x))]::cI.aRl r
end
theorem cI.aDt:∀ l,cI.ctl l=l.map cI.ct
 | []=>by rw[cI.ctl];rfl
 | x::r=>by rw[cI.ctl,cI.aDt r];rfl
def aEQ (l:List cI):C:=.tree 6 l.length (xE (l.map cI.ct))
def lW (l:List (List cI)):C:=.tree 1 l.length (xE (l.map fun b=>[aEQ b]))
theorem cI.aLo:∀ l,cI.aRl l=l.map fun b=>[aEQ b]
 | []=>by rw[cI.aRl];rfl
 | x::r=>by rw[cI.aRl,cI.aLo r,cI.aDt];rfl
def cI.cs (x:cI):List C:=[.val (.int .i64 x.bU),.val (.int .i64 x.fN),.str x.cD,cN.tree x.cU,kO.tree x.eY,lW x.b8]
theorem cI.aHR:∀ x:cI,x.ct=x.cs
 | ⟨a0,a1,a2,a3,a4,a5⟩=>by rw[cI.ct,cI.aLo];rfl
def dV:El cI:=⟨179,6,cI.cs,default⟩
theorem aRm (l:List cI):hG (aEQ l) (dV.tree l):=aNL dV cI.ct cI.aHR l
theorem aRn (l:List cI):hG (dV.tree l) (aEQ l):=aU0 dV cI.ct cI.aHR l
def jR:El (List cI):=⟨33,1,fun x=>[dV.tree x],default⟩
theorem jN (l:List (List cI)):hG (lW l) (jR.tree l):=aWQ dV jR rfl (fun _=>rfl) aEQ aRm l
theorem uW (l:List (List cI)):hG (jR.tree l) (lW l):=aWR dV jR rfl (fun _=>rfl) aEQ aRn l
structure fS where
 bU:Int
 fLo:Int
 zO:Int
 cD:Bytes
deriving Inhabited,DecidableEq
def fS.cs (x:fS):List C:=[.val (.int .i64 x.bU),.val (.int .i64 x.fLo),.val (.int .i64 x.zO),.str x.cD]
def jV:El fS:=⟨37,4,fS.cs,default⟩
structure eZ where
 cD:Bytes
 cB:fS
 dM:Int
 kE:Int
 iP:Int
deriving Inhabited,DecidableEq
def eZ.cs (x:eZ):List C:=[.str x.cD,.val (.int .i64 x.cB.bU),.val (.int .i64 x.cB.fLo),.val (.int .i64 x.cB.zO),.str x.cB.cD,.val (.int .i64 x.dM),.val (.int .i64 x.kE),.val (.int .i64 x.iP)]
def eX:El eZ:=⟨41,8,eZ.cs,default⟩
def E4:El Bool:=⟨4,1,fun x=>[.val (.bool x)],default⟩
structure hU where
 cD:Bytes
 xD:Bool
 eT:Bool
 tR:Bool
 cG:(List eZ)
 eU:fS
 cA:(List eZ)
 sC:(List cI)
deriving Inhabited
def hU.cs (x:hU):List C:=[.str x.cD,.val (.bool x.xD),.val (.bool x.eT),.val (.bool x.tR),eX.tree x.cG,.val (.int .i64 x.eU.bU),.val (.int .i64 x.eU.fLo),.val (.int .i64 x.eU.zO),.str x.eU.cD,eX.tree x.cA,dV.tree x.sC]
def jO:El hU:=⟨39,11,hU.cs,default⟩
def sO:El (List Bytes):=⟨30,1,fun x=>[E9.tree x],default⟩
structure iR where
 bU:Int
 cD:Bytes
 gF:Bytes
 cL:(List Bytes)
 eT:Bool
 tR:Bool
 cA:(List eZ)
 bS:(List hU)
 sC:(List cI)
 mG:Int
 mH:Int
deriving Inhabited
def iR.cs (x:iR):List C:=[.val (.int .i64 x.bU),.str x.cD,.str x.gF,E9.tree x.cL,.val (.bool x.eT),.val (.bool x.tR),eX.tree x.cA,jO.tree x.bS,dV.tree x.sC,.val (.int .i64 x.mG),.val (.int .i64 x.mH)]
def gW:El iR:=⟨35,11,iR.cs,default⟩
structure cK where
 bP:(List iR)
deriving Inhabited
def cK.cs (x:cK):List C:=[gW.tree x.bP]
def c9:El cK:=⟨25,1,cK.cs,default⟩
structure dS where
 cZ:Int
 dF:Int
deriving Inhabited,DecidableEq
def dS.cs (x:dS):List C:=[.val (.int .i64 x.cZ),.val (.int .i64 x.dF)]
def dY:El dS:=⟨66,2,dS.cs,default⟩
structure xF where
 vJ:Bool
 jH:(List UInt8)
deriving Inhabited
def E5:El UInt8:=⟨5,1,fun x=>[.val (.int .u8 (Int.ofNat x.toNat))],default⟩
structure aEb where
 fK:Int
 fA:Int
 fB:Int
deriving Inhabited,DecidableEq
def aEb.cs (x:aEb):List C:=[.val (.int .i64 x.fK),.val (.int .i64 x.fA),.val (.int .i64 x.fB)]
def aAq:El aEb:=⟨170,3,aEb.cs,default⟩
structure sL where
 aF8:Int
 cG:Bytes
 aF9:Bytes
 aYC:Bool
 aJw:Int
 aIT:(List aEb)
deriving Inhabited,DecidableEq
def sL.cs (x:sL):List C:=[.val (.int .i64 x.aF8),.str x.cG,.str x.aF9,.val (.bool x.aYC),.val (.int .i64 x.aJw),aAq.tree x.aIT]
def p7:El sL:=⟨62,6,sL.cs,default⟩
structure l4 where
 aDn:Int
 aAh:(List Int)
deriving Inhabited,DecidableEq
def l4.cs (x:l4):List C:=[.val (.int .i64 x.aDn),E3.tree x.aAh]
def tY:El l4:=⟨135,2,l4.cs,default⟩
structure w8 where
 gF:Int
 uX:Bytes
 dM:(List Int)
 pM:(List Int)
 sA:(List Bytes)
 gB:(List l4)
deriving Inhabited,DecidableEq
def w8.cs (x:w8):List C:=[.val (.int .i64 x.gF),.str x.uX,E3.tree x.dM,E3.tree x.pM,E9.tree x.sA,tY.tree x.gB]
def nW:El w8:=⟨56,6,w8.cs,default⟩
structure gV where
 aF7:Int
 iP:Int
 aQs:Bool
deriving Inhabited,DecidableEq
def gV.cs (x:gV):List C:=[.val (.int .i64 x.aF7),.val (.int .i64 x.iP),.val (.bool x.aQs)]
def fC:El gV:=⟨137,3,gV.cs,default⟩
structure S85 where
 y9:Int
 mG:Int
 mH:Int
deriving Inhabited,DecidableEq
def S85.cs (x:S85):List C:=[.val (.int .i64 x.y9),.val (.int .i64 x.mG),.val (.int .i64 x.mH)]
def vE:El S85:=⟨85,3,S85.cs,default⟩
structure fF where
 cL:(List (List Bytes))
 cO:(List w8)
 dI:(List sL)
 dW:(List Int)
 dJ:Bytes
 dM:(List Int)
 b8:(List Int)
 fY:(List gV)
 eP:(List gV)
 eN:(List S85)
 fD:Int
 fW:Int
deriving Inhabited
def fF.oc (x:fF) (o0:Nat) (o1:Nat) (o2:Nat) (o3:Nat) (o4:Nat) (o5:Nat) (o6:Nat) (o7:Nat) (o8:Nat):List C:=[.own o0 x.cL.length,.own o1 x.cO.length,.own o2 x.dI.length,.own o3 x.dW.length,.str x.dJ,.own o4 x.dM.length,.own o5 x.b8.length,.own o6 x.fY.length,.own o7 x.eP.length,.own o8 x.eN.length,.val (.int .i64 x.fD),.val (.int .i64 x.fW)]
def fF.cs (x:fF):List C:=[sO.tree x.cL,nW.tree x.cO,p7.tree x.dI,E3.tree x.dW,.str x.dJ,E3.tree x.dM,E3.tree x.b8,fC.tree x.fY,fC.tree x.eP,vE.tree x.eN,.val (.int .i64 x.fD),.val (.int .i64 x.fW)]
def vQ:El fF:=⟨49,12,fF.cs,default⟩
structure uV where
 y9:Int
 fAt:Int
deriving Inhabited,DecidableEq
def uV.cs (x:uV):List C:=[.val (.int .i64 x.y9),.val (.int .i64 x.fAt)]
def E73:El uV:=⟨73,2,uV.cs,default⟩
abbrev oX0:Go.Dl.Obj:=.cells [.nil,.nil,.nil,.nil,.str [],.nil,.nil,.nil,.nil,.nil,iC 0,iC 0]
abbrev xA:Go.Dl.Obj:=.cells [iC 0,iC 0,.str [],.nil,.nil,.nil]
abbrev oX2:Go.Dl.Obj:=.cells [iC 0,.str [],.str [],.nil,bC false,bC false,.nil,.nil,.nil,iC 0,iC 0]
abbrev oX3:Go.Dl.Obj:=.cells [iC 0,.str [],.nil,.nil,.nil,.nil]
abbrev uU:Go.Dl.Obj:=.cells [iC 0,iC 0,iC 0,.str []]
abbrev oX5:Go.Dl.Obj:=.cells [iC 0,.str [],iC 0,iC 0]
abbrev oX6:Go.Dl.Obj:=.cells [iC 0,iC 0,.str [],.str [],.nil]
abbrev oX7:Go.Dl.Obj:=.cells [.str [],iC 0,iC 0,iC 0,.str [],iC 0,iC 0,iC 0]
end Go.Proofs.YtdbfbedholdjaaaGreat
