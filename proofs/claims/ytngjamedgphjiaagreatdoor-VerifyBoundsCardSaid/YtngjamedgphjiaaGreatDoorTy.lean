/- No conditions. -/
import Derived.Test.YtngjamedgphjiaaGreatDoorP0
import Derived.Test.YtngjamedgphjiaaGreatDoorDC
set_option linter.unusedVariables false
set_option linter.unusedSectionVars false
set_option linter.unusedSimpArgs false
namespace Go.Proofs.YtngjamedgphjiaaGreatDoor
open Go Go.Dl
variable [eY]
def E9:El Bytes:=⟨9,1,fun x=>[.str x],default⟩
def dV:El (List Bytes):=⟨44,1,fun x=>[E9.tree x],default⟩
def E3:El Int:=⟨3,1,fun x=>[.val (.int .i64 x)],default⟩
structure yE where
 jA:Int
 hO:(List Int)
deriving Inhabited,DecidableEq
def yE.cs (x:yE):List C:=[.val (.int .i64 x.jA),E3.tree x.hO]
def iN:El yE:=⟨50,2,yE.cs,default⟩
structure pK where
 eX:Int
 gD:Bytes
 cG:(List Int)
 iI:(List Int)
 eQ:(List Bytes)
 eO:(List yE)
deriving Inhabited,DecidableEq
def pK.cs (x:pK):List C:=[.val (.int .i64 x.eX),.str x.gD,E3.tree x.cG,E3.tree x.iI,E9.tree x.eQ,iN.tree x.eO]
def cW:El pK:=⟨47,6,pK.cs,default⟩
def E4:El Bool:=⟨4,1,fun x=>[.val (.bool x)],default⟩
structure jC where
 fK:Int
 fA:Int
 fB:Int
deriving Inhabited,DecidableEq
def jC.cs (x:jC):List C:=[.val (.int .i64 x.fK),.val (.int .i64 x.fA),.val (.int .i64 x.fB)]
def cV:El jC:=⟨61,3,jC.cs,default⟩
structure gY where
 cC:Int
 b9:Bytes
 cD:Bytes
 dK:Bool
 cO:Int
 bT:(List jC)
deriving Inhabited,DecidableEq
def gY.cs (x:gY):List C:=[.val (.int .i64 x.cC),.str x.b9,.str x.cD,.val (.bool x.dK),.val (.int .i64 x.cO),cV.tree x.bT]
def dA:El gY:=⟨39,6,gY.cs,default⟩
structure nI where
 iA:Int
 mT:Int
 aJI:Bool
deriving Inhabited,DecidableEq
def nI.cs (x:nI):List C:=[.val (.int .i64 x.iA),.val (.int .i64 x.mT),.val (.bool x.aJI)]
def cQ:El nI:=⟨78,3,nI.cs,default⟩
structure oN where
 gE:Int
 oJ:Int
 oK:Int
deriving Inhabited,DecidableEq
def oN.cs (x:oN):List C:=[.val (.int .i64 x.gE),.val (.int .i64 x.oJ),.val (.int .i64 x.oK)]
def dO:El oN:=⟨42,3,oN.cs,default⟩
structure eW where
 bR:(List (List Bytes))
 bE:(List pK)
 bB:(List gY)
 bX:(List Int)
 bM:Bytes
 cG:(List Int)
 bQ:(List Int)
 cU:(List nI)
 b8:(List nI)
 bU:(List oN)
 fD:Int
 fW:Int
deriving Inhabited,DecidableEq
def eW.cs (x:eW):List C:=[dV.tree x.bR,cW.tree x.bE,dA.tree x.bB,E3.tree x.bX,.str x.bM,E3.tree x.cG,E3.tree x.bQ,cQ.tree x.cU,cQ.tree x.b8,dO.tree x.bU,.val (.int .i64 x.fD),.val (.int .i64 x.fW)]
def cE:El eW:=⟨29,12,eW.cs,default⟩
structure c6 where
 bP:eW
 fc:gY
 bN:(List Bool)
 bK:(List Bytes)
 bV:(List Int)
 dN:Int
deriving Inhabited,DecidableEq
def c6.cs (x:c6):List C:=[dV.tree x.bP.bR,cW.tree x.bP.bE,dA.tree x.bP.bB,E3.tree x.bP.bX,.str x.bP.bM,E3.tree x.bP.cG,E3.tree x.bP.bQ,cQ.tree x.bP.cU,cQ.tree x.bP.b8,dO.tree x.bP.bU,.val (.int .i64 x.bP.fD),.val (.int .i64 x.bP.fW),.val (.int .i64 x.fc.cC),.str x.fc.b9,.str x.fc.cD,.val (.bool x.fc.dK),.val (.int .i64 x.fc.cO),cV.tree x.fc.bT,E4.tree x.bN,E9.tree x.bK,E3.tree x.bV,.val (.int .i64 x.dN)]
def dD:El c6:=⟨107,22,c6.cs,default⟩
def c6.oc (x:c6) (o0:Nat) (o1:Nat) (o2:Nat):List C:=[dV.tree x.bP.bR,cW.tree x.bP.bE,dA.tree x.bP.bB,E3.tree x.bP.bX,.str x.bP.bM,E3.tree x.bP.cG,E3.tree x.bP.bQ,cQ.tree x.bP.cU,cQ.tree x.bP.b8,dO.tree x.bP.bU,.val (.int .i64 x.bP.fD),.val (.int .i64 x.bP.fW),.val (.int .i64 x.fc.cC),.str x.fc.b9,.str x.fc.cD,.val (.bool x.fc.dK),.val (.int .i64 x.fc.cO),cV.tree x.fc.bT,.own o0 x.bN.length,.own o1 x.bK.length,.own o2 x.bV.length,.val (.int .i64 x.dN)]
structure lX where
 qI:Int
 oL:Int
 fok:Bool
deriving Inhabited,DecidableEq
def lX.cs (x:lX):List C:=[.val (.int .i64 x.qI),.val (.int .i64 x.oL),.val (.bool x.fok)]
def eL:El lX:=⟨115,3,lX.cs,default⟩
structure fJ where
 bP:eW
 bN:(Mp lX)
 cZ:(Mp Bool)
deriving Inhabited
def fJ.oc (x:fJ) (o0:Nat) (o1:Nat):List C:=[dV.tree x.bP.bR,cW.tree x.bP.bE,dA.tree x.bP.bB,E3.tree x.bP.bX,.str x.bP.bM,E3.tree x.bP.cG,E3.tree x.bP.bQ,cQ.tree x.bP.cU,cQ.tree x.bP.b8,dO.tree x.bP.bU,.val (.int .i64 x.bP.fD),.val (.int .i64 x.bP.fW),.map o0,.map o1]
end Go.Proofs.YtngjamedgphjiaaGreatDoor
