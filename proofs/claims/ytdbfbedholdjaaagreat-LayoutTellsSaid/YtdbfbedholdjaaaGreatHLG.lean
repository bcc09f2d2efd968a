/- No conditions. -/
import Derived.Test.YtdbfbedholdjaaaGreatHLE
import Derived.Test.YtdbfbedholdjaaaGreatProg
set_option linter.unusedVariables false
set_option linter.unusedSimpArgs false
set_option linter.unusedSectionVars false
namespace Go.Proofs.YtdbfbedholdjaaaGreat
open Go Go.Proofs Go.Dl
variable [dO]
set_option maxRecDepth 100000
set_option maxHeartbeats 4000000
def aOI (K:Nat) (a0:dS) (a1:dS):Option ((Bool) ⊕ (Bool)) :=
 (bR ((decide ((a0.cZ:Int)<a1.cZ)) || (((a0.cZ:Int) == a1.cZ) && (decide ((a0.dF:Int)<a1.dF)))) (fun (x1:Bool)=>(some (.inl (x1)))))
theorem aTo (K:Nat) (a0:dS) (a1:dS):bV Tryz.prog 202 [.agg (dY.cs a0),.agg (dY.cs a1)] [] (bX (aOI K a0 a1)) (fun r=>.c (.val (.bool r))) (fun r=>[]):=by
 refine bV.it Tryz.f202 (fun r=>⟨[sB 4 r],[],[],0⟩) ?_
 unfold aOI
 exact Ref.pt (
  .lt _ fun x1 =>
  .ret [] _)
def aOJ (K:Nat) (a0:(List dS)) (a1:dS):Option ((Int) ⊕ (Int)) :=
 (bT (bQ ((iter K (fun (iA:Int)=>(bR (decide ((iA:Int)<(Int.ofNat a0.length))) (fun (uS:Bool)=>(if uS=true then (bT (bQ (bY [cP iA a0.length] (bR ((((a0.getD (iA:Int).toNat default).cZ:Int) == a1.cZ) && ((((a0.getD (iA:Int).toNat default).dF:Int) == a1.dF) && true)) (fun (gY:Bool)=>(if gY=true then (some (.inl (Sum.inr (Sum.inr (iA))))) else (some (.inr ()))))))) (fun (jG:Unit)=>(some (.inr ((IntKind.i64.wrap (iA+1))))))) else (some (.inl (Sum.inl ()))))))) (0)).map .inl)) (fun (tQ:Unit)=>(some (.inl ((-1))))))
theorem aTp (K:Nat) (a0:(List dS)) (a1:dS):bV Tryz.prog 122 [.c (dY.tree a0),.agg (dY.cs a1)] [] (bX (aOJ K a0 a1)) (fun r=>.c (.val (.int .i64 r))) (fun r=>[]):=by
 refine bV.it Tryz.f122 (fun r=>⟨[sI 4 r],[],[],0⟩) ?_
 unfold aOJ
 exact Ref.pt (
  .bk 0 (fun tQ=>⟨[],[],[],0⟩) (
   .lp [0] (fun iA=>⟨[(0,.c (dY.tree a0)),sP 3 0 0 0,sI 5 iA],[.cells (dY.cs a1)],[],0⟩) fun iA =>
   .lt _ fun uS =>
   .ite _ (
    .bk 1 (fun jG=>⟨[(0,.c (dY.tree a0)),sP 3 0 0 0,sI 5 iA],[.cells (dY.cs a1)],[],0⟩) (
     .hO [0,1,2] _ <|
     .tx [] <|
     .ex [3,4,5] <|
     .lt _ fun gY =>
     .ite _ (
      .ret [] _) (
      .nil [0] _)) fun jG =>
    .nil [0] _) (
    .ret [] _)) fun tQ =>
  .ret [] _)
def aOK (K:Nat) (a0:cK) (a1:dS):Option (((List cI)) ⊕ ((List cI))) :=
 ((bX (aG2 K a0 a1)).bind (fun r1=>(if (!r1)=true then (some (.inl ([]))) else (if (decide ((a1.dF:Int)<0))=true then (bY [cP a1.cZ a0.bP.length] (bR ((a0.bP.getD (a1.cZ:Int).toNat default).sC) (fun (x2:(List cI))=>(some (.inl (x2)))))) else (bY [cP a1.cZ a0.bP.length,cP a1.dF ((a0.bP.getD (a1.cZ:Int).toNat default).bS).length] (bR ((((a0.bP.getD (a1.cZ:Int).toNat default).bS).getD (a1.dF:Int).toNat default).sC) (fun (x3:(List cI))=>(some (.inl (x3))))))))))
theorem aTq (K:Nat) (a0:cK) (a1:dS):bV Tryz.prog 158 [.agg (c9.cs a0),.agg (dY.cs a1)] [] (bX (aOK K a0 a1)) (fun r=>.c (dV.tree r)) (fun r=>[]):=by
 refine bV.it Tryz.f158 (fun r=>⟨[(4,.c (dV.tree r))],[],[],0⟩) ?_
 unfold aOK
 exact Ref.pt (
  .call [] (aBM _ _ _) fun r1 =>
  .ite _ (
   .sl 2 0 4 (x:=.c (.nil)) (y:=(.c (dV.tree []))) (jS.c (El.cJ dV)) <|
   .ret [] _) (
   .ite _ (
    .ck _ <|
    .lt _ fun x2 =>
    .ret [] _) (
    .ex [0,2,7] <|
    .tx [] <|
    .hO [1,3,4,5,6,8,9,10,11,12] _ <|
    .lt _ fun x3 =>
    .ret [] _)))
def yO:(K:Nat)→((List cM))→(cM)→Option (((List cM)) ⊕ ((List cM)))
 | 0,_,_=>none
 | K+1,a0,a1 =>
 (bT (if ((a1.bU:Int) == 13)=true then (bY [room ((a0.length+([a1].length)) * 72)] (some (.inr ((a0++[a1]))))) else (some (.inr (a0)))) (fun (u1:(List cM))=>(bT (bQ ((iter K (fun (iX:(List cM) × Int)=>(bR (decide ((iX.2:Int)<(Int.ofNat a1.fP.length))) (fun (gY:Bool)=>(if gY=true then (bT (bQ (bY [cP iX.2 a1.fP.length] ((bX (yO K iX.1 (a1.fP.getD (iX.2:Int).toNat default))).bind (fun r32=>(some (.inr (r32))))))) (fun (wK:(List cM))=>(some (.inr (wK,(IntKind.i64.wrap (iX.2+1))))))) else (some (.inl (Sum.inl (iX.1)))))))) (u1,0)).map .inl)) (fun (kF:(List cM))=>(some (.inl (kF)))))))
theorem aOL:∀ K:Nat,(∀ (a0:(List cM)),∀ (a1:cM),bV Tryz.prog 198 [.c (.own 0 a0.length),.agg (cN.cs a1)] [cN.row a0] (bX (yO K a0 a1)) (fun r=>.c (.own 1 r.length)) (fun r=>[.dead,cN.row r])):=by
 intro K
 induction K with
 | zero=>exact fun a0 a1=>bV.none (by rw[yO];rfl)
 | succ K ih =>
  have aXE:=ih
  refine ?_
  ·
   intro a0 a1
   refine bV.it Tryz.f198 (fun r=>⟨[(4,.c (.own 1 r.length))],[.dead,cN.row r],[],1⟩) ?_
   rw[yO]
   exact Ref.pt (
    .jn (fun u1=>⟨[(0,.c (.own 1 u1.length)),sP 3 2 0 0],[.dead,cN.row u1,cN.o a1],[],1⟩) (
     .ite _ (
      .ob 2 2 2 (El.b9 cN [a1] rfl rfl) <|
      .ck _ <|
      .ap 2 1 3 12 cN a0 [a1] <|
      .nil [0,3,1] _) (
      .mv 1 0 0 <|
      .nil [0,2,1] _)) fun u1 =>
    .bk 0 (fun kF=>⟨[(0,.c (.own 1 kF.length))],[.dead,cN.row kF],[],1⟩) (
     .lp [0,1,2] (fun iX=>⟨[(0,.c (.own 1 iX.1.length)),sP 3 2 0 0,sI 5 iX.2],[.dead,cN.row iX.1,cN.o a1],[],1⟩) fun iX =>
     .lt _ fun gY =>
     .ite _ (
      .bk 1 (fun wK=>⟨[(0,.c (.own 1 wK.length)),sP 3 2 0 0,sI 5 iX.2],[.dead,cN.row wK,cN.o a1],[],1⟩) (
       .sl 6 4 22 (x:=.c (qO a1.fP)) (y:=(.c (cN.tree a1.fP))) (jS.c (tS _)) <|
       .ck _ <|
       .call [1] (aXE _ _) fun r32 =>
       .nil [0,3,2] _) fun wK =>
      .nil [0,1,2] _) (
      .ret [0,1] _)) fun kF =>
    .ret [0,1] _)
theorem aHg (K:Nat) (a0:(List cM)) (a1:cM):bV Tryz.prog 198 [.c (.own 0 a0.length),.agg (cN.cs a1)] [cN.row a0] (bX (yO K a0 a1)) (fun r=>.c (.own 1 r.length)) (fun r=>[.dead,cN.row r]):=(aOL K) a0 a1
def vP:(K:Nat)→((List cM))→((List cI))→Option (((List cM)) ⊕ ((List cM)))
 | 0,_,_=>none
 | K+1,a0,a1 =>
 (bT (bQ ((iter K (fun (gL:(List cM) × Int)=>(bR (decide ((gL.2:Int)<(Int.ofNat a1.length))) (fun (aOM:Bool)=>(if aOM=true then (bT (bQ (bT (bQ ((iter K (fun (nJ:(List cM) × Int)=>(bY [cP gL.2 a1.length] (bR (decide ((nJ.2:Int)<(Int.ofNat ((a1.getD (gL.2:Int).toNat default).cU).length))) (fun (aON:Bool)=>(if aON=true then (bT (bQ (bY [cP gL.2 a1.length] (bR ((a1.getD (gL.2:Int).toNat default).cU) (fun (aI7:(List cM))=>(bY [cP nJ.2 aI7.length] ((bX (yO K nJ.1 (aI7.getD (nJ.2:Int).toNat default))).bind (fun aOO=>(some (.inr (aOO)))))))))) (fun (aCT:(List cM))=>(some (.inr (aCT,(IntKind.i64.wrap (nJ.2+1))))))) else (some (.inl (Sum.inl (nJ.1))))))))) (gL.1,0)).map .inl)) (fun (aCU:(List cM))=>(bT (bQ ((iter K (fun (nK:(List cM) × Int)=>(bY [cP gL.2 a1.length] (bR (decide ((nK.2:Int)<(Int.ofNat ((a1.getD (gL.2:Int).toNat default).b8).length))) (fun (aOP:Bool)=>(if aOP=true then (bT (bQ (bY [cP gL.2 a1.length] (bR ((a1.getD (gL.2:Int).toNat default).b8) (fun (aCV:(List (List cI)))=>(bY [cP nK.2 aCV.length] ((bX (vP K nK.1 (aCV.getD (nK.2:Int).toNat default))).bind (fun aHh=>(some (.inr (aHh)))))))))) (fun (aCW:(List cM))=>(some (.inr (aCW,(IntKind.i64.wrap (nK.2+1))))))) else (some (.inl (Sum.inl (nK.1))))))))) (aCU,0)).map .inl)) (fun (aCX:(List cM))=>(some (.inr (aCX)))))))) (fun (tU:(List cM))=>(some (.inr (tU,(IntKind.i64.wrap (gL.2+1))))))) else (some (.inl (Sum.inl (gL.1)))))))) (a0,0)).map .inl)) (fun (aCY:(List cM))=>(some (.inl (aCY)))))
theorem aOQ:∀ K:Nat,(∀ (a0:(List cM)),∀ (a1:(List cI)),bV Tryz.prog 157 [.c (.own 0 a0.length),.c (dV.tree a1)] [cN.row a0] (bX (vP K a0 a1)) (fun r=>.c (.own 1 r.length)) (fun r=>[.dead,cN.row r])):=by
 intro K
 induction K with
 | zero=>exact fun a0 a1=>bV.none (by rw[vP];rfl)
 | succ K ih =>
  have aXF:=ih
  refine ?_
  ·
   intro a0 a1
   refine bV.it Tryz.f157 (fun r=>⟨[(4,.c (.own 1 r.length))],[.dead,cN.row r],[],1⟩) ?_
   rw[vP]
   exact Ref.pt (
    .bk 0 (fun aCY=>⟨[(0,.c (.own 1 aCY.length))],[.dead,cN.row aCY],[],1⟩) (
     .mv 1 0 0 <|
     .lp [0,1] (fun gL=>⟨[(0,.c (.own 1 gL.1.length)),(1,.c (dV.tree a1)),sI 5 gL.2],[.dead,cN.row gL.1],[],1⟩) fun gL =>
     .lt _ fun aOM =>
     .ite _ (
      .bk 1 (fun tU=>⟨[(0,.c (.own 1 tU.length)),(1,.c (dV.tree a1)),sI 5 gL.2],[.dead,cN.row tU],[],1⟩) (
       .bk 2 (fun aCU=>⟨[(0,.c (.own 1 aCU.length)),(1,.c (dV.tree a1)),sI 5 gL.2],[.dead,cN.row aCU],[],1⟩) (
        .lp [0,1] (fun nJ=>⟨[(0,.c (.own 1 nJ.1.length)),(1,.c (dV.tree a1)),sI 5 gL.2,sI 6 nJ.2],[.dead,cN.row nJ.1],[],1⟩) fun nJ =>
        .ck _ <|
        .lt _ fun aON =>
        .ite _ (
         .bk 3 (fun aCT=>⟨[(0,.c (.own 1 aCT.length)),(1,.c (dV.tree a1)),sI 5 gL.2,sI 6 nJ.2],[.dead,cN.row aCT],[],1⟩) (
          .ck _ <|
          .lt _ fun aI7 =>
          .ck _ <|
          .call [1] (aHg _ _ _) fun aOO =>
          .nil [0,2] _) fun aCT =>
         .nil [0,1] _) (
         .ret [0,1] _)) fun aCU =>
       .bk 4 (fun aCX=>⟨[(0,.c (.own 1 aCX.length)),(1,.c (dV.tree a1)),sI 5 gL.2],[.dead,cN.row aCX],[],1⟩) (
        .lp [0,1] (fun nK=>⟨[(0,.c (.own 1 nK.1.length)),(1,.c (dV.tree a1)),sI 5 gL.2,sI 7 nK.2],[.dead,cN.row nK.1],[],1⟩) fun nK =>
        .ck _ <|
        .lt _ fun aOP =>
        .ite _ (
         .bk 5 (fun aCW=>⟨[(0,.c (.own 1 aCW.length)),(1,.c (dV.tree a1)),sI 5 gL.2,sI 7 nK.2],[.dead,cN.row aCW],[],1⟩) (
          .ck _ <|
          .sl 11 4 49 (x:=.c (lW ((gd a1 gL.2).b8))) (y:=(.c (jR.tree ((gd a1 gL.2).b8)))) (jS.c (jN _)) <|
          .lt _ fun aCV =>
          .ck _ <|
          .call [1] (aXF _ _) fun aHh =>
          .nil [0,2] _) fun aCW =>
         .nil [0,1] _) (
         .ret [0,1] _)) fun aCX =>
       .nil [0,1] _) fun tU =>
      .nil [0,1] _) (
      .ret [0,1] _)) fun aCY =>
    .ret [0,1] _)
theorem aOR (K:Nat) (a0:(List cM)) (a1:(List cI)):bV Tryz.prog 157 [.c (.own 0 a0.length),.c (dV.tree a1)] [cN.row a0] (bX (vP K a0 a1)) (fun r=>.c (.own 1 r.length)) (fun r=>[.dead,cN.row r]):=(aOQ K) a0 a1
def aOS (K:Nat) (a1:(List cI)):Option (((List cM)) ⊕ ((List cM))) :=
 (bT (bQ ((iter K (fun (gL:(List cM) × Int)=>(bR (decide ((gL.2:Int)<(Int.ofNat a1.length))) (fun (aOM:Bool)=>(if aOM=true then (bT (bQ (bT (bQ ((iter K (fun (nJ:(List cM) × Int)=>(bY [cP gL.2 a1.length] (bR (decide ((nJ.2:Int)<(Int.ofNat ((a1.getD (gL.2:Int).toNat default).cU).length))) (fun (aON:Bool)=>(if aON=true then (bT (bQ (bY [cP gL.2 a1.length] (bR ((a1.getD (gL.2:Int).toNat default).cU) (fun (aI7:(List cM))=>(bY [cP nJ.2 aI7.length] ((bX (yO K nJ.1 (aI7.getD (nJ.2:Int).toNat default))).bind (fun aOO=>(some (.inr (aOO)))))))))) (fun (aCT:(List cM))=>(some (.inr (aCT,(IntKind.i64.wrap (nJ.2+1))))))) else (some (.inl (Sum.inl (nJ.1))))))))) (gL.1,0)).map .inl)) (fun (aCU:(List cM))=>(bT (bQ ((iter K (fun (nK:(List cM) × Int)=>(bY [cP gL.2 a1.length] (bR (decide ((nK.2:Int)<(Int.ofNat ((a1.getD (gL.2:Int).toNat default).b8).length))) (fun (aOP:Bool)=>(if aOP=true then (bT (bQ (bY [cP gL.2 a1.length] (bR ((a1.getD (gL.2:Int).toNat default).b8) (fun (aCV:(List (List cI)))=>(bY [cP nK.2 aCV.length] ((bX (vP K nK.1 (aCV.getD (nK.2:Int).toNat default))).bind (fun aHh=>(some (.inr (aHh)))))))))) (fun (aCW:(List cM))=>(some (.inr (aCW,(IntKind.i64.wrap (nK.2+1))))))) else (some (.inl (Sum.inl (nK.1))))))))) (aCU,0)).map .inl)) (fun (aCX:(List cM))=>(some (.inr (aCX)))))))) (fun (tU:(List cM))=>(some (.inr (tU,(IntKind.i64.wrap (gL.2+1))))))) else (some (.inl (Sum.inl (gL.1)))))))) ([],0)).map .inl)) (fun (aCY:(List cM))=>(some (.inl (aCY)))))
theorem aTr (K:Nat) (a1:(List cI)):bV Tryz.prog 157 [.c (.nil),.c (dV.tree a1)] [] (bX (aOS K a1)) (fun r=>.c (cN.tree r)) (fun r=>[]):=by
 refine bV.it Tryz.f157 (fun r=>⟨[(4,.c (cN.tree r))],[],[],0⟩) ?_
 unfold aOS
 exact Ref.pt (
  .bk 0 (fun aCY=>⟨[(0,.c (.own 0 aCY.length))],[cN.row aCY],[],0⟩) (
   .ad 1 0 0 cN.ty cN.w (cN.at []) <|
   .lp [0] (fun gL=>⟨[(0,.c (.own 0 gL.1.length)),(1,.c (dV.tree a1)),sI 5 gL.2],[cN.row gL.1],[],0⟩) fun gL =>
   .lt _ fun aOM =>
   .ite _ (
    .bk 1 (fun tU=>⟨[(0,.c (.own 0 tU.length)),(1,.c (dV.tree a1)),sI 5 gL.2],[cN.row tU],[],0⟩) (
     .bk 2 (fun aCU=>⟨[(0,.c (.own 0 aCU.length)),(1,.c (dV.tree a1)),sI 5 gL.2],[cN.row aCU],[],0⟩) (
      .lp [0] (fun nJ=>⟨[(0,.c (.own 0 nJ.1.length)),(1,.c (dV.tree a1)),sI 5 gL.2,sI 6 nJ.2],[cN.row nJ.1],[],0⟩) fun nJ =>
      .ck _ <|
      .lt _ fun aON =>
      .ite _ (
       .bk 3 (fun aCT=>⟨[(0,.c (.own 0 aCT.length)),(1,.c (dV.tree a1)),sI 5 gL.2,sI 6 nJ.2],[cN.row aCT],[],0⟩) (
        .ck _ <|
        .lt _ fun aI7 =>
        .ck _ <|
        .call [0] (aHg _ _ _) fun aOO =>
        .nil [1] _) fun aCT =>
       .nil [0] _) (
       .ret [0] _)) fun aCU =>
     .bk 4 (fun aCX=>⟨[(0,.c (.own 0 aCX.length)),(1,.c (dV.tree a1)),sI 5 gL.2],[cN.row aCX],[],0⟩) (
      .lp [0] (fun nK=>⟨[(0,.c (.own 0 nK.1.length)),(1,.c (dV.tree a1)),sI 5 gL.2,sI 7 nK.2],[cN.row nK.1],[],0⟩) fun nK =>
      .ck _ <|
      .lt _ fun aOP =>
      .ite _ (
       .bk 5 (fun aCW=>⟨[(0,.c (.own 0 aCW.length)),(1,.c (dV.tree a1)),sI 5 gL.2,sI 7 nK.2],[cN.row aCW],[],0⟩) (
        .ck _ <|
        .sl 11 4 49 (x:=.c (lW ((gd a1 gL.2).b8))) (y:=(.c (jR.tree ((gd a1 gL.2).b8)))) (jS.c (jN _)) <|
        .lt _ fun aCV =>
        .ck _ <|
        .call [0] (aOR _ _ _) fun aHh =>
        .nil [1] _) fun aCW =>
       .nil [0] _) (
       .ret [0] _)) fun aCX =>
     .nil [0] _) fun tU =>
    .nil [0] _) (
    .ret [0] _)) fun aCY =>
  .fz 12 0 0 <|
  .ret [] _)
end Go.Proofs.YtdbfbedholdjaaaGreat

namespace Go.Proofs.YtdbfbedholdjaaaGreat
open Go Go.Proofs Go.Dl
variable [dO]
set_option maxRecDepth 100000
set_option maxHeartbeats 4000000
def aPb (K:Nat) (a0:(List dS)) (a1:dS):Option (((List dS)) ⊕ ((List dS))) :=
 (bT (bQ ((iter K (fun (u18:Int)=>(bY [!(decide ((u18:Int)<(Int.ofNat a0.length))) || cP u18 a0.length] (bR (decide ((u18:Int)<(Int.ofNat a0.length))) (fun (x23:Bool)=>((cE x23 (bX (aOI K (a0.getD (u18:Int).toNat default) a1)) default).bind (fun r24=>(if (x23 && r24)=true then (bT (bQ (some (.inr ((IntKind.i64.wrap (u18+1)))))) (fun (u25:Int)=>(some (.inr (u25))))) else (some (.inl (Sum.inl (u18))))))))))) (0)).map .inl)) (fun (sD:Int)=>(bY [!(decide ((sD:Int)<(Int.ofNat a0.length))) || cP sD a0.length] (bR (decide ((sD:Int)<(Int.ofNat a0.length))) (fun (uS:Bool)=>(bR (uS && ((((a0.getD (sD:Int).toNat default).cZ:Int) == a1.cZ) && ((((a0.getD (sD:Int).toNat default).dF:Int) == a1.dF) && true))) (fun (x27:Bool)=>(if x27=true then (some (.inl (a0))) else (bY [c5 a0.length 0 sD,c5 a0.length sD (Int.ofNat a0.length)] (bR ((a0.drop (sD:Int).toNat).take (((Int.ofNat a0.length):Int).toNat - (sD:Int).toNat)) (fun (kI:(List dS))=>(bR ((a0.drop (0:Int).toNat).take ((sD:Int).toNat - (0:Int).toNat)) (fun (gY:(List dS))=>(bY [room (gY.length * 16)] (bY [room ((gY.length+([a1].length)) * 16)] (bY [room ((((gY++[a1]).length)+kI.length) * 16)] (some (.inl (((gY++[a1])++kI))))))))))))))))))))
theorem aTD (K:Nat) (a0:(List dS)) (a1:dS):bV Tryz.prog 161 [.c (dY.tree a0),.agg (dY.cs a1)] [] (bX (aPb K a0 a1)) (fun r=>.c (dY.tree r)) (fun r=>[]):=by
 refine bV.it Tryz.f161 (fun r=>⟨[(4,.c (dY.tree r))],[],[],0⟩) ?_
 unfold aPb
 exact Ref.pt (
  .bk 0 (fun sD=>⟨[(0,.c (dY.tree a0)),sP 3 0 0 0,sI 5 sD],[.cells (dY.cs a1)],[],0⟩) (
   .lp [0] (fun u18=>⟨[(0,.c (dY.tree a0)),sP 3 0 0 0,sI 5 u18],[.cells (dY.cs a1)],[],0⟩) fun u18 =>
   .hO [0,1,2,3,4,5,6,7] _ <|
   .lt _ fun x23 =>
   .tx [] <|
   .ex [8,9] <|
   .dQ 10 (default:Bool) _ [] (aTo K (gd a0 u18) a1) (fun _=>rfl) fun r24 =>
   .ex [11] <|
   .ite _ (
    .bk 1 (fun u25=>⟨[(0,.c (dY.tree a0)),sP 3 0 0 0,sI 5 u25],[.cells (dY.cs a1)],[],0⟩) (
     .nil [0] _) fun u25 =>
    .nil [0] _) (
    .ret [0] _)) fun sD =>
  .hO [0,1,2,3,4,5,6,7] _ <|
  .lt _ fun uS =>
  .tx [] <|
  .ex [8,9,10,11] <|
  .lt _ fun x27 =>
  .ite _ (
   .ret [] _) (
   .esc [0] [(cd (bd Tryz.f161) [1,1,1,1,0]),(cd (bd Tryz.f161) [1,1,1,1,1])] ⟨[(0,.c (dY.tree a0)),sP 3 0 0 0,sI 5 sD,sB 31 x27],[.cells (dY.cs a1)],[],0⟩ (by
    refine Ref.wA 6 (by kernel_rfl) (by kernel_rfl) ?_
    refine gI.evH (vs:=[c5 a0.length 0 sD,c5 a0.length sD (Int.ofNat a0.length)]) (dD:=⟨[sP 3 0 0 0,(35,.c (.tree dY.w ((sD:Int).toNat - (0:Int).toNat) fun i j=>dY.at a0 ((0:Int).toNat+i) j)),(42,.c (.tree dY.w ((Int.ofNat a0.length).toNat - (sD:Int).toNat) fun i j=>dY.at a0 ((sD:Int).toNat+i) j))],[.cells (dY.cs a1)],[],0⟩) (fuel':=6) [0,1,2,7,8,9] [3,35,42] [0] rfl (by kernel_rfl) (by kernel_rfl) (fun hv=>?_)
    refine gI.conv (Conv.sl 35 (.c (dY.tree ((a0.drop (0:Int).toNat).take ((sD:Int).toNat - (0:Int).toNat)))) (jS.c (El.oH dY _ (tI (hv _ (List.Mem.head _)))))) ?_
    refine gI.conv (Conv.sl 42 (.c (dY.tree ((a0.drop (sD:Int).toNat).take ((Int.ofNat a0.length).toNat - (sD:Int).toNat)))) (jS.c (El.oH dY _ (tI (hv _ (List.Mem.tail _ (List.Mem.head _))))))) ?_
    refine gI.a0f (stf:=fun kI=>⟨[(42,.c (dY.tree kI)),(35,.c (dY.tree ((a0.drop (0:Int).toNat).take ((sD:Int).toNat - (0:Int).toNat)))),sP 3 0 0 0],[.cells (dY.cs a1)],[],0⟩) (by kernel_rfl) (fun kI=>?_)
    refine gI.a0f (stf:=fun gY=>⟨[(42,.c (dY.tree kI)),(35,.c (dY.tree gY)),sP 3 0 0 0],[.cells (dY.cs a1)],[],0⟩) (by kernel_rfl) (fun gY=>?_)
    refine gI.toX [6,10] ?_
    refine cX.aWT (⟨[(4,.c (.own 0 (((gY++[a1])++kI).length)))],[dY.row ((gY++[a1])++kI)],[],0⟩) ((some (.inl (((gY++[a1])++kI))))) ?_ (fun hk=>?_)
    ·
     exact Ref.pt (
      .fz 1000000 0 0 <|
      .ret [] _)
    ·
     refine cX.v0 (fuel':=5) [4] [35,37,42] [] ?_
     refine cX.aU1 (fuel':=4) 3 5 (by kernel_rfl) ?_ ?_
     ·
      refine eQ.aFn (vs:=[room (gY.length * 16)]) (dD:=⟨[(36,.c (.own 0 gY.length)),(37,.agg (dY.cs a1)),(42,.c (dY.tree kI))],[dY.row gY],[],0⟩) 3 [36,37,42] [0] (by kernel_rfl) (by kernel_rfl) ?_
      refine cX.aWS (dD:=⟨[(36,.c (.own 0 gY.length)),(38,.c (.own 1 1)),(42,.c (dY.tree kI))],[dY.row gY,.row 66 2 1 (xE [(dY.cs a1)])],[],0⟩) (fuel':=3) 5 [36,38,42] [0,1] rfl (by kernel_rfl) (by kernel_rfl) ?_
      refine cX.conv (Conv.ob 1 (dY.row [a1]) (El.b9 dY [a1] rfl (by kernel_rfl))) ?_
      refine cX.conv (Conv.sl 38 (.c (.own 1 ([a1].length))) (jS.c (hG.own (by first | (simp;done) | (simp;omega) | omega)))) ?_
      refine cX.mV (fuel':=2) 6 (by kernel_rfl) ?_
      refine eQ.writes (vs:=[room ((gY.length+([a1].length)) * 16)]) (dD:=⟨[(39,.c (.own 0 (gY.length+([a1].length)))),(42,.c (dY.tree kI))],[.row 66 2 (gY.length+([a1].length)) fun i j=>bif Nat.blt i gY.length then dY.at gY i j else (dY.at [a1]) (i - gY.length) j],[],0⟩) 6 [39,42] [2] (by kernel_rfl) (by kernel_rfl) ?_
      refine cX.conv (Conv.ob 0 (dY.row (gY++[a1])) (El.jE dY gY [a1] rfl rfl)) ?_
      refine cX.conv (Conv.sl 39 (.c (.own 0 ((gY++[a1]).length))) (jS.c (hG.own (by first | (simp;done) | (simp;omega) | omega)))) ?_
      refine cX.mV (fuel':=1) 10 (by kernel_rfl) ?_
      refine eQ.writes (vs:=[room ((((gY++[a1]).length)+kI.length) * 16)]) (dD:=⟨[(43,.c (.own 0 (((gY++[a1]).length)+kI.length)))],[.row 66 2 (((gY++[a1]).length)+kI.length) fun i j=>bif Nat.blt i ((gY++[a1]).length) then dY.at (gY++[a1]) i j else (dY.at kI) (i - ((gY++[a1]).length)) j],[],0⟩) 10 [43] [1] (by kernel_rfl) (by kernel_rfl) ?_
      refine cX.conv (Conv.ob 0 (dY.row ((gY++[a1])++kI)) (El.jE dY (gY++[a1]) kI rfl rfl)) ?_
      refine cX.conv (Conv.sl 43 (.c (.own 0 (((gY++[a1])++kI).length))) (jS.c (hG.own (by first | (simp;done) | (simp;omega) | omega)))) ?_
      refine cX.v0 (fuel':=0) [11] [4] [0] ?_
      refine cX.done (by kernel_rfl) ?_
      refine Ref.ck ⟨[(4,.c (.own 0 (((gY++[a1])++kI).length)))],[dY.row ((gY++[a1])++kI)],[],0⟩ [4] [0] ?_
      exact hk
     ·
      refine eQ.aED (dD:=⟨[(35,.c (dY.tree gY)),(38,.c (.own 0 1)),(42,.c (dY.tree kI))],[.row 66 2 1 (xE [(dY.cs a1)])],[],0⟩) 5 [35,38,42] [0] (by kernel_rfl) (by kernel_rfl) ?_
      refine cX.conv (Conv.ob 0 (dY.row [a1]) (El.b9 dY [a1] rfl (by kernel_rfl))) ?_
      refine cX.conv (Conv.sl 38 (.c (.own 0 ([a1].length))) (jS.c (hG.own (by first | (simp;done) | (simp;omega) | omega)))) ?_
      refine cX.mV (fuel':=3) 3 (by kernel_rfl) ?_
      refine eQ.a1 [room (gY.length * 16)] 3 [36,38,42] [0,1] ?_
      refine cX.mV (fuel':=2) 6 (by kernel_rfl) ?_
      refine eQ.writes (vs:=[room ((gY.length+([a1].length)) * 16)]) (dD:=⟨[(39,.c (.own 0 (gY.length+([a1].length)))),(42,.c (dY.tree kI))],[.row 66 2 (gY.length+([a1].length)) fun i j=>bif Nat.blt i gY.length then dY.at gY i j else (dY.at [a1]) (i - gY.length) j],[],0⟩) 6 [39,42] [2] (by kernel_rfl) (by kernel_rfl) ?_
      refine cX.conv (Conv.ob 0 (dY.row (gY++[a1])) (El.jE dY gY [a1] rfl rfl)) ?_
      refine cX.conv (Conv.sl 39 (.c (.own 0 ((gY++[a1]).length))) (jS.c (hG.own (by first | (simp;done) | (simp;omega) | omega)))) ?_
      refine cX.mV (fuel':=1) 10 (by kernel_rfl) ?_
      refine eQ.writes (vs:=[room ((((gY++[a1]).length)+kI.length) * 16)]) (dD:=⟨[(43,.c (.own 0 (((gY++[a1]).length)+kI.length)))],[.row 66 2 (((gY++[a1]).length)+kI.length) fun i j=>bif Nat.blt i ((gY++[a1]).length) then dY.at (gY++[a1]) i j else (dY.at kI) (i - ((gY++[a1]).length)) j],[],0⟩) 10 [43] [1] (by kernel_rfl) (by kernel_rfl) ?_
      refine cX.conv (Conv.ob 0 (dY.row ((gY++[a1])++kI)) (El.jE dY (gY++[a1]) kI rfl rfl)) ?_
      refine cX.conv (Conv.sl 43 (.c (.own 0 (((gY++[a1])++kI).length))) (jS.c (hG.own (by first | (simp;done) | (simp;omega) | omega)))) ?_
      refine cX.v0 (fuel':=0) [11] [4] [0] ?_
      refine cX.done (by kernel_rfl) ?_
      refine Ref.ck ⟨[(4,.c (.own 0 (((gY++[a1])++kI).length)))],[dY.row ((gY++[a1])++kI)],[],0⟩ [4] [0] ?_
      exact hk)))
def F78 (K:Nat) (a0:cK):Option (((List dS)) ⊕ ((List dS))) :=
 (bT (bQ ((iter K (fun (kT:(List dS) × Int)=>(bR (decide ((kT.2:Int)<(Int.ofNat a0.bP.length))) (fun (a1P:Bool)=>(if a1P=true then (bT (bQ (bY [cP kT.2 a0.bP.length] (bR ((((a0.bP.getD (kT.2:Int).toNat default).bU):Int) == 3) (fun (a1Q:Bool)=>(bT (if a1Q=true then (bY [room ((kT.1.length+([(⟨kT.2,(-1)⟩:dS)].length)) * 16)] (some (.inr ((kT.1++[(⟨kT.2,(-1)⟩:dS)]))))) else (some (.inr (kT.1)))) (fun (aPc:(List dS))=>(bT (bQ ((iter K (fun (iY:(List dS) × Int)=>(bY [cP kT.2 a0.bP.length,!(decide ((iY.2:Int)<(Int.ofNat ((a0.bP.getD (kT.2:Int).toNat default).bS).length))) || cP kT.2 a0.bP.length] (bR ((decide ((iY.2:Int)<(Int.ofNat ((a0.bP.getD (kT.2:Int).toNat default).bS).length))) && ((((a0.bP.getD (kT.2:Int).toNat default).bU):Int) == 2)) (fun (a1R:Bool)=>(if a1R=true then (bT (bQ (bY [room ((iY.1.length+([(⟨kT.2,iY.2⟩:dS)].length)) * 16)] (some (.inr ((iY.1++[(⟨kT.2,iY.2⟩:dS)])))))) (fun (aPd:(List dS))=>(some (.inr (aPd,(IntKind.i64.wrap (iY.2+1))))))) else (some (.inl (Sum.inl (iY.1))))))))) (aPc,0)).map .inl)) (fun (lE:(List dS))=>(some (.inr (lE))))))))))) (fun (aPe:(List dS))=>(some (.inr (aPe,(IntKind.i64.wrap (kT.2+1))))))) else (some (.inl (Sum.inl (kT.1)))))))) ([],0)).map .inl)) (fun (aPf:(List dS))=>(some (.inl (aPf)))))
theorem aXS (K:Nat) (a0:cK):bV Tryz.prog 78 [.agg (c9.cs a0)] [] (bX (F78 K a0)) (fun r=>.c (dY.tree r)) (fun r=>[]):=by
 refine bV.it Tryz.f78 (fun r=>⟨[(2,.c (dY.tree r))],[],[],0⟩) ?_
 unfold F78
 exact Ref.pt (
  .bk 0 (fun aPf=>⟨[(3,.c (.own 0 aPf.length))],[dY.row aPf],[],0⟩) (
   .ad 2 0 3 dY.ty dY.w (dY.at []) <|
   .lp [0,1] (fun kT=>⟨[sP 1 0 0 0,(3,.c (.own 1 kT.1.length)),sI 4 kT.2],[.cells (c9.cs a0),dY.row kT.1],[],0⟩) fun kT =>
   .lt _ fun a1P =>
   .ite _ (
    .bk 1 (fun aPe=>⟨[sP 1 0 0 0,(3,.c (.own 1 aPe.length)),sI 4 kT.2],[.cells (c9.cs a0),dY.row aPe],[],0⟩) (
     .ck _ <|
     .lt _ fun a1Q =>
     .jn (fun aPc=>⟨[sP 1 0 0 0,(3,.c (.own 1 aPc.length)),sI 4 kT.2],[.cells (c9.cs a0),dY.row aPc],[],0⟩) (
      .ite _ (
       .ob 6 2 2 (El.b9 dY [(⟨kT.2,(-1)⟩:dS)] rfl rfl) <|
       .ck _ <|
       .ap 6 1 3 24 dY kT.1 [(⟨kT.2,(-1)⟩:dS)] <|
       .nil [0,3] _) (
       .nil [0,1] _)) fun aPc =>
     .bk 2 (fun lE=>⟨[sP 1 0 0 0,(3,.c (.own 1 lE.length)),sI 4 kT.2],[.cells (c9.cs a0),dY.row lE],[],0⟩) (
      .lp [0,1] (fun iY=>⟨[sP 1 0 0 0,(3,.c (.own 1 iY.1.length)),sI 4 kT.2,sI 5 iY.2],[.cells (c9.cs a0),dY.row iY.1],[],0⟩) fun iY =>
      .ck _ <|
      .lt _ fun a1R =>
      .ite _ (
       .bk 3 (fun aPd=>⟨[sP 1 0 0 0,(3,.c (.own 1 aPd.length)),sI 4 kT.2,sI 5 iY.2],[.cells (c9.cs a0),dY.row aPd],[],0⟩) (
        .ob 10 2 2 (El.b9 dY [(⟨kT.2,iY.2⟩:dS)] rfl rfl) <|
        .ck _ <|
        .ap 10 1 3 50 dY iY.1 [(⟨kT.2,iY.2⟩:dS)] <|
        .nil [0,3] _) fun aPd =>
       .nil [0,1] _) (
       .ret [0,1] _)) fun lE =>
     .nil [0,1] _) fun aPe =>
    .nil [0,1] _) (
    .ret [1] _)) fun aPf =>
  .fz 11 0 0 <|
  .ret [] _)
def F80 (K:Nat) (a0:(List (List Int))) (a1:Int):Option (((List Bool)) ⊕ ((List Bool))) :=
 (bY [decide (0≤((Int.ofNat a0.length):Int)) && decide (((Int.ofNat a0.length):Int)≤(Int.ofNat a0.length)),room (((Int.ofNat a0.length):Int).toNat * 1)] (bY [cP a1 a0.length] (bY [room (((a0.getD (a1:Int).toNat default).length) * 8)] (bT (bQ ((iter K (fun (eW:(List Bool) × (List Int) × Int)=>(bR (decide ((eW.2.2:Int)<(Int.ofNat eW.2.1.length))) (fun (x38:Bool)=>(if x38=true then (bT (bQ (bY [cP eW.2.2 eW.2.1.length,!(!(decide (((eW.2.1.getD ((eW.2.2:Int).toNat) default):Int)<0))) || cP eW.2.2 eW.2.1.length,!(!(decide (((eW.2.1.getD ((eW.2.2:Int).toNat) default):Int)<0))) || cP (eW.2.1.getD ((eW.2.2:Int).toNat) default) eW.1.length] (bR ((decide (((eW.2.1.getD ((eW.2.2:Int).toNat) default):Int)<0)) || (eW.1.getD (((eW.2.1.getD ((eW.2.2:Int).toNat) default):Int).toNat) default)) (fun (x42:Bool)=>(if x42=true then (some (.inl (Sum.inl (eW.1,eW.2.1)))) else (bY [cP eW.2.2 eW.2.1.length,cP (eW.2.1.getD ((eW.2.2:Int).toNat) default) eW.1.length] (bY [cP eW.2.2 eW.2.1.length,cP (eW.2.1.getD ((eW.2.2:Int).toNat) default) a0.length] (bR (a0.getD ((eW.2.1.getD ((eW.2.2:Int).toNat) default):Int).toNat default) (fun (x43:(List Int))=>(bY [room ((eW.2.1.length+x43.length) * 8)] (some (.inr ((eW.1.set (((eW.2.1.getD ((eW.2.2:Int).toNat) default):Int).toNat) true),(eW.2.1++x43)))))))))))))) (fun (u41:(List Bool) × (List Int))=>(some (.inr (u41.1,u41.2,(IntKind.i64.wrap (eW.2.2+1))))))) else (some (.inl (Sum.inl (eW.1)))))))) ((List.replicate ((Int.ofNat a0.length):Int).toNat (default:Bool)),(a0.getD (a1:Int).toNat default),0)).map .inl)) (fun (eA:(List Bool))=>(some (.inl (eA))))))))
theorem aXT (K:Nat) (a0:(List (List Int))) (a1:Int):bV Tryz.prog 80 [.c (kO.tree a0),.c (.val (.int .i64 a1))] [] (bX (F80 K a0 a1)) (fun r=>.c (E4.tree r)) (fun r=>[]):=by
 refine bV.it Tryz.f80 (fun r=>⟨[(4,.c (E4.tree r))],[],[],0⟩) ?_
 unfold F80
 exact Ref.pt (
  .ck _ <|
  .ob 1 1 0 (x:=.row 4 1 (Int.ofNat a0.length).toNat fun _ j=>([bC false]:List C).getD j .bot) (y:=(E4.row (List.replicate (Int.ofNat a0.length).toNat (default:Bool)))) (El.aNF E4 default (by kernel_rfl)) <|
  .sl 1 1 10 (x:=.c (.own 0 ((Int.ofNat a0.length).toNat))) (y:=(.c (.own 0 ((List.replicate (Int.ofNat a0.length).toNat (default:Bool)).length)))) (jS.c (hG.own (by first | (simp;done) | (simp;omega) | omega))) <|
  .ck _ <|
  .ck _ <|
  .bk 0 (fun eA=>⟨[(5,.c (.own 0 eA.length))],[E4.row eA],[],0⟩) (
   .lp [0,1] (fun eW=>⟨[(0,.c (kO.tree a0)),(5,.c (.own 0 eW.1.length)),(6,.c (.own 1 eW.2.1.length)),sI 7 eW.2.2],[E4.row eW.1,E3.row eW.2.1],[],0⟩) fun eW =>
   .lt _ fun x38 =>
   .ite _ (
    .bk 1 (fun u41=>⟨[(0,.c (kO.tree a0)),(5,.c (.own 0 u41.1.length)),(6,.c (.own 1 u41.2.length)),sI 7 eW.2.2],[E4.row u41.1,E3.row u41.2],[],0⟩) (
     .ck _ <|
     .lt _ fun x42 =>
     .ite _ (
      .ret [0,1] _) (
      .ck _ <|
      .ob 7 0 0 (x:=.row 4 1 eW.1.length (setRow (E4.at eW.1) (((eW.2.1.getD ((eW.2.2:Int).toNat) default):Int).toNat) 0 [bC true])) (y:=(E4.row (eW.1.set (((eW.2.1.getD ((eW.2.2:Int).toNat) default):Int).toNat) true))) (El.aNV E4 eW.1 true (j:=0) (cl:=[bC true]) (fun _=>rfl) (aX rfl) rfl) <|
      .sl 7 0 5 (x:=.c (.own 0 eW.1.length)) (y:=(.c (.own 0 ((eW.1.set (((eW.2.1.getD ((eW.2.2:Int).toNat) default):Int).toNat) true).length)))) (jS.c (hG.own (by first | (simp;done) | (simp;omega) | omega))) <|
      .ck _ <|
      .lt _ fun x43 =>
      .ck _ <|
      .ap 8 1 2 50 E3 eW.2.1 x43 <|
      .nil [0,2] _)) fun u41 =>
    .nil [0,1] _) (
    .ret [0] _)) fun eA =>
  .fz 9 0 0 <|
  .ret [] _)
end Go.Proofs.YtdbfbedholdjaaaGreat

namespace Go.Proofs.YtdbfbedholdjaaaGreat
open Go Go.Proofs Go.Dl
variable [dO]
set_option maxRecDepth 100000
set_option maxHeartbeats 4000000
def aPg (K:Nat) (a0:cK) (a1:dS):Option (((List dS)) ⊕ ((List dS))) :=
 ((bX (aOK K a0 a1)).bind (fun r1=>((bX (aOS K r1)).bind (fun r2=>(bT (bQ ((iter K (fun (mJ:(List dS) × Int)=>(bR (decide ((mJ.2:Int)<(Int.ofNat r2.length))) (fun (aVu:Bool)=>(if aVu=true then (bT (bQ (bY [cP mJ.2 r2.length] ((cE true (bX (aMi K a0 a1 (r2.getD (mJ.2:Int).toNat default))) default).bind (fun yQ=>(if ((yQ.2:Int) != 0)=true then (some (.inl (Sum.inl (mJ.1)))) else (bT (bQ ((iter K (fun (j3:(List dS) × Int)=>(bR (decide ((j3.2:Int)<(Int.ofNat a0.bP.length))) (fun (aVv:Bool)=>(if aVv=true then (bT (bQ (bY [cP mJ.2 r2.length] (bR (((((r2.getD (mJ.2:Int).toNat default).fN):Int) == 2) && ((j3.2:Int) != yQ.1)) (fun (aC7:Bool)=>(bY [!(!aC7) || cP mJ.2 r2.length,!(((((r2.getD (mJ.2:Int).toNat default).fN):Int) != 2) && (!aC7)) || cP j3.2 a0.bP.length,!((!((((a0.bP.getD (j3.2:Int).toNat default).bU):Int) != 2)) && (((((r2.getD (mJ.2:Int).toNat default).fN):Int) != 2) && (!aC7))) || cP j3.2 a0.bP.length,!((!((((a0.bP.getD (j3.2:Int).toNat default).bU):Int) != 2)) && (((((r2.getD (mJ.2:Int).toNat default).fN):Int) != 2) && (!aC7))) || cP yQ.1 a0.bP.length] ((cE ((!((((a0.bP.getD (j3.2:Int).toNat default).bU):Int) != 2)) && (((((r2.getD (mJ.2:Int).toNat default).fN):Int) != 2) && (!aC7))) (bX (aMb K a0 ((a0.bP.getD (j3.2:Int).toNat default).cD) ((a0.bP.getD (yQ.1:Int).toNat default).cD))) default).bind (fun aVw=>(bR (aC7 || (((((r2.getD (mJ.2:Int).toNat default).fN):Int) != 2) && (((((a0.bP.getD (j3.2:Int).toNat default).bU):Int) != 2) || (!aVw)))) (fun (aVx:Bool)=>(if aVx=true then (some (.inl (Sum.inl (j3.1)))) else (bY [cP mJ.2 r2.length] ((bX (aEd K a0 j3.2 ((r2.getD (mJ.2:Int).toNat default).yL))).bind (fun aAY=>((cE aAY.2 (bX (F63 K a0 aAY.1)) default).bind (fun aVy=>(if (aAY.2 && (!aVy.eT))=true then ((bX (aPb K j3.1 aAY.1)).bind (fun aVz=>(some (.inr (aVz))))) else (some (.inr (j3.1))))))))))))))))))) (fun (aKF:(List dS))=>(some (.inr (aKF,(IntKind.i64.wrap (j3.2+1))))))) else (some (.inl (Sum.inl (j3.1)))))))) (mJ.1,0)).map .inl)) (fun (aKG:(List dS))=>(some (.inr (aKG)))))))))) (fun (aKH:(List dS))=>(some (.inr (aKH,(IntKind.i64.wrap (mJ.2+1))))))) else (some (.inl (Sum.inl (mJ.1)))))))) ([],0)).map .inl)) (fun (aAl:(List dS))=>(some (.inl (aAl)))))))))
theorem aTE (K:Nat) (a0:cK) (a1:dS):bV Tryz.prog 121 [.agg (c9.cs a0),.agg (dY.cs a1)] [] (bX (aPg K a0 a1)) (fun r=>.c (dY.tree r)) (fun r=>[]):=by
 refine bV.it Tryz.f121 (fun r=>⟨[(4,.c (dY.tree r))],[],[],0⟩) ?_
 unfold aPg
 exact Ref.pt (
  .call [] (aTq _ _ _) fun r1 =>
  .call [] (aTr _ _) fun r2 =>
  .bk 0 (fun aAl=>⟨[(5,.c (dY.tree aAl))],[],[],0⟩) (
   .sl 3 0 5 (x:=.c (.nil)) (y:=(.c (dY.tree []))) (jS.c (El.cJ dY)) <|
   .lp [0,1] (fun mJ=>⟨[sP 2 0 0 0,sP 3 1 0 0,(5,.c (dY.tree mJ.1)),(6,.c (cN.tree r2)),sI 7 mJ.2],[.cells (c9.cs a0),.cells (dY.cs a1)],[],0⟩) fun mJ =>
   .lt _ fun aVu =>
   .ite _ (
    .bk 1 (fun aKH=>⟨[sP 2 0 0 0,sP 3 1 0 0,(5,.c (dY.tree aKH)),(6,.c (cN.tree r2)),sI 7 mJ.2],[.cells (c9.cs a0),.cells (dY.cs a1)],[],0⟩) (
     .ex [2,3] <|
     .tx [] <|
     .hO [0,1,4,5] _ <|
     .dQ 6 (default:Int × Int) _ [] (aKB K a0 a1 (gd r2 mJ.2)) (fun _=>rfl) fun yQ =>
     .ex [7,8,9,10,11] <|
     .ite _ (
      .ret [0,1] _) (
      .bk 2 (fun aKG=>⟨[sP 2 0 0 0,sP 3 1 0 0,(5,.c (dY.tree aKG)),(6,.c (cN.tree r2)),sI 7 mJ.2],[.cells (c9.cs a0),.cells (dY.cs a1)],[],0⟩) (
       .lp [0,1] (fun j3=>⟨[sP 2 0 0 0,sP 3 1 0 0,(5,.c (dY.tree j3.1)),(6,.c (cN.tree r2)),sI 7 mJ.2,sI 8 yQ.1,sI 10 j3.2],[.cells (c9.cs a0),.cells (dY.cs a1)],[],0⟩) fun j3 =>
       .lt _ fun aVv =>
       .ite _ (
        .bk 3 (fun aKF=>⟨[sP 2 0 0 0,sP 3 1 0 0,(5,.c (dY.tree aKF)),(6,.c (cN.tree r2)),sI 7 mJ.2,sI 8 yQ.1,sI 10 j3.2],[.cells (c9.cs a0),.cells (dY.cs a1)],[],0⟩) (
         .ex [0,1] <|
         .tx [] <|
         .hO [2,3,4,5,6,7,8,9,10,11,12,13] _ <|
         .lt _ fun aC7 =>
         .hO [14,15,16,17,18,19,20,21,22,23,24,25,26,27,28,29,30,31,32,33,34,35,36,37,38,39] _ <|
         .dQ 40 (default:Bool) _ [] (aKv K a0 ((gd a0.bP j3.2).cD) ((gd a0.bP yQ.1).cD)) (fun _=>rfl) fun aVw =>
         .ex [41,42,43,44] <|
         .lt _ fun aVx =>
         .ite _ (
          .ret [0,1] _) (
          .ex [1,2,3] <|
          .tx [7,12] <|
          .hO [0,4,5,6] _ <|
          .kn fun aAY aXU =>
          .all [2,3,5,6,7,8,10,88,89,94,95,87,96,97,11,12] (rg (cd (bd Tryz.f121) [1,1,1,0,1,0,0,1,0,0,1,1,1,0,0,1,0,0,1,0])) [true,true,true,true,true,true,true,false,false,false,false,false,false,false] (hl [(7,.kc [] (bV.eq (uT _ _ _ _) aXU) [])]) ⟨[sP 2 0 0 0,sP 3 1 0 0,(5,.c (dY.tree j3.1)),(6,.c (cN.tree r2)),sI 7 mJ.2,sI 8 yQ.1,sI 10 j3.2,sP 11 2 0 0,sB 12 aAY.2],[.cells (c9.cs a0),.cells (dY.cs a1),.cells (dY.cs aAY.1)],[],0⟩ [.s 2,.s 3,.s 11] <|
          .vN (default:hU) _ (bV.aKg (wL K a0 aAY.1) (fun _=>rfl)) fun aVy =>
          .ite _ (
           .call [] (aTD _ _ _) fun aVz =>
           .nil [0,1] _) (
           .nil [0,1] _))) fun aKF =>
        .nil [0,1] _) (
        .ret [0,1] _)) fun aKG =>
      .nil [0,1] _)) fun aKH =>
    .nil [0,1] _) (
    .ret [] _)) fun aAl =>
  .ret [] _)
def F79 (K:Nat) (a0:cK) (a1:(List dS)):Option (((List (List Int))) ⊕ ((List (List Int)))) :=
 (bT (bQ ((iter K (fun (iY:(List (List Int)) × Int)=>(bR (decide ((iY.2:Int)<(Int.ofNat a1.length))) (fun (a1U:Bool)=>(if a1U=true then (bT (bQ (bY [cP iY.2 a1.length] ((bX (aPg K a0 (a1.getD (iY.2:Int).toNat default))).bind (fun aFS=>(bT (bQ ((iter K (fun (qQ:(List Int) × Int)=>(bR (decide ((qQ.2:Int)<(Int.ofNat aFS.length))) (fun (a1V:Bool)=>(if a1V=true then (bT (bQ (bY [cP qQ.2 aFS.length] ((bX (aOJ K a1 (aFS.getD (qQ.2:Int).toNat default))).bind (fun aPh=>(bY [room ((qQ.1.length+([aPh].length)) * 8)] (some (.inr ((qQ.1++[aPh]))))))))) (fun (aPi:(List Int))=>(some (.inr (aPi,(IntKind.i64.wrap (qQ.2+1))))))) else (some (.inl (Sum.inl (qQ.1)))))))) ([],0)).map .inl)) (fun (aCO:(List Int))=>(bY [room ((iY.1.length+([aCO].length)) * 24)] (some (.inr ((iY.1++[aCO]))))))))))) (fun (aAn:(List (List Int)))=>(some (.inr (aAn,(IntKind.i64.wrap (iY.2+1))))))) else (some (.inl (Sum.inl (iY.1)))))))) ([],0)).map .inl)) (fun (aEg:(List (List Int)))=>(some (.inl (aEg)))))
theorem aXV (K:Nat) (a0:cK) (a1:(List dS)):bV Tryz.prog 79 [.agg (c9.cs a0),.c (dY.tree a1)] [] (bX (F79 K a0 a1)) (fun r=>.c (kO.tree r)) (fun r=>[]):=by
 refine bV.it Tryz.f79 (fun r=>⟨[(4,.c (kO.tree r))],[],[],0⟩) ?_
 unfold F79
 exact Ref.pt (
  .bk 0 (fun aEg=>⟨[(5,.c (.own 0 aEg.length))],[kO.row aEg],[],0⟩) (
   .ad 2 0 5 kO.ty kO.w (kO.at []) <|
   .lp [0,1] (fun iY=>⟨[(1,.c (dY.tree a1)),sP 2 0 0 0,(5,.c (.own 1 iY.1.length)),sI 6 iY.2],[.cells (c9.cs a0),kO.row iY.1],[],0⟩) fun iY =>
   .lt _ fun a1U =>
   .ite _ (
    .bk 1 (fun aAn=>⟨[(1,.c (dY.tree a1)),sP 2 0 0 0,(5,.c (.own 1 aAn.length)),sI 6 iY.2],[.cells (c9.cs a0),kO.row aAn],[],0⟩) (
     .hO [1,2,3] _ <|
     .tx [5,6] <|
     .ex [0,4] <|
     .tl [5,6] <|
     .call [] (aTE _ _ _) fun aFS =>
     .bk 2 (fun aCO=>⟨[(1,.c (dY.tree a1)),sP 2 0 0 0,(5,.c (.own 1 iY.1.length)),sI 6 iY.2,(8,.c (.own 2 aCO.length))],[.cells (c9.cs a0),kO.row iY.1,E3.row aCO],[],0⟩) (
      .ad 7 0 8 E3.ty E3.w (E3.at []) <|
      .lp [0,1,2] (fun qQ=>⟨[(1,.c (dY.tree a1)),sP 2 0 0 0,(5,.c (.own 1 iY.1.length)),sI 6 iY.2,(7,.c (dY.tree aFS)),(8,.c (.own 2 qQ.1.length)),sI 9 qQ.2],[.cells (c9.cs a0),kO.row iY.1,E3.row qQ.1],[],0⟩) fun qQ =>
      .lt _ fun a1V =>
      .ite _ (
       .bk 3 (fun aPi=>⟨[(1,.c (dY.tree a1)),sP 2 0 0 0,(5,.c (.own 1 iY.1.length)),sI 6 iY.2,(7,.c (dY.tree aFS)),(8,.c (.own 2 aPi.length)),sI 9 qQ.2],[.cells (c9.cs a0),kO.row iY.1,E3.row aPi],[],0⟩) (
        .ck _ <|
        .call [] (aTp _ _ _) fun aPh =>
        .ob 10 2 3 (El.b9 E3 [aPh] rfl rfl) <|
        .ck _ <|
        .ap 10 1 4 36 E3 qQ.1 [aPh] <|
        .nil [0,1,4] _) fun aPi =>
       .nil [0,1,2] _) (
       .ret [0,1,2] _)) fun aCO =>
     .fz 11 3 2 <|
     .ob 11 2 3 (El.b9 kO [aCO] rfl rfl) <|
     .ck _ <|
     .ap 11 1 4 40 kO iY.1 [aCO] <|
     .nil [0,4] _) fun aAn =>
    .nil [0,1] _) (
    .ret [1] _)) fun aEg =>
  .fz 12 0 0 <|
  .ret [] _)
def F35 (K:Nat) (a0:cK):Option ((Int) ⊕ (Int)) :=
 ((bX (F78 K a0)).bind (fun r1=>((bX (F79 K a0 r1)).bind (fun r2=>(bT (bQ ((iter K (fun (eA:Int)=>(bR (decide ((eA:Int)<(Int.ofNat r1.length))) (fun (kI:Bool)=>(if kI=true then (bT (bQ ((bX (F80 K r2 eA)).bind (fun w9=>(bY [cP eA w9.length] (if (w9.getD (eA:Int).toNat default)=true then (bY [cP eA r1.length] (some (.inl (Sum.inr (Sum.inr ((r1.getD (eA:Int).toNat default).cZ)))))) else (some (.inr ()))))))) (fun (eW:Unit)=>(some (.inr ((IntKind.i64.wrap (eA+1))))))) else (some (.inl (Sum.inl ()))))))) (0)).map .inl)) (fun (kF:Unit)=>(some (.inl ((-1))))))))))
theorem aXW (K:Nat) (a0:cK):bV Tryz.prog 35 [.agg (c9.cs a0)] [] (bX (F35 K a0)) (fun r=>.c (.val (.int .i64 r))) (fun r=>[]):=by
 refine bV.it Tryz.f35 (fun r=>⟨[sI 2 r],[],[],0⟩) ?_
 unfold F35
 exact Ref.pt (
  .call [] (aXS _ _) fun r1 =>
  .call [] (aXV _ _ _) fun r2 =>
  .bk 0 (fun kF=>⟨[],[],[],0⟩) (
   .lp [] (fun eA=>⟨[(3,.c (dY.tree r1)),(4,.c (kO.tree r2)),sI 5 eA],[],[],0⟩) fun eA =>
   .lt _ fun kI =>
   .ite _ (
    .bk 1 (fun eW=>⟨[(3,.c (dY.tree r1)),(4,.c (kO.tree r2)),sI 5 eA],[],[],0⟩) (
     .call [] (aXT _ _ _) fun w9 =>
     .ck _ <|
     .ite _ (
      .ck _ <|
      .ret [] _) (
      .nil [] _)) fun eW =>
    .nil [] _) (
    .ret [] _)) fun kF =>
  .ret [] _)
end Go.Proofs.YtdbfbedholdjaaaGreat
