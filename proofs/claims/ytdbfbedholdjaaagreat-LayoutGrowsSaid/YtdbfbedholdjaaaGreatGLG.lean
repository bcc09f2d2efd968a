/- No conditions. -/
import Derived.Test.YtdbfbedholdjaaaGreatGLE
import Derived.Test.YtdbfbedholdjaaaGreatProg
set_option linter.unusedVariables false
set_option linter.unusedSimpArgs false
set_option linter.unusedSectionVars false
namespace Go.Proofs.YtdbfbedholdjaaaGreat
open Go Go.Proofs Go.Dl
variable [dK]
set_option maxRecDepth 100000
set_option maxHeartbeats 4000000
def aNU (K:Nat) (a0:dR) (a1:dR):Option ((Bool) ⊕ (Bool)) :=
 (bO ((decide ((a0.c6:Int)<a1.c6)) || (((a0.c6:Int) == a1.c6) && (decide ((a0.dJ:Int)<a1.dJ)))) (fun (x1:Bool)=>(some (.inl (x1)))))
theorem aRW (K:Nat) (a0:dR) (a1:dR):bS Tryz.prog 202 [.agg (eD.cs a0),.agg (eD.cs a1)] [] (bV (aNU K a0 a1)) (fun r=>.c (.val (.bool r))) (fun r=>[]):=by
 refine bS.it Tryz.f202 (fun r=>⟨[sB 4 r],[],[],0⟩) ?_
 unfold aNU
 exact Ref.pt (
  .lt _ fun x1 =>
  .ret [] _)
def aNV (K:Nat) (a0:(List dR)) (a1:dR):Option ((Int) ⊕ (Int)) :=
 (bP (bN ((iter K (fun (hU:Int)=>(bO (decide ((hU:Int)<(Int.ofNat a0.length))) (fun (vY:Bool)=>(if vY=true then (bP (bN (bW [cY hU a0.length] (bO ((((a0.getD (hU:Int).toNat default).c6:Int) == a1.c6) && ((((a0.getD (hU:Int).toNat default).dJ:Int) == a1.dJ) && true)) (fun (gZ:Bool)=>(if gZ=true then (some (.inl (Sum.inr (Sum.inr (hU))))) else (some (.inr ()))))))) (fun (jG:Unit)=>(some (.inr ((IntKind.i64.wrap (hU+1))))))) else (some (.inl (Sum.inl ()))))))) (0)).map .inl)) (fun (tD:Unit)=>(some (.inl ((-1))))))
theorem aRX (K:Nat) (a0:(List dR)) (a1:dR):bS Tryz.prog 122 [.c (eD.tree a0),.agg (eD.cs a1)] [] (bV (aNV K a0 a1)) (fun r=>.c (.val (.int .i64 r))) (fun r=>[]):=by
 refine bS.it Tryz.f122 (fun r=>⟨[sI 4 r],[],[],0⟩) ?_
 unfold aNV
 exact Ref.pt (
  .bk 0 (fun tD=>⟨[],[],[],0⟩) (
   .lp [0] (fun hU=>⟨[(0,.c (eD.tree a0)),sP 3 0 0 0,sI 5 hU],[.cells (eD.cs a1)],[],0⟩) fun hU =>
   .lt _ fun vY =>
   .ite _ (
    .bk 1 (fun jG=>⟨[(0,.c (eD.tree a0)),sP 3 0 0 0,sI 5 hU],[.cells (eD.cs a1)],[],0⟩) (
     .iU [0,1,2] _ <|
     .tx [] <|
     .ex [3,4,5] <|
     .lt _ fun gZ =>
     .ite _ (
      .ret [] _) (
      .nil [0] _)) fun jG =>
    .nil [0] _) (
    .ret [] _)) fun tD =>
  .ret [] _)
def aNW (K:Nat) (a0:cM) (a1:dR):Option (((List cG)) ⊕ ((List cG))) :=
 ((bV (aGw K a0 a1)).bind (fun r1=>(if (!r1)=true then (some (.inl ([]))) else (if (decide ((a1.dJ:Int)<0))=true then (bW [cY a1.c6 a0.bM.length] (bO ((a0.bM.getD (a1.c6:Int).toNat default).rP) (fun (x2:(List cG))=>(some (.inl (x2)))))) else (bW [cY a1.c6 a0.bM.length,cY a1.dJ ((a0.bM.getD (a1.c6:Int).toNat default).bQ).length] (bO ((((a0.bM.getD (a1.c6:Int).toNat default).bQ).getD (a1.dJ:Int).toNat default).rP) (fun (x3:(List cG))=>(some (.inl (x3))))))))))
theorem aRY (K:Nat) (a0:cM) (a1:dR):bS Tryz.prog 158 [.agg (dP.cs a0),.agg (eD.cs a1)] [] (bV (aNW K a0 a1)) (fun r=>.c (dO.tree r)) (fun r=>[]):=by
 refine bS.it Tryz.f158 (fun r=>⟨[(4,.c (dO.tree r))],[],[],0⟩) ?_
 unfold aNW
 exact Ref.pt (
  .call [] (aBq _ _ _) fun r1 =>
  .ite _ (
   .sl 2 0 4 (x:=.c (.nil)) (y:=(.c (dO.tree []))) (jR.c (El.cE dO)) <|
   .ret [] _) (
   .ite _ (
    .ck _ <|
    .lt _ fun x2 =>
    .ret [] _) (
    .ex [0,2,7] <|
    .tx [] <|
    .iU [1,3,4,5,6,8,9,10,11,12] _ <|
    .lt _ fun x3 =>
    .ret [] _)))
def xV:(K:Nat)→((List cI))→(cI)→Option (((List cI)) ⊕ ((List cI)))
 | 0,_,_=>none
 | K+1,a0,a1 =>
 (bP (if ((a1.bR:Int) == 13)=true then (bW [room ((a0.length+([a1].length)) * 72)] (some (.inr ((a0++[a1]))))) else (some (.inr (a0)))) (fun (u1:(List cI))=>(bP (bN ((iter K (fun (iX:(List cI) × Int)=>(bO (decide ((iX.2:Int)<(Int.ofNat a1.fM.length))) (fun (gZ:Bool)=>(if gZ=true then (bP (bN (bW [cY iX.2 a1.fM.length] ((bV (xV K iX.1 (a1.fM.getD (iX.2:Int).toNat default))).bind (fun r32=>(some (.inr (r32))))))) (fun (vZ:(List cI))=>(some (.inr (vZ,(IntKind.i64.wrap (iX.2+1))))))) else (some (.inl (Sum.inl (iX.1)))))))) (u1,0)).map .inl)) (fun (kI:(List cI))=>(some (.inl (kI)))))))
theorem aNX:∀ K:Nat,(∀ (a0:(List cI)),∀ (a1:cI),bS Tryz.prog 198 [.c (.own 0 a0.length),.agg (cL.cs a1)] [cL.row a0] (bV (xV K a0 a1)) (fun r=>.c (.own 1 r.length)) (fun r=>[.dead,cL.row r])):=by
 intro K
 induction K with
 | zero=>exact fun a0 a1=>bS.none (by rw[xV];rfl)
 | succ K ih =>
  have aVR:=ih
  refine ?_
  ·
   intro a0 a1
   refine bS.it Tryz.f198 (fun r=>⟨[(4,.c (.own 1 r.length))],[.dead,cL.row r],[],1⟩) ?_
   rw[xV]
   exact Ref.pt (
    .jn (fun u1=>⟨[(0,.c (.own 1 u1.length)),sP 3 2 0 0],[.dead,cL.row u1,cL.o a1],[],1⟩) (
     .ite _ (
      .ob 2 2 2 (El.cB cL [a1] rfl rfl) <|
      .ck _ <|
      .ap 2 1 3 12 cL a0 [a1] <|
      .nil [0,3,1] _) (
      .mv 1 0 0 <|
      .nil [0,2,1] _)) fun u1 =>
    .bk 0 (fun kI=>⟨[(0,.c (.own 1 kI.length))],[.dead,cL.row kI],[],1⟩) (
     .lp [0,1,2] (fun iX=>⟨[(0,.c (.own 1 iX.1.length)),sP 3 2 0 0,sI 5 iX.2],[.dead,cL.row iX.1,cL.o a1],[],1⟩) fun iX =>
     .lt _ fun gZ =>
     .ite _ (
      .bk 1 (fun vZ=>⟨[(0,.c (.own 1 vZ.length)),sP 3 2 0 0,sI 5 iX.2],[.dead,cL.row vZ,cL.o a1],[],1⟩) (
       .sl 6 4 22 (x:=.c (qH a1.fM)) (y:=(.c (cL.tree a1.fM))) (jR.c (tF _)) <|
       .ck _ <|
       .call [1] (aVR _ _) fun r32 =>
       .nil [0,3,2] _) fun vZ =>
      .nil [0,1,2] _) (
      .ret [0,1] _)) fun kI =>
    .ret [0,1] _)
theorem aGJ (K:Nat) (a0:(List cI)) (a1:cI):bS Tryz.prog 198 [.c (.own 0 a0.length),.agg (cL.cs a1)] [cL.row a0] (bV (xV K a0 a1)) (fun r=>.c (.own 1 r.length)) (fun r=>[.dead,cL.row r]):=(aNX K) a0 a1
def u7:(K:Nat)→((List cI))→((List cG))→Option (((List cI)) ⊕ ((List cI)))
 | 0,_,_=>none
 | K+1,a0,a1 =>
 (bP (bN ((iter K (fun (gJ:(List cI) × Int)=>(bO (decide ((gJ.2:Int)<(Int.ofNat a1.length))) (fun (aNY:Bool)=>(if aNY=true then (bP (bN (bP (bN ((iter K (fun (nH:(List cI) × Int)=>(bW [cY gJ.2 a1.length] (bO (decide ((nH.2:Int)<(Int.ofNat ((a1.getD (gJ.2:Int).toNat default).cT).length))) (fun (aNZ:Bool)=>(if aNZ=true then (bP (bN (bW [cY gJ.2 a1.length] (bO ((a1.getD (gJ.2:Int).toNat default).cT) (fun (aIy:(List cI))=>(bW [cY nH.2 aIy.length] ((bV (xV K nH.1 (aIy.getD (nH.2:Int).toNat default))).bind (fun aN0=>(some (.inr (aN0)))))))))) (fun (aCs:(List cI))=>(some (.inr (aCs,(IntKind.i64.wrap (nH.2+1))))))) else (some (.inl (Sum.inl (nH.1))))))))) (gJ.1,0)).map .inl)) (fun (aCt:(List cI))=>(bP (bN ((iter K (fun (nI:(List cI) × Int)=>(bW [cY gJ.2 a1.length] (bO (decide ((nI.2:Int)<(Int.ofNat ((a1.getD (gJ.2:Int).toNat default).bY).length))) (fun (aN1:Bool)=>(if aN1=true then (bP (bN (bW [cY gJ.2 a1.length] (bO ((a1.getD (gJ.2:Int).toNat default).bY) (fun (aCu:(List (List cG)))=>(bW [cY nI.2 aCu.length] ((bV (u7 K nI.1 (aCu.getD (nI.2:Int).toNat default))).bind (fun aGK=>(some (.inr (aGK)))))))))) (fun (aCv:(List cI))=>(some (.inr (aCv,(IntKind.i64.wrap (nI.2+1))))))) else (some (.inl (Sum.inl (nI.1))))))))) (aCt,0)).map .inl)) (fun (aCw:(List cI))=>(some (.inr (aCw)))))))) (fun (tH:(List cI))=>(some (.inr (tH,(IntKind.i64.wrap (gJ.2+1))))))) else (some (.inl (Sum.inl (gJ.1)))))))) (a0,0)).map .inl)) (fun (aCx:(List cI))=>(some (.inl (aCx)))))
theorem aN2:∀ K:Nat,(∀ (a0:(List cI)),∀ (a1:(List cG)),bS Tryz.prog 157 [.c (.own 0 a0.length),.c (dO.tree a1)] [cL.row a0] (bV (u7 K a0 a1)) (fun r=>.c (.own 1 r.length)) (fun r=>[.dead,cL.row r])):=by
 intro K
 induction K with
 | zero=>exact fun a0 a1=>bS.none (by rw[u7];rfl)
 | succ K ih =>
  have aVS:=ih
  refine ?_
  ·
   intro a0 a1
   refine bS.it Tryz.f157 (fun r=>⟨[(4,.c (.own 1 r.length))],[.dead,cL.row r],[],1⟩) ?_
   rw[u7]
   exact Ref.pt (
    .bk 0 (fun aCx=>⟨[(0,.c (.own 1 aCx.length))],[.dead,cL.row aCx],[],1⟩) (
     .mv 1 0 0 <|
     .lp [0,1] (fun gJ=>⟨[(0,.c (.own 1 gJ.1.length)),(1,.c (dO.tree a1)),sI 5 gJ.2],[.dead,cL.row gJ.1],[],1⟩) fun gJ =>
     .lt _ fun aNY =>
     .ite _ (
      .bk 1 (fun tH=>⟨[(0,.c (.own 1 tH.length)),(1,.c (dO.tree a1)),sI 5 gJ.2],[.dead,cL.row tH],[],1⟩) (
       .bk 2 (fun aCt=>⟨[(0,.c (.own 1 aCt.length)),(1,.c (dO.tree a1)),sI 5 gJ.2],[.dead,cL.row aCt],[],1⟩) (
        .lp [0,1] (fun nH=>⟨[(0,.c (.own 1 nH.1.length)),(1,.c (dO.tree a1)),sI 5 gJ.2,sI 6 nH.2],[.dead,cL.row nH.1],[],1⟩) fun nH =>
        .ck _ <|
        .lt _ fun aNZ =>
        .ite _ (
         .bk 3 (fun aCs=>⟨[(0,.c (.own 1 aCs.length)),(1,.c (dO.tree a1)),sI 5 gJ.2,sI 6 nH.2],[.dead,cL.row aCs],[],1⟩) (
          .ck _ <|
          .lt _ fun aIy =>
          .ck _ <|
          .call [1] (aGJ _ _ _) fun aN0 =>
          .nil [0,2] _) fun aCs =>
         .nil [0,1] _) (
         .ret [0,1] _)) fun aCt =>
       .bk 4 (fun aCw=>⟨[(0,.c (.own 1 aCw.length)),(1,.c (dO.tree a1)),sI 5 gJ.2],[.dead,cL.row aCw],[],1⟩) (
        .lp [0,1] (fun nI=>⟨[(0,.c (.own 1 nI.1.length)),(1,.c (dO.tree a1)),sI 5 gJ.2,sI 7 nI.2],[.dead,cL.row nI.1],[],1⟩) fun nI =>
        .ck _ <|
        .lt _ fun aN1 =>
        .ite _ (
         .bk 5 (fun aCv=>⟨[(0,.c (.own 1 aCv.length)),(1,.c (dO.tree a1)),sI 5 gJ.2,sI 7 nI.2],[.dead,cL.row aCv],[],1⟩) (
          .ck _ <|
          .sl 11 4 49 (x:=.c (lX ((gd a1 gJ.2).bY))) (y:=(.c (jQ.tree ((gd a1 gJ.2).bY)))) (jR.c (jM _)) <|
          .lt _ fun aCu =>
          .ck _ <|
          .call [1] (aVS _ _) fun aGK =>
          .nil [0,2] _) fun aCv =>
         .nil [0,1] _) (
         .ret [0,1] _)) fun aCw =>
       .nil [0,1] _) fun tH =>
      .nil [0,1] _) (
      .ret [0,1] _)) fun aCx =>
    .ret [0,1] _)
theorem aN3 (K:Nat) (a0:(List cI)) (a1:(List cG)):bS Tryz.prog 157 [.c (.own 0 a0.length),.c (dO.tree a1)] [cL.row a0] (bV (u7 K a0 a1)) (fun r=>.c (.own 1 r.length)) (fun r=>[.dead,cL.row r]):=(aN2 K) a0 a1
def aN4 (K:Nat) (a1:(List cG)):Option (((List cI)) ⊕ ((List cI))) :=
 (bP (bN ((iter K (fun (gJ:(List cI) × Int)=>(bO (decide ((gJ.2:Int)<(Int.ofNat a1.length))) (fun (aNY:Bool)=>(if aNY=true then (bP (bN (bP (bN ((iter K (fun (nH:(List cI) × Int)=>(bW [cY gJ.2 a1.length] (bO (decide ((nH.2:Int)<(Int.ofNat ((a1.getD (gJ.2:Int).toNat default).cT).length))) (fun (aNZ:Bool)=>(if aNZ=true then (bP (bN (bW [cY gJ.2 a1.length] (bO ((a1.getD (gJ.2:Int).toNat default).cT) (fun (aIy:(List cI))=>(bW [cY nH.2 aIy.length] ((bV (xV K nH.1 (aIy.getD (nH.2:Int).toNat default))).bind (fun aN0=>(some (.inr (aN0)))))))))) (fun (aCs:(List cI))=>(some (.inr (aCs,(IntKind.i64.wrap (nH.2+1))))))) else (some (.inl (Sum.inl (nH.1))))))))) (gJ.1,0)).map .inl)) (fun (aCt:(List cI))=>(bP (bN ((iter K (fun (nI:(List cI) × Int)=>(bW [cY gJ.2 a1.length] (bO (decide ((nI.2:Int)<(Int.ofNat ((a1.getD (gJ.2:Int).toNat default).bY).length))) (fun (aN1:Bool)=>(if aN1=true then (bP (bN (bW [cY gJ.2 a1.length] (bO ((a1.getD (gJ.2:Int).toNat default).bY) (fun (aCu:(List (List cG)))=>(bW [cY nI.2 aCu.length] ((bV (u7 K nI.1 (aCu.getD (nI.2:Int).toNat default))).bind (fun aGK=>(some (.inr (aGK)))))))))) (fun (aCv:(List cI))=>(some (.inr (aCv,(IntKind.i64.wrap (nI.2+1))))))) else (some (.inl (Sum.inl (nI.1))))))))) (aCt,0)).map .inl)) (fun (aCw:(List cI))=>(some (.inr (aCw)))))))) (fun (tH:(List cI))=>(some (.inr (tH,(IntKind.i64.wrap (gJ.2+1))))))) else (some (.inl (Sum.inl (gJ.1)))))))) ([],0)).map .inl)) (fun (aCx:(List cI))=>(some (.inl (aCx)))))
theorem aRZ (K:Nat) (a1:(List cG)):bS Tryz.prog 157 [.c (.nil),.c (dO.tree a1)] [] (bV (aN4 K a1)) (fun r=>.c (cL.tree r)) (fun r=>[]):=by
 refine bS.it Tryz.f157 (fun r=>⟨[(4,.c (cL.tree r))],[],[],0⟩) ?_
 unfold aN4
 exact Ref.pt (
  .bk 0 (fun aCx=>⟨[(0,.c (.own 0 aCx.length))],[cL.row aCx],[],0⟩) (
   .ad 1 0 0 cL.ty cL.w (cL.at []) <|
   .lp [0] (fun gJ=>⟨[(0,.c (.own 0 gJ.1.length)),(1,.c (dO.tree a1)),sI 5 gJ.2],[cL.row gJ.1],[],0⟩) fun gJ =>
   .lt _ fun aNY =>
   .ite _ (
    .bk 1 (fun tH=>⟨[(0,.c (.own 0 tH.length)),(1,.c (dO.tree a1)),sI 5 gJ.2],[cL.row tH],[],0⟩) (
     .bk 2 (fun aCt=>⟨[(0,.c (.own 0 aCt.length)),(1,.c (dO.tree a1)),sI 5 gJ.2],[cL.row aCt],[],0⟩) (
      .lp [0] (fun nH=>⟨[(0,.c (.own 0 nH.1.length)),(1,.c (dO.tree a1)),sI 5 gJ.2,sI 6 nH.2],[cL.row nH.1],[],0⟩) fun nH =>
      .ck _ <|
      .lt _ fun aNZ =>
      .ite _ (
       .bk 3 (fun aCs=>⟨[(0,.c (.own 0 aCs.length)),(1,.c (dO.tree a1)),sI 5 gJ.2,sI 6 nH.2],[cL.row aCs],[],0⟩) (
        .ck _ <|
        .lt _ fun aIy =>
        .ck _ <|
        .call [0] (aGJ _ _ _) fun aN0 =>
        .nil [1] _) fun aCs =>
       .nil [0] _) (
       .ret [0] _)) fun aCt =>
     .bk 4 (fun aCw=>⟨[(0,.c (.own 0 aCw.length)),(1,.c (dO.tree a1)),sI 5 gJ.2],[cL.row aCw],[],0⟩) (
      .lp [0] (fun nI=>⟨[(0,.c (.own 0 nI.1.length)),(1,.c (dO.tree a1)),sI 5 gJ.2,sI 7 nI.2],[cL.row nI.1],[],0⟩) fun nI =>
      .ck _ <|
      .lt _ fun aN1 =>
      .ite _ (
       .bk 5 (fun aCv=>⟨[(0,.c (.own 0 aCv.length)),(1,.c (dO.tree a1)),sI 5 gJ.2,sI 7 nI.2],[cL.row aCv],[],0⟩) (
        .ck _ <|
        .sl 11 4 49 (x:=.c (lX ((gd a1 gJ.2).bY))) (y:=(.c (jQ.tree ((gd a1 gJ.2).bY)))) (jR.c (jM _)) <|
        .lt _ fun aCu =>
        .ck _ <|
        .call [0] (aN3 _ _ _) fun aGK =>
        .nil [1] _) fun aCv =>
       .nil [0] _) (
       .ret [0] _)) fun aCw =>
     .nil [0] _) fun tH =>
    .nil [0] _) (
    .ret [0] _)) fun aCx =>
  .fz 12 0 0 <|
  .ret [] _)
end Go.Proofs.YtdbfbedholdjaaaGreat

namespace Go.Proofs.YtdbfbedholdjaaaGreat
open Go Go.Proofs Go.Dl
variable [dK]
set_option maxRecDepth 100000
set_option maxHeartbeats 4000000
def aOk (K:Nat) (a0:(List dR)) (a1:dR):Option (((List dR)) ⊕ ((List dR))) :=
 (bP (bN ((iter K (fun (u18:Int)=>(bW [!(decide ((u18:Int)<(Int.ofNat a0.length))) || cY u18 a0.length] (bO (decide ((u18:Int)<(Int.ofNat a0.length))) (fun (x23:Bool)=>((cF x23 (bV (aNU K (a0.getD (u18:Int).toNat default) a1)) default).bind (fun zT=>(if (x23 && zT)=true then (bP (bN (some (.inr ((IntKind.i64.wrap (u18+1)))))) (fun (u25:Int)=>(some (.inr (u25))))) else (some (.inl (Sum.inl (u18))))))))))) (0)).map .inl)) (fun (y3:Int)=>(bW [!(decide ((y3:Int)<(Int.ofNat a0.length))) || cY y3 a0.length] (bO (decide ((y3:Int)<(Int.ofNat a0.length))) (fun (vY:Bool)=>(bO (vY && ((((a0.getD (y3:Int).toNat default).c6:Int) == a1.c6) && ((((a0.getD (y3:Int).toNat default).dJ:Int) == a1.dJ) && true))) (fun (x27:Bool)=>(if x27=true then (some (.inl (a0))) else (bW [c5 a0.length 0 y3,c5 a0.length y3 (Int.ofNat a0.length)] (bO ((a0.drop (y3:Int).toNat).take (((Int.ofNat a0.length):Int).toNat - (y3:Int).toNat)) (fun (kP:(List dR))=>(bO ((a0.drop (0:Int).toNat).take ((y3:Int).toNat - (0:Int).toNat)) (fun (gZ:(List dR))=>(bW [room (gZ.length * 16)] (bW [room ((gZ.length+([a1].length)) * 16)] (bW [room ((((gZ++[a1]).length)+kP.length) * 16)] (some (.inl (((gZ++[a1])++kP))))))))))))))))))))
theorem aSa (K:Nat) (a0:(List dR)) (a1:dR):bS Tryz.prog 161 [.c (eD.tree a0),.agg (eD.cs a1)] [] (bV (aOk K a0 a1)) (fun r=>.c (eD.tree r)) (fun r=>[]):=by
 refine bS.it Tryz.f161 (fun r=>⟨[(4,.c (eD.tree r))],[],[],0⟩) ?_
 unfold aOk
 exact Ref.pt (
  .bk 0 (fun y3=>⟨[(0,.c (eD.tree a0)),sP 3 0 0 0,sI 5 y3],[.cells (eD.cs a1)],[],0⟩) (
   .lp [0] (fun u18=>⟨[(0,.c (eD.tree a0)),sP 3 0 0 0,sI 5 u18],[.cells (eD.cs a1)],[],0⟩) fun u18 =>
   .iU [0,1,2,3,4,5,6,7] _ <|
   .lt _ fun x23 =>
   .tx [] <|
   .ex [8,9] <|
   .eH 10 (default:Bool) _ [] (aRW K (gd a0 u18) a1) (fun _=>rfl) fun zT =>
   .ex [11] <|
   .ite _ (
    .bk 1 (fun u25=>⟨[(0,.c (eD.tree a0)),sP 3 0 0 0,sI 5 u25],[.cells (eD.cs a1)],[],0⟩) (
     .nil [0] _) fun u25 =>
    .nil [0] _) (
    .ret [0] _)) fun y3 =>
  .iU [0,1,2,3,4,5,6,7] _ <|
  .lt _ fun vY =>
  .tx [] <|
  .ex [8,9,10,11] <|
  .lt _ fun x27 =>
  .ite _ (
   .ret [] _) (
   .esc [0] [(cd (bd Tryz.f161) [1,1,1,1,0]),(cd (bd Tryz.f161) [1,1,1,1,1])] ⟨[(0,.c (eD.tree a0)),sP 3 0 0 0,sI 5 y3,sB 31 x27],[.cells (eD.cs a1)],[],0⟩ (by
    refine Ref.vM 6 (by kernel_rfl) (by kernel_rfl) ?_
    refine gH.evH (vs:=[c5 a0.length 0 y3,c5 a0.length y3 (Int.ofNat a0.length)]) (dD:=⟨[sP 3 0 0 0,(35,.c (.tree eD.w ((y3:Int).toNat - (0:Int).toNat) fun i j=>eD.at a0 ((0:Int).toNat+i) j)),(42,.c (.tree eD.w ((Int.ofNat a0.length).toNat - (y3:Int).toNat) fun i j=>eD.at a0 ((y3:Int).toNat+i) j))],[.cells (eD.cs a1)],[],0⟩) (fuel':=6) [0,1,2,7,8,9] [3,35,42] [0] rfl (by kernel_rfl) (by kernel_rfl) (fun hv=>?_)
    refine gH.conv (Conv.sl 35 (.c (eD.tree ((a0.drop (0:Int).toNat).take ((y3:Int).toNat - (0:Int).toNat)))) (jR.c (El.oC eD _ (sZ (hv _ (List.Mem.head _)))))) ?_
    refine gH.conv (Conv.sl 42 (.c (eD.tree ((a0.drop (y3:Int).toNat).take ((Int.ofNat a0.length).toNat - (y3:Int).toNat)))) (jR.c (El.oC eD _ (sZ (hv _ (List.Mem.tail _ (List.Mem.head _))))))) ?_
    refine gH.aXI (stf:=fun kP=>⟨[(42,.c (eD.tree kP)),(35,.c (eD.tree ((a0.drop (0:Int).toNat).take ((y3:Int).toNat - (0:Int).toNat)))),sP 3 0 0 0],[.cells (eD.cs a1)],[],0⟩) (by kernel_rfl) (fun kP=>?_)
    refine gH.aXI (stf:=fun gZ=>⟨[(42,.c (eD.tree kP)),(35,.c (eD.tree gZ)),sP 3 0 0 0],[.cells (eD.cs a1)],[],0⟩) (by kernel_rfl) (fun gZ=>?_)
    refine gH.toX [6,10] ?_
    refine cW.aUN (⟨[(4,.c (.own 0 (((gZ++[a1])++kP).length)))],[eD.row ((gZ++[a1])++kP)],[],0⟩) ((some (.inl (((gZ++[a1])++kP))))) ?_ (fun hk=>?_)
    ·
     exact Ref.pt (
      .fz 1000000 0 0 <|
      .ret [] _)
    ·
     refine cW.v0 (fuel':=5) [4] [35,37,42] [] ?_
     refine cW.aTo (fuel':=4) 3 5 (by kernel_rfl) ?_ ?_
     ·
      refine eG.aEL (vs:=[room (gZ.length * 16)]) (dD:=⟨[(36,.c (.own 0 gZ.length)),(37,.agg (eD.cs a1)),(42,.c (eD.tree kP))],[eD.row gZ],[],0⟩) 3 [36,37,42] [0] (by kernel_rfl) (by kernel_rfl) ?_
      refine cW.aUM (dD:=⟨[(36,.c (.own 0 gZ.length)),(38,.c (.own 1 1)),(42,.c (eD.tree kP))],[eD.row gZ,.row 66 2 1 (wN [(eD.cs a1)])],[],0⟩) (fuel':=3) 5 [36,38,42] [0,1] rfl (by kernel_rfl) (by kernel_rfl) ?_
      refine cW.conv (Conv.ob 1 (eD.row [a1]) (El.cB eD [a1] rfl (by kernel_rfl))) ?_
      refine cW.conv (Conv.sl 38 (.c (.own 1 ([a1].length))) (jR.c (hO.own (by first | (simp;done) | (simp;omega) | omega)))) ?_
      refine cW.mS (fuel':=2) 6 (by kernel_rfl) ?_
      refine eG.writes (vs:=[room ((gZ.length+([a1].length)) * 16)]) (dD:=⟨[(39,.c (.own 0 (gZ.length+([a1].length)))),(42,.c (eD.tree kP))],[.row 66 2 (gZ.length+([a1].length)) fun i j=>bif Nat.blt i gZ.length then eD.at gZ i j else (eD.at [a1]) (i - gZ.length) j],[],0⟩) 6 [39,42] [2] (by kernel_rfl) (by kernel_rfl) ?_
      refine cW.conv (Conv.ob 0 (eD.row (gZ++[a1])) (El.jE eD gZ [a1] rfl rfl)) ?_
      refine cW.conv (Conv.sl 39 (.c (.own 0 ((gZ++[a1]).length))) (jR.c (hO.own (by first | (simp;done) | (simp;omega) | omega)))) ?_
      refine cW.mS (fuel':=1) 10 (by kernel_rfl) ?_
      refine eG.writes (vs:=[room ((((gZ++[a1]).length)+kP.length) * 16)]) (dD:=⟨[(43,.c (.own 0 (((gZ++[a1]).length)+kP.length)))],[.row 66 2 (((gZ++[a1]).length)+kP.length) fun i j=>bif Nat.blt i ((gZ++[a1]).length) then eD.at (gZ++[a1]) i j else (eD.at kP) (i - ((gZ++[a1]).length)) j],[],0⟩) 10 [43] [1] (by kernel_rfl) (by kernel_rfl) ?_
      refine cW.conv (Conv.ob 0 (eD.row ((gZ++[a1])++kP)) (El.jE eD (gZ++[a1]) kP rfl rfl)) ?_
      refine cW.conv (Conv.sl 43 (.c (.own 0 (((gZ++[a1])++kP).length))) (jR.c (hO.own (by first | (simp;done) | (simp;omega) | omega)))) ?_
      refine cW.v0 (fuel':=0) [11] [4] [0] ?_
      refine cW.done (by kernel_rfl) ?_
      refine Ref.ck ⟨[(4,.c (.own 0 (((gZ++[a1])++kP).length)))],[eD.row ((gZ++[a1])++kP)],[],0⟩ [4] [0] ?_
      exact hk
     ·
      refine eG.aD0 (dD:=⟨[(35,.c (eD.tree gZ)),(38,.c (.own 0 1)),(42,.c (eD.tree kP))],[.row 66 2 1 (wN [(eD.cs a1)])],[],0⟩) 5 [35,38,42] [0] (by kernel_rfl) (by kernel_rfl) ?_
      refine cW.conv (Conv.ob 0 (eD.row [a1]) (El.cB eD [a1] rfl (by kernel_rfl))) ?_
      refine cW.conv (Conv.sl 38 (.c (.own 0 ([a1].length))) (jR.c (hO.own (by first | (simp;done) | (simp;omega) | omega)))) ?_
      refine cW.mS (fuel':=3) 3 (by kernel_rfl) ?_
      refine eG.a1 [room (gZ.length * 16)] 3 [36,38,42] [0,1] ?_
      refine cW.mS (fuel':=2) 6 (by kernel_rfl) ?_
      refine eG.writes (vs:=[room ((gZ.length+([a1].length)) * 16)]) (dD:=⟨[(39,.c (.own 0 (gZ.length+([a1].length)))),(42,.c (eD.tree kP))],[.row 66 2 (gZ.length+([a1].length)) fun i j=>bif Nat.blt i gZ.length then eD.at gZ i j else (eD.at [a1]) (i - gZ.length) j],[],0⟩) 6 [39,42] [2] (by kernel_rfl) (by kernel_rfl) ?_
      refine cW.conv (Conv.ob 0 (eD.row (gZ++[a1])) (El.jE eD gZ [a1] rfl rfl)) ?_
      refine cW.conv (Conv.sl 39 (.c (.own 0 ((gZ++[a1]).length))) (jR.c (hO.own (by first | (simp;done) | (simp;omega) | omega)))) ?_
      refine cW.mS (fuel':=1) 10 (by kernel_rfl) ?_
      refine eG.writes (vs:=[room ((((gZ++[a1]).length)+kP.length) * 16)]) (dD:=⟨[(43,.c (.own 0 (((gZ++[a1]).length)+kP.length)))],[.row 66 2 (((gZ++[a1]).length)+kP.length) fun i j=>bif Nat.blt i ((gZ++[a1]).length) then eD.at (gZ++[a1]) i j else (eD.at kP) (i - ((gZ++[a1]).length)) j],[],0⟩) 10 [43] [1] (by kernel_rfl) (by kernel_rfl) ?_
      refine cW.conv (Conv.ob 0 (eD.row ((gZ++[a1])++kP)) (El.jE eD (gZ++[a1]) kP rfl rfl)) ?_
      refine cW.conv (Conv.sl 43 (.c (.own 0 (((gZ++[a1])++kP).length))) (jR.c (hO.own (by first | (simp;done) | (simp;omega) | omega)))) ?_
      refine cW.v0 (fuel':=0) [11] [4] [0] ?_
      refine cW.done (by kernel_rfl) ?_
      refine Ref.ck ⟨[(4,.c (.own 0 (((gZ++[a1])++kP).length)))],[eD.row ((gZ++[a1])++kP)],[],0⟩ [4] [0] ?_
      exact hk)))
def F78 (K:Nat) (a0:cM):Option (((List dR)) ⊕ ((List dR))) :=
 (bP (bN ((iter K (fun (kQ:(List dR) × Int)=>(bO (decide ((kQ.2:Int)<(Int.ofNat a0.bM.length))) (fun (aZk:Bool)=>(if aZk=true then (bP (bN (bW [cY kQ.2 a0.bM.length] (bO ((((a0.bM.getD (kQ.2:Int).toNat default).bR):Int) == 3) (fun (aZl:Bool)=>(bP (if aZl=true then (bW [room ((kQ.1.length+([(⟨kQ.2,(-1)⟩:dR)].length)) * 16)] (some (.inr ((kQ.1++[(⟨kQ.2,(-1)⟩:dR)]))))) else (some (.inr (kQ.1)))) (fun (aOl:(List dR))=>(bP (bN ((iter K (fun (iY:(List dR) × Int)=>(bW [cY kQ.2 a0.bM.length,!(decide ((iY.2:Int)<(Int.ofNat ((a0.bM.getD (kQ.2:Int).toNat default).bQ).length))) || cY kQ.2 a0.bM.length] (bO ((decide ((iY.2:Int)<(Int.ofNat ((a0.bM.getD (kQ.2:Int).toNat default).bQ).length))) && ((((a0.bM.getD (kQ.2:Int).toNat default).bR):Int) == 2)) (fun (aZm:Bool)=>(if aZm=true then (bP (bN (bW [room ((iY.1.length+([(⟨kQ.2,iY.2⟩:dR)].length)) * 16)] (some (.inr ((iY.1++[(⟨kQ.2,iY.2⟩:dR)])))))) (fun (aOm:(List dR))=>(some (.inr (aOm,(IntKind.i64.wrap (iY.2+1))))))) else (some (.inl (Sum.inl (iY.1))))))))) (aOl,0)).map .inl)) (fun (aOn:(List dR))=>(some (.inr (aOn))))))))))) (fun (aOo:(List dR))=>(some (.inr (aOo,(IntKind.i64.wrap (kQ.2+1))))))) else (some (.inl (Sum.inl (kQ.1)))))))) ([],0)).map .inl)) (fun (aOp:(List dR))=>(some (.inl (aOp)))))
theorem aV8 (K:Nat) (a0:cM):bS Tryz.prog 78 [.agg (dP.cs a0)] [] (bV (F78 K a0)) (fun r=>.c (eD.tree r)) (fun r=>[]):=by
 refine bS.it Tryz.f78 (fun r=>⟨[(2,.c (eD.tree r))],[],[],0⟩) ?_
 unfold F78
 exact Ref.pt (
  .bk 0 (fun aOp=>⟨[(3,.c (.own 0 aOp.length))],[eD.row aOp],[],0⟩) (
   .ad 2 0 3 eD.ty eD.w (eD.at []) <|
   .lp [0,1] (fun kQ=>⟨[sP 1 0 0 0,(3,.c (.own 1 kQ.1.length)),sI 4 kQ.2],[.cells (dP.cs a0),eD.row kQ.1],[],0⟩) fun kQ =>
   .lt _ fun aZk =>
   .ite _ (
    .bk 1 (fun aOo=>⟨[sP 1 0 0 0,(3,.c (.own 1 aOo.length)),sI 4 kQ.2],[.cells (dP.cs a0),eD.row aOo],[],0⟩) (
     .ck _ <|
     .lt _ fun aZl =>
     .jn (fun aOl=>⟨[sP 1 0 0 0,(3,.c (.own 1 aOl.length)),sI 4 kQ.2],[.cells (dP.cs a0),eD.row aOl],[],0⟩) (
      .ite _ (
       .ob 6 2 2 (El.cB eD [(⟨kQ.2,(-1)⟩:dR)] rfl rfl) <|
       .ck _ <|
       .ap 6 1 3 24 eD kQ.1 [(⟨kQ.2,(-1)⟩:dR)] <|
       .nil [0,3] _) (
       .nil [0,1] _)) fun aOl =>
     .bk 2 (fun aOn=>⟨[sP 1 0 0 0,(3,.c (.own 1 aOn.length)),sI 4 kQ.2],[.cells (dP.cs a0),eD.row aOn],[],0⟩) (
      .lp [0,1] (fun iY=>⟨[sP 1 0 0 0,(3,.c (.own 1 iY.1.length)),sI 4 kQ.2,sI 5 iY.2],[.cells (dP.cs a0),eD.row iY.1],[],0⟩) fun iY =>
      .ck _ <|
      .lt _ fun aZm =>
      .ite _ (
       .bk 3 (fun aOm=>⟨[sP 1 0 0 0,(3,.c (.own 1 aOm.length)),sI 4 kQ.2,sI 5 iY.2],[.cells (dP.cs a0),eD.row aOm],[],0⟩) (
        .ob 10 2 2 (El.cB eD [(⟨kQ.2,iY.2⟩:dR)] rfl rfl) <|
        .ck _ <|
        .ap 10 1 3 50 eD iY.1 [(⟨kQ.2,iY.2⟩:dR)] <|
        .nil [0,3] _) fun aOm =>
       .nil [0,1] _) (
       .ret [0,1] _)) fun aOn =>
     .nil [0,1] _) fun aOo =>
    .nil [0,1] _) (
    .ret [1] _)) fun aOp =>
  .fz 11 0 0 <|
  .ret [] _)
def F80 (K:Nat) (a0:(List (List Int))) (a1:Int):Option (((List Bool)) ⊕ ((List Bool))) :=
 (bW [decide (0≤((Int.ofNat a0.length):Int)) && decide (((Int.ofNat a0.length):Int)≤(Int.ofNat a0.length)),room (((Int.ofNat a0.length):Int).toNat * 1)] (bW [cY a1 a0.length] (bW [room (((a0.getD (a1:Int).toNat default).length) * 8)] (bP (bN ((iter K (fun (eS:(List Bool) × (List Int) × Int)=>(bO (decide ((eS.2.2:Int)<(Int.ofNat eS.2.1.length))) (fun (x38:Bool)=>(if x38=true then (bP (bN (bW [cY eS.2.2 eS.2.1.length,!(!(decide (((eS.2.1.getD ((eS.2.2:Int).toNat) default):Int)<0))) || cY eS.2.2 eS.2.1.length,!(!(decide (((eS.2.1.getD ((eS.2.2:Int).toNat) default):Int)<0))) || cY (eS.2.1.getD ((eS.2.2:Int).toNat) default) eS.1.length] (bO ((decide (((eS.2.1.getD ((eS.2.2:Int).toNat) default):Int)<0)) || (eS.1.getD (((eS.2.1.getD ((eS.2.2:Int).toNat) default):Int).toNat) default)) (fun (x42:Bool)=>(if x42=true then (some (.inl (Sum.inl (eS.1,eS.2.1)))) else (bW [cY eS.2.2 eS.2.1.length,cY (eS.2.1.getD ((eS.2.2:Int).toNat) default) eS.1.length] (bW [cY eS.2.2 eS.2.1.length,cY (eS.2.1.getD ((eS.2.2:Int).toNat) default) a0.length] (bO (a0.getD ((eS.2.1.getD ((eS.2.2:Int).toNat) default):Int).toNat default) (fun (x43:(List Int))=>(bW [room ((eS.2.1.length+x43.length) * 8)] (some (.inr ((eS.1.set (((eS.2.1.getD ((eS.2.2:Int).toNat) default):Int).toNat) true),(eS.2.1++x43)))))))))))))) (fun (u41:(List Bool) × (List Int))=>(some (.inr (u41.1,u41.2,(IntKind.i64.wrap (eS.2.2+1))))))) else (some (.inl (Sum.inl (eS.1)))))))) ((List.replicate ((Int.ofNat a0.length):Int).toNat (default:Bool)),(a0.getD (a1:Int).toNat default),0)).map .inl)) (fun (dZ:(List Bool))=>(some (.inl (dZ))))))))
theorem aV9 (K:Nat) (a0:(List (List Int))) (a1:Int):bS Tryz.prog 80 [.c (kJ.tree a0),.c (.val (.int .i64 a1))] [] (bV (F80 K a0 a1)) (fun r=>.c (E4.tree r)) (fun r=>[]):=by
 refine bS.it Tryz.f80 (fun r=>⟨[(4,.c (E4.tree r))],[],[],0⟩) ?_
 unfold F80
 exact Ref.pt (
  .ck _ <|
  .ob 1 1 0 (x:=.row 4 1 (Int.ofNat a0.length).toNat fun _ j=>([bC false]:List C).getD j .bot) (y:=(E4.row (List.replicate (Int.ofNat a0.length).toNat (default:Bool)))) (El.aMB E4 default (by kernel_rfl)) <|
  .sl 1 1 10 (x:=.c (.own 0 ((Int.ofNat a0.length).toNat))) (y:=(.c (.own 0 ((List.replicate (Int.ofNat a0.length).toNat (default:Bool)).length)))) (jR.c (hO.own (by first | (simp;done) | (simp;omega) | omega))) <|
  .ck _ <|
  .ck _ <|
  .bk 0 (fun dZ=>⟨[(5,.c (.own 0 dZ.length))],[E4.row dZ],[],0⟩) (
   .lp [0,1] (fun eS=>⟨[(0,.c (kJ.tree a0)),(5,.c (.own 0 eS.1.length)),(6,.c (.own 1 eS.2.1.length)),sI 7 eS.2.2],[E4.row eS.1,E3.row eS.2.1],[],0⟩) fun eS =>
   .lt _ fun x38 =>
   .ite _ (
    .bk 1 (fun u41=>⟨[(0,.c (kJ.tree a0)),(5,.c (.own 0 u41.1.length)),(6,.c (.own 1 u41.2.length)),sI 7 eS.2.2],[E4.row u41.1,E3.row u41.2],[],0⟩) (
     .ck _ <|
     .lt _ fun x42 =>
     .ite _ (
      .ret [0,1] _) (
      .ck _ <|
      .ob 7 0 0 (x:=.row 4 1 eS.1.length (setRow (E4.at eS.1) (((eS.2.1.getD ((eS.2.2:Int).toNat) default):Int).toNat) 0 [bC true])) (y:=(E4.row (eS.1.set (((eS.2.1.getD ((eS.2.2:Int).toNat) default):Int).toNat) true))) (El.aMS E4 eS.1 true (j:=0) (cl:=[bC true]) (fun _=>rfl) (aY rfl) rfl) <|
      .sl 7 0 5 (x:=.c (.own 0 eS.1.length)) (y:=(.c (.own 0 ((eS.1.set (((eS.2.1.getD ((eS.2.2:Int).toNat) default):Int).toNat) true).length)))) (jR.c (hO.own (by first | (simp;done) | (simp;omega) | omega))) <|
      .ck _ <|
      .lt _ fun x43 =>
      .ck _ <|
      .ap 8 1 2 50 E3 eS.2.1 x43 <|
      .nil [0,2] _)) fun u41 =>
    .nil [0,1] _) (
    .ret [0] _)) fun dZ =>
  .fz 9 0 0 <|
  .ret [] _)
end Go.Proofs.YtdbfbedholdjaaaGreat

namespace Go.Proofs.YtdbfbedholdjaaaGreat
open Go Go.Proofs Go.Dl
variable [dK]
set_option maxRecDepth 100000
set_option maxHeartbeats 4000000
def aOr (K:Nat) (a0:cM) (a1:dR):Option (((List dR)) ⊕ ((List dR))) :=
 ((bV (aNW K a0 a1)).bind (fun r1=>((bV (aN4 K r1)).bind (fun r2=>(bP (bN ((iter K (fun (mE:(List dR) × Int)=>(bO (decide ((mE.2:Int)<(Int.ofNat r2.length))) (fun (aTU:Bool)=>(if aTU=true then (bP (bN (bW [cY mE.2 r2.length] ((cF true (bV (aLi K a0 a1 (r2.getD (mE.2:Int).toNat default))) default).bind (fun xX=>(if ((xX.2:Int) != 0)=true then (some (.inl (Sum.inl (mE.1)))) else (bP (bN ((iter K (fun (jY:(List dR) × Int)=>(bO (decide ((jY.2:Int)<(Int.ofNat a0.bM.length))) (fun (aTV:Bool)=>(if aTV=true then (bP (bN (bW [cY mE.2 r2.length] (bO (((((r2.getD (mE.2:Int).toNat default).fN):Int) == 2) && ((jY.2:Int) != xX.1)) (fun (aCE:Bool)=>(bW [!(!aCE) || cY mE.2 r2.length,!(((((r2.getD (mE.2:Int).toNat default).fN):Int) != 2) && (!aCE)) || cY jY.2 a0.bM.length,!((!((((a0.bM.getD (jY.2:Int).toNat default).bR):Int) != 2)) && (((((r2.getD (mE.2:Int).toNat default).fN):Int) != 2) && (!aCE))) || cY jY.2 a0.bM.length,!((!((((a0.bM.getD (jY.2:Int).toNat default).bR):Int) != 2)) && (((((r2.getD (mE.2:Int).toNat default).fN):Int) != 2) && (!aCE))) || cY xX.1 a0.bM.length] ((cF ((!((((a0.bM.getD (jY.2:Int).toNat default).bR):Int) != 2)) && (((((r2.getD (mE.2:Int).toNat default).fN):Int) != 2) && (!aCE))) (bV (aLb K a0 ((a0.bM.getD (jY.2:Int).toNat default).cD) ((a0.bM.getD (xX.1:Int).toNat default).cD))) default).bind (fun aTW=>(bO (aCE || (((((r2.getD (mE.2:Int).toNat default).fN):Int) != 2) && (((((a0.bM.getD (jY.2:Int).toNat default).bR):Int) != 2) || (!aTW)))) (fun (aTX:Bool)=>(if aTX=true then (some (.inl (Sum.inl (jY.1)))) else (bW [cY mE.2 r2.length] ((bV (aE6 K a0 jY.2 ((r2.getD (mE.2:Int).toNat default).xS))).bind (fun aAD=>((cF aAD.2 (bV (F63 K a0 aAD.1)) default).bind (fun aTY=>(if (aAD.2 && (!aTY.eQ))=true then ((bV (aOk K jY.1 aAD.1)).bind (fun aTZ=>(some (.inr (aTZ))))) else (some (.inr (jY.1))))))))))))))))))) (fun (aJ1:(List dR))=>(some (.inr (aJ1,(IntKind.i64.wrap (jY.2+1))))))) else (some (.inl (Sum.inl (jY.1)))))))) (mE.1,0)).map .inl)) (fun (aJ2:(List dR))=>(some (.inr (aJ2)))))))))) (fun (aJ3:(List dR))=>(some (.inr (aJ3,(IntKind.i64.wrap (mE.2+1))))))) else (some (.inl (Sum.inl (mE.1)))))))) ([],0)).map .inl)) (fun (zU:(List dR))=>(some (.inl (zU)))))))))
theorem aSb (K:Nat) (a0:cM) (a1:dR):bS Tryz.prog 121 [.agg (dP.cs a0),.agg (eD.cs a1)] [] (bV (aOr K a0 a1)) (fun r=>.c (eD.tree r)) (fun r=>[]):=by
 refine bS.it Tryz.f121 (fun r=>⟨[(4,.c (eD.tree r))],[],[],0⟩) ?_
 unfold aOr
 exact Ref.pt (
  .call [] (aRY _ _ _) fun r1 =>
  .call [] (aRZ _ _) fun r2 =>
  .bk 0 (fun zU=>⟨[(5,.c (eD.tree zU))],[],[],0⟩) (
   .sl 3 0 5 (x:=.c (.nil)) (y:=(.c (eD.tree []))) (jR.c (El.cE eD)) <|
   .lp [0,1] (fun mE=>⟨[sP 2 0 0 0,sP 3 1 0 0,(5,.c (eD.tree mE.1)),(6,.c (cL.tree r2)),sI 7 mE.2],[.cells (dP.cs a0),.cells (eD.cs a1)],[],0⟩) fun mE =>
   .lt _ fun aTU =>
   .ite _ (
    .bk 1 (fun aJ3=>⟨[sP 2 0 0 0,sP 3 1 0 0,(5,.c (eD.tree aJ3)),(6,.c (cL.tree r2)),sI 7 mE.2],[.cells (dP.cs a0),.cells (eD.cs a1)],[],0⟩) (
     .ex [2,3] <|
     .tx [] <|
     .iU [0,1,4,5] _ <|
     .eH 6 (default:Int × Int) _ [] (aJY K a0 a1 (gd r2 mE.2)) (fun _=>rfl) fun xX =>
     .ex [7,8,9,10,11] <|
     .ite _ (
      .ret [0,1] _) (
      .bk 2 (fun aJ2=>⟨[sP 2 0 0 0,sP 3 1 0 0,(5,.c (eD.tree aJ2)),(6,.c (cL.tree r2)),sI 7 mE.2],[.cells (dP.cs a0),.cells (eD.cs a1)],[],0⟩) (
       .lp [0,1] (fun jY=>⟨[sP 2 0 0 0,sP 3 1 0 0,(5,.c (eD.tree jY.1)),(6,.c (cL.tree r2)),sI 7 mE.2,sI 8 xX.1,sI 10 jY.2],[.cells (dP.cs a0),.cells (eD.cs a1)],[],0⟩) fun jY =>
       .lt _ fun aTV =>
       .ite _ (
        .bk 3 (fun aJ1=>⟨[sP 2 0 0 0,sP 3 1 0 0,(5,.c (eD.tree aJ1)),(6,.c (cL.tree r2)),sI 7 mE.2,sI 8 xX.1,sI 10 jY.2],[.cells (dP.cs a0),.cells (eD.cs a1)],[],0⟩) (
         .ex [0,1] <|
         .tx [] <|
         .iU [2,3,4,5,6,7,8,9,10,11,12,13] _ <|
         .lt _ fun aCE =>
         .iU [14,15,16,17,18,19,20,21,22,23,24,25,26,27,28,29,30,31,32,33,34,35,36,37,38,39] _ <|
         .eH 40 (default:Bool) _ [] (aJS K a0 ((gd a0.bM jY.2).cD) ((gd a0.bM xX.1).cD)) (fun _=>rfl) fun aTW =>
         .ex [41,42,43,44] <|
         .lt _ fun aTX =>
         .ite _ (
          .ret [0,1] _) (
          .ex [1,2,3] <|
          .tx [7,12] <|
          .iU [0,4,5,6] _ <|
          .kn fun aAD aWa =>
          .all [2,3,5,6,7,8,10,88,89,94,95,87,96,97,11,12] (rg (cd (bd Tryz.f121) [1,1,1,0,1,0,0,1,0,0,1,1,1,0,0,1,0,0,1,0])) [true,true,true,true,true,true,true,false,false,false,false,false,false,false] (hl [(7,.kc [] (bS.eq (xQ _ _ _ _) aWa) [])]) ⟨[sP 2 0 0 0,sP 3 1 0 0,(5,.c (eD.tree jY.1)),(6,.c (cL.tree r2)),sI 7 mE.2,sI 8 xX.1,sI 10 jY.2,sP 11 2 0 0,sB 12 aAD.2],[.cells (dP.cs a0),.cells (eD.cs a1),.cells (eD.cs aAD.1)],[],0⟩ [.s 2,.s 3,.s 11] <|
          .uZ (default:iT) _ (bS.aJz (aCj K a0 aAD.1) (fun _=>rfl)) fun aTY =>
          .ite _ (
           .call [] (aSa _ _ _) fun aTZ =>
           .nil [0,1] _) (
           .nil [0,1] _))) fun aJ1 =>
        .nil [0,1] _) (
        .ret [0,1] _)) fun aJ2 =>
      .nil [0,1] _)) fun aJ3 =>
    .nil [0,1] _) (
    .ret [] _)) fun zU =>
  .ret [] _)
def F79 (K:Nat) (a0:cM) (a1:(List dR)):Option (((List (List Int))) ⊕ ((List (List Int)))) :=
 (bP (bN ((iter K (fun (iY:(List (List Int)) × Int)=>(bO (decide ((iY.2:Int)<(Int.ofNat a1.length))) (fun (aZp:Bool)=>(if aZp=true then (bP (bN (bW [cY iY.2 a1.length] ((bV (aOr K a0 (a1.getD (iY.2:Int).toNat default))).bind (fun aFm=>(bP (bN ((iter K (fun (xY:(List Int) × Int)=>(bO (decide ((xY.2:Int)<(Int.ofNat aFm.length))) (fun (aZq:Bool)=>(if aZq=true then (bP (bN (bW [cY xY.2 aFm.length] ((bV (aNV K a1 (aFm.getD (xY.2:Int).toNat default))).bind (fun aOs=>(bW [room ((xY.1.length+([aOs].length)) * 8)] (some (.inr ((xY.1++[aOs]))))))))) (fun (aOt:(List Int))=>(some (.inr (aOt,(IntKind.i64.wrap (xY.2+1))))))) else (some (.inl (Sum.inl (xY.1)))))))) ([],0)).map .inl)) (fun (aCn:(List Int))=>(bW [room ((iY.1.length+([aCn].length)) * 24)] (some (.inr ((iY.1++[aCn]))))))))))) (fun (aOu:(List (List Int)))=>(some (.inr (aOu,(IntKind.i64.wrap (iY.2+1))))))) else (some (.inl (Sum.inl (iY.1)))))))) ([],0)).map .inl)) (fun (aDG:(List (List Int)))=>(some (.inl (aDG)))))
theorem aWb (K:Nat) (a0:cM) (a1:(List dR)):bS Tryz.prog 79 [.agg (dP.cs a0),.c (eD.tree a1)] [] (bV (F79 K a0 a1)) (fun r=>.c (kJ.tree r)) (fun r=>[]):=by
 refine bS.it Tryz.f79 (fun r=>⟨[(4,.c (kJ.tree r))],[],[],0⟩) ?_
 unfold F79
 exact Ref.pt (
  .bk 0 (fun aDG=>⟨[(5,.c (.own 0 aDG.length))],[kJ.row aDG],[],0⟩) (
   .ad 2 0 5 kJ.ty kJ.w (kJ.at []) <|
   .lp [0,1] (fun iY=>⟨[(1,.c (eD.tree a1)),sP 2 0 0 0,(5,.c (.own 1 iY.1.length)),sI 6 iY.2],[.cells (dP.cs a0),kJ.row iY.1],[],0⟩) fun iY =>
   .lt _ fun aZp =>
   .ite _ (
    .bk 1 (fun aOu=>⟨[(1,.c (eD.tree a1)),sP 2 0 0 0,(5,.c (.own 1 aOu.length)),sI 6 iY.2],[.cells (dP.cs a0),kJ.row aOu],[],0⟩) (
     .iU [1,2,3] _ <|
     .tx [5,6] <|
     .ex [0,4] <|
     .tl [5,6] <|
     .call [] (aSb _ _ _) fun aFm =>
     .bk 2 (fun aCn=>⟨[(1,.c (eD.tree a1)),sP 2 0 0 0,(5,.c (.own 1 iY.1.length)),sI 6 iY.2,(8,.c (.own 2 aCn.length))],[.cells (dP.cs a0),kJ.row iY.1,E3.row aCn],[],0⟩) (
      .ad 7 0 8 E3.ty E3.w (E3.at []) <|
      .lp [0,1,2] (fun xY=>⟨[(1,.c (eD.tree a1)),sP 2 0 0 0,(5,.c (.own 1 iY.1.length)),sI 6 iY.2,(7,.c (eD.tree aFm)),(8,.c (.own 2 xY.1.length)),sI 9 xY.2],[.cells (dP.cs a0),kJ.row iY.1,E3.row xY.1],[],0⟩) fun xY =>
      .lt _ fun aZq =>
      .ite _ (
       .bk 3 (fun aOt=>⟨[(1,.c (eD.tree a1)),sP 2 0 0 0,(5,.c (.own 1 iY.1.length)),sI 6 iY.2,(7,.c (eD.tree aFm)),(8,.c (.own 2 aOt.length)),sI 9 xY.2],[.cells (dP.cs a0),kJ.row iY.1,E3.row aOt],[],0⟩) (
        .ck _ <|
        .call [] (aRX _ _ _) fun aOs =>
        .ob 10 2 3 (El.cB E3 [aOs] rfl rfl) <|
        .ck _ <|
        .ap 10 1 4 36 E3 xY.1 [aOs] <|
        .nil [0,1,4] _) fun aOt =>
       .nil [0,1,2] _) (
       .ret [0,1,2] _)) fun aCn =>
     .fz 11 3 2 <|
     .ob 11 2 3 (El.cB kJ [aCn] rfl rfl) <|
     .ck _ <|
     .ap 11 1 4 40 kJ iY.1 [aCn] <|
     .nil [0,4] _) fun aOu =>
    .nil [0,1] _) (
    .ret [1] _)) fun aDG =>
  .fz 12 0 0 <|
  .ret [] _)
def F35 (K:Nat) (a0:cM):Option ((Int) ⊕ (Int)) :=
 ((bV (F78 K a0)).bind (fun r1=>((bV (F79 K a0 r1)).bind (fun r2=>(bP (bN ((iter K (fun (dZ:Int)=>(bO (decide ((dZ:Int)<(Int.ofNat r1.length))) (fun (kP:Bool)=>(if kP=true then (bP (bN ((bV (F80 K r2 dZ)).bind (fun r31=>(bW [cY dZ r31.length] (if (r31.getD (dZ:Int).toNat default)=true then (bW [cY dZ r1.length] (some (.inl (Sum.inr (Sum.inr ((r1.getD (dZ:Int).toNat default).c6)))))) else (some (.inr ()))))))) (fun (eS:Unit)=>(some (.inr ((IntKind.i64.wrap (dZ+1))))))) else (some (.inl (Sum.inl ()))))))) (0)).map .inl)) (fun (kI:Unit)=>(some (.inl ((-1))))))))))
theorem aWc (K:Nat) (a0:cM):bS Tryz.prog 35 [.agg (dP.cs a0)] [] (bV (F35 K a0)) (fun r=>.c (.val (.int .i64 r))) (fun r=>[]):=by
 refine bS.it Tryz.f35 (fun r=>⟨[sI 2 r],[],[],0⟩) ?_
 unfold F35
 exact Ref.pt (
  .call [] (aV8 _ _) fun r1 =>
  .call [] (aWb _ _ _) fun r2 =>
  .bk 0 (fun kI=>⟨[],[],[],0⟩) (
   .lp [] (fun dZ=>⟨[(3,.c (eD.tree r1)),(4,.c (kJ.tree r2)),sI 5 dZ],[],[],0⟩) fun dZ =>
   .lt _ fun kP =>
   .ite _ (
    .bk 1 (fun eS=>⟨[(3,.c (eD.tree r1)),(4,.c (kJ.tree r2)),sI 5 dZ],[],[],0⟩) (
     .call [] (aV9 _ _ _) fun r31 =>
     .ck _ <|
     .ite _ (
      .ck _ <|
      .ret [] _) (
      .nil [] _)) fun eS =>
    .nil [] _) (
    .ret [] _)) fun kI =>
  .ret [] _)
end Go.Proofs.YtdbfbedholdjaaaGreat
