/- No conditions. -/
import Derived.Test.YtdbfbedholdjaaaGreatLE
import Derived.Test.YtdbfbedholdjaaaGreatProg
set_option linter.unusedVariables false
set_option linter.unusedSimpArgs false
set_option linter.unusedSectionVars false
namespace Go.Proofs.YtdbfbedholdjaaaGreat
open Go Go.Proofs Go.Dl
variable [eC]
set_option maxRecDepth 100000
set_option maxHeartbeats 4000000
def aN2 (K:Nat) (a0:dX) (a1:dX):Option ((Bool) ⊕ (Bool)) :=
 (bO ((decide ((a0.dA:Int)<a1.dA)) || (((a0.dA:Int) == a1.dA) && (decide ((a0.dH:Int)<a1.dH)))) (fun (x1:Bool)=>(some (.inl (x1)))))
theorem aRd (K:Nat) (a0:dX) (a1:dX):bR Tryz.prog 202 [.agg (dS.cs a0),.agg (dS.cs a1)] [] (bU (aN2 K a0 a1)) (fun r=>.c (.val (.bool r))) (fun r=>[]):=by
 refine bR.it Tryz.f202 (fun r=>⟨[sB 4 r],[],[],0⟩) ?_
 unfold aN2
 exact Ref.pt (
  .lt _ fun x1 =>
  .ret [] _)
def aN3 (K:Nat) (a0:(List dX)) (a1:dX):Option ((Int) ⊕ (Int)) :=
 (bM (bL ((iter K (fun (jH:Int)=>(bO (decide ((jH:Int)<(Int.ofNat a0.length))) (fun (yV:Bool)=>(if yV=true then (bM (bL (bW [cS jH a0.length] (bO ((((a0.getD (jH:Int).toNat default).dA:Int) == a1.dA) && ((((a0.getD (jH:Int).toNat default).dH:Int) == a1.dH) && true)) (fun (iW:Bool)=>(if iW=true then (some (.inl (Sum.inr (Sum.inr (jH))))) else (some (.inr ()))))))) (fun (gX:Unit)=>(some (.inr ((IntKind.i64.wrap (jH+1))))))) else (some (.inl (Sum.inl ()))))))) (0)).map .inl)) (fun (wC:Unit)=>(some (.inl ((-1))))))
theorem aRe (K:Nat) (a0:(List dX)) (a1:dX):bR Tryz.prog 122 [.c (dS.tree a0),.agg (dS.cs a1)] [] (bU (aN3 K a0 a1)) (fun r=>.c (.val (.int .i64 r))) (fun r=>[]):=by
 refine bR.it Tryz.f122 (fun r=>⟨[sI 4 r],[],[],0⟩) ?_
 unfold aN3
 exact Ref.pt (
  .bk 0 (fun wC=>⟨[],[],[],0⟩) (
   .lp [0] (fun jH=>⟨[(0,.c (dS.tree a0)),sP 3 0 0 0,sI 5 jH],[.cells (dS.cs a1)],[],0⟩) fun jH =>
   .lt _ fun yV =>
   .ite _ (
    .bk 1 (fun gX=>⟨[(0,.c (dS.tree a0)),sP 3 0 0 0,sI 5 jH],[.cells (dS.cs a1)],[],0⟩) (
     .mT [0,1,2] _ <|
     .tx [] <|
     .ex [3,4,5] <|
     .lt _ fun iW =>
     .ite _ (
      .ret [] _) (
      .nil [0] _)) fun gX =>
    .nil [0] _) (
    .ret [] _)) fun wC =>
  .ret [] _)
def aN4 (K:Nat) (a0:dD) (a1:dX):Option (((List cJ)) ⊕ ((List cJ))) :=
 ((bU (aGT K a0 a1)).bind (fun r1=>(if (!r1)=true then (some (.inl ([]))) else (if (decide ((a1.dH:Int)<0))=true then (bW [cS a1.dA a0.bK.length] (bO ((a0.bK.getD (a1.dA:Int).toNat default).uV) (fun (x2:(List cJ))=>(some (.inl (x2)))))) else (bW [cS a1.dA a0.bK.length,cS a1.dH ((a0.bK.getD (a1.dA:Int).toNat default).bN).length] (bO ((((a0.bK.getD (a1.dA:Int).toNat default).bN).getD (a1.dH:Int).toNat default).uV) (fun (x3:(List cJ))=>(some (.inl (x3))))))))))
theorem aRf (K:Nat) (a0:dD) (a1:dX):bR Tryz.prog 158 [.agg (dQ.cs a0),.agg (dS.cs a1)] [] (bU (aN4 K a0 a1)) (fun r=>.c (dL.tree r)) (fun r=>[]):=by
 refine bR.it Tryz.f158 (fun r=>⟨[(4,.c (dL.tree r))],[],[],0⟩) ?_
 unfold aN4
 exact Ref.pt (
  .call [] (aCz _ _ _) fun r1 =>
  .ite _ (
   .sl 2 0 4 (x:=.c (.nil)) (y:=(.c (dL.tree []))) (eG.c (El.cO dL)) <|
   .ret [] _) (
   .ite _ (
    .ck _ <|
    .lt _ fun x2 =>
    .ret [] _) (
    .ex [0,2,7] <|
    .tx [] <|
    .mT [1,3,4,5,6,8,9,10,11,12] _ <|
    .lt _ fun x3 =>
    .ret [] _)))
def aAp:(K:Nat)→((List cM))→(cM)→Option (((List cM)) ⊕ ((List cM)))
 | 0,_,_=>none
 | K+1,a0,a1 =>
 (bM (if ((a1.bP:Int) == 13)=true then (bW [room ((a0.length+([a1].length)) * 72)] (some (.inr ((a0++[a1]))))) else (some (.inr (a0)))) (fun (u1:(List cM))=>(bM (bL ((iter K (fun (kD:(List cM) × Int)=>(bO (decide ((kD.2:Int)<(Int.ofNat a1.gD.length))) (fun (iW:Bool)=>(if iW=true then (bM (bL (bW [cS kD.2 a1.gD.length] ((bU (aAp K kD.1 (a1.gD.getD (kD.2:Int).toNat default))).bind (fun r32=>(some (.inr (r32))))))) (fun (yW:(List cM))=>(some (.inr (yW,(IntKind.i64.wrap (kD.2+1))))))) else (some (.inl (Sum.inl (kD.1)))))))) (u1,0)).map .inl)) (fun (gW:(List cM))=>(some (.inl (gW)))))))
theorem aN5:∀ K:Nat,(∀ (a0:(List cM)),∀ (a1:cM),bR Tryz.prog 198 [.c (.own 0 a0.length),.agg (cA.cs a1)] [cA.row a0] (bU (aAp K a0 a1)) (fun r=>.c (.own 1 r.length)) (fun r=>[.dead,cA.row r])):=by
 intro K
 induction K with
 | zero=>exact fun a0 a1=>bR.none (by rw[aAp];rfl)
 | succ K ih =>
  have aUf:=ih
  refine ?_
  ·
   intro a0 a1
   refine bR.it Tryz.f198 (fun r=>⟨[(4,.c (.own 1 r.length))],[.dead,cA.row r],[],1⟩) ?_
   rw[aAp]
   exact Ref.pt (
    .jn (fun u1=>⟨[(0,.c (.own 1 u1.length)),sP 3 2 0 0],[.dead,cA.row u1,cA.o a1],[],1⟩) (
     .ite _ (
      .ob 2 2 2 (x:=.row 195 5 1 (hG [(cA.cs a1)])) (y:=(cA.row [a1])) (El.bZ cA [a1] rfl (by kernel_rfl)) <|
      .sl 2 2 11 (x:=.c (.own 2 1)) (y:=(.c (.own 2 ([a1].length)))) (eG.c (eD.own (by first | (simp;done) | (simp;omega) | omega))) <|
      .ck _ <|
      .ob 2 1 3 (x:=.row 195 5 (a0.length+([a1].length)) fun i j=>bif Nat.blt i a0.length then cA.at a0 i j else (cA.at [a1]) (i - a0.length) j) (y:=(cA.row (a0++[a1]))) (El.cH cA a0 [a1] rfl rfl) <|
      .sl 2 1 12 (x:=.c (.own 3 (a0.length+([a1].length)))) (y:=(.c (.own 3 ((a0++[a1]).length)))) (eG.c (eD.own (by first | (simp;done) | (simp;omega) | omega))) <|
      .nil [0,3,1] _) (
      .mv 1 0 0 <|
      .nil [0,2,1] _)) fun u1 =>
    .bk 0 (fun gW=>⟨[(0,.c (.own 1 gW.length))],[.dead,cA.row gW],[],1⟩) (
     .lp [0,1,2] (fun kD=>⟨[(0,.c (.own 1 kD.1.length)),sP 3 2 0 0,sI 5 kD.2],[.dead,cA.row kD.1,cA.o a1],[],1⟩) fun kD =>
     .lt _ fun iW =>
     .ite _ (
      .bk 1 (fun yW=>⟨[(0,.c (.own 1 yW.length)),sP 3 2 0 0,sI 5 kD.2],[.dead,cA.row yW,cA.o a1],[],1⟩) (
       .sl 6 4 22 (x:=.c (tM a1.gD)) (y:=(.c (cA.tree a1.gD))) (eG.c (wF _)) <|
       .ck _ <|
       .call [1] (aUf _ _) fun r32 =>
       .nil [0,3,2] _) fun yW =>
      .nil [0,1,2] _) (
      .ret [0,1] _)) fun gW =>
    .ret [0,1] _)
theorem aG2 (K:Nat) (a0:(List cM)) (a1:cM):bR Tryz.prog 198 [.c (.own 0 a0.length),.agg (cA.cs a1)] [cA.row a0] (bU (aAp K a0 a1)) (fun r=>.c (.own 1 r.length)) (fun r=>[.dead,cA.row r]):=(aN5 K) a0 a1
def yB:(K:Nat)→((List cM))→((List cJ))→Option (((List cM)) ⊕ ((List cM)))
 | 0,_,_=>none
 | K+1,a0,a1 =>
 (bM (bL ((iter K (fun (iE:(List cM) × Int)=>(bO (decide ((iE.2:Int)<(Int.ofNat a1.length))) (fun (aN6:Bool)=>(if aN6=true then (bM (bL (bM (bL ((iter K (fun (pH:(List cM) × Int)=>(bW [cS iE.2 a1.length] (bO (decide ((pH.2:Int)<(Int.ofNat ((a1.getD (iE.2:Int).toNat default).cT).length))) (fun (aN7:Bool)=>(if aN7=true then (bM (bL (bW [cS iE.2 a1.length] (bO ((a1.getD (iE.2:Int).toNat default).cT) (fun (aIW:(List cM))=>(bW [cS pH.2 aIW.length] ((bU (aAp K pH.1 (aIW.getD (pH.2:Int).toNat default))).bind (fun aN8=>(some (.inr (aN8)))))))))) (fun (aDF:(List cM))=>(some (.inr (aDF,(IntKind.i64.wrap (pH.2+1))))))) else (some (.inl (Sum.inl (pH.1))))))))) (iE.1,0)).map .inl)) (fun (aDG:(List cM))=>(bM (bL ((iter K (fun (pI:(List cM) × Int)=>(bW [cS iE.2 a1.length] (bO (decide ((pI.2:Int)<(Int.ofNat ((a1.getD (iE.2:Int).toNat default).bX).length))) (fun (aN9:Bool)=>(if aN9=true then (bM (bL (bW [cS iE.2 a1.length] (bO ((a1.getD (iE.2:Int).toNat default).bX) (fun (aDH:(List (List cJ)))=>(bW [cS pI.2 aDH.length] ((bU (yB K pI.1 (aDH.getD (pI.2:Int).toNat default))).bind (fun aG3=>(some (.inr (aG3)))))))))) (fun (aDI:(List cM))=>(some (.inr (aDI,(IntKind.i64.wrap (pI.2+1))))))) else (some (.inl (Sum.inl (pI.1))))))))) (aDG,0)).map .inl)) (fun (aDJ:(List cM))=>(some (.inr (aDJ)))))))) (fun (uF:(List cM))=>(some (.inr (uF,(IntKind.i64.wrap (iE.2+1))))))) else (some (.inl (Sum.inl (iE.1)))))))) (a0,0)).map .inl)) (fun (aDK:(List cM))=>(some (.inl (aDK)))))
theorem aOa:∀ K:Nat,(∀ (a0:(List cM)),∀ (a1:(List cJ)),bR Tryz.prog 157 [.c (.own 0 a0.length),.c (dL.tree a1)] [cA.row a0] (bU (yB K a0 a1)) (fun r=>.c (.own 1 r.length)) (fun r=>[.dead,cA.row r])):=by
 intro K
 induction K with
 | zero=>exact fun a0 a1=>bR.none (by rw[yB];rfl)
 | succ K ih =>
  have aUg:=ih
  refine ?_
  ·
   intro a0 a1
   refine bR.it Tryz.f157 (fun r=>⟨[(4,.c (.own 1 r.length))],[.dead,cA.row r],[],1⟩) ?_
   rw[yB]
   exact Ref.pt (
    .bk 0 (fun aDK=>⟨[(0,.c (.own 1 aDK.length))],[.dead,cA.row aDK],[],1⟩) (
     .mv 1 0 0 <|
     .lp [0,1] (fun iE=>⟨[(0,.c (.own 1 iE.1.length)),(1,.c (dL.tree a1)),sI 5 iE.2],[.dead,cA.row iE.1],[],1⟩) fun iE =>
     .lt _ fun aN6 =>
     .ite _ (
      .bk 1 (fun uF=>⟨[(0,.c (.own 1 uF.length)),(1,.c (dL.tree a1)),sI 5 iE.2],[.dead,cA.row uF],[],1⟩) (
       .bk 2 (fun aDG=>⟨[(0,.c (.own 1 aDG.length)),(1,.c (dL.tree a1)),sI 5 iE.2],[.dead,cA.row aDG],[],1⟩) (
        .lp [0,1] (fun pH=>⟨[(0,.c (.own 1 pH.1.length)),(1,.c (dL.tree a1)),sI 5 iE.2,sI 6 pH.2],[.dead,cA.row pH.1],[],1⟩) fun pH =>
        .ck _ <|
        .lt _ fun aN7 =>
        .ite _ (
         .bk 3 (fun aDF=>⟨[(0,.c (.own 1 aDF.length)),(1,.c (dL.tree a1)),sI 5 iE.2,sI 6 pH.2],[.dead,cA.row aDF],[],1⟩) (
          .ck _ <|
          .lt _ fun aIW =>
          .ck _ <|
          .call [1] (aG2 _ _ _) fun aN8 =>
          .nil [0,2] _) fun aDF =>
         .nil [0,1] _) (
         .ret [0,1] _)) fun aDG =>
       .bk 4 (fun aDJ=>⟨[(0,.c (.own 1 aDJ.length)),(1,.c (dL.tree a1)),sI 5 iE.2],[.dead,cA.row aDJ],[],1⟩) (
        .lp [0,1] (fun pI=>⟨[(0,.c (.own 1 pI.1.length)),(1,.c (dL.tree a1)),sI 5 iE.2,sI 7 pI.2],[.dead,cA.row pI.1],[],1⟩) fun pI =>
        .ck _ <|
        .lt _ fun aN9 =>
        .ite _ (
         .bk 5 (fun aDI=>⟨[(0,.c (.own 1 aDI.length)),(1,.c (dL.tree a1)),sI 5 iE.2,sI 7 pI.2],[.dead,cA.row aDI],[],1⟩) (
          .ck _ <|
          .sl 11 4 49 (x:=.c (nE ((gd a1 iE.2).bX))) (y:=(.c (jA.tree ((gd a1 iE.2).bX)))) (eG.c (kV _)) <|
          .lt _ fun aDH =>
          .ck _ <|
          .call [1] (aUg _ _) fun aG3 =>
          .nil [0,2] _) fun aDI =>
         .nil [0,1] _) (
         .ret [0,1] _)) fun aDJ =>
       .nil [0,1] _) fun uF =>
      .nil [0,1] _) (
      .ret [0,1] _)) fun aDK =>
    .ret [0,1] _)
theorem aOb (K:Nat) (a0:(List cM)) (a1:(List cJ)):bR Tryz.prog 157 [.c (.own 0 a0.length),.c (dL.tree a1)] [cA.row a0] (bU (yB K a0 a1)) (fun r=>.c (.own 1 r.length)) (fun r=>[.dead,cA.row r]):=(aOa K) a0 a1
def aOc (K:Nat) (a1:(List cJ)):Option (((List cM)) ⊕ ((List cM))) :=
 (bM (bL ((iter K (fun (iE:(List cM) × Int)=>(bO (decide ((iE.2:Int)<(Int.ofNat a1.length))) (fun (aN6:Bool)=>(if aN6=true then (bM (bL (bM (bL ((iter K (fun (pH:(List cM) × Int)=>(bW [cS iE.2 a1.length] (bO (decide ((pH.2:Int)<(Int.ofNat ((a1.getD (iE.2:Int).toNat default).cT).length))) (fun (aN7:Bool)=>(if aN7=true then (bM (bL (bW [cS iE.2 a1.length] (bO ((a1.getD (iE.2:Int).toNat default).cT) (fun (aIW:(List cM))=>(bW [cS pH.2 aIW.length] ((bU (aAp K pH.1 (aIW.getD (pH.2:Int).toNat default))).bind (fun aN8=>(some (.inr (aN8)))))))))) (fun (aDF:(List cM))=>(some (.inr (aDF,(IntKind.i64.wrap (pH.2+1))))))) else (some (.inl (Sum.inl (pH.1))))))))) (iE.1,0)).map .inl)) (fun (aDG:(List cM))=>(bM (bL ((iter K (fun (pI:(List cM) × Int)=>(bW [cS iE.2 a1.length] (bO (decide ((pI.2:Int)<(Int.ofNat ((a1.getD (iE.2:Int).toNat default).bX).length))) (fun (aN9:Bool)=>(if aN9=true then (bM (bL (bW [cS iE.2 a1.length] (bO ((a1.getD (iE.2:Int).toNat default).bX) (fun (aDH:(List (List cJ)))=>(bW [cS pI.2 aDH.length] ((bU (yB K pI.1 (aDH.getD (pI.2:Int).toNat default))).bind (fun aG3=>(some (.inr (aG3)))))))))) (fun (aDI:(List cM))=>(some (.inr (aDI,(IntKind.i64.wrap (pI.2+1))))))) else (some (.inl (Sum.inl (pI.1))))))))) (aDG,0)).map .inl)) (fun (aDJ:(List cM))=>(some (.inr (aDJ)))))))) (fun (uF:(List cM))=>(some (.inr (uF,(IntKind.i64.wrap (iE.2+1))))))) else (some (.inl (Sum.inl (iE.1)))))))) ([],0)).map .inl)) (fun (aDK:(List cM))=>(some (.inl (aDK)))))
theorem aRg (K:Nat) (a1:(List cJ)):bR Tryz.prog 157 [.c (.nil),.c (dL.tree a1)] [] (bU (aOc K a1)) (fun r=>.c (cA.tree r)) (fun r=>[]):=by
 refine bR.it Tryz.f157 (fun r=>⟨[(4,.c (cA.tree r))],[],[],0⟩) ?_
 unfold aOc
 exact Ref.pt (
  .bk 0 (fun aDK=>⟨[(0,.c (.own 0 aDK.length))],[cA.row aDK],[],0⟩) (
   .ad 1 0 0 cA.ty cA.w (cA.at []) <|
   .lp [0] (fun iE=>⟨[(0,.c (.own 0 iE.1.length)),(1,.c (dL.tree a1)),sI 5 iE.2],[cA.row iE.1],[],0⟩) fun iE =>
   .lt _ fun aN6 =>
   .ite _ (
    .bk 1 (fun uF=>⟨[(0,.c (.own 0 uF.length)),(1,.c (dL.tree a1)),sI 5 iE.2],[cA.row uF],[],0⟩) (
     .bk 2 (fun aDG=>⟨[(0,.c (.own 0 aDG.length)),(1,.c (dL.tree a1)),sI 5 iE.2],[cA.row aDG],[],0⟩) (
      .lp [0] (fun pH=>⟨[(0,.c (.own 0 pH.1.length)),(1,.c (dL.tree a1)),sI 5 iE.2,sI 6 pH.2],[cA.row pH.1],[],0⟩) fun pH =>
      .ck _ <|
      .lt _ fun aN7 =>
      .ite _ (
       .bk 3 (fun aDF=>⟨[(0,.c (.own 0 aDF.length)),(1,.c (dL.tree a1)),sI 5 iE.2,sI 6 pH.2],[cA.row aDF],[],0⟩) (
        .ck _ <|
        .lt _ fun aIW =>
        .ck _ <|
        .call [0] (aG2 _ _ _) fun aN8 =>
        .nil [1] _) fun aDF =>
       .nil [0] _) (
       .ret [0] _)) fun aDG =>
     .bk 4 (fun aDJ=>⟨[(0,.c (.own 0 aDJ.length)),(1,.c (dL.tree a1)),sI 5 iE.2],[cA.row aDJ],[],0⟩) (
      .lp [0] (fun pI=>⟨[(0,.c (.own 0 pI.1.length)),(1,.c (dL.tree a1)),sI 5 iE.2,sI 7 pI.2],[cA.row pI.1],[],0⟩) fun pI =>
      .ck _ <|
      .lt _ fun aN9 =>
      .ite _ (
       .bk 5 (fun aDI=>⟨[(0,.c (.own 0 aDI.length)),(1,.c (dL.tree a1)),sI 5 iE.2,sI 7 pI.2],[cA.row aDI],[],0⟩) (
        .ck _ <|
        .sl 11 4 49 (x:=.c (nE ((gd a1 iE.2).bX))) (y:=(.c (jA.tree ((gd a1 iE.2).bX)))) (eG.c (kV _)) <|
        .lt _ fun aDH =>
        .ck _ <|
        .call [0] (aOb _ _ _) fun aG3 =>
        .nil [1] _) fun aDI =>
       .nil [0] _) (
       .ret [0] _)) fun aDJ =>
     .nil [0] _) fun uF =>
    .nil [0] _) (
    .ret [0] _)) fun aDK =>
  .fz 12 0 0 <|
  .ret [] _)
end Go.Proofs.YtdbfbedholdjaaaGreat

namespace Go.Proofs.YtdbfbedholdjaaaGreat
open Go Go.Proofs Go.Dl
variable [eC]
set_option maxRecDepth 100000
set_option maxHeartbeats 4000000
def aMd (K:Nat) (a0:(List dX)) (a1:dX):Option (((List dX)) ⊕ ((List dX))) :=
 (bM (bL ((iter K (fun (u18:Int)=>(bW [!(decide ((u18:Int)<(Int.ofNat a0.length))) || cS u18 a0.length] (bO (decide ((u18:Int)<(Int.ofNat a0.length))) (fun (x23:Bool)=>((cK x23 (bU (aN2 K (a0.getD (u18:Int).toNat default) a1)) default).bind (fun qD=>(if (x23 && qD)=true then (bM (bL (some (.inr ((IntKind.i64.wrap (u18+1)))))) (fun (u25:Int)=>(some (.inr (u25))))) else (some (.inl (Sum.inl (u18))))))))))) (0)).map .inl)) (fun (u13:Int)=>(bW [!(decide ((u13:Int)<(Int.ofNat a0.length))) || cS u13 a0.length] (bO (decide ((u13:Int)<(Int.ofNat a0.length))) (fun (yV:Bool)=>(bO (yV && ((((a0.getD (u13:Int).toNat default).dA:Int) == a1.dA) && ((((a0.getD (u13:Int).toNat default).dH:Int) == a1.dH) && true))) (fun (x27:Bool)=>(if x27=true then (some (.inl (a0))) else (bW [c9 a0.length 0 u13,c9 a0.length u13 (Int.ofNat a0.length)] (bO ((a0.drop (u13:Int).toNat).take (((Int.ofNat a0.length):Int).toNat - (u13:Int).toNat)) (fun (l8:(List dX))=>(bO ((a0.drop (0:Int).toNat).take ((u13:Int).toNat - (0:Int).toNat)) (fun (iW:(List dX))=>(bW [room (iW.length * 16)] (bW [room ((iW.length+([a1].length)) * 16)] (bW [room ((((iW++[a1]).length)+l8.length) * 16)] (some (.inl (((iW++[a1])++l8))))))))))))))))))))
theorem aRo (K:Nat) (a0:(List dX)) (a1:dX):bR Tryz.prog 161 [.c (dS.tree a0),.agg (dS.cs a1)] [] (bU (aMd K a0 a1)) (fun r=>.c (dS.tree r)) (fun r=>[]):=by
 refine bR.it Tryz.f161 (fun r=>⟨[(4,.c (dS.tree r))],[],[],0⟩) ?_
 unfold aMd
 exact Ref.pt (
  .bk 0 (fun u13=>⟨[(0,.c (dS.tree a0)),sP 3 0 0 0,sI 5 u13],[.cells (dS.cs a1)],[],0⟩) (
   .lp [0] (fun u18=>⟨[(0,.c (dS.tree a0)),sP 3 0 0 0,sI 5 u18],[.cells (dS.cs a1)],[],0⟩) fun u18 =>
   .mT [0,1,2,3,4,5,6,7] _ <|
   .lt _ fun x23 =>
   .tx [] <|
   .ex [8,9] <|
   .gB 10 (default:Bool) _ [] (aRd K (gd a0 u18) a1) (fun _=>rfl) fun qD =>
   .ex [11] <|
   .ite _ (
    .bk 1 (fun u25=>⟨[(0,.c (dS.tree a0)),sP 3 0 0 0,sI 5 u25],[.cells (dS.cs a1)],[],0⟩) (
     .nil [0] _) fun u25 =>
    .nil [0] _) (
    .ret [0] _)) fun u13 =>
  .mT [0,1,2,3,4,5,6,7] _ <|
  .lt _ fun yV =>
  .tx [] <|
  .ex [8,9,10,11] <|
  .lt _ fun x27 =>
  .ite _ (
   .ret [] _) (
   .esc [0] [(cd (bd Tryz.f161) [1,1,1,1,0]),(cd (bd Tryz.f161) [1,1,1,1,1])] ⟨[(0,.c (dS.tree a0)),sP 3 0 0 0,sI 5 u13,sB 31 x27],[.cells (dS.cs a1)],[],0⟩ (by
    refine Ref.eR 6 (by kernel_rfl) (by kernel_rfl) ?_
    refine dV.evH (vs:=[c9 a0.length 0 u13,c9 a0.length u13 (Int.ofNat a0.length)]) (cR:=⟨[sP 3 0 0 0,(35,.c (.tree dS.w ((u13:Int).toNat - (0:Int).toNat) fun i j=>dS.at a0 ((0:Int).toNat+i) j)),(42,.c (.tree dS.w ((Int.ofNat a0.length).toNat - (u13:Int).toNat) fun i j=>dS.at a0 ((u13:Int).toNat+i) j))],[.cells (dS.cs a1)],[],0⟩) (fuel':=6) [0,1,2,7,8,9] [3,35,42] [0] rfl (by kernel_rfl) (by kernel_rfl) (fun hv=>?_)
    refine dV.conv (Conv.sl 35 (.c (dS.tree ((a0.drop (0:Int).toNat).take ((u13:Int).toNat - (0:Int).toNat)))) (eG.c (El.qN dS _ (vW (hv _ (List.Mem.head _)))))) ?_
    refine dV.conv (Conv.sl 42 (.c (dS.tree ((a0.drop (u13:Int).toNat).take ((Int.ofNat a0.length).toNat - (u13:Int).toNat)))) (eG.c (El.qN dS _ (vW (hv _ (List.Mem.tail _ (List.Mem.head _))))))) ?_
    refine dV.aGG (stf:=fun l8=>⟨[(42,.c (dS.tree l8)),(35,.c (dS.tree ((a0.drop (0:Int).toNat).take ((u13:Int).toNat - (0:Int).toNat)))),sP 3 0 0 0],[.cells (dS.cs a1)],[],0⟩) (by kernel_rfl) (fun l8=>?_)
    refine dV.aGG (stf:=fun iW=>⟨[(42,.c (dS.tree l8)),(35,.c (dS.tree iW)),sP 3 0 0 0],[.cells (dS.cs a1)],[],0⟩) (by kernel_rfl) (fun iW=>?_)
    refine dV.rG [6,10] ?_
    refine bQ.aC9 (⟨[(4,.c (.own 0 (((iW++[a1])++l8).length)))],[dS.row ((iW++[a1])++l8)],[],0⟩) ((some (.inl (((iW++[a1])++l8))))) ?_ (fun hk=>?_)
    ·
     exact Ref.pt (
      .fz 1000000 0 0 <|
      .ret [] _)
    ·
     refine bQ.v0 (fuel':=5) [4] [35,37,42] [] ?_
     refine bQ.lW (fuel':=4) 3 5 (by kernel_rfl) ?_ ?_
     ·
      refine cE.aIA (vs:=[room (iW.length * 16)]) (cR:=⟨[(36,.c (.own 0 iW.length)),(37,.agg (dS.cs a1)),(42,.c (dS.tree l8))],[dS.row iW],[],0⟩) 3 [36,37,42] [0] (by kernel_rfl) (by kernel_rfl) ?_
      refine bQ.nC (cR:=⟨[(36,.c (.own 0 iW.length)),(38,.c (.own 1 1)),(42,.c (dS.tree l8))],[dS.row iW,.row 66 2 1 (hG [(dS.cs a1)])],[],0⟩) (fuel':=3) 5 [36,38,42] [0,1] rfl (by kernel_rfl) (by kernel_rfl) ?_
      refine bQ.conv (Conv.ob 1 (dS.row [a1]) (El.bZ dS [a1] rfl (by kernel_rfl))) ?_
      refine bQ.conv (Conv.sl 38 (.c (.own 1 ([a1].length))) (eG.c (eD.own (by first | (simp;done) | (simp;omega) | omega)))) ?_
      refine bQ.cP (fuel':=2) 6 (by kernel_rfl) ?_
      refine cE.writes (vs:=[room ((iW.length+([a1].length)) * 16)]) (cR:=⟨[(39,.c (.own 0 (iW.length+([a1].length)))),(42,.c (dS.tree l8))],[.row 66 2 (iW.length+([a1].length)) fun i j=>bif Nat.blt i iW.length then dS.at iW i j else (dS.at [a1]) (i - iW.length) j],[],0⟩) 6 [39,42] [2] (by kernel_rfl) (by kernel_rfl) ?_
      refine bQ.conv (Conv.ob 0 (dS.row (iW++[a1])) (El.cH dS iW [a1] rfl rfl)) ?_
      refine bQ.conv (Conv.sl 39 (.c (.own 0 ((iW++[a1]).length))) (eG.c (eD.own (by first | (simp;done) | (simp;omega) | omega)))) ?_
      refine bQ.cP (fuel':=1) 10 (by kernel_rfl) ?_
      refine cE.writes (vs:=[room ((((iW++[a1]).length)+l8.length) * 16)]) (cR:=⟨[(43,.c (.own 0 (((iW++[a1]).length)+l8.length)))],[.row 66 2 (((iW++[a1]).length)+l8.length) fun i j=>bif Nat.blt i ((iW++[a1]).length) then dS.at (iW++[a1]) i j else (dS.at l8) (i - ((iW++[a1]).length)) j],[],0⟩) 10 [43] [1] (by kernel_rfl) (by kernel_rfl) ?_
      refine bQ.conv (Conv.ob 0 (dS.row ((iW++[a1])++l8)) (El.cH dS (iW++[a1]) l8 rfl rfl)) ?_
      refine bQ.conv (Conv.sl 43 (.c (.own 0 (((iW++[a1])++l8).length))) (eG.c (eD.own (by first | (simp;done) | (simp;omega) | omega)))) ?_
      refine bQ.v0 (fuel':=0) [11] [4] [0] ?_
      refine bQ.done (by kernel_rfl) ?_
      refine Ref.ck ⟨[(4,.c (.own 0 (((iW++[a1])++l8).length)))],[dS.row ((iW++[a1])++l8)],[],0⟩ [4] [0] ?_
      exact hk
     ·
      refine cE.kC (cR:=⟨[(35,.c (dS.tree iW)),(38,.c (.own 0 1)),(42,.c (dS.tree l8))],[.row 66 2 1 (hG [(dS.cs a1)])],[],0⟩) 5 [35,38,42] [0] (by kernel_rfl) (by kernel_rfl) ?_
      refine bQ.conv (Conv.ob 0 (dS.row [a1]) (El.bZ dS [a1] rfl (by kernel_rfl))) ?_
      refine bQ.conv (Conv.sl 38 (.c (.own 0 ([a1].length))) (eG.c (eD.own (by first | (simp;done) | (simp;omega) | omega)))) ?_
      refine bQ.cP (fuel':=3) 3 (by kernel_rfl) ?_
      refine cE.a1 [room (iW.length * 16)] 3 [36,38,42] [0,1] ?_
      refine bQ.cP (fuel':=2) 6 (by kernel_rfl) ?_
      refine cE.writes (vs:=[room ((iW.length+([a1].length)) * 16)]) (cR:=⟨[(39,.c (.own 0 (iW.length+([a1].length)))),(42,.c (dS.tree l8))],[.row 66 2 (iW.length+([a1].length)) fun i j=>bif Nat.blt i iW.length then dS.at iW i j else (dS.at [a1]) (i - iW.length) j],[],0⟩) 6 [39,42] [2] (by kernel_rfl) (by kernel_rfl) ?_
      refine bQ.conv (Conv.ob 0 (dS.row (iW++[a1])) (El.cH dS iW [a1] rfl rfl)) ?_
      refine bQ.conv (Conv.sl 39 (.c (.own 0 ((iW++[a1]).length))) (eG.c (eD.own (by first | (simp;done) | (simp;omega) | omega)))) ?_
      refine bQ.cP (fuel':=1) 10 (by kernel_rfl) ?_
      refine cE.writes (vs:=[room ((((iW++[a1]).length)+l8.length) * 16)]) (cR:=⟨[(43,.c (.own 0 (((iW++[a1]).length)+l8.length)))],[.row 66 2 (((iW++[a1]).length)+l8.length) fun i j=>bif Nat.blt i ((iW++[a1]).length) then dS.at (iW++[a1]) i j else (dS.at l8) (i - ((iW++[a1]).length)) j],[],0⟩) 10 [43] [1] (by kernel_rfl) (by kernel_rfl) ?_
      refine bQ.conv (Conv.ob 0 (dS.row ((iW++[a1])++l8)) (El.cH dS (iW++[a1]) l8 rfl rfl)) ?_
      refine bQ.conv (Conv.sl 43 (.c (.own 0 (((iW++[a1])++l8).length))) (eG.c (eD.own (by first | (simp;done) | (simp;omega) | omega)))) ?_
      refine bQ.v0 (fuel':=0) [11] [4] [0] ?_
      refine bQ.done (by kernel_rfl) ?_
      refine Ref.ck ⟨[(4,.c (.own 0 (((iW++[a1])++l8).length)))],[dS.row ((iW++[a1])++l8)],[],0⟩ [4] [0] ?_
      exact hk)))
def F78 (K:Nat) (a0:dD):Option (((List dX)) ⊕ ((List dX))) :=
 (bM (bL ((iter K (fun (gY:(List dX) × Int)=>(bO (decide ((gY.2:Int)<(Int.ofNat a0.bK.length))) (fun (aXe:Bool)=>(if aXe=true then (bM (bL (bW [cS gY.2 a0.bK.length] (bO ((((a0.bK.getD (gY.2:Int).toNat default).bP):Int) == 3) (fun (aXf:Bool)=>(bM (if aXf=true then (bW [room ((gY.1.length+([(⟨gY.2,(-1)⟩:dX)].length)) * 16)] (some (.inr ((gY.1++[(⟨gY.2,(-1)⟩:dX)]))))) else (some (.inr (gY.1)))) (fun (aOs:(List dX))=>(bM (bL ((iter K (fun (gL:(List dX) × Int)=>(bW [cS gY.2 a0.bK.length,!(decide ((gL.2:Int)<(Int.ofNat ((a0.bK.getD (gY.2:Int).toNat default).bN).length))) || cS gY.2 a0.bK.length] (bO ((decide ((gL.2:Int)<(Int.ofNat ((a0.bK.getD (gY.2:Int).toNat default).bN).length))) && ((((a0.bK.getD (gY.2:Int).toNat default).bP):Int) == 2)) (fun (aXg:Bool)=>(if aXg=true then (bM (bL (bW [room ((gL.1.length+([(⟨gY.2,gL.2⟩:dX)].length)) * 16)] (some (.inr ((gL.1++[(⟨gY.2,gL.2⟩:dX)])))))) (fun (aOt:(List dX))=>(some (.inr (aOt,(IntKind.i64.wrap (gL.2+1))))))) else (some (.inl (Sum.inl (gL.1))))))))) (aOs,0)).map .inl)) (fun (aOu:(List dX))=>(some (.inr (aOu))))))))))) (fun (aOv:(List dX))=>(some (.inr (aOv,(IntKind.i64.wrap (gY.2+1))))))) else (some (.inl (Sum.inl (gY.1)))))))) ([],0)).map .inl)) (fun (aOw:(List dX))=>(some (.inl (aOw)))))
theorem aUv (K:Nat) (a0:dD):bR Tryz.prog 78 [.agg (dQ.cs a0)] [] (bU (F78 K a0)) (fun r=>.c (dS.tree r)) (fun r=>[]):=by
 refine bR.it Tryz.f78 (fun r=>⟨[(2,.c (dS.tree r))],[],[],0⟩) ?_
 unfold F78
 exact Ref.pt (
  .bk 0 (fun aOw=>⟨[(3,.c (.own 0 aOw.length))],[dS.row aOw],[],0⟩) (
   .ad 2 0 3 dS.ty dS.w (dS.at []) <|
   .lp [0,1] (fun gY=>⟨[sP 1 0 0 0,(3,.c (.own 1 gY.1.length)),sI 4 gY.2],[.cells (dQ.cs a0),dS.row gY.1],[],0⟩) fun gY =>
   .lt _ fun aXe =>
   .ite _ (
    .bk 1 (fun aOv=>⟨[sP 1 0 0 0,(3,.c (.own 1 aOv.length)),sI 4 gY.2],[.cells (dQ.cs a0),dS.row aOv],[],0⟩) (
     .ck _ <|
     .lt _ fun aXf =>
     .jn (fun aOs=>⟨[sP 1 0 0 0,(3,.c (.own 1 aOs.length)),sI 4 gY.2],[.cells (dQ.cs a0),dS.row aOs],[],0⟩) (
      .ite _ (
       .ob 6 2 2 (x:=.row 66 2 1 (hG [[iC gY.2,iC (-1)]])) (y:=(dS.row [(⟨gY.2,(-1)⟩:dX)])) (El.bZ dS [(⟨gY.2,(-1)⟩:dX)] rfl (by kernel_rfl)) <|
       .sl 6 2 23 (x:=.c (.own 2 1)) (y:=(.c (.own 2 ([(⟨gY.2,(-1)⟩:dX)].length)))) (eG.c (eD.own (by first | (simp;done) | (simp;omega) | omega))) <|
       .ck _ <|
       .ob 6 1 3 (x:=.row 66 2 (gY.1.length+([(⟨gY.2,(-1)⟩:dX)].length)) fun i j=>bif Nat.blt i gY.1.length then dS.at gY.1 i j else (dS.at [(⟨gY.2,(-1)⟩:dX)]) (i - gY.1.length) j) (y:=(dS.row (gY.1++[(⟨gY.2,(-1)⟩:dX)]))) (El.cH dS gY.1 [(⟨gY.2,(-1)⟩:dX)] rfl rfl) <|
       .sl 6 1 24 (x:=.c (.own 3 (gY.1.length+([(⟨gY.2,(-1)⟩:dX)].length)))) (y:=(.c (.own 3 ((gY.1++[(⟨gY.2,(-1)⟩:dX)]).length)))) (eG.c (eD.own (by first | (simp;done) | (simp;omega) | omega))) <|
       .nil [0,3] _) (
       .nil [0,1] _)) fun aOs =>
     .bk 2 (fun aOu=>⟨[sP 1 0 0 0,(3,.c (.own 1 aOu.length)),sI 4 gY.2],[.cells (dQ.cs a0),dS.row aOu],[],0⟩) (
      .lp [0,1] (fun gL=>⟨[sP 1 0 0 0,(3,.c (.own 1 gL.1.length)),sI 4 gY.2,sI 5 gL.2],[.cells (dQ.cs a0),dS.row gL.1],[],0⟩) fun gL =>
      .ck _ <|
      .lt _ fun aXg =>
      .ite _ (
       .bk 3 (fun aOt=>⟨[sP 1 0 0 0,(3,.c (.own 1 aOt.length)),sI 4 gY.2,sI 5 gL.2],[.cells (dQ.cs a0),dS.row aOt],[],0⟩) (
        .ob 10 2 2 (x:=.row 66 2 1 (hG [[iC gY.2,iC gL.2]])) (y:=(dS.row [(⟨gY.2,gL.2⟩:dX)])) (El.bZ dS [(⟨gY.2,gL.2⟩:dX)] rfl (by kernel_rfl)) <|
        .sl 10 2 49 (x:=.c (.own 2 1)) (y:=(.c (.own 2 ([(⟨gY.2,gL.2⟩:dX)].length)))) (eG.c (eD.own (by first | (simp;done) | (simp;omega) | omega))) <|
        .ck _ <|
        .ob 10 1 3 (x:=.row 66 2 (gL.1.length+([(⟨gY.2,gL.2⟩:dX)].length)) fun i j=>bif Nat.blt i gL.1.length then dS.at gL.1 i j else (dS.at [(⟨gY.2,gL.2⟩:dX)]) (i - gL.1.length) j) (y:=(dS.row (gL.1++[(⟨gY.2,gL.2⟩:dX)]))) (El.cH dS gL.1 [(⟨gY.2,gL.2⟩:dX)] rfl rfl) <|
        .sl 10 1 50 (x:=.c (.own 3 (gL.1.length+([(⟨gY.2,gL.2⟩:dX)].length)))) (y:=(.c (.own 3 ((gL.1++[(⟨gY.2,gL.2⟩:dX)]).length)))) (eG.c (eD.own (by first | (simp;done) | (simp;omega) | omega))) <|
        .nil [0,3] _) fun aOt =>
       .nil [0,1] _) (
       .ret [0,1] _)) fun aOu =>
     .nil [0,1] _) fun aOv =>
    .nil [0,1] _) (
    .ret [1] _)) fun aOw =>
  .fz 11 0 0 <|
  .ret [] _)
def F80 (K:Nat) (a0:(List (List Int))) (a1:Int):Option (((List Bool)) ⊕ ((List Bool))) :=
 (bW [decide (0≤((Int.ofNat a0.length):Int)) && decide (((Int.ofNat a0.length):Int)≤(Int.ofNat a0.length)),room (((Int.ofNat a0.length):Int).toNat * 1)] (bW [cS a1 a0.length] (bW [room (((a0.getD (a1:Int).toNat default).length) * 8)] (bM (bL ((iter K (fun (eZ:(List Bool) × (List Int) × Int)=>(bO (decide ((eZ.2.2:Int)<(Int.ofNat eZ.2.1.length))) (fun (x38:Bool)=>(if x38=true then (bM (bL (bW [cS eZ.2.2 eZ.2.1.length,!(!(decide (((eZ.2.1.getD ((eZ.2.2:Int).toNat) default):Int)<0))) || cS eZ.2.2 eZ.2.1.length,!(!(decide (((eZ.2.1.getD ((eZ.2.2:Int).toNat) default):Int)<0))) || cS (eZ.2.1.getD ((eZ.2.2:Int).toNat) default) eZ.1.length] (bO ((decide (((eZ.2.1.getD ((eZ.2.2:Int).toNat) default):Int)<0)) || (eZ.1.getD (((eZ.2.1.getD ((eZ.2.2:Int).toNat) default):Int).toNat) default)) (fun (x42:Bool)=>(if x42=true then (some (.inl (Sum.inl (eZ.1,eZ.2.1)))) else (bW [cS eZ.2.2 eZ.2.1.length,cS (eZ.2.1.getD ((eZ.2.2:Int).toNat) default) eZ.1.length] (bW [cS eZ.2.2 eZ.2.1.length,cS (eZ.2.1.getD ((eZ.2.2:Int).toNat) default) a0.length] (bO (a0.getD ((eZ.2.1.getD ((eZ.2.2:Int).toNat) default):Int).toNat default) (fun (x43:(List Int))=>(bW [room ((eZ.2.1.length+x43.length) * 8)] (some (.inr ((eZ.1.set (((eZ.2.1.getD ((eZ.2.2:Int).toNat) default):Int).toNat) true),(eZ.2.1++x43)))))))))))))) (fun (u41:(List Bool) × (List Int))=>(some (.inr (u41.1,u41.2,(IntKind.i64.wrap (eZ.2.2+1))))))) else (some (.inl (Sum.inl (eZ.1)))))))) ((List.replicate ((Int.ofNat a0.length):Int).toNat (default:Bool)),(a0.getD (a1:Int).toNat default),0)).map .inl)) (fun (dY:(List Bool))=>(some (.inl (dY))))))))
theorem aUw (K:Nat) (a0:(List (List Int))) (a1:Int):bR Tryz.prog 80 [.c (lJ.tree a0),.c (.val (.int .i64 a1))] [] (bU (F80 K a0 a1)) (fun r=>.c (E4.tree r)) (fun r=>[]):=by
 refine bR.it Tryz.f80 (fun r=>⟨[(4,.c (E4.tree r))],[],[],0⟩) ?_
 unfold F80
 exact Ref.pt (
  .ck _ <|
  .ob 1 1 0 (x:=.row 4 1 (Int.ofNat a0.length).toNat fun _ j=>([bC false]:List C).getD j .bot) (y:=(E4.row (List.replicate (Int.ofNat a0.length).toNat (default:Bool)))) (El.aNf E4 default (by kernel_rfl)) <|
  .sl 1 1 10 (x:=.c (.own 0 ((Int.ofNat a0.length).toNat))) (y:=(.c (.own 0 ((List.replicate (Int.ofNat a0.length).toNat (default:Bool)).length)))) (eG.c (eD.own (by first | (simp;done) | (simp;omega) | omega))) <|
  .ck _ <|
  .ck _ <|
  .bk 0 (fun dY=>⟨[(5,.c (.own 0 dY.length))],[E4.row dY],[],0⟩) (
   .lp [0,1] (fun eZ=>⟨[(0,.c (lJ.tree a0)),(5,.c (.own 0 eZ.1.length)),(6,.c (.own 1 eZ.2.1.length)),sI 7 eZ.2.2],[E4.row eZ.1,E3.row eZ.2.1],[],0⟩) fun eZ =>
   .lt _ fun x38 =>
   .ite _ (
    .bk 1 (fun u41=>⟨[(0,.c (lJ.tree a0)),(5,.c (.own 0 u41.1.length)),(6,.c (.own 1 u41.2.length)),sI 7 eZ.2.2],[E4.row u41.1,E3.row u41.2],[],0⟩) (
     .ck _ <|
     .lt _ fun x42 =>
     .ite _ (
      .ret [0,1] _) (
      .ck _ <|
      .ob 7 0 0 (x:=.row 4 1 eZ.1.length (setRow (E4.at eZ.1) (((eZ.2.1.getD ((eZ.2.2:Int).toNat) default):Int).toNat) 0 [bC true])) (y:=(E4.row (eZ.1.set (((eZ.2.1.getD ((eZ.2.2:Int).toNat) default):Int).toNat) true))) (El.aNu E4 eZ.1 true (j:=0) (cl:=[bC true]) (fun _=>rfl) (aT rfl) rfl) <|
      .sl 7 0 5 (x:=.c (.own 0 eZ.1.length)) (y:=(.c (.own 0 ((eZ.1.set (((eZ.2.1.getD ((eZ.2.2:Int).toNat) default):Int).toNat) true).length)))) (eG.c (eD.own (by first | (simp;done) | (simp;omega) | omega))) <|
      .ck _ <|
      .lt _ fun x43 =>
      .ck _ <|
      .ob 8 1 2 (x:=.row 3 1 (eZ.2.1.length+x43.length) fun i j=>bif Nat.blt i eZ.2.1.length then E3.at eZ.2.1 i j else (E3.at x43) (i - eZ.2.1.length) j) (y:=(E3.row (eZ.2.1++x43))) (El.cH E3 eZ.2.1 x43 rfl rfl) <|
      .sl 8 1 50 (x:=.c (.own 2 (eZ.2.1.length+x43.length))) (y:=(.c (.own 2 ((eZ.2.1++x43).length)))) (eG.c (eD.own (by first | (simp;done) | (simp;omega) | omega))) <|
      .nil [0,2] _)) fun u41 =>
    .nil [0,1] _) (
    .ret [0] _)) fun dY =>
  .fz 9 0 0 <|
  .ret [] _)
end Go.Proofs.YtdbfbedholdjaaaGreat

namespace Go.Proofs.YtdbfbedholdjaaaGreat
open Go Go.Proofs Go.Dl
variable [eC]
set_option maxRecDepth 100000
set_option maxHeartbeats 4000000
def aOy (K:Nat) (a0:dD) (a1:dX):Option (((List dX)) ⊕ ((List dX))) :=
 ((bU (aN4 K a0 a1)).bind (fun r1=>((bU (aOc K r1)).bind (fun r2=>(bM (bL ((iter K (fun (j8:(List dX) × Int)=>(bO (decide ((j8.2:Int)<(Int.ofNat r2.length))) (fun (aSV:Bool)=>(if aSV=true then (bM (bL (bW [cS j8.2 r2.length] ((cK true (bU (aL3 K a0 a1 (r2.getD (j8.2:Int).toNat default))) default).bind (fun mO=>(if ((mO.2:Int) != 0)=true then (some (.inl (Sum.inl (j8.1)))) else (bM (bL ((iter K (fun (gT:(List dX) × Int)=>(bO (decide ((gT.2:Int)<(Int.ofNat a0.bK.length))) (fun (aSW:Bool)=>(if aSW=true then (bM (bL (bW [cS j8.2 r2.length] (bO (((((r2.getD (j8.2:Int).toNat default).fN):Int) == 2) && ((gT.2:Int) != mO.1)) (fun (aDR:Bool)=>(bW [!(!aDR) || cS j8.2 r2.length,!(((((r2.getD (j8.2:Int).toNat default).fN):Int) != 2) && (!aDR)) || cS gT.2 a0.bK.length,!((!((((a0.bK.getD (gT.2:Int).toNat default).bP):Int) != 2)) && (((((r2.getD (j8.2:Int).toNat default).fN):Int) != 2) && (!aDR))) || cS gT.2 a0.bK.length,!((!((((a0.bK.getD (gT.2:Int).toNat default).bP):Int) != 2)) && (((((r2.getD (j8.2:Int).toNat default).fN):Int) != 2) && (!aDR))) || cS mO.1 a0.bK.length] ((cK ((!((((a0.bK.getD (gT.2:Int).toNat default).bP):Int) != 2)) && (((((r2.getD (j8.2:Int).toNat default).fN):Int) != 2) && (!aDR))) (bU (aLW K a0 ((a0.bK.getD (gT.2:Int).toNat default).cG) ((a0.bK.getD (mO.1:Int).toNat default).cG))) default).bind (fun aSX=>(bO (aDR || (((((r2.getD (j8.2:Int).toNat default).fN):Int) != 2) && (((((a0.bK.getD (gT.2:Int).toNat default).bP):Int) != 2) || (!aSX)))) (fun (aOz:Bool)=>(if aOz=true then (some (.inl (Sum.inl (gT.1)))) else (bW [cS j8.2 r2.length] ((bU (aEF K a0 gT.2 ((r2.getD (j8.2:Int).toNat default).wE))).bind (fun gO=>((cK gO.2 (bU (F63 K a0 gO.1)) default).bind (fun aKv=>(if (gO.2 && (!aKv.eN))=true then ((bU (aMd K gT.1 gO.1)).bind (fun aKw=>(some (.inr (aKw))))) else (some (.inr (gT.1))))))))))))))))))) (fun (aKx:(List dX))=>(some (.inr (aKx,(IntKind.i64.wrap (gT.2+1))))))) else (some (.inl (Sum.inl (gT.1)))))))) (j8.1,0)).map .inl)) (fun (aKy:(List dX))=>(some (.inr (aKy)))))))))) (fun (aKz:(List dX))=>(some (.inr (aKz,(IntKind.i64.wrap (j8.2+1))))))) else (some (.inl (Sum.inl (j8.1)))))))) ([],0)).map .inl)) (fun (aBk:(List dX))=>(some (.inl (aBk)))))))))
abbrev nY (v0:(List dX) × Int) (v1:(List cM)) (v2:(List dX) × Int) (v3:Int × Int):List (Nat × D):=[sP 2 0 0 0,sP 3 1 0 0,(5,.c (dS.tree v0.1)),(6,.c (cA.tree v1)),sI 7 v2.2,sI 8 v3.1,sI 10 v0.2]
abbrev lF (v0:dD) (v1:dX):List Go.Dl.Obj:=[.cells (dQ.cs v0),.cells (dS.cs v1)]
abbrev aDS (v0:dX × Bool):List (Nat × D):=[(87,.iV [.agg (dS.cs v0.1),.c (bC v0.2)]),(96,.agg (dS.cs v0.1))]
theorem aRp (K:Nat) (a0:dD) (a1:dX):bR Tryz.prog 121 [.agg (dQ.cs a0),.agg (dS.cs a1)] [] (bU (aOy K a0 a1)) (fun r=>.c (dS.tree r)) (fun r=>[]):=by
 refine bR.it Tryz.f121 (fun r=>⟨[(4,.c (dS.tree r))],[],[],0⟩) ?_
 unfold aOy
 exact Ref.pt (
  .call [] (aRf _ _ _) fun r1 =>
  .call [] (aRg _ _) fun r2 =>
  .bk 0 (fun aBk=>⟨[(5,.c (dS.tree aBk))],[],[],0⟩) (
   .sl 3 0 5 (x:=.c (.nil)) (y:=(.c (dS.tree []))) (eG.c (El.cO dS)) <|
   .lp [0,1] (fun j8=>⟨[sP 2 0 0 0,sP 3 1 0 0,(5,.c (dS.tree j8.1)),(6,.c (cA.tree r2)),sI 7 j8.2],lF a0 a1,[],0⟩) fun j8 =>
   .lt _ fun aSV =>
   .ite _ (
    .bk 1 (fun aKz=>⟨[sP 2 0 0 0,sP 3 1 0 0,(5,.c (dS.tree aKz)),(6,.c (cA.tree r2)),sI 7 j8.2],lF a0 a1,[],0⟩) (
     .ex [2,3] <|
     .tx [] <|
     .mT [0,1,4,5] _ <|
     .gB 6 (default:Int × Int) _ [] (aKk K a0 a1 (gd r2 j8.2)) (fun _=>rfl) fun mO =>
     .ex [7,8,9,10,11] <|
     .ite _ (
      .ret [0,1] _) (
      .bk 2 (fun aKy=>⟨[sP 2 0 0 0,sP 3 1 0 0,(5,.c (dS.tree aKy)),(6,.c (cA.tree r2)),sI 7 j8.2],lF a0 a1,[],0⟩) (
       .lp [0,1] (fun gT=>⟨nY gT r2 j8 mO,lF a0 a1,[],0⟩) fun gT =>
       .lt _ fun aSW =>
       .ite _ (
        .bk 3 (fun aKx=>⟨[sP 2 0 0 0,sP 3 1 0 0,(5,.c (dS.tree aKx)),(6,.c (cA.tree r2)),sI 7 j8.2,sI 8 mO.1,sI 10 gT.2],lF a0 a1,[],0⟩) (
         .ex [0,1] <|
         .tx [] <|
         .mT [2,3,4,5,6,7,8,9,10,11,12,13] _ <|
         .lt _ fun aDR =>
         .mT [14,15,16,17,18,19,20,21,22,23,24,25,26,27,28,29,30,31,32,33,34,35,36,37,38,39] _ <|
         .gB 40 (default:Bool) _ [] (aKe K a0 ((gd a0.bK gT.2).cG) ((gd a0.bK mO.1).cG)) (fun _=>rfl) fun aSX =>
         .ex [41,42,43,44] <|
         .lt _ fun aOz =>
         .ite _ (
          .ret [0,1] _) (
          .esc [0,1] [(cd (bd Tryz.f121) [1,1,1,0,1,0,0,1,0,0,1,1,1,0,0,1,0,0,1,0]),(cd (bd Tryz.f121) [1,1,1,0,1,0,0,1,0,0,1,1,1,0,0,1,0,0,1,1])] ⟨nY gT r2 j8 mO++[sB 86 aOz],lF a0 a1,[],0⟩ (by
           refine Ref.eR 12 (by kernel_rfl) (by kernel_rfl) ?_
           refine dV.fE (cR:=⟨nY gT r2 j8 mO++[sI 89 gT.2,(90,.c (cA.tree r2)),sI 91 j8.2],lF a0 a1,[],0⟩) (fuel':=11) [1,2,3] [2,3,5,6,7,8,10,89,90,91] [0,1] rfl (by kernel_rfl) (by kernel_rfl) ?_
           refine dV.rG [7,12] ?_
           refine bQ.iD (fun (gO:dX × Bool)=>⟨nY gT r2 j8 mO++[sP 11 2 0 0,sB 12 gO.2],lF a0 a1++[.cells (dS.cs gO.1)],[],0⟩) (fun (gO:dX × Bool)=>((cK gO.2 (bU (F63 K a0 gO.1)) default).bind (fun aKv=>(if (gO.2 && (!aKv.eN))=true then ((bU (aMd K gT.1 gO.1)).bind (fun aKw=>(some (.inr (aKw))))) else (some (.inr (gT.1))))))) (fun gO=>?_) (fun hk=>?_)
           ·
            exact Ref.pt (
             .yA (default:iI) _ (bR.aJ6 (aDp K a0 gO.1) (fun _=>rfl)) fun aKv =>
             .ite _ (
              .call [] (aRo _ _ _) fun aKw =>
              .nil [0,1] _) (
              .nil [0,1] _))
           ·
            refine bQ.v1 (fuel':=7) [cS j8.2 r2.length] [0,4,5,6] [2,3,5,6,7,8,10,88,89,94] [0,1] ?_
            refine bQ.lW (fuel':=6) 7 11 (by kernel_rfl) ?_ ?_
            ·
             refine cE.cF (t:=95) 7 [] rfl (by kernel_rfl) (pU K a0 gT.2 ((gd r2 j8.2).wE)) (fun gO=>?_)
             refine bQ.fE (cR:=⟨nY gT r2 j8 mO++aDS gO,lF a0 a1,[],0⟩) (fuel':=4) [8,9] [2,3,5,6,7,8,10,87,96] [0,1] rfl (by kernel_rfl) (by kernel_rfl) ?_
             refine bQ.iT (fuel':=3) [[],[(10,97)]] [(10,97)] [2,3,5,6,7,8,10,87,96] [0,1] ⟨nY gT r2 j8 mO++aDS gO++[sB 97 gO.2],lF a0 a1,[],0⟩ ?_
             refine cQ.cP (fuel':=2) 11 ?_
             refine dP.kC (cR:=⟨nY gT r2 j8 mO++(sP 11 2 0 0::(aDS gO++[sB 97 gO.2])),lF a0 a1++[.cells [iC 0,iC 0]],[],0⟩) 11 [2,3,5,6,7,8,10,11,87,96,97] [0,1,2] (by kernel_rfl) (by kernel_rfl) ?_
             refine cQ.cP (fuel':=1) 12 ?_
             refine dP.iA (cR:=⟨nY gT r2 j8 mO++[sP 11 2 0 0,(87,.iV [.agg (dS.cs gO.1),.c (bC gO.2)]),sB 97 gO.2],lF a0 a1++[.cells (dS.cs gO.1)],[],0⟩) 12 [2,3,5,6,7,8,10,11,87,97] [0,1,2] (by kernel_rfl) (by kernel_rfl) ?_
             refine cQ.close ?_
             refine bQ.v0 (fuel':=0) [13] [2,3,5,6,7,8,10,11,12] [0,1,2] ?_
             refine bQ.done (by kernel_rfl) ?_
             refine Ref.ck ⟨nY gT r2 j8 mO++[sP 11 2 0 0,sB 12 gO.2],lF a0 a1++[.cells (dS.cs gO.1)],[],0⟩ [2,3,5,6,7,8,10,11,12] [0,1,2] ?_
             exact hk gO
            ·
             refine cE.a0 11 [2,3,5,6,7,8,10,11,88,89,94] [0,1,2] ?_
             refine bQ.cP (fuel':=5) 7 (by kernel_rfl) ?_
             refine cE.cF (t:=95) 7 [] rfl (by kernel_rfl) (pU K a0 gT.2 ((gd r2 j8.2).wE)) (fun gO=>?_)
             refine bQ.fE (cR:=⟨nY gT r2 j8 mO++(sP 11 2 0 0::aDS gO),lF a0 a1++[.cells [iC 0,iC 0]],[],0⟩) (fuel':=3) [8,9] [2,3,5,6,7,8,10,11,87,96] [0,1,2] rfl (by kernel_rfl) (by kernel_rfl) ?_
             refine bQ.iT (fuel':=2) [[],[(10,97)]] [(10,97)] [2,3,5,6,7,8,10,11,87,96] [0,1,2] ⟨nY gT r2 j8 mO++(sP 11 2 0 0::(aDS gO++[sB 97 gO.2])),lF a0 a1++[.cells [iC 0,iC 0]],[],0⟩ ?_
             refine cQ.cP (fuel':=1) 12 ?_
             refine dP.iA (cR:=⟨nY gT r2 j8 mO++[sP 11 2 0 0,(87,.iV [.agg (dS.cs gO.1),.c (bC gO.2)]),sB 97 gO.2],lF a0 a1++[.cells (dS.cs gO.1)],[],0⟩) 12 [2,3,5,6,7,8,10,11,87,97] [0,1,2] (by kernel_rfl) (by kernel_rfl) ?_
             refine cQ.close ?_
             refine bQ.v0 (fuel':=0) [13] [2,3,5,6,7,8,10,11,12] [0,1,2] ?_
             refine bQ.done (by kernel_rfl) ?_
             refine Ref.ck ⟨nY gT r2 j8 mO++[sP 11 2 0 0,sB 12 gO.2],lF a0 a1++[.cells (dS.cs gO.1)],[],0⟩ [2,3,5,6,7,8,10,11,12] [0,1,2] ?_
             exact hk gO))) fun aKx =>
        .nil [0,1] _) (
        .ret [0,1] _)) fun aKy =>
      .nil [0,1] _)) fun aKz =>
    .nil [0,1] _) (
    .ret [] _)) fun aBk =>
  .ret [] _)
def F79 (K:Nat) (a0:dD) (a1:(List dX)):Option (((List (List Int))) ⊕ ((List (List Int)))) :=
 (bM (bL ((iter K (fun (gL:(List (List Int)) × Int)=>(bO (decide ((gL.2:Int)<(Int.ofNat a1.length))) (fun (aXj:Bool)=>(if aXj=true then (bM (bL (bW [cS gL.2 a1.length] ((bU (aOy K a0 (a1.getD (gL.2:Int).toNat default))).bind (fun aF1=>(bM (bL ((iter K (fun (s0:(List Int) × Int)=>(bO (decide ((s0.2:Int)<(Int.ofNat aF1.length))) (fun (aXk:Bool)=>(if aXk=true then (bM (bL (bW [cS s0.2 aF1.length] ((bU (aN3 K a1 (aF1.getD (s0.2:Int).toNat default))).bind (fun aBm=>(bW [room ((s0.1.length+([aBm].length)) * 8)] (some (.inr ((s0.1++[aBm]))))))))) (fun (aOA:(List Int))=>(some (.inr (aOA,(IntKind.i64.wrap (s0.2+1))))))) else (some (.inl (Sum.inl (s0.1)))))))) ([],0)).map .inl)) (fun (uD:(List Int))=>(bW [room ((gL.1.length+([uD].length)) * 24)] (some (.inr ((gL.1++[uD]))))))))))) (fun (aOB:(List (List Int)))=>(some (.inr (aOB,(IntKind.i64.wrap (gL.2+1))))))) else (some (.inl (Sum.inl (gL.1)))))))) ([],0)).map .inl)) (fun (aAq:(List (List Int)))=>(some (.inl (aAq)))))
abbrev aKA (v0:(List dX)) (v1:(List (List Int)) × Int):List (Nat × D):=[(1,.c (dS.tree v0)),sP 2 0 0 0,(5,.c (.own 1 v1.1.length)),sI 6 v1.2]
theorem aUx (K:Nat) (a0:dD) (a1:(List dX)):bR Tryz.prog 79 [.agg (dQ.cs a0),.c (dS.tree a1)] [] (bU (F79 K a0 a1)) (fun r=>.c (lJ.tree r)) (fun r=>[]):=by
 refine bR.it Tryz.f79 (fun r=>⟨[(4,.c (lJ.tree r))],[],[],0⟩) ?_
 unfold F79
 exact Ref.pt (
  .bk 0 (fun aAq=>⟨[(5,.c (.own 0 aAq.length))],[lJ.row aAq],[],0⟩) (
   .ad 2 0 5 lJ.ty lJ.w (lJ.at []) <|
   .lp [0,1] (fun gL=>⟨aKA a1 gL,[.cells (dQ.cs a0),lJ.row gL.1],[],0⟩) fun gL =>
   .lt _ fun aXj =>
   .ite _ (
    .bk 1 (fun aOB=>⟨[(1,.c (dS.tree a1)),sP 2 0 0 0,(5,.c (.own 1 aOB.length)),sI 6 gL.2],[.cells (dQ.cs a0),lJ.row aOB],[],0⟩) (
     .mT [1,2,3] _ <|
     .tx [5,6] <|
     .ex [0,4] <|
     .tl [5,6] <|
     .call [] (aRp _ _ _) fun aF1 =>
     .bk 2 (fun uD=>⟨aKA a1 gL++[(8,.c (.own 2 uD.length))],[.cells (dQ.cs a0),lJ.row gL.1,E3.row uD],[],0⟩) (
      .ad 7 0 8 E3.ty E3.w (E3.at []) <|
      .lp [0,1,2] (fun s0=>⟨aKA a1 gL++[(7,.c (dS.tree aF1)),(8,.c (.own 2 s0.1.length)),sI 9 s0.2],[.cells (dQ.cs a0),lJ.row gL.1,E3.row s0.1],[],0⟩) fun s0 =>
      .lt _ fun aXk =>
      .ite _ (
       .bk 3 (fun aOA=>⟨aKA a1 gL++[(7,.c (dS.tree aF1)),(8,.c (.own 2 aOA.length)),sI 9 s0.2],[.cells (dQ.cs a0),lJ.row gL.1,E3.row aOA],[],0⟩) (
        .ck _ <|
        .call [] (aRe _ _ _) fun aBm =>
        .ob 10 2 3 (x:=.row 3 1 1 (hG [[iC aBm]])) (y:=(E3.row [aBm])) (El.bZ E3 [aBm] rfl (by kernel_rfl)) <|
        .sl 10 2 35 (x:=.c (.own 3 1)) (y:=(.c (.own 3 ([aBm].length)))) (eG.c (eD.own (by first | (simp;done) | (simp;omega) | omega))) <|
        .ck _ <|
        .ob 10 1 4 (x:=.row 3 1 (s0.1.length+([aBm].length)) fun i j=>bif Nat.blt i s0.1.length then E3.at s0.1 i j else (E3.at [aBm]) (i - s0.1.length) j) (y:=(E3.row (s0.1++[aBm]))) (El.cH E3 s0.1 [aBm] rfl rfl) <|
        .sl 10 1 36 (x:=.c (.own 4 (s0.1.length+([aBm].length)))) (y:=(.c (.own 4 ((s0.1++[aBm]).length)))) (eG.c (eD.own (by first | (simp;done) | (simp;omega) | omega))) <|
        .nil [0,1,4] _) fun aOA =>
       .nil [0,1,2] _) (
       .ret [0,1,2] _)) fun uD =>
     .fz 11 3 2 <|
     .ob 11 2 3 (x:=.row 45 1 1 (hG [[E3.tree uD]])) (y:=(lJ.row [uD])) (El.bZ lJ [uD] rfl (by kernel_rfl)) <|
     .sl 11 2 39 (x:=.c (.own 3 1)) (y:=(.c (.own 3 ([uD].length)))) (eG.c (eD.own (by first | (simp;done) | (simp;omega) | omega))) <|
     .ck _ <|
     .ob 11 1 4 (x:=.row 45 1 (gL.1.length+([uD].length)) fun i j=>bif Nat.blt i gL.1.length then lJ.at gL.1 i j else (lJ.at [uD]) (i - gL.1.length) j) (y:=(lJ.row (gL.1++[uD]))) (El.cH lJ gL.1 [uD] rfl rfl) <|
     .sl 11 1 40 (x:=.c (.own 4 (gL.1.length+([uD].length)))) (y:=(.c (.own 4 ((gL.1++[uD]).length)))) (eG.c (eD.own (by first | (simp;done) | (simp;omega) | omega))) <|
     .nil [0,4] _) fun aOB =>
    .nil [0,1] _) (
    .ret [1] _)) fun aAq =>
  .fz 12 0 0 <|
  .ret [] _)
def F35 (K:Nat) (a0:dD):Option ((Int) ⊕ (Int)) :=
 ((bU (F78 K a0)).bind (fun r1=>((bU (F79 K a0 r1)).bind (fun r2=>(bM (bL ((iter K (fun (dY:Int)=>(bO (decide ((dY:Int)<(Int.ofNat r1.length))) (fun (l8:Bool)=>(if l8=true then (bM (bL ((bU (F80 K r2 dY)).bind (fun xC=>(bW [cS dY xC.length] (if (xC.getD (dY:Int).toNat default)=true then (bW [cS dY r1.length] (some (.inl (Sum.inr (Sum.inr ((r1.getD (dY:Int).toNat default).dA)))))) else (some (.inr ()))))))) (fun (eZ:Unit)=>(some (.inr ((IntKind.i64.wrap (dY+1))))))) else (some (.inl (Sum.inl ()))))))) (0)).map .inl)) (fun (gW:Unit)=>(some (.inl ((-1))))))))))
theorem aUy (K:Nat) (a0:dD):bR Tryz.prog 35 [.agg (dQ.cs a0)] [] (bU (F35 K a0)) (fun r=>.c (.val (.int .i64 r))) (fun r=>[]):=by
 refine bR.it Tryz.f35 (fun r=>⟨[sI 2 r],[],[],0⟩) ?_
 unfold F35
 exact Ref.pt (
  .call [] (aUv _ _) fun r1 =>
  .call [] (aUx _ _ _) fun r2 =>
  .bk 0 (fun gW=>⟨[],[],[],0⟩) (
   .lp [] (fun dY=>⟨[(3,.c (dS.tree r1)),(4,.c (lJ.tree r2)),sI 5 dY],[],[],0⟩) fun dY =>
   .lt _ fun l8 =>
   .ite _ (
    .bk 1 (fun eZ=>⟨[(3,.c (dS.tree r1)),(4,.c (lJ.tree r2)),sI 5 dY],[],[],0⟩) (
     .call [] (aUw _ _ _) fun xC =>
     .ck _ <|
     .ite _ (
      .ck _ <|
      .ret [] _) (
      .nil [] _)) fun eZ =>
    .nil [] _) (
    .ret [] _)) fun gW =>
  .ret [] _)
end Go.Proofs.YtdbfbedholdjaaaGreat
