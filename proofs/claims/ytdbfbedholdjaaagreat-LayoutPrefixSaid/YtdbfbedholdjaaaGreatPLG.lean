/- No conditions. -/
import Derived.Test.YtdbfbedholdjaaaGreatPLE
import Derived.Test.YtdbfbedholdjaaaGreatProg
set_option linter.unusedVariables false
set_option linter.unusedSimpArgs false
set_option linter.unusedSectionVars false
namespace Go.Proofs.YtdbfbedholdjaaaGreat
open Go Go.Proofs Go.Dl
variable [dW]
set_option maxRecDepth 100000
set_option maxHeartbeats 4000000
def aOh (K:Nat) (a0:dR) (a1:dR):Option ((Bool) ⊕ (Bool)) :=
 (bN ((decide ((a0.c8:Int)<a1.c8)) || (((a0.c8:Int) == a1.c8) && (decide ((a0.dD:Int)<a1.dD)))) (fun (x1:Bool)=>(some (.inl (x1)))))
theorem aRA (K:Nat) (a0:dR) (a1:dR):bS Tryz.prog 202 [.agg (dO.cs a0),.agg (dO.cs a1)] [] (bT (aOh K a0 a1)) (fun r=>.c (.val (.bool r))) (fun r=>[]):=by
 refine bS.it Tryz.f202 (fun r=>⟨[sB 4 r],[],[],0⟩) ?_
 unfold aOh
 exact Ref.pt (
  .lt _ fun x1 =>
  .ret [] _)
def aOi (K:Nat) (a0:(List dR)) (a1:dR):Option ((Int) ⊕ (Int)) :=
 (bL (bJ ((iter K (fun (jF:Int)=>(bN (decide ((jF:Int)<(Int.ofNat a0.length))) (fun (y7:Bool)=>(if y7=true then (bL (bJ (bW [cS jF a0.length] (bN ((((a0.getD (jF:Int).toNat default).c8:Int) == a1.c8) && ((((a0.getD (jF:Int).toNat default).dD:Int) == a1.dD) && true)) (fun (iU:Bool)=>(if iU=true then (some (.inl (Sum.inr (Sum.inr (jF))))) else (some (.inr ()))))))) (fun (gU:Unit)=>(some (.inr ((IntKind.i64.wrap (jF+1))))))) else (some (.inl (Sum.inl ()))))))) (0)).map .inl)) (fun (wD:Unit)=>(some (.inl ((-1))))))
theorem aRB (K:Nat) (a0:(List dR)) (a1:dR):bS Tryz.prog 122 [.c (dO.tree a0),.agg (dO.cs a1)] [] (bT (aOi K a0 a1)) (fun r=>.c (.val (.int .i64 r))) (fun r=>[]):=by
 refine bS.it Tryz.f122 (fun r=>⟨[sI 4 r],[],[],0⟩) ?_
 unfold aOi
 exact Ref.pt (
  .bk 0 (fun wD=>⟨[],[],[],0⟩) (
   .lp [0] (fun jF=>⟨[(0,.c (dO.tree a0)),sP 3 0 0 0,sI 5 jF],[.cells (dO.cs a1)],[],0⟩) fun jF =>
   .lt _ fun y7 =>
   .ite _ (
    .bk 1 (fun gU=>⟨[(0,.c (dO.tree a0)),sP 3 0 0 0,sI 5 jF],[.cells (dO.cs a1)],[],0⟩) (
     .lT [0,1,2] _ <|
     .tx [] <|
     .ex [3,4,5] <|
     .lt _ fun iU =>
     .ite _ (
      .ret [] _) (
      .nil [0] _)) fun gU =>
    .nil [0] _) (
    .ret [] _)) fun wD =>
  .ret [] _)
def aOj (K:Nat) (a0:cZ) (a1:dR):Option (((List cJ)) ⊕ ((List cJ))) :=
 ((bT (aG2 K a0 a1)).bind (fun r1=>(if (!r1)=true then (some (.inl ([]))) else (if (decide ((a1.dD:Int)<0))=true then (bW [cS a1.c8 a0.bK.length] (bN ((a0.bK.getD (a1.c8:Int).toNat default).uW) (fun (x2:(List cJ))=>(some (.inl (x2)))))) else (bW [cS a1.c8 a0.bK.length,cS a1.dD ((a0.bK.getD (a1.c8:Int).toNat default).bM).length] (bN ((((a0.bK.getD (a1.c8:Int).toNat default).bM).getD (a1.dD:Int).toNat default).uW) (fun (x3:(List cJ))=>(some (.inl (x3))))))))))
theorem aRC (K:Nat) (a0:cZ) (a1:dR):bS Tryz.prog 158 [.agg (dM.cs a0),.agg (dO.cs a1)] [] (bT (aOj K a0 a1)) (fun r=>.c (dJ.tree r)) (fun r=>[]):=by
 refine bS.it Tryz.f158 (fun r=>⟨[(4,.c (dJ.tree r))],[],[],0⟩) ?_
 unfold aOj
 exact Ref.pt (
  .call [] (aCE _ _ _) fun r1 =>
  .ite _ (
   .sl 2 0 4 (x:=.c (.nil)) (y:=(.c (dJ.tree []))) (eA.c (El.cN dJ)) <|
   .ret [] _) (
   .ite _ (
    .ck _ <|
    .lt _ fun x2 =>
    .ret [] _) (
    .ex [0,2,7] <|
    .tx [] <|
    .lT [1,3,4,5,6,8,9,10,11,12] _ <|
    .lt _ fun x3 =>
    .ret [] _)))
def aAt:(K:Nat)→((List cL))→(cL)→Option (((List cL)) ⊕ ((List cL)))
 | 0,_,_=>none
 | K+1,a0,a1 =>
 (bL (if ((a1.bP:Int) == 13)=true then (bW [room ((a0.length+([a1].length)) * 72)] (some (.inr ((a0++[a1]))))) else (some (.inr (a0)))) (fun (u1:(List cL))=>(bL (bJ ((iter K (fun (kB:(List cL) × Int)=>(bN (decide ((kB.2:Int)<(Int.ofNat a1.fY.length))) (fun (iU:Bool)=>(if iU=true then (bL (bJ (bW [cS kB.2 a1.fY.length] ((bT (aAt K kB.1 (a1.fY.getD (kB.2:Int).toNat default))).bind (fun r32=>(some (.inr (r32))))))) (fun (y8:(List cL))=>(some (.inr (y8,(IntKind.i64.wrap (kB.2+1))))))) else (some (.inl (Sum.inl (kB.1)))))))) (u1,0)).map .inl)) (fun (gO:(List cL))=>(some (.inl (gO)))))))
theorem aOk:∀ K:Nat,(∀ (a0:(List cL)),∀ (a1:cL),bS Tryz.prog 198 [.c (.own 0 a0.length),.agg (cA.cs a1)] [cA.row a0] (bT (aAt K a0 a1)) (fun r=>.c (.own 1 r.length)) (fun r=>[.dead,cA.row r])):=by
 intro K
 induction K with
 | zero=>exact fun a0 a1=>bS.none (by rw[aAt];rfl)
 | succ K ih =>
  have aUy:=ih
  refine ?_
  ·
   intro a0 a1
   refine bS.it Tryz.f198 (fun r=>⟨[(4,.c (.own 1 r.length))],[.dead,cA.row r],[],1⟩) ?_
   rw[aAt]
   exact Ref.pt (
    .jn (fun u1=>⟨[(0,.c (.own 1 u1.length)),sP 3 2 0 0],[.dead,cA.row u1,cA.o a1],[],1⟩) (
     .ite _ (
      .ob 2 2 2 (x:=.row 195 5 1 (gY [(cA.cs a1)])) (y:=(cA.row [a1])) (El.bZ cA [a1] rfl (by kernel_rfl)) <|
      .sl 2 2 11 (x:=.c (.own 2 1)) (y:=(.c (.own 2 ([a1].length)))) (eA.c (dY.own (by first | (simp;done) | (simp;omega) | omega))) <|
      .ck _ <|
      .ob 2 1 3 (x:=.row 195 5 (a0.length+([a1].length)) fun i j=>bif Nat.blt i a0.length then cA.at a0 i j else (cA.at [a1]) (i - a0.length) j) (y:=(cA.row (a0++[a1]))) (El.cI cA a0 [a1] rfl rfl) <|
      .sl 2 1 12 (x:=.c (.own 3 (a0.length+([a1].length)))) (y:=(.c (.own 3 ((a0++[a1]).length)))) (eA.c (dY.own (by first | (simp;done) | (simp;omega) | omega))) <|
      .nil [0,3,1] _) (
      .mv 1 0 0 <|
      .nil [0,2,1] _)) fun u1 =>
    .bk 0 (fun gO=>⟨[(0,.c (.own 1 gO.length))],[.dead,cA.row gO],[],1⟩) (
     .lp [0,1,2] (fun kB=>⟨[(0,.c (.own 1 kB.1.length)),sP 3 2 0 0,sI 5 kB.2],[.dead,cA.row kB.1,cA.o a1],[],1⟩) fun kB =>
     .lt _ fun iU =>
     .ite _ (
      .bk 1 (fun y8=>⟨[(0,.c (.own 1 y8.length)),sP 3 2 0 0,sI 5 kB.2],[.dead,cA.row y8,cA.o a1],[],1⟩) (
       .sl 6 4 22 (x:=.c (tM a1.fY)) (y:=(.c (cA.tree a1.fY))) (eA.c (wG _)) <|
       .ck _ <|
       .call [1] (aUy _ _) fun r32 =>
       .nil [0,3,2] _) fun y8 =>
      .nil [0,1,2] _) (
      .ret [0,1] _)) fun gO =>
    .ret [0,1] _)
theorem aHb (K:Nat) (a0:(List cL)) (a1:cL):bS Tryz.prog 198 [.c (.own 0 a0.length),.agg (cA.cs a1)] [cA.row a0] (bT (aAt K a0 a1)) (fun r=>.c (.own 1 r.length)) (fun r=>[.dead,cA.row r]):=(aOk K) a0 a1
def yF:(K:Nat)→((List cL))→((List cJ))→Option (((List cL)) ⊕ ((List cL)))
 | 0,_,_=>none
 | K+1,a0,a1 =>
 (bL (bJ ((iter K (fun (iB:(List cL) × Int)=>(bN (decide ((iB.2:Int)<(Int.ofNat a1.length))) (fun (aOl:Bool)=>(if aOl=true then (bL (bJ (bL (bJ ((iter K (fun (pG:(List cL) × Int)=>(bW [cS iB.2 a1.length] (bN (decide ((pG.2:Int)<(Int.ofNat ((a1.getD (iB.2:Int).toNat default).cT).length))) (fun (aOm:Bool)=>(if aOm=true then (bL (bJ (bW [cS iB.2 a1.length] (bN ((a1.getD (iB.2:Int).toNat default).cT) (fun (aI6:(List cL))=>(bW [cS pG.2 aI6.length] ((bT (aAt K pG.1 (aI6.getD (pG.2:Int).toNat default))).bind (fun aOn=>(some (.inr (aOn)))))))))) (fun (aDO:(List cL))=>(some (.inr (aDO,(IntKind.i64.wrap (pG.2+1))))))) else (some (.inl (Sum.inl (pG.1))))))))) (iB.1,0)).map .inl)) (fun (aDP:(List cL))=>(bL (bJ ((iter K (fun (pH:(List cL) × Int)=>(bW [cS iB.2 a1.length] (bN (decide ((pH.2:Int)<(Int.ofNat ((a1.getD (iB.2:Int).toNat default).bY).length))) (fun (aOo:Bool)=>(if aOo=true then (bL (bJ (bW [cS iB.2 a1.length] (bN ((a1.getD (iB.2:Int).toNat default).bY) (fun (aDQ:(List (List cJ)))=>(bW [cS pH.2 aDQ.length] ((bT (yF K pH.1 (aDQ.getD (pH.2:Int).toNat default))).bind (fun aHc=>(some (.inr (aHc)))))))))) (fun (aDR:(List cL))=>(some (.inr (aDR,(IntKind.i64.wrap (pH.2+1))))))) else (some (.inl (Sum.inl (pH.1))))))))) (aDP,0)).map .inl)) (fun (aDS:(List cL))=>(some (.inr (aDS)))))))) (fun (uG:(List cL))=>(some (.inr (uG,(IntKind.i64.wrap (iB.2+1))))))) else (some (.inl (Sum.inl (iB.1)))))))) (a0,0)).map .inl)) (fun (aDT:(List cL))=>(some (.inl (aDT)))))
theorem aOp:∀ K:Nat,(∀ (a0:(List cL)),∀ (a1:(List cJ)),bS Tryz.prog 157 [.c (.own 0 a0.length),.c (dJ.tree a1)] [cA.row a0] (bT (yF K a0 a1)) (fun r=>.c (.own 1 r.length)) (fun r=>[.dead,cA.row r])):=by
 intro K
 induction K with
 | zero=>exact fun a0 a1=>bS.none (by rw[yF];rfl)
 | succ K ih =>
  have aUz:=ih
  refine ?_
  ·
   intro a0 a1
   refine bS.it Tryz.f157 (fun r=>⟨[(4,.c (.own 1 r.length))],[.dead,cA.row r],[],1⟩) ?_
   rw[yF]
   exact Ref.pt (
    .bk 0 (fun aDT=>⟨[(0,.c (.own 1 aDT.length))],[.dead,cA.row aDT],[],1⟩) (
     .mv 1 0 0 <|
     .lp [0,1] (fun iB=>⟨[(0,.c (.own 1 iB.1.length)),(1,.c (dJ.tree a1)),sI 5 iB.2],[.dead,cA.row iB.1],[],1⟩) fun iB =>
     .lt _ fun aOl =>
     .ite _ (
      .bk 1 (fun uG=>⟨[(0,.c (.own 1 uG.length)),(1,.c (dJ.tree a1)),sI 5 iB.2],[.dead,cA.row uG],[],1⟩) (
       .bk 2 (fun aDP=>⟨[(0,.c (.own 1 aDP.length)),(1,.c (dJ.tree a1)),sI 5 iB.2],[.dead,cA.row aDP],[],1⟩) (
        .lp [0,1] (fun pG=>⟨[(0,.c (.own 1 pG.1.length)),(1,.c (dJ.tree a1)),sI 5 iB.2,sI 6 pG.2],[.dead,cA.row pG.1],[],1⟩) fun pG =>
        .ck _ <|
        .lt _ fun aOm =>
        .ite _ (
         .bk 3 (fun aDO=>⟨[(0,.c (.own 1 aDO.length)),(1,.c (dJ.tree a1)),sI 5 iB.2,sI 6 pG.2],[.dead,cA.row aDO],[],1⟩) (
          .ck _ <|
          .lt _ fun aI6 =>
          .ck _ <|
          .call [1] (aHb _ _ _) fun aOn =>
          .nil [0,2] _) fun aDO =>
         .nil [0,1] _) (
         .ret [0,1] _)) fun aDP =>
       .bk 4 (fun aDS=>⟨[(0,.c (.own 1 aDS.length)),(1,.c (dJ.tree a1)),sI 5 iB.2],[.dead,cA.row aDS],[],1⟩) (
        .lp [0,1] (fun pH=>⟨[(0,.c (.own 1 pH.1.length)),(1,.c (dJ.tree a1)),sI 5 iB.2,sI 7 pH.2],[.dead,cA.row pH.1],[],1⟩) fun pH =>
        .ck _ <|
        .lt _ fun aOo =>
        .ite _ (
         .bk 5 (fun aDR=>⟨[(0,.c (.own 1 aDR.length)),(1,.c (dJ.tree a1)),sI 5 iB.2,sI 7 pH.2],[.dead,cA.row aDR],[],1⟩) (
          .ck _ <|
          .sl 11 4 49 (x:=.c (mZ ((gd a1 iB.2).bY))) (y:=(.c (iW.tree ((gd a1 iB.2).bY)))) (eA.c (kS _)) <|
          .lt _ fun aDQ =>
          .ck _ <|
          .call [1] (aUz _ _) fun aHc =>
          .nil [0,2] _) fun aDR =>
         .nil [0,1] _) (
         .ret [0,1] _)) fun aDS =>
       .nil [0,1] _) fun uG =>
      .nil [0,1] _) (
      .ret [0,1] _)) fun aDT =>
    .ret [0,1] _)
theorem aOq (K:Nat) (a0:(List cL)) (a1:(List cJ)):bS Tryz.prog 157 [.c (.own 0 a0.length),.c (dJ.tree a1)] [cA.row a0] (bT (yF K a0 a1)) (fun r=>.c (.own 1 r.length)) (fun r=>[.dead,cA.row r]):=(aOp K) a0 a1
def aOr (K:Nat) (a1:(List cJ)):Option (((List cL)) ⊕ ((List cL))) :=
 (bL (bJ ((iter K (fun (iB:(List cL) × Int)=>(bN (decide ((iB.2:Int)<(Int.ofNat a1.length))) (fun (aOl:Bool)=>(if aOl=true then (bL (bJ (bL (bJ ((iter K (fun (pG:(List cL) × Int)=>(bW [cS iB.2 a1.length] (bN (decide ((pG.2:Int)<(Int.ofNat ((a1.getD (iB.2:Int).toNat default).cT).length))) (fun (aOm:Bool)=>(if aOm=true then (bL (bJ (bW [cS iB.2 a1.length] (bN ((a1.getD (iB.2:Int).toNat default).cT) (fun (aI6:(List cL))=>(bW [cS pG.2 aI6.length] ((bT (aAt K pG.1 (aI6.getD (pG.2:Int).toNat default))).bind (fun aOn=>(some (.inr (aOn)))))))))) (fun (aDO:(List cL))=>(some (.inr (aDO,(IntKind.i64.wrap (pG.2+1))))))) else (some (.inl (Sum.inl (pG.1))))))))) (iB.1,0)).map .inl)) (fun (aDP:(List cL))=>(bL (bJ ((iter K (fun (pH:(List cL) × Int)=>(bW [cS iB.2 a1.length] (bN (decide ((pH.2:Int)<(Int.ofNat ((a1.getD (iB.2:Int).toNat default).bY).length))) (fun (aOo:Bool)=>(if aOo=true then (bL (bJ (bW [cS iB.2 a1.length] (bN ((a1.getD (iB.2:Int).toNat default).bY) (fun (aDQ:(List (List cJ)))=>(bW [cS pH.2 aDQ.length] ((bT (yF K pH.1 (aDQ.getD (pH.2:Int).toNat default))).bind (fun aHc=>(some (.inr (aHc)))))))))) (fun (aDR:(List cL))=>(some (.inr (aDR,(IntKind.i64.wrap (pH.2+1))))))) else (some (.inl (Sum.inl (pH.1))))))))) (aDP,0)).map .inl)) (fun (aDS:(List cL))=>(some (.inr (aDS)))))))) (fun (uG:(List cL))=>(some (.inr (uG,(IntKind.i64.wrap (iB.2+1))))))) else (some (.inl (Sum.inl (iB.1)))))))) ([],0)).map .inl)) (fun (aDT:(List cL))=>(some (.inl (aDT)))))
theorem aRD (K:Nat) (a1:(List cJ)):bS Tryz.prog 157 [.c (.nil),.c (dJ.tree a1)] [] (bT (aOr K a1)) (fun r=>.c (cA.tree r)) (fun r=>[]):=by
 refine bS.it Tryz.f157 (fun r=>⟨[(4,.c (cA.tree r))],[],[],0⟩) ?_
 unfold aOr
 exact Ref.pt (
  .bk 0 (fun aDT=>⟨[(0,.c (.own 0 aDT.length))],[cA.row aDT],[],0⟩) (
   .ad 1 0 0 cA.ty cA.w (cA.at []) <|
   .lp [0] (fun iB=>⟨[(0,.c (.own 0 iB.1.length)),(1,.c (dJ.tree a1)),sI 5 iB.2],[cA.row iB.1],[],0⟩) fun iB =>
   .lt _ fun aOl =>
   .ite _ (
    .bk 1 (fun uG=>⟨[(0,.c (.own 0 uG.length)),(1,.c (dJ.tree a1)),sI 5 iB.2],[cA.row uG],[],0⟩) (
     .bk 2 (fun aDP=>⟨[(0,.c (.own 0 aDP.length)),(1,.c (dJ.tree a1)),sI 5 iB.2],[cA.row aDP],[],0⟩) (
      .lp [0] (fun pG=>⟨[(0,.c (.own 0 pG.1.length)),(1,.c (dJ.tree a1)),sI 5 iB.2,sI 6 pG.2],[cA.row pG.1],[],0⟩) fun pG =>
      .ck _ <|
      .lt _ fun aOm =>
      .ite _ (
       .bk 3 (fun aDO=>⟨[(0,.c (.own 0 aDO.length)),(1,.c (dJ.tree a1)),sI 5 iB.2,sI 6 pG.2],[cA.row aDO],[],0⟩) (
        .ck _ <|
        .lt _ fun aI6 =>
        .ck _ <|
        .call [0] (aHb _ _ _) fun aOn =>
        .nil [1] _) fun aDO =>
       .nil [0] _) (
       .ret [0] _)) fun aDP =>
     .bk 4 (fun aDS=>⟨[(0,.c (.own 0 aDS.length)),(1,.c (dJ.tree a1)),sI 5 iB.2],[cA.row aDS],[],0⟩) (
      .lp [0] (fun pH=>⟨[(0,.c (.own 0 pH.1.length)),(1,.c (dJ.tree a1)),sI 5 iB.2,sI 7 pH.2],[cA.row pH.1],[],0⟩) fun pH =>
      .ck _ <|
      .lt _ fun aOo =>
      .ite _ (
       .bk 5 (fun aDR=>⟨[(0,.c (.own 0 aDR.length)),(1,.c (dJ.tree a1)),sI 5 iB.2,sI 7 pH.2],[cA.row aDR],[],0⟩) (
        .ck _ <|
        .sl 11 4 49 (x:=.c (mZ ((gd a1 iB.2).bY))) (y:=(.c (iW.tree ((gd a1 iB.2).bY)))) (eA.c (kS _)) <|
        .lt _ fun aDQ =>
        .ck _ <|
        .call [0] (aOq _ _ _) fun aHc =>
        .nil [1] _) fun aDR =>
       .nil [0] _) (
       .ret [0] _)) fun aDS =>
     .nil [0] _) fun uG =>
    .nil [0] _) (
    .ret [0] _)) fun aDT =>
  .fz 12 0 0 <|
  .ret [] _)
end Go.Proofs.YtdbfbedholdjaaaGreat

namespace Go.Proofs.YtdbfbedholdjaaaGreat
open Go Go.Proofs Go.Dl
variable [dW]
set_option maxRecDepth 100000
set_option maxHeartbeats 4000000
def aMs (K:Nat) (a0:(List dR)) (a1:dR):Option (((List dR)) ⊕ ((List dR))) :=
 (bL (bJ ((iter K (fun (u18:Int)=>(bW [!(decide ((u18:Int)<(Int.ofNat a0.length))) || cS u18 a0.length] (bN (decide ((u18:Int)<(Int.ofNat a0.length))) (fun (x23:Bool)=>((cH x23 (bT (aOh K (a0.getD (u18:Int).toNat default) a1)) default).bind (fun qF=>(if (x23 && qF)=true then (bL (bJ (some (.inr ((IntKind.i64.wrap (u18+1)))))) (fun (u25:Int)=>(some (.inr (u25))))) else (some (.inl (Sum.inl (u18))))))))))) (0)).map .inl)) (fun (u13:Int)=>(bW [!(decide ((u13:Int)<(Int.ofNat a0.length))) || cS u13 a0.length] (bN (decide ((u13:Int)<(Int.ofNat a0.length))) (fun (y7:Bool)=>(bN (y7 && ((((a0.getD (u13:Int).toNat default).c8:Int) == a1.c8) && ((((a0.getD (u13:Int).toNat default).dD:Int) == a1.dD) && true))) (fun (x27:Bool)=>(if x27=true then (some (.inl (a0))) else (bW [cW a0.length 0 u13,cW a0.length u13 (Int.ofNat a0.length)] (bN ((a0.drop (u13:Int).toNat).take (((Int.ofNat a0.length):Int).toNat - (u13:Int).toNat)) (fun (l4:(List dR))=>(bN ((a0.drop (0:Int).toNat).take ((u13:Int).toNat - (0:Int).toNat)) (fun (iU:(List dR))=>(bW [room (iU.length * 16)] (bW [room ((iU.length+([a1].length)) * 16)] (bW [room ((((iU++[a1]).length)+l4.length) * 16)] (some (.inl (((iU++[a1])++l4))))))))))))))))))))
theorem aRL (K:Nat) (a0:(List dR)) (a1:dR):bS Tryz.prog 161 [.c (dO.tree a0),.agg (dO.cs a1)] [] (bT (aMs K a0 a1)) (fun r=>.c (dO.tree r)) (fun r=>[]):=by
 refine bS.it Tryz.f161 (fun r=>⟨[(4,.c (dO.tree r))],[],[],0⟩) ?_
 unfold aMs
 exact Ref.pt (
  .bk 0 (fun u13=>⟨[(0,.c (dO.tree a0)),sP 3 0 0 0,sI 5 u13],[.cells (dO.cs a1)],[],0⟩) (
   .lp [0] (fun u18=>⟨[(0,.c (dO.tree a0)),sP 3 0 0 0,sI 5 u18],[.cells (dO.cs a1)],[],0⟩) fun u18 =>
   .lT [0,1,2,3,4,5,6,7] _ <|
   .lt _ fun x23 =>
   .tx [] <|
   .ex [8,9] <|
   .fF 10 (default:Bool) _ [] (aRA K (gd a0 u18) a1) (fun _=>rfl) fun qF =>
   .ex [11] <|
   .ite _ (
    .bk 1 (fun u25=>⟨[(0,.c (dO.tree a0)),sP 3 0 0 0,sI 5 u25],[.cells (dO.cs a1)],[],0⟩) (
     .nil [0] _) fun u25 =>
    .nil [0] _) (
    .ret [0] _)) fun u13 =>
  .lT [0,1,2,3,4,5,6,7] _ <|
  .lt _ fun y7 =>
  .tx [] <|
  .ex [8,9,10,11] <|
  .lt _ fun x27 =>
  .ite _ (
   .ret [] _) (
   .esc [0] [(cd (bd Tryz.f161) [1,1,1,1,0]),(cd (bd Tryz.f161) [1,1,1,1,1])] ⟨[(0,.c (dO.tree a0)),sP 3 0 0 0,sI 5 u13,sB 31 x27],[.cells (dO.cs a1)],[],0⟩ (by
    refine Ref.eH 6 (by kernel_rfl) (by kernel_rfl) ?_
    refine dN.evH (vs:=[cW a0.length 0 u13,cW a0.length u13 (Int.ofNat a0.length)]) (cR:=⟨[sP 3 0 0 0,(35,.c (.tree dO.w ((u13:Int).toNat - (0:Int).toNat) fun i j=>dO.at a0 ((0:Int).toNat+i) j)),(42,.c (.tree dO.w ((Int.ofNat a0.length).toNat - (u13:Int).toNat) fun i j=>dO.at a0 ((u13:Int).toNat+i) j))],[.cells (dO.cs a1)],[],0⟩) (fuel':=6) [0,1,2,7,8,9] [3,35,42] [0] rfl (by kernel_rfl) (by kernel_rfl) (fun hv=>?_)
    refine dN.conv (Conv.sl 35 (.c (dO.tree ((a0.drop (0:Int).toNat).take ((u13:Int).toNat - (0:Int).toNat)))) (eA.c (El.qQ dO _ (vY (hv _ (List.Mem.head _)))))) ?_
    refine dN.conv (Conv.sl 42 (.c (dO.tree ((a0.drop (u13:Int).toNat).take ((Int.ofNat a0.length).toNat - (u13:Int).toNat)))) (eA.c (El.qQ dO _ (vY (hv _ (List.Mem.tail _ (List.Mem.head _))))))) ?_
    refine dN.aEH (stf:=fun l4=>⟨[(42,.c (dO.tree l4)),(35,.c (dO.tree ((a0.drop (0:Int).toNat).take ((u13:Int).toNat - (0:Int).toNat)))),sP 3 0 0 0],[.cells (dO.cs a1)],[],0⟩) (by kernel_rfl) (fun l4=>?_)
    refine dN.aEH (stf:=fun iU=>⟨[(42,.c (dO.tree l4)),(35,.c (dO.tree iU)),sP 3 0 0 0],[.cells (dO.cs a1)],[],0⟩) (by kernel_rfl) (fun iU=>?_)
    refine dN.qB [6,10] ?_
    refine bO.aBh (⟨[(4,.c (.own 0 (((iU++[a1])++l4).length)))],[dO.row ((iU++[a1])++l4)],[],0⟩) ((some (.inl (((iU++[a1])++l4))))) ?_ (fun hk=>?_)
    ·
     exact Ref.pt (
      .fz 1000000 0 0 <|
      .ret [] _)
    ·
     refine bO.v0 (fuel':=5) [4] [35,37,42] [] ?_
     refine bO.kV (fuel':=4) 3 5 (by kernel_rfl) ?_ ?_
     ·
      refine cF.aIJ (vs:=[room (iU.length * 16)]) (cR:=⟨[(36,.c (.own 0 iU.length)),(37,.agg (dO.cs a1)),(42,.c (dO.tree l4))],[dO.row iU],[],0⟩) 3 [36,37,42] [0] (by kernel_rfl) (by kernel_rfl) ?_
      refine bO.mX (cR:=⟨[(36,.c (.own 0 iU.length)),(38,.c (.own 1 1)),(42,.c (dO.tree l4))],[dO.row iU,.row 66 2 1 (gY [(dO.cs a1)])],[],0⟩) (fuel':=3) 5 [36,38,42] [0,1] rfl (by kernel_rfl) (by kernel_rfl) ?_
      refine bO.conv (Conv.ob 1 (dO.row [a1]) (El.bZ dO [a1] rfl (by kernel_rfl))) ?_
      refine bO.conv (Conv.sl 38 (.c (.own 1 ([a1].length))) (eA.c (dY.own (by first | (simp;done) | (simp;omega) | omega)))) ?_
      refine bO.cM (fuel':=2) 6 (by kernel_rfl) ?_
      refine cF.writes (vs:=[room ((iU.length+([a1].length)) * 16)]) (cR:=⟨[(39,.c (.own 0 (iU.length+([a1].length)))),(42,.c (dO.tree l4))],[.row 66 2 (iU.length+([a1].length)) fun i j=>bif Nat.blt i iU.length then dO.at iU i j else (dO.at [a1]) (i - iU.length) j],[],0⟩) 6 [39,42] [2] (by kernel_rfl) (by kernel_rfl) ?_
      refine bO.conv (Conv.ob 0 (dO.row (iU++[a1])) (El.cI dO iU [a1] rfl rfl)) ?_
      refine bO.conv (Conv.sl 39 (.c (.own 0 ((iU++[a1]).length))) (eA.c (dY.own (by first | (simp;done) | (simp;omega) | omega)))) ?_
      refine bO.cM (fuel':=1) 10 (by kernel_rfl) ?_
      refine cF.writes (vs:=[room ((((iU++[a1]).length)+l4.length) * 16)]) (cR:=⟨[(43,.c (.own 0 (((iU++[a1]).length)+l4.length)))],[.row 66 2 (((iU++[a1]).length)+l4.length) fun i j=>bif Nat.blt i ((iU++[a1]).length) then dO.at (iU++[a1]) i j else (dO.at l4) (i - ((iU++[a1]).length)) j],[],0⟩) 10 [43] [1] (by kernel_rfl) (by kernel_rfl) ?_
      refine bO.conv (Conv.ob 0 (dO.row ((iU++[a1])++l4)) (El.cI dO (iU++[a1]) l4 rfl rfl)) ?_
      refine bO.conv (Conv.sl 43 (.c (.own 0 (((iU++[a1])++l4).length))) (eA.c (dY.own (by first | (simp;done) | (simp;omega) | omega)))) ?_
      refine bO.v0 (fuel':=0) [11] [4] [0] ?_
      refine bO.done (by kernel_rfl) ?_
      refine Ref.ck ⟨[(4,.c (.own 0 (((iU++[a1])++l4).length)))],[dO.row ((iU++[a1])++l4)],[],0⟩ [4] [0] ?_
      exact hk
     ·
      refine cF.iY (cR:=⟨[(35,.c (dO.tree iU)),(38,.c (.own 0 1)),(42,.c (dO.tree l4))],[.row 66 2 1 (gY [(dO.cs a1)])],[],0⟩) 5 [35,38,42] [0] (by kernel_rfl) (by kernel_rfl) ?_
      refine bO.conv (Conv.ob 0 (dO.row [a1]) (El.bZ dO [a1] rfl (by kernel_rfl))) ?_
      refine bO.conv (Conv.sl 38 (.c (.own 0 ([a1].length))) (eA.c (dY.own (by first | (simp;done) | (simp;omega) | omega)))) ?_
      refine bO.cM (fuel':=3) 3 (by kernel_rfl) ?_
      refine cF.a1 [room (iU.length * 16)] 3 [36,38,42] [0,1] ?_
      refine bO.cM (fuel':=2) 6 (by kernel_rfl) ?_
      refine cF.writes (vs:=[room ((iU.length+([a1].length)) * 16)]) (cR:=⟨[(39,.c (.own 0 (iU.length+([a1].length)))),(42,.c (dO.tree l4))],[.row 66 2 (iU.length+([a1].length)) fun i j=>bif Nat.blt i iU.length then dO.at iU i j else (dO.at [a1]) (i - iU.length) j],[],0⟩) 6 [39,42] [2] (by kernel_rfl) (by kernel_rfl) ?_
      refine bO.conv (Conv.ob 0 (dO.row (iU++[a1])) (El.cI dO iU [a1] rfl rfl)) ?_
      refine bO.conv (Conv.sl 39 (.c (.own 0 ((iU++[a1]).length))) (eA.c (dY.own (by first | (simp;done) | (simp;omega) | omega)))) ?_
      refine bO.cM (fuel':=1) 10 (by kernel_rfl) ?_
      refine cF.writes (vs:=[room ((((iU++[a1]).length)+l4.length) * 16)]) (cR:=⟨[(43,.c (.own 0 (((iU++[a1]).length)+l4.length)))],[.row 66 2 (((iU++[a1]).length)+l4.length) fun i j=>bif Nat.blt i ((iU++[a1]).length) then dO.at (iU++[a1]) i j else (dO.at l4) (i - ((iU++[a1]).length)) j],[],0⟩) 10 [43] [1] (by kernel_rfl) (by kernel_rfl) ?_
      refine bO.conv (Conv.ob 0 (dO.row ((iU++[a1])++l4)) (El.cI dO (iU++[a1]) l4 rfl rfl)) ?_
      refine bO.conv (Conv.sl 43 (.c (.own 0 (((iU++[a1])++l4).length))) (eA.c (dY.own (by first | (simp;done) | (simp;omega) | omega)))) ?_
      refine bO.v0 (fuel':=0) [11] [4] [0] ?_
      refine bO.done (by kernel_rfl) ?_
      refine Ref.ck ⟨[(4,.c (.own 0 (((iU++[a1])++l4).length)))],[dO.row ((iU++[a1])++l4)],[],0⟩ [4] [0] ?_
      exact hk)))
def F78 (K:Nat) (a0:cZ):Option (((List dR)) ⊕ ((List dR))) :=
 (bL (bJ ((iter K (fun (gV:(List dR) × Int)=>(bN (decide ((gV.2:Int)<(Int.ofNat a0.bK.length))) (fun (aXB:Bool)=>(if aXB=true then (bL (bJ (bW [cS gV.2 a0.bK.length] (bN ((((a0.bK.getD (gV.2:Int).toNat default).bP):Int) == 3) (fun (aXC:Bool)=>(bL (if aXC=true then (bW [room ((gV.1.length+([(⟨gV.2,(-1)⟩:dR)].length)) * 16)] (some (.inr ((gV.1++[(⟨gV.2,(-1)⟩:dR)]))))) else (some (.inr (gV.1)))) (fun (aOI:(List dR))=>(bL (bJ ((iter K (fun (gJ:(List dR) × Int)=>(bW [cS gV.2 a0.bK.length,!(decide ((gJ.2:Int)<(Int.ofNat ((a0.bK.getD (gV.2:Int).toNat default).bM).length))) || cS gV.2 a0.bK.length] (bN ((decide ((gJ.2:Int)<(Int.ofNat ((a0.bK.getD (gV.2:Int).toNat default).bM).length))) && ((((a0.bK.getD (gV.2:Int).toNat default).bP):Int) == 2)) (fun (aXD:Bool)=>(if aXD=true then (bL (bJ (bW [room ((gJ.1.length+([(⟨gV.2,gJ.2⟩:dR)].length)) * 16)] (some (.inr ((gJ.1++[(⟨gV.2,gJ.2⟩:dR)])))))) (fun (aOJ:(List dR))=>(some (.inr (aOJ,(IntKind.i64.wrap (gJ.2+1))))))) else (some (.inl (Sum.inl (gJ.1))))))))) (aOI,0)).map .inl)) (fun (aOK:(List dR))=>(some (.inr (aOK))))))))))) (fun (aOL:(List dR))=>(some (.inr (aOL,(IntKind.i64.wrap (gV.2+1))))))) else (some (.inl (Sum.inl (gV.1)))))))) ([],0)).map .inl)) (fun (aOM:(List dR))=>(some (.inl (aOM)))))
theorem aUM (K:Nat) (a0:cZ):bS Tryz.prog 78 [.agg (dM.cs a0)] [] (bT (F78 K a0)) (fun r=>.c (dO.tree r)) (fun r=>[]):=by
 refine bS.it Tryz.f78 (fun r=>⟨[(2,.c (dO.tree r))],[],[],0⟩) ?_
 unfold F78
 exact Ref.pt (
  .bk 0 (fun aOM=>⟨[(3,.c (.own 0 aOM.length))],[dO.row aOM],[],0⟩) (
   .ad 2 0 3 dO.ty dO.w (dO.at []) <|
   .lp [0,1] (fun gV=>⟨[sP 1 0 0 0,(3,.c (.own 1 gV.1.length)),sI 4 gV.2],[.cells (dM.cs a0),dO.row gV.1],[],0⟩) fun gV =>
   .lt _ fun aXB =>
   .ite _ (
    .bk 1 (fun aOL=>⟨[sP 1 0 0 0,(3,.c (.own 1 aOL.length)),sI 4 gV.2],[.cells (dM.cs a0),dO.row aOL],[],0⟩) (
     .ck _ <|
     .lt _ fun aXC =>
     .jn (fun aOI=>⟨[sP 1 0 0 0,(3,.c (.own 1 aOI.length)),sI 4 gV.2],[.cells (dM.cs a0),dO.row aOI],[],0⟩) (
      .ite _ (
       .ob 6 2 2 (x:=.row 66 2 1 (gY [[iC gV.2,iC (-1)]])) (y:=(dO.row [(⟨gV.2,(-1)⟩:dR)])) (El.bZ dO [(⟨gV.2,(-1)⟩:dR)] rfl (by kernel_rfl)) <|
       .sl 6 2 23 (x:=.c (.own 2 1)) (y:=(.c (.own 2 ([(⟨gV.2,(-1)⟩:dR)].length)))) (eA.c (dY.own (by first | (simp;done) | (simp;omega) | omega))) <|
       .ck _ <|
       .ob 6 1 3 (x:=.row 66 2 (gV.1.length+([(⟨gV.2,(-1)⟩:dR)].length)) fun i j=>bif Nat.blt i gV.1.length then dO.at gV.1 i j else (dO.at [(⟨gV.2,(-1)⟩:dR)]) (i - gV.1.length) j) (y:=(dO.row (gV.1++[(⟨gV.2,(-1)⟩:dR)]))) (El.cI dO gV.1 [(⟨gV.2,(-1)⟩:dR)] rfl rfl) <|
       .sl 6 1 24 (x:=.c (.own 3 (gV.1.length+([(⟨gV.2,(-1)⟩:dR)].length)))) (y:=(.c (.own 3 ((gV.1++[(⟨gV.2,(-1)⟩:dR)]).length)))) (eA.c (dY.own (by first | (simp;done) | (simp;omega) | omega))) <|
       .nil [0,3] _) (
       .nil [0,1] _)) fun aOI =>
     .bk 2 (fun aOK=>⟨[sP 1 0 0 0,(3,.c (.own 1 aOK.length)),sI 4 gV.2],[.cells (dM.cs a0),dO.row aOK],[],0⟩) (
      .lp [0,1] (fun gJ=>⟨[sP 1 0 0 0,(3,.c (.own 1 gJ.1.length)),sI 4 gV.2,sI 5 gJ.2],[.cells (dM.cs a0),dO.row gJ.1],[],0⟩) fun gJ =>
      .ck _ <|
      .lt _ fun aXD =>
      .ite _ (
       .bk 3 (fun aOJ=>⟨[sP 1 0 0 0,(3,.c (.own 1 aOJ.length)),sI 4 gV.2,sI 5 gJ.2],[.cells (dM.cs a0),dO.row aOJ],[],0⟩) (
        .ob 10 2 2 (x:=.row 66 2 1 (gY [[iC gV.2,iC gJ.2]])) (y:=(dO.row [(⟨gV.2,gJ.2⟩:dR)])) (El.bZ dO [(⟨gV.2,gJ.2⟩:dR)] rfl (by kernel_rfl)) <|
        .sl 10 2 49 (x:=.c (.own 2 1)) (y:=(.c (.own 2 ([(⟨gV.2,gJ.2⟩:dR)].length)))) (eA.c (dY.own (by first | (simp;done) | (simp;omega) | omega))) <|
        .ck _ <|
        .ob 10 1 3 (x:=.row 66 2 (gJ.1.length+([(⟨gV.2,gJ.2⟩:dR)].length)) fun i j=>bif Nat.blt i gJ.1.length then dO.at gJ.1 i j else (dO.at [(⟨gV.2,gJ.2⟩:dR)]) (i - gJ.1.length) j) (y:=(dO.row (gJ.1++[(⟨gV.2,gJ.2⟩:dR)]))) (El.cI dO gJ.1 [(⟨gV.2,gJ.2⟩:dR)] rfl rfl) <|
        .sl 10 1 50 (x:=.c (.own 3 (gJ.1.length+([(⟨gV.2,gJ.2⟩:dR)].length)))) (y:=(.c (.own 3 ((gJ.1++[(⟨gV.2,gJ.2⟩:dR)]).length)))) (eA.c (dY.own (by first | (simp;done) | (simp;omega) | omega))) <|
        .nil [0,3] _) fun aOJ =>
       .nil [0,1] _) (
       .ret [0,1] _)) fun aOK =>
     .nil [0,1] _) fun aOL =>
    .nil [0,1] _) (
    .ret [1] _)) fun aOM =>
  .fz 11 0 0 <|
  .ret [] _)
def F80 (K:Nat) (a0:(List (List Int))) (a1:Int):Option (((List Bool)) ⊕ ((List Bool))) :=
 (bW [decide (0≤((Int.ofNat a0.length):Int)) && decide (((Int.ofNat a0.length):Int)≤(Int.ofNat a0.length)),room (((Int.ofNat a0.length):Int).toNat * 1)] (bW [cS a1 a0.length] (bW [room (((a0.getD (a1:Int).toNat default).length) * 8)] (bL (bJ ((iter K (fun (eY:(List Bool) × (List Int) × Int)=>(bN (decide ((eY.2.2:Int)<(Int.ofNat eY.2.1.length))) (fun (x38:Bool)=>(if x38=true then (bL (bJ (bW [cS eY.2.2 eY.2.1.length,!(!(decide (((eY.2.1.getD ((eY.2.2:Int).toNat) default):Int)<0))) || cS eY.2.2 eY.2.1.length,!(!(decide (((eY.2.1.getD ((eY.2.2:Int).toNat) default):Int)<0))) || cS (eY.2.1.getD ((eY.2.2:Int).toNat) default) eY.1.length] (bN ((decide (((eY.2.1.getD ((eY.2.2:Int).toNat) default):Int)<0)) || (eY.1.getD (((eY.2.1.getD ((eY.2.2:Int).toNat) default):Int).toNat) default)) (fun (x42:Bool)=>(if x42=true then (some (.inl (Sum.inl (eY.1,eY.2.1)))) else (bW [cS eY.2.2 eY.2.1.length,cS (eY.2.1.getD ((eY.2.2:Int).toNat) default) eY.1.length] (bW [cS eY.2.2 eY.2.1.length,cS (eY.2.1.getD ((eY.2.2:Int).toNat) default) a0.length] (bN (a0.getD ((eY.2.1.getD ((eY.2.2:Int).toNat) default):Int).toNat default) (fun (x43:(List Int))=>(bW [room ((eY.2.1.length+x43.length) * 8)] (some (.inr ((eY.1.set (((eY.2.1.getD ((eY.2.2:Int).toNat) default):Int).toNat) true),(eY.2.1++x43)))))))))))))) (fun (u41:(List Bool) × (List Int))=>(some (.inr (u41.1,u41.2,(IntKind.i64.wrap (eY.2.2+1))))))) else (some (.inl (Sum.inl (eY.1)))))))) ((List.replicate ((Int.ofNat a0.length):Int).toNat (default:Bool)),(a0.getD (a1:Int).toNat default),0)).map .inl)) (fun (dU:(List Bool))=>(some (.inl (dU))))))))
theorem aUN (K:Nat) (a0:(List (List Int))) (a1:Int):bS Tryz.prog 80 [.c (lH.tree a0),.c (.val (.int .i64 a1))] [] (bT (F80 K a0 a1)) (fun r=>.c (E4.tree r)) (fun r=>[]):=by
 refine bS.it Tryz.f80 (fun r=>⟨[(4,.c (E4.tree r))],[],[],0⟩) ?_
 unfold F80
 exact Ref.pt (
  .ck _ <|
  .ob 1 1 0 (x:=.row 4 1 (Int.ofNat a0.length).toNat fun _ j=>([bC false]:List C).getD j .bot) (y:=(E4.row (List.replicate (Int.ofNat a0.length).toNat (default:Bool)))) (El.aNu E4 default (by kernel_rfl)) <|
  .sl 1 1 10 (x:=.c (.own 0 ((Int.ofNat a0.length).toNat))) (y:=(.c (.own 0 ((List.replicate (Int.ofNat a0.length).toNat (default:Bool)).length)))) (eA.c (dY.own (by first | (simp;done) | (simp;omega) | omega))) <|
  .ck _ <|
  .ck _ <|
  .bk 0 (fun dU=>⟨[(5,.c (.own 0 dU.length))],[E4.row dU],[],0⟩) (
   .lp [0,1] (fun eY=>⟨[(0,.c (lH.tree a0)),(5,.c (.own 0 eY.1.length)),(6,.c (.own 1 eY.2.1.length)),sI 7 eY.2.2],[E4.row eY.1,E3.row eY.2.1],[],0⟩) fun eY =>
   .lt _ fun x38 =>
   .ite _ (
    .bk 1 (fun u41=>⟨[(0,.c (lH.tree a0)),(5,.c (.own 0 u41.1.length)),(6,.c (.own 1 u41.2.length)),sI 7 eY.2.2],[E4.row u41.1,E3.row u41.2],[],0⟩) (
     .ck _ <|
     .lt _ fun x42 =>
     .ite _ (
      .ret [0,1] _) (
      .ck _ <|
      .ob 7 0 0 (x:=.row 4 1 eY.1.length (setRow (E4.at eY.1) (((eY.2.1.getD ((eY.2.2:Int).toNat) default):Int).toNat) 0 [bC true])) (y:=(E4.row (eY.1.set (((eY.2.1.getD ((eY.2.2:Int).toNat) default):Int).toNat) true))) (El.aNK E4 eY.1 true (j:=0) (cl:=[bC true]) (fun _=>rfl) (aS rfl) rfl) <|
      .sl 7 0 5 (x:=.c (.own 0 eY.1.length)) (y:=(.c (.own 0 ((eY.1.set (((eY.2.1.getD ((eY.2.2:Int).toNat) default):Int).toNat) true).length)))) (eA.c (dY.own (by first | (simp;done) | (simp;omega) | omega))) <|
      .ck _ <|
      .lt _ fun x43 =>
      .ck _ <|
      .ob 8 1 2 (x:=.row 3 1 (eY.2.1.length+x43.length) fun i j=>bif Nat.blt i eY.2.1.length then E3.at eY.2.1 i j else (E3.at x43) (i - eY.2.1.length) j) (y:=(E3.row (eY.2.1++x43))) (El.cI E3 eY.2.1 x43 rfl rfl) <|
      .sl 8 1 50 (x:=.c (.own 2 (eY.2.1.length+x43.length))) (y:=(.c (.own 2 ((eY.2.1++x43).length)))) (eA.c (dY.own (by first | (simp;done) | (simp;omega) | omega))) <|
      .nil [0,2] _)) fun u41 =>
    .nil [0,1] _) (
    .ret [0] _)) fun dU =>
  .fz 9 0 0 <|
  .ret [] _)
end Go.Proofs.YtdbfbedholdjaaaGreat

namespace Go.Proofs.YtdbfbedholdjaaaGreat
open Go Go.Proofs Go.Dl
variable [dW]
set_option maxRecDepth 100000
set_option maxHeartbeats 4000000
def aOO (K:Nat) (a0:cZ) (a1:dR):Option (((List dR)) ⊕ ((List dR))) :=
 ((bT (aOj K a0 a1)).bind (fun r1=>((bT (aOr K r1)).bind (fun r2=>(bL (bJ ((iter K (fun (j8:(List dR) × Int)=>(bN (decide ((j8.2:Int)<(Int.ofNat r2.length))) (fun (aTg:Bool)=>(if aTg=true then (bL (bJ (bW [cS j8.2 r2.length] ((cH true (bT (aMi K a0 a1 (r2.getD (j8.2:Int).toNat default))) default).bind (fun mJ=>(if ((mJ.2:Int) != 0)=true then (some (.inl (Sum.inl (j8.1)))) else (bL (bJ ((iter K (fun (gQ:(List dR) × Int)=>(bN (decide ((gQ.2:Int)<(Int.ofNat a0.bK.length))) (fun (aTh:Bool)=>(if aTh=true then (bL (bJ (bW [cS j8.2 r2.length] (bN (((((r2.getD (j8.2:Int).toNat default).fN):Int) == 2) && ((gQ.2:Int) != mJ.1)) (fun (aD1:Bool)=>(bW [!(!aD1) || cS j8.2 r2.length,!(((((r2.getD (j8.2:Int).toNat default).fN):Int) != 2) && (!aD1)) || cS gQ.2 a0.bK.length,!((!((((a0.bK.getD (gQ.2:Int).toNat default).bP):Int) != 2)) && (((((r2.getD (j8.2:Int).toNat default).fN):Int) != 2) && (!aD1))) || cS gQ.2 a0.bK.length,!((!((((a0.bK.getD (gQ.2:Int).toNat default).bP):Int) != 2)) && (((((r2.getD (j8.2:Int).toNat default).fN):Int) != 2) && (!aD1))) || cS mJ.1 a0.bK.length] ((cH ((!((((a0.bK.getD (gQ.2:Int).toNat default).bP):Int) != 2)) && (((((r2.getD (j8.2:Int).toNat default).fN):Int) != 2) && (!aD1))) (bT (aMb K a0 ((a0.bK.getD (gQ.2:Int).toNat default).cC) ((a0.bK.getD (mJ.1:Int).toNat default).cC))) default).bind (fun aTi=>(bN (aD1 || (((((r2.getD (j8.2:Int).toNat default).fN):Int) != 2) && (((((a0.bK.getD (gQ.2:Int).toNat default).bP):Int) != 2) || (!aTi)))) (fun (aOP:Bool)=>(if aOP=true then (some (.inl (Sum.inl (gQ.1)))) else (bW [cS j8.2 r2.length] ((bT (aEN K a0 gQ.2 ((r2.getD (j8.2:Int).toNat default).wF))).bind (fun gK=>((cH gK.2 (bT (F63 K a0 gK.1)) default).bind (fun aKG=>(if (gK.2 && (!aKG.eV))=true then ((bT (aMs K gQ.1 gK.1)).bind (fun aKH=>(some (.inr (aKH))))) else (some (.inr (gQ.1))))))))))))))))))) (fun (aKI:(List dR))=>(some (.inr (aKI,(IntKind.i64.wrap (gQ.2+1))))))) else (some (.inl (Sum.inl (gQ.1)))))))) (j8.1,0)).map .inl)) (fun (aKJ:(List dR))=>(some (.inr (aKJ)))))))))) (fun (aKK:(List dR))=>(some (.inr (aKK,(IntKind.i64.wrap (j8.2+1))))))) else (some (.inl (Sum.inl (j8.1)))))))) ([],0)).map .inl)) (fun (aBl:(List dR))=>(some (.inl (aBl)))))))))
abbrev nU (v0:(List dR) × Int) (v1:(List cL)) (v2:(List dR) × Int) (v3:Int × Int):List (Nat × D):=[sP 2 0 0 0,sP 3 1 0 0,(5,.c (dO.tree v0.1)),(6,.c (cA.tree v1)),sI 7 v2.2,sI 8 v3.1,sI 10 v0.2]
abbrev lE (v0:cZ) (v1:dR):List Go.Dl.Obj:=[.cells (dM.cs v0),.cells (dO.cs v1)]
abbrev aD2 (v0:dR × Bool):List (Nat × D):=[(87,.iT [.agg (dO.cs v0.1),.c (bC v0.2)]),(96,.agg (dO.cs v0.1))]
theorem aRM (K:Nat) (a0:cZ) (a1:dR):bS Tryz.prog 121 [.agg (dM.cs a0),.agg (dO.cs a1)] [] (bT (aOO K a0 a1)) (fun r=>.c (dO.tree r)) (fun r=>[]):=by
 refine bS.it Tryz.f121 (fun r=>⟨[(4,.c (dO.tree r))],[],[],0⟩) ?_
 unfold aOO
 exact Ref.pt (
  .call [] (aRC _ _ _) fun r1 =>
  .call [] (aRD _ _) fun r2 =>
  .bk 0 (fun aBl=>⟨[(5,.c (dO.tree aBl))],[],[],0⟩) (
   .sl 3 0 5 (x:=.c (.nil)) (y:=(.c (dO.tree []))) (eA.c (El.cN dO)) <|
   .lp [0,1] (fun j8=>⟨[sP 2 0 0 0,sP 3 1 0 0,(5,.c (dO.tree j8.1)),(6,.c (cA.tree r2)),sI 7 j8.2],lE a0 a1,[],0⟩) fun j8 =>
   .lt _ fun aTg =>
   .ite _ (
    .bk 1 (fun aKK=>⟨[sP 2 0 0 0,sP 3 1 0 0,(5,.c (dO.tree aKK)),(6,.c (cA.tree r2)),sI 7 j8.2],lE a0 a1,[],0⟩) (
     .ex [2,3] <|
     .tx [] <|
     .lT [0,1,4,5] _ <|
     .fF 6 (default:Int × Int) _ [] (aKv K a0 a1 (gd r2 j8.2)) (fun _=>rfl) fun mJ =>
     .ex [7,8,9,10,11] <|
     .ite _ (
      .ret [0,1] _) (
      .bk 2 (fun aKJ=>⟨[sP 2 0 0 0,sP 3 1 0 0,(5,.c (dO.tree aKJ)),(6,.c (cA.tree r2)),sI 7 j8.2],lE a0 a1,[],0⟩) (
       .lp [0,1] (fun gQ=>⟨nU gQ r2 j8 mJ,lE a0 a1,[],0⟩) fun gQ =>
       .lt _ fun aTh =>
       .ite _ (
        .bk 3 (fun aKI=>⟨[sP 2 0 0 0,sP 3 1 0 0,(5,.c (dO.tree aKI)),(6,.c (cA.tree r2)),sI 7 j8.2,sI 8 mJ.1,sI 10 gQ.2],lE a0 a1,[],0⟩) (
         .ex [0,1] <|
         .tx [] <|
         .lT [2,3,4,5,6,7,8,9,10,11,12,13] _ <|
         .lt _ fun aD1 =>
         .lT [14,15,16,17,18,19,20,21,22,23,24,25,26,27,28,29,30,31,32,33,34,35,36,37,38,39] _ <|
         .fF 40 (default:Bool) _ [] (aKp K a0 ((gd a0.bK gQ.2).cC) ((gd a0.bK mJ.1).cC)) (fun _=>rfl) fun aTi =>
         .ex [41,42,43,44] <|
         .lt _ fun aOP =>
         .ite _ (
          .ret [0,1] _) (
          .esc [0,1] [(cd (bd Tryz.f121) [1,1,1,0,1,0,0,1,0,0,1,1,1,0,0,1,0,0,1,0]),(cd (bd Tryz.f121) [1,1,1,0,1,0,0,1,0,0,1,1,1,0,0,1,0,0,1,1])] ⟨nU gQ r2 j8 mJ++[sB 86 aOP],lE a0 a1,[],0⟩ (by
           refine Ref.eH 12 (by kernel_rfl) (by kernel_rfl) ?_
           refine dN.eW (cR:=⟨nU gQ r2 j8 mJ++[sI 89 gQ.2,(90,.c (cA.tree r2)),sI 91 j8.2],lE a0 a1,[],0⟩) (fuel':=11) [1,2,3] [2,3,5,6,7,8,10,89,90,91] [0,1] rfl (by kernel_rfl) (by kernel_rfl) ?_
           refine dN.qB [7,12] ?_
           refine bO.iA (fun (gK:dR × Bool)=>⟨nU gQ r2 j8 mJ++[sP 11 2 0 0,sB 12 gK.2],lE a0 a1++[.cells (dO.cs gK.1)],[],0⟩) (fun (gK:dR × Bool)=>((cH gK.2 (bT (F63 K a0 gK.1)) default).bind (fun aKG=>(if (gK.2 && (!aKG.eV))=true then ((bT (aMs K gQ.1 gK.1)).bind (fun aKH=>(some (.inr (aKH))))) else (some (.inr (gQ.1))))))) (fun gK=>?_) (fun hk=>?_)
           ·
            exact Ref.pt (
             .yE (default:hU) _ (bS.aKg (aDy K a0 gK.1) (fun _=>rfl)) fun aKG =>
             .ite _ (
              .call [] (aRL _ _ _) fun aKH =>
              .nil [0,1] _) (
              .nil [0,1] _))
           ·
            refine bO.v1 (fuel':=7) [cS j8.2 r2.length] [0,4,5,6] [2,3,5,6,7,8,10,88,89,94] [0,1] ?_
            refine bO.kV (fuel':=6) 7 11 (by kernel_rfl) ?_ ?_
            ·
             refine cF.cG (t:=95) 7 [] rfl (by kernel_rfl) (pT K a0 gQ.2 ((gd r2 j8.2).wF)) (fun gK=>?_)
             refine bO.eW (cR:=⟨nU gQ r2 j8 mJ++aD2 gK,lE a0 a1,[],0⟩) (fuel':=4) [8,9] [2,3,5,6,7,8,10,87,96] [0,1] rfl (by kernel_rfl) (by kernel_rfl) ?_
             refine bO.iR (fuel':=3) [[],[(10,97)]] [(10,97)] [2,3,5,6,7,8,10,87,96] [0,1] ⟨nU gQ r2 j8 mJ++aD2 gK++[sB 97 gK.2],lE a0 a1,[],0⟩ ?_
             refine cO.cM (fuel':=2) 11 ?_
             refine dB.iY (cR:=⟨nU gQ r2 j8 mJ++(sP 11 2 0 0::(aD2 gK++[sB 97 gK.2])),lE a0 a1++[.cells [iC 0,iC 0]],[],0⟩) 11 [2,3,5,6,7,8,10,11,87,96,97] [0,1,2] (by kernel_rfl) (by kernel_rfl) ?_
             refine cO.cM (fuel':=1) 12 ?_
             refine dB.gI (cR:=⟨nU gQ r2 j8 mJ++[sP 11 2 0 0,(87,.iT [.agg (dO.cs gK.1),.c (bC gK.2)]),sB 97 gK.2],lE a0 a1++[.cells (dO.cs gK.1)],[],0⟩) 12 [2,3,5,6,7,8,10,11,87,97] [0,1,2] (by kernel_rfl) (by kernel_rfl) ?_
             refine cO.close ?_
             refine bO.v0 (fuel':=0) [13] [2,3,5,6,7,8,10,11,12] [0,1,2] ?_
             refine bO.done (by kernel_rfl) ?_
             refine Ref.ck ⟨nU gQ r2 j8 mJ++[sP 11 2 0 0,sB 12 gK.2],lE a0 a1++[.cells (dO.cs gK.1)],[],0⟩ [2,3,5,6,7,8,10,11,12] [0,1,2] ?_
             exact hk gK
            ·
             refine cF.a0 11 [2,3,5,6,7,8,10,11,88,89,94] [0,1,2] ?_
             refine bO.cM (fuel':=5) 7 (by kernel_rfl) ?_
             refine cF.cG (t:=95) 7 [] rfl (by kernel_rfl) (pT K a0 gQ.2 ((gd r2 j8.2).wF)) (fun gK=>?_)
             refine bO.eW (cR:=⟨nU gQ r2 j8 mJ++(sP 11 2 0 0::aD2 gK),lE a0 a1++[.cells [iC 0,iC 0]],[],0⟩) (fuel':=3) [8,9] [2,3,5,6,7,8,10,11,87,96] [0,1,2] rfl (by kernel_rfl) (by kernel_rfl) ?_
             refine bO.iR (fuel':=2) [[],[(10,97)]] [(10,97)] [2,3,5,6,7,8,10,11,87,96] [0,1,2] ⟨nU gQ r2 j8 mJ++(sP 11 2 0 0::(aD2 gK++[sB 97 gK.2])),lE a0 a1++[.cells [iC 0,iC 0]],[],0⟩ ?_
             refine cO.cM (fuel':=1) 12 ?_
             refine dB.gI (cR:=⟨nU gQ r2 j8 mJ++[sP 11 2 0 0,(87,.iT [.agg (dO.cs gK.1),.c (bC gK.2)]),sB 97 gK.2],lE a0 a1++[.cells (dO.cs gK.1)],[],0⟩) 12 [2,3,5,6,7,8,10,11,87,97] [0,1,2] (by kernel_rfl) (by kernel_rfl) ?_
             refine cO.close ?_
             refine bO.v0 (fuel':=0) [13] [2,3,5,6,7,8,10,11,12] [0,1,2] ?_
             refine bO.done (by kernel_rfl) ?_
             refine Ref.ck ⟨nU gQ r2 j8 mJ++[sP 11 2 0 0,sB 12 gK.2],lE a0 a1++[.cells (dO.cs gK.1)],[],0⟩ [2,3,5,6,7,8,10,11,12] [0,1,2] ?_
             exact hk gK))) fun aKI =>
        .nil [0,1] _) (
        .ret [0,1] _)) fun aKJ =>
      .nil [0,1] _)) fun aKK =>
    .nil [0,1] _) (
    .ret [] _)) fun aBl =>
  .ret [] _)
def F79 (K:Nat) (a0:cZ) (a1:(List dR)):Option (((List (List Int))) ⊕ ((List (List Int)))) :=
 (bL (bJ ((iter K (fun (gJ:(List (List Int)) × Int)=>(bN (decide ((gJ.2:Int)<(Int.ofNat a1.length))) (fun (aXG:Bool)=>(if aXG=true then (bL (bJ (bW [cS gJ.2 a1.length] ((bT (aOO K a0 (a1.getD (gJ.2:Int).toNat default))).bind (fun aF9=>(bL (bJ ((iter K (fun (s5:(List Int) × Int)=>(bN (decide ((s5.2:Int)<(Int.ofNat aF9.length))) (fun (aXH:Bool)=>(if aXH=true then (bL (bJ (bW [cS s5.2 aF9.length] ((bT (aOi K a1 (aF9.getD (s5.2:Int).toNat default))).bind (fun aBn=>(bW [room ((s5.1.length+([aBn].length)) * 8)] (some (.inr ((s5.1++[aBn]))))))))) (fun (aOQ:(List Int))=>(some (.inr (aOQ,(IntKind.i64.wrap (s5.2+1))))))) else (some (.inl (Sum.inl (s5.1)))))))) ([],0)).map .inl)) (fun (uE:(List Int))=>(bW [room ((gJ.1.length+([uE].length)) * 24)] (some (.inr ((gJ.1++[uE]))))))))))) (fun (aOR:(List (List Int)))=>(some (.inr (aOR,(IntKind.i64.wrap (gJ.2+1))))))) else (some (.inl (Sum.inl (gJ.1)))))))) ([],0)).map .inl)) (fun (aAu:(List (List Int)))=>(some (.inl (aAu)))))
abbrev aKL (v0:(List dR)) (v1:(List (List Int)) × Int):List (Nat × D):=[(1,.c (dO.tree v0)),sP 2 0 0 0,(5,.c (.own 1 v1.1.length)),sI 6 v1.2]
theorem aUO (K:Nat) (a0:cZ) (a1:(List dR)):bS Tryz.prog 79 [.agg (dM.cs a0),.c (dO.tree a1)] [] (bT (F79 K a0 a1)) (fun r=>.c (lH.tree r)) (fun r=>[]):=by
 refine bS.it Tryz.f79 (fun r=>⟨[(4,.c (lH.tree r))],[],[],0⟩) ?_
 unfold F79
 exact Ref.pt (
  .bk 0 (fun aAu=>⟨[(5,.c (.own 0 aAu.length))],[lH.row aAu],[],0⟩) (
   .ad 2 0 5 lH.ty lH.w (lH.at []) <|
   .lp [0,1] (fun gJ=>⟨aKL a1 gJ,[.cells (dM.cs a0),lH.row gJ.1],[],0⟩) fun gJ =>
   .lt _ fun aXG =>
   .ite _ (
    .bk 1 (fun aOR=>⟨[(1,.c (dO.tree a1)),sP 2 0 0 0,(5,.c (.own 1 aOR.length)),sI 6 gJ.2],[.cells (dM.cs a0),lH.row aOR],[],0⟩) (
     .lT [1,2,3] _ <|
     .tx [5,6] <|
     .ex [0,4] <|
     .tl [5,6] <|
     .call [] (aRM _ _ _) fun aF9 =>
     .bk 2 (fun uE=>⟨aKL a1 gJ++[(8,.c (.own 2 uE.length))],[.cells (dM.cs a0),lH.row gJ.1,E3.row uE],[],0⟩) (
      .ad 7 0 8 E3.ty E3.w (E3.at []) <|
      .lp [0,1,2] (fun s5=>⟨aKL a1 gJ++[(7,.c (dO.tree aF9)),(8,.c (.own 2 s5.1.length)),sI 9 s5.2],[.cells (dM.cs a0),lH.row gJ.1,E3.row s5.1],[],0⟩) fun s5 =>
      .lt _ fun aXH =>
      .ite _ (
       .bk 3 (fun aOQ=>⟨aKL a1 gJ++[(7,.c (dO.tree aF9)),(8,.c (.own 2 aOQ.length)),sI 9 s5.2],[.cells (dM.cs a0),lH.row gJ.1,E3.row aOQ],[],0⟩) (
        .ck _ <|
        .call [] (aRB _ _ _) fun aBn =>
        .ob 10 2 3 (x:=.row 3 1 1 (gY [[iC aBn]])) (y:=(E3.row [aBn])) (El.bZ E3 [aBn] rfl (by kernel_rfl)) <|
        .sl 10 2 35 (x:=.c (.own 3 1)) (y:=(.c (.own 3 ([aBn].length)))) (eA.c (dY.own (by first | (simp;done) | (simp;omega) | omega))) <|
        .ck _ <|
        .ob 10 1 4 (x:=.row 3 1 (s5.1.length+([aBn].length)) fun i j=>bif Nat.blt i s5.1.length then E3.at s5.1 i j else (E3.at [aBn]) (i - s5.1.length) j) (y:=(E3.row (s5.1++[aBn]))) (El.cI E3 s5.1 [aBn] rfl rfl) <|
        .sl 10 1 36 (x:=.c (.own 4 (s5.1.length+([aBn].length)))) (y:=(.c (.own 4 ((s5.1++[aBn]).length)))) (eA.c (dY.own (by first | (simp;done) | (simp;omega) | omega))) <|
        .nil [0,1,4] _) fun aOQ =>
       .nil [0,1,2] _) (
       .ret [0,1,2] _)) fun uE =>
     .fz 11 3 2 <|
     .ob 11 2 3 (x:=.row 45 1 1 (gY [[E3.tree uE]])) (y:=(lH.row [uE])) (El.bZ lH [uE] rfl (by kernel_rfl)) <|
     .sl 11 2 39 (x:=.c (.own 3 1)) (y:=(.c (.own 3 ([uE].length)))) (eA.c (dY.own (by first | (simp;done) | (simp;omega) | omega))) <|
     .ck _ <|
     .ob 11 1 4 (x:=.row 45 1 (gJ.1.length+([uE].length)) fun i j=>bif Nat.blt i gJ.1.length then lH.at gJ.1 i j else (lH.at [uE]) (i - gJ.1.length) j) (y:=(lH.row (gJ.1++[uE]))) (El.cI lH gJ.1 [uE] rfl rfl) <|
     .sl 11 1 40 (x:=.c (.own 4 (gJ.1.length+([uE].length)))) (y:=(.c (.own 4 ((gJ.1++[uE]).length)))) (eA.c (dY.own (by first | (simp;done) | (simp;omega) | omega))) <|
     .nil [0,4] _) fun aOR =>
    .nil [0,1] _) (
    .ret [1] _)) fun aAu =>
  .fz 12 0 0 <|
  .ret [] _)
def F35 (K:Nat) (a0:cZ):Option ((Int) ⊕ (Int)) :=
 ((bT (F78 K a0)).bind (fun r1=>((bT (F79 K a0 r1)).bind (fun r2=>(bL (bJ ((iter K (fun (dU:Int)=>(bN (decide ((dU:Int)<(Int.ofNat r1.length))) (fun (l4:Bool)=>(if l4=true then (bL (bJ ((bT (F80 K r2 dU)).bind (fun xF=>(bW [cS dU xF.length] (if (xF.getD (dU:Int).toNat default)=true then (bW [cS dU r1.length] (some (.inl (Sum.inr (Sum.inr ((r1.getD (dU:Int).toNat default).c8)))))) else (some (.inr ()))))))) (fun (eY:Unit)=>(some (.inr ((IntKind.i64.wrap (dU+1))))))) else (some (.inl (Sum.inl ()))))))) (0)).map .inl)) (fun (gO:Unit)=>(some (.inl ((-1))))))))))
theorem aUP (K:Nat) (a0:cZ):bS Tryz.prog 35 [.agg (dM.cs a0)] [] (bT (F35 K a0)) (fun r=>.c (.val (.int .i64 r))) (fun r=>[]):=by
 refine bS.it Tryz.f35 (fun r=>⟨[sI 2 r],[],[],0⟩) ?_
 unfold F35
 exact Ref.pt (
  .call [] (aUM _ _) fun r1 =>
  .call [] (aUO _ _ _) fun r2 =>
  .bk 0 (fun gO=>⟨[],[],[],0⟩) (
   .lp [] (fun dU=>⟨[(3,.c (dO.tree r1)),(4,.c (lH.tree r2)),sI 5 dU],[],[],0⟩) fun dU =>
   .lt _ fun l4 =>
   .ite _ (
    .bk 1 (fun eY=>⟨[(3,.c (dO.tree r1)),(4,.c (lH.tree r2)),sI 5 dU],[],[],0⟩) (
     .call [] (aUN _ _ _) fun xF =>
     .ck _ <|
     .ite _ (
      .ck _ <|
      .ret [] _) (
      .nil [] _)) fun eY =>
    .nil [] _) (
    .ret [] _)) fun gO =>
  .ret [] _)
end Go.Proofs.YtdbfbedholdjaaaGreat
