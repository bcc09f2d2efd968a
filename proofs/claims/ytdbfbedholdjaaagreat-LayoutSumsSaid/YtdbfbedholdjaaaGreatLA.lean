/- No conditions. -/
import Derived.Test.YtdbfbedholdjaaaGreatTy
import Derived.Test.YtdbfbedholdjaaaGreatProg
set_option linter.unusedVariables false
set_option linter.unusedSimpArgs false
set_option linter.unusedSectionVars false
namespace Go.Proofs.YtdbfbedholdjaaaGreat
open Go Go.Proofs Go.Dl
variable [eC]
set_option maxRecDepth 100000
set_option maxHeartbeats 4000000
def F61 (K:Nat) (a0:dD) (a1:Bytes):Option ((Int) ⊕ (Int)) :=
 (bM (bL ((iter K (fun (dY:Int)=>(bO (decide ((dY:Int)<(Int.ofNat a0.bK.length))) (fun (l8:Bool)=>(if l8=true then (bM (bL (bW [cS dY a0.bK.length] (bO (((a0.bK.getD (dY:Int).toNat default).cG) == a1) (fun (x31:Bool)=>(if x31=true then (some (.inl (Sum.inr (Sum.inr (dY))))) else (some (.inr ()))))))) (fun (eZ:Unit)=>(some (.inr ((IntKind.i64.wrap (dY+1))))))) else (some (.inl (Sum.inl ()))))))) (0)).map .inl)) (fun (u16:Unit)=>(some (.inl ((-1))))))
theorem oZ (K:Nat) (a0:dD) (a1:Bytes):bR Tryz.prog 61 [.agg (dQ.cs a0),.c (.str a1)] [] (bU (F61 K a0 a1)) (fun r=>.c (.val (.int .i64 r))) (fun r=>[]):=by
 refine bR.it Tryz.f61 (fun r=>⟨[sI 4 r],[],[],0⟩) ?_
 unfold F61
 exact Ref.pt (
  .bk 0 (fun u16=>⟨[],[],[],0⟩) (
   .lp [0] (fun dY=>⟨[sS 1 a1,sP 2 0 0 0,sI 5 dY],[.cells (dQ.cs a0)],[],0⟩) fun dY =>
   .lt _ fun l8 =>
   .ite _ (
    .bk 1 (fun eZ=>⟨[sS 1 a1,sP 2 0 0 0,sI 5 dY],[.cells (dQ.cs a0)],[],0⟩) (
     .ck _ <|
     .lt _ fun x31 =>
     .ite _ (
      .ret [] _) (
      .nil [0] _)) fun eZ =>
    .nil [0] _) (
    .ret [] _)) fun u16 =>
  .ret [] _)
def F68 (K:Nat) (a0:dD) (a1:Int):Option ((Int) ⊕ (Int)) :=
 (bO ((decide ((a1:Int)<0)) || (decide ((a1:Int) ≥ (Int.ofNat a0.bK.length)))) (fun (x1:Bool)=>(if x1=true then (some (.inl (0))) else (bW [cS a1 a0.bK.length] (bO ((a0.bK.getD (a1:Int).toNat default).bP) (fun (x2:Int)=>(some (.inl (x2)))))))))
theorem o9 (K:Nat) (a0:dD) (a1:Int):bR Tryz.prog 68 [.agg (dQ.cs a0),.c (.val (.int .i64 a1))] [] (bU (F68 K a0 a1)) (fun r=>.c (.val (.int .i64 r))) (fun r=>[]):=by
 refine bR.it Tryz.f68 (fun r=>⟨[sI 4 r],[],[],0⟩) ?_
 unfold F68
 exact Ref.pt (
  .lt _ fun x1 =>
  .ite _ (
   .ret [] _) (
   .ck _ <|
   .lt _ fun x2 =>
   .ret [] _))
def aGR (K:Nat) (a0:(List Int)) (a1:Int):Option ((Bool) ⊕ (Bool)) :=
 (bM (bL ((iter K (fun (jH:Int)=>(bO (decide ((jH:Int)<(Int.ofNat a0.length))) (fun (yV:Bool)=>(if yV=true then (bM (bL (bW [cS jH a0.length] (bO (((a0.getD (jH:Int).toNat default):Int) == a1) (fun (iW:Bool)=>(if iW=true then (some (.inl (Sum.inr (Sum.inr (true))))) else (some (.inr ()))))))) (fun (gX:Unit)=>(some (.inr ((IntKind.i64.wrap (jH+1))))))) else (some (.inl (Sum.inl ()))))))) (0)).map .inl)) (fun (wC:Unit)=>(some (.inl (false)))))
theorem aCy (K:Nat) (a0:(List Int)) (a1:Int):bR Tryz.prog 134 [.c (E3.tree a0),.c (.val (.int .i64 a1))] [] (bU (aGR K a0 a1)) (fun r=>.c (.val (.bool r))) (fun r=>[]):=by
 refine bR.it Tryz.f134 (fun r=>⟨[sB 4 r],[],[],0⟩) ?_
 unfold aGR
 exact Ref.pt (
  .bk 0 (fun wC=>⟨[],[],[],0⟩) (
   .lp [] (fun jH=>⟨[(0,.c (E3.tree a0)),sI 1 a1,sI 5 jH],[],[],0⟩) fun jH =>
   .lt _ fun yV =>
   .ite _ (
    .bk 1 (fun gX=>⟨[(0,.c (E3.tree a0)),sI 1 a1,sI 5 jH],[],[],0⟩) (
     .ck _ <|
     .lt _ fun iW =>
     .ite _ (
      .ret [] _) (
      .nil [] _)) fun gX =>
    .nil [] _) (
    .ret [] _)) fun wC =>
  .ret [] _)
def aNz (K:Nat) (a0:jX) (a1:Bytes):Option ((Int) ⊕ (Int)) :=
 (bM (bL ((iter K (fun (dY:Int)=>(bO (decide ((dY:Int)<(Int.ofNat a0.bN.length))) (fun (l8:Bool)=>(if l8=true then (bM (bL (bW [cS dY a0.bN.length] (bO (((a0.bN.getD (dY:Int).toNat default).cG) == a1) (fun (x31:Bool)=>(if x31=true then (some (.inl (Sum.inr (Sum.inr (dY))))) else (some (.inr ()))))))) (fun (eZ:Unit)=>(some (.inr ((IntKind.i64.wrap (dY+1))))))) else (some (.inl (Sum.inl ()))))))) (0)).map .inl)) (fun (u16:Unit)=>(some (.inl ((-1))))))
theorem aQT (K:Nat) (a0:jX) (a1:Bytes):bR Tryz.prog 178 [.agg (iY.cs a0),.c (.str a1)] [] (bU (aNz K a0 a1)) (fun r=>.c (.val (.int .i64 r))) (fun r=>[]):=by
 refine bR.it Tryz.f178 (fun r=>⟨[sI 4 r],[],[],0⟩) ?_
 unfold aNz
 exact Ref.pt (
  .bk 0 (fun u16=>⟨[],[],[],0⟩) (
   .lp [0] (fun dY=>⟨[sS 1 a1,sP 2 0 0 0,sI 5 dY],[iY.o a0],[],0⟩) fun dY =>
   .lt _ fun l8 =>
   .ite _ (
    .bk 1 (fun eZ=>⟨[sS 1 a1,sP 2 0 0 0,sI 5 dY],[iY.o a0],[],0⟩) (
     .ck _ <|
     .lt _ fun x31 =>
     .ite _ (
      .ret [] _) (
      .nil [0] _)) fun eZ =>
    .nil [0] _) (
    .ret [] _)) fun u16 =>
  .ret [] _)
def aDo (K:Nat) (a0:dD) (a1:Int):Option (((List Int)) ⊕ ((List Int))) :=
 (bM (bL ((iter K (fun (lD:Int × (List Int))=>((bU (F68 K a0 lD.1)).bind (fun qO=>((cK ((qO:Int) == 2) (bU (aGR K lD.2 lD.1)) default).bind (fun r44=>(if (((qO:Int) == 2) && (!r44))=true then (bM (bL (bW [room ((lD.2.length+([lD.1].length)) * 8)] (bW [cS lD.1 a0.bK.length] (bO ((a0.bK.getD (lD.1:Int).toNat default).lE) (fun (x48:Bytes)=>((cK true (bU (F61 K a0 x48)) default).bind (fun r49=>(some (.inr (r49,(lD.2++[lD.1]))))))))))) (fun (u47:Int × (List Int))=>(some (.inr (u47.1,u47.2))))) else (some (.inl (Sum.inl (lD.2)))))))))) (a1,[])).map .inl)) (fun (u25:(List Int))=>(some (.inl (u25)))))
theorem uB (K:Nat) (a0:dD) (a1:Int):bR Tryz.prog 105 [.agg (dQ.cs a0),.c (.val (.int .i64 a1))] [] (bU (aDo K a0 a1)) (fun r=>.c (E3.tree r)) (fun r=>[]):=by
 refine bR.it Tryz.f105 (fun r=>⟨[(4,.c (E3.tree r))],[],[],0⟩) ?_
 unfold aDo
 exact Ref.pt (
  .bk 0 (fun u25=>⟨[(5,.c (.own 0 u25.length))],[E3.row u25],[],0⟩) (
   .ad 1 0 5 E3.ty E3.w (E3.at []) <|
   .lp [0,1] (fun lD=>⟨[sI 1 lD.1,sP 2 0 0 0,(5,.c (.own 1 lD.2.length))],[.cells (dQ.cs a0),E3.row lD.2],[],0⟩) fun lD =>
   .call [] (o9 _ _ _) fun qO =>
   .look (default:Bool) _ [1] (aCy K lD.2 lD.1) (fun _=>rfl) fun r44 =>
   .ite _ (
    .bk 1 (fun u47=>⟨[sI 1 u47.1,sP 2 0 0 0,(5,.c (.own 1 u47.2.length))],[.cells (dQ.cs a0),E3.row u47.2],[],0⟩) (
     .ob 3 2 2 (x:=.row 3 1 1 (hG [[iC lD.1]])) (y:=(E3.row [lD.1])) (El.bZ E3 [lD.1] rfl (by kernel_rfl)) <|
     .sl 3 2 18 (x:=.c (.own 2 1)) (y:=(.c (.own 2 ([lD.1].length)))) (eG.c (eD.own (by first | (simp;done) | (simp;omega) | omega))) <|
     .ck _ <|
     .ob 3 1 3 (x:=.row 3 1 (lD.2.length+([lD.1].length)) fun i j=>bif Nat.blt i lD.2.length then E3.at lD.2 i j else (E3.at [lD.1]) (i - lD.2.length) j) (y:=(E3.row (lD.2++[lD.1]))) (El.cH E3 lD.2 [lD.1] rfl rfl) <|
     .sl 3 1 19 (x:=.c (.own 3 (lD.2.length+([lD.1].length)))) (y:=(.c (.own 3 ((lD.2++[lD.1]).length)))) (eG.c (eD.own (by first | (simp;done) | (simp;omega) | omega))) <|
     .ex [1,3] <|
     .tx [] <|
     .mT [0,2,4,5,6] _ <|
     .lt _ fun x48 =>
     .gB 7 (default:Int) _ [] (oZ K a0 x48) (fun _=>rfl) fun r49 =>
     .ex [8] <|
     .nil [0,3] _) fun u47 =>
    .nil [0,1] _) (
    .ret [1] _)) fun u25 =>
  .fz 5 0 0 <|
  .ret [] _)
def aEF (K:Nat) (a0:dD) (a1:Int) (a2:Bytes):Option ((dX × Bool) ⊕ (dX × Bool)) :=
 ((bU (aDo K a0 a1)).bind (fun r1=>((bU (F68 K a0 a1)).bind (fun r2=>(bM (if ((r2:Int) == 1)=true then (some (.inr ([a1]))) else (some (.inr (r1)))) (fun (u3:(List Int))=>(bM (bL ((iter K (fun (kD:Int)=>(bO (decide ((kD:Int)<(Int.ofNat u3.length))) (fun (iW:Bool)=>(if iW=true then (bM (bL (bW [cS kD u3.length] (bW [cS (u3.getD (kD:Int).toNat default) a0.bK.length] ((cK true (bU (aNz K (a0.bK.getD ((u3.getD (kD:Int).toNat default):Int).toNat default) a2)) default).bind (fun r32=>(if (decide ((r32:Int) ≥ 0))=true then (bW [cS kD u3.length] (some (.inl (Sum.inr (Sum.inr ((⟨(u3.getD (kD:Int).toNat default),r32⟩:dX),true)))))) else (some (.inr ())))))))) (fun (yW:Unit)=>(some (.inr ((IntKind.i64.wrap (kD+1))))))) else (some (.inl (Sum.inl ()))))))) (0)).map .inl)) (fun (u18:Unit)=>(some (.inl ((⟨0,0⟩:dX),false)))))))))))
theorem pU (K:Nat) (a0:dD) (a1:Int) (a2:Bytes):bR Tryz.prog 133 [.agg (dQ.cs a0),.c (.val (.int .i64 a1)),.c (.str a2)] [] (bU (aEF K a0 a1 a2)) (fun r=>.iV [.agg (dS.cs r.1),.c (.val (.bool r.2))]) (fun r=>[.cells (dS.cs r.1)]):=by
 refine bR.it Tryz.f133 (fun r=>⟨[sP 6 0 0 0,sB 7 r.2],[.cells (dS.cs r.1)],[],0⟩) ?_
 unfold aEF
 exact Ref.pt (
  .call [] (uB _ _ _) fun r1 =>
  .call [] (o9 _ _ _) fun r2 =>
  .jn (fun u3=>⟨[sS 2 a2,sP 3 0 0 0,sP 6 1 0 0,(8,.c (E3.tree u3))],[.cells (dQ.cs a0),.cells [iC 0,iC 0]],[],0⟩) (
   .ite _ (
    .ob 3 1 2 (x:=.row 3 1 1 (hG [[iC a1]])) (y:=(E3.row [a1])) (El.bZ E3 [a1] rfl (by kernel_rfl)) <|
    .sl 3 1 19 (x:=.c (.own 2 1)) (y:=(.c (.own 2 ([a1].length)))) (eG.c (eD.own (by first | (simp;done) | (simp;omega) | omega))) <|
    .fz 3 0 2 <|
    .nil [0,1] _) (
    .nil [0,1] _)) fun u3 =>
  .bk 0 (fun u18=>⟨[sP 6 0 0 0],[.cells [iC 0,iC 0]],[],0⟩) (
   .lp [0,1] (fun kD=>⟨[sS 2 a2,sP 3 0 0 0,sP 6 1 0 0,(8,.c (E3.tree u3)),sI 9 kD],[.cells (dQ.cs a0),.cells [iC 0,iC 0]],[],0⟩) fun kD =>
   .lt _ fun iW =>
   .ite _ (
    .bk 1 (fun yW=>⟨[sS 2 a2,sP 3 0 0 0,sP 6 1 0 0,(8,.c (E3.tree u3)),sI 9 kD],[.cells (dQ.cs a0),.cells [iC 0,iC 0]],[],0⟩) (
     .mT [0,2,3,4,8] _ <|
     .tx [] <|
     .mT [1,5,6,7] _ <|
     .gB 9 (default:Int) _ [] (aQT K (a0.bK.getD ((gd u3 kD):Int).toNat default) a2) (fun _=>rfl) fun r32 =>
     .ex [10] <|
     .ite _ (
      .ck _ <|
      .ret [1] _) (
      .nil [0,1] _)) fun yW =>
    .nil [0,1] _) (
    .ret [1] _)) fun u18 =>
  .ret [0] _)
def aLT (K:Nat) (a0:dD) (a1:Int):Option (((List Int)) ⊕ ((List Int))) :=
 ((bU (aDo K a0 a1)).bind (fun r1=>(bM (bL ((iter K (fun (xN:(List Int) × Int)=>(bO (decide ((xN.2:Int)<(Int.ofNat r1.length))) (fun (aWd:Bool)=>(if aWd=true then (bM (bL (bW [cS xN.2 r1.length] (bW [cS (r1.getD (xN.2:Int).toNat default) a0.bK.length] (bO ((a0.bK.getD ((r1.getD (xN.2:Int).toNat default):Int).toNat default).dZ) (fun (aIK:(List Bytes))=>(bM (bL ((iter K (fun (pE:(List Int) × Int)=>(bO (decide ((pE.2:Int)<(Int.ofNat aIK.length))) (fun (aWe:Bool)=>(if aWe=true then (bM (bL (bW [cS pE.2 aIK.length] ((cK true (bU (F61 K a0 (aIK.getD (pE.2:Int).toNat default))) default).bind (fun xO=>((bU (F68 K a0 xO)).bind (fun aT6=>((cK ((aT6:Int) == 1) (bU (aGR K pE.1 xO)) default).bind (fun aWf=>(if (((aT6:Int) == 1) && (!aWf))=true then (bW [room ((pE.1.length+([xO].length)) * 8)] (some (.inr ((pE.1++[xO]))))) else (some (.inr (pE.1)))))))))))) (fun (aNA:(List Int))=>(some (.inr (aNA,(IntKind.i64.wrap (pE.2+1))))))) else (some (.inl (Sum.inl (pE.1)))))))) (xN.1,0)).map .inl)) (fun (aNB:(List Int))=>(some (.inr (aNB)))))))))) (fun (aNC:(List Int))=>(some (.inr (aNC,(IntKind.i64.wrap (xN.2+1))))))) else (some (.inl (Sum.inl (xN.1)))))))) ([],0)).map .inl)) (fun (aND:(List Int))=>(some (.inl (aND)))))))
theorem aJ7 (K:Nat) (a0:dD) (a1:Int):bR Tryz.prog 101 [.agg (dQ.cs a0),.c (.val (.int .i64 a1))] [] (bU (aLT K a0 a1)) (fun r=>.c (E3.tree r)) (fun r=>[]):=by
 refine bR.it Tryz.f101 (fun r=>⟨[(4,.c (E3.tree r))],[],[],0⟩) ?_
 unfold aLT
 exact Ref.pt (
  .call [] (uB _ _ _) fun r1 =>
  .bk 0 (fun aND=>⟨[(5,.c (.own 0 aND.length))],[E3.row aND],[],0⟩) (
   .ad 3 0 5 E3.ty E3.w (E3.at []) <|
   .lp [0,1] (fun xN=>⟨[sP 2 0 0 0,(5,.c (.own 1 xN.1.length)),(6,.c (E3.tree r1)),sI 7 xN.2],[.cells (dQ.cs a0),E3.row xN.1],[],0⟩) fun xN =>
   .lt _ fun aWd =>
   .ite _ (
    .bk 1 (fun aNC=>⟨[sP 2 0 0 0,(5,.c (.own 1 aNC.length)),(6,.c (E3.tree r1)),sI 7 xN.2],[.cells (dQ.cs a0),E3.row aNC],[],0⟩) (
     .mT [0,2,3,4] _ <|
     .tx [] <|
     .mT [1,5,6,7,8,9] _ <|
     .lt _ fun aIK =>
     .bk 2 (fun aNB=>⟨[sP 2 0 0 0,(5,.c (.own 1 aNB.length)),(6,.c (E3.tree r1)),sI 7 xN.2],[.cells (dQ.cs a0),E3.row aNB],[],0⟩) (
      .lp [0,1] (fun pE=>⟨[sP 2 0 0 0,(5,.c (.own 1 pE.1.length)),(6,.c (E3.tree r1)),sI 7 xN.2,(8,.c (E9.tree aIK)),sI 9 pE.2],[.cells (dQ.cs a0),E3.row pE.1],[],0⟩) fun pE =>
      .lt _ fun aWe =>
      .ite _ (
       .bk 3 (fun aNA=>⟨[sP 2 0 0 0,(5,.c (.own 1 aNA.length)),(6,.c (E3.tree r1)),sI 7 xN.2,(8,.c (E9.tree aIK)),sI 9 pE.2],[.cells (dQ.cs a0),E3.row aNA],[],0⟩) (
        .mT [1,2,3] _ <|
        .tx [] <|
        .ex [0,4] <|
        .gB 5 (default:Int) _ [] (oZ K a0 (gd aIK pE.2)) (fun _=>rfl) fun xO =>
        .ex [6] <|
        .call [] (o9 _ _ _) fun aT6 =>
        .look (default:Bool) _ [1] (aCy K pE.1 xO) (fun _=>rfl) fun aWf =>
        .ite _ (
         .ob 12 2 2 (x:=.row 3 1 1 (hG [[iC xO]])) (y:=(E3.row [xO])) (El.bZ E3 [xO] rfl (by kernel_rfl)) <|
         .sl 12 2 53 (x:=.c (.own 2 1)) (y:=(.c (.own 2 ([xO].length)))) (eG.c (eD.own (by first | (simp;done) | (simp;omega) | omega))) <|
         .ck _ <|
         .ob 12 1 3 (x:=.row 3 1 (pE.1.length+([xO].length)) fun i j=>bif Nat.blt i pE.1.length then E3.at pE.1 i j else (E3.at [xO]) (i - pE.1.length) j) (y:=(E3.row (pE.1++[xO]))) (El.cH E3 pE.1 [xO] rfl rfl) <|
         .sl 12 1 54 (x:=.c (.own 3 (pE.1.length+([xO].length)))) (y:=(.c (.own 3 ((pE.1++[xO]).length)))) (eG.c (eD.own (by first | (simp;done) | (simp;omega) | omega))) <|
         .nil [0,3] _) (
         .nil [0,1] _)) fun aNA =>
       .nil [0,1] _) (
       .ret [0,1] _)) fun aNB =>
     .nil [0,1] _) fun aNC =>
    .nil [0,1] _) (
    .ret [1] _)) fun aND =>
  .fz 13 0 0 <|
  .ret [] _)
def F70 (K:Nat) (a0:dD) (a1:Int):Option (((List fG)) ⊕ ((List fG))) :=
 ((bU (F68 K a0 a1)).bind (fun r1=>(if ((r1:Int) == 3)=true then (bW [cS a1 a0.bK.length] (bO ((a0.bK.getD (a1:Int).toNat default).cU) (fun (x2:(List fG))=>(bW [room (x2.length * 80)] (some (.inl (x2))))))) else ((bU (aDo K a0 a1)).bind (fun r3=>(bO (IntKind.i64.wrap ((Int.ofNat r3.length) - 1)) (fun (x4:Int)=>(bM (bL ((iter K (fun (dY:(List fG) × Int)=>(if (decide ((dY.2:Int) ≥ 0))=true then (bM (bL (bW [cS dY.2 r3.length] (bW [cS (r3.getD (dY.2:Int).toNat default) a0.bK.length] (bO ((a0.bK.getD ((r3.getD (dY.2:Int).toNat default):Int).toNat default).cU) (fun (iW:(List fG))=>(bW [room ((dY.1.length+iW.length) * 80)] (some (.inr ((dY.1++iW)))))))))) (fun (gX:(List fG))=>(some (.inr (gX,(IntKind.i64.wrap (dY.2 - 1))))))) else (some (.inl (Sum.inl (dY.1)))))) ([],x4)).map .inl)) (fun (gW:(List fG))=>(some (.inl (gW))))))))))))
theorem aNE (K:Nat) (a0:dD) (a1:Int):bR Tryz.prog 70 [.agg (dQ.cs a0),.c (.val (.int .i64 a1))] [] (bU (F70 K a0 a1)) (fun r=>.c (eU.tree r)) (fun r=>[]):=by
 refine bR.it Tryz.f70 (fun r=>⟨[(4,.c (eU.tree r))],[],[],0⟩) ?_
 unfold F70
 exact Ref.pt (
  .call [] (o9 _ _ _) fun r1 =>
  .ite _ (
   .ck _ <|
   .lt _ fun x2 =>
   .ck _ <|
   .fz 2 0 1 <|
   .ret [] _) (
   .call [] (uB _ _ _) fun r3 =>
   .lt _ fun x4 =>
   .bk 0 (fun gW=>⟨[(5,.c (.own 0 gW.length))],[eU.row gW],[],0⟩) (
    .ad 5 0 5 eU.ty eU.w (eU.at []) <|
    .lp [0,1] (fun dY=>⟨[sP 2 0 0 0,(5,.c (.own 1 dY.1.length)),(6,.c (E3.tree r3)),sI 7 dY.2],[.cells (dQ.cs a0),eU.row dY.1],[],0⟩) fun dY =>
    .ite _ (
     .bk 1 (fun gX=>⟨[sP 2 0 0 0,(5,.c (.own 1 gX.length)),(6,.c (E3.tree r3)),sI 7 dY.2],[.cells (dQ.cs a0),eU.row gX],[],0⟩) (
      .mT [0,1,3,4,5] _ <|
      .tx [10,11] <|
      .mT [2,6,7,8,9] _ <|
      .lt _ fun iW =>
      .tl [10,11] <|
      .ck _ <|
      .ob 8 1 2 (x:=.row 41 8 (dY.1.length+iW.length) fun i j=>bif Nat.blt i dY.1.length then eU.at dY.1 i j else (eU.at iW) (i - dY.1.length) j) (y:=(eU.row (dY.1++iW))) (El.cH eU dY.1 iW rfl rfl) <|
      .sl 8 1 39 (x:=.c (.own 2 (dY.1.length+iW.length))) (y:=(.c (.own 2 ((dY.1++iW).length)))) (eG.c (eD.own (by first | (simp;done) | (simp;omega) | omega))) <|
      .nil [0,2] _) fun gX =>
     .nil [0,1] _) (
     .ret [1] _)) fun gW =>
   .fz 9 0 0 <|
   .ret [] _))
def aGS (K:Nat) (a0:iI) (a1:iI):Option ((Bool) ⊕ (Bool)) :=
 (bO ((((Int.ofNat a0.cV.length):Int) != (Int.ofNat a1.cV.length)) || (!(((a0.fH.bP:Int) == a1.fH.bP) && (((a0.fH.fLo:Int) == a1.fH.fLo) && (((a0.fH.vG:Int) == a1.fH.vG) && ((a0.fH.cG == a1.fH.cG) && true)))))) (fun (x1:Bool)=>(if x1=true then (some (.inl (false))) else (bM (bL ((iter K (fun (kD:Int)=>(bO (decide ((kD:Int)<(Int.ofNat a0.cV.length))) (fun (iW:Bool)=>(if iW=true then (bM (bL (bW [cS kD a0.cV.length,cS kD a1.cV.length] (bO (!(((((a0.cV.getD (kD:Int).toNat default).cI).bP:Int) == (((a1.cV.getD (kD:Int).toNat default).cI).bP)) && (((((a0.cV.getD (kD:Int).toNat default).cI).fLo:Int) == (((a1.cV.getD (kD:Int).toNat default).cI).fLo)) && (((((a0.cV.getD (kD:Int).toNat default).cI).vG:Int) == (((a1.cV.getD (kD:Int).toNat default).cI).vG)) && (((((a0.cV.getD (kD:Int).toNat default).cI).cG) == (((a1.cV.getD (kD:Int).toNat default).cI).cG)) && true))))) (fun (x32:Bool)=>(if x32=true then (some (.inl (Sum.inr (Sum.inr (false))))) else (some (.inr ()))))))) (fun (yW:Unit)=>(some (.inr ((IntKind.i64.wrap (kD+1))))))) else (some (.inl (Sum.inl ()))))))) (0)).map .inl)) (fun (gW:Unit)=>(some (.inl (true))))))))
theorem aJ9 (K:Nat) (a0:iI) (a1:iI):bR Tryz.prog 195 [.agg (kT.cs a0),.agg (kT.cs a1)] [] (bU (aGS K a0 a1)) (fun r=>.c (.val (.bool r))) (fun r=>[]):=by
 refine bR.it Tryz.f195 (fun r=>⟨[sB 4 r],[],[],0⟩) ?_
 unfold aGS
 exact Ref.pt (
  .lt _ fun x1 =>
  .ite _ (
   .ret [] _) (
   .bk 0 (fun gW=>⟨[],[],[],0⟩) (
    .lp [0,1] (fun kD=>⟨[sP 2 0 0 0,sP 3 1 0 0,sI 5 kD],[kT.o a0,kT.o a1],[],0⟩) fun kD =>
    .lt _ fun iW =>
    .ite _ (
     .bk 1 (fun yW=>⟨[sP 2 0 0 0,sP 3 1 0 0,sI 5 kD],[kT.o a0,kT.o a1],[],0⟩) (
      .ex [0,2,6,8] <|
      .tx [] <|
      .mT [1,3,4,5,7,9,10,11,12] _ <|
      .lt _ fun x32 =>
      .ite _ (
       .ret [] _) (
       .nil [0,1] _)) fun yW =>
     .nil [0,1] _) (
     .ret [] _)) fun gW =>
   .ret [] _))
def F63 (K:Nat) (a0:dD) (a1:dX):Option ((iI) ⊕ (iI)) :=
 (bW [cS a1.dA a0.bK.length,cS a1.dH ((a0.bK.getD (a1.dA:Int).toNat default).bN).length] (some (.inl ((((a0.bK.getD (a1.dA:Int).toNat default).bN).getD (a1.dH:Int).toNat default)))))
theorem aDp (K:Nat) (a0:dD) (a1:dX):bR Tryz.prog 63 [.agg (dQ.cs a0),.agg (dS.cs a1)] [] (bU (F63 K a0 a1)) (fun r=>.agg (kT.cs r)) (fun r=>[kT.o r]):=by
 refine bR.it Tryz.f63 (fun r=>⟨[sP 4 0 0 0],[kT.o r],[],0⟩) ?_
 unfold F63
 exact Ref.pt (
  .ex [0,2,7] <|
  .tx [11] <|
  .mT [1,3,4,5,6,8,9,10] _ <|
  .tl [11] <|
  .ret [2] _)
end Go.Proofs.YtdbfbedholdjaaaGreat

namespace Go.Proofs.YtdbfbedholdjaaaGreat
open Go Go.Proofs Go.Dl
variable [eC]
set_option maxRecDepth 100000
set_option maxHeartbeats 4000000
def aIL (K:Nat) (a0:dD) (a1:dX):Option ((Bool) ⊕ (Bool)) :=
 ((cK true (bU (F68 K a0 a1.dA)) default).bind (fun r1=>(bW [!(((r1:Int) == 2) && (decide ((a1.dH:Int) ≥ 0))) || cS a1.dA a0.bK.length] (bO ((((r1:Int) == 2) && (decide ((a1.dH:Int) ≥ 0))) && (decide ((a1.dH:Int)<(Int.ofNat ((a0.bK.getD (a1.dA:Int).toNat default).bN).length)))) (fun (x2:Bool)=>(some (.inl (x2))))))))
theorem aFO (K:Nat) (a0:dD) (a1:dX):bR Tryz.prog 201 [.agg (dQ.cs a0),.agg (dS.cs a1)] [] (bU (aIL K a0 a1)) (fun r=>.c (.val (.bool r))) (fun r=>[]):=by
 refine bR.it Tryz.f201 (fun r=>⟨[sB 4 r],[],[],0⟩) ?_
 unfold aIL
 exact Ref.pt (
  .ex [1] <|
  .tx [] <|
  .ex [0,2] <|
  .gB 3 (default:Int) _ [] (o9 K a0 a1.dA) (fun _=>rfl) fun r1 =>
  .mT [4,5,6,7,8,9,10,11,12,13,14,15,16,17,18,19,20,21,22,23] _ <|
  .lt _ fun x2 =>
  .ret [] _)
def aGT (K:Nat) (a0:dD) (a1:dX):Option ((Bool) ⊕ (Bool)) :=
 ((bU (aIL K a0 a1)).bind (fun r1=>((cK (!r1) (bU (F68 K a0 a1.dA)) default).bind (fun r2=>(bO (r1 || (((r2:Int) == 3) && ((a1.dH:Int) == (-1)))) (fun (x3:Bool)=>(some (.inl (x3)))))))))
theorem aCz (K:Nat) (a0:dD) (a1:dX):bR Tryz.prog 194 [.agg (dQ.cs a0),.agg (dS.cs a1)] [] (bU (aGT K a0 a1)) (fun r=>.c (.val (.bool r))) (fun r=>[]):=by
 refine bR.it Tryz.f194 (fun r=>⟨[sB 4 r],[],[],0⟩) ?_
 unfold aGT
 exact Ref.pt (
  .call [] (aFO _ _ _) fun r1 =>
  .look (default:Int) _ [] (o9 K a0 a1.dA) (fun _=>rfl) fun r2 =>
  .lt _ fun x3 =>
  .ret [] _)
def aLU (K:Nat) (a0:dD) (a1:dX):Option (((List fG)) ⊕ ((List fG))) :=
 ((bU (aGT K a0 a1)).bind (fun r1=>(if (!r1)=true then (some (.inl ([]))) else (if (decide ((a1.dH:Int)<0))=true then (bW [cS a1.dA a0.bK.length] (bO ((a0.bK.getD (a1.dA:Int).toNat default).cU) (fun (x2:(List fG))=>(bW [room (x2.length * 80)] (some (.inl (x2))))))) else (bW [cS a1.dA a0.bK.length,cS a1.dH ((a0.bK.getD (a1.dA:Int).toNat default).bN).length] (bO ((((a0.bK.getD (a1.dA:Int).toNat default).bN).getD (a1.dH:Int).toNat default).cV) (fun (x4:(List fG))=>(bW [room (x4.length * 80)] (bO ((((a0.bK.getD (a1.dA:Int).toNat default).bN).getD (a1.dH:Int).toNat default).cU) (fun (x5:(List fG))=>(bW [room ((x4.length+x5.length) * 80)] ((bU (F70 K a0 a1.dA)).bind (fun r6=>(bW [room ((((x4++x5).length)+r6.length) * 80)] (some (.inl (((x4++x5)++r6))))))))))))))))))
abbrev aIM (v0:dD) (v1:dX):List Go.Dl.Obj:=[.cells (dQ.cs v0),.cells (dS.cs v1),kT.o (gd ((gd v0.bK v1.dA).bN) v1.dH)]
theorem aKb (K:Nat) (a0:dD) (a1:dX):bR Tryz.prog 149 [.agg (dQ.cs a0),.agg (dS.cs a1)] [] (bU (aLU K a0 a1)) (fun r=>.c (eU.tree r)) (fun r=>[]):=by
 refine bR.it Tryz.f149 (fun r=>⟨[(4,.c (eU.tree r))],[],[],0⟩) ?_
 unfold aLU
 exact Ref.pt (
  .call [] (aCz _ _ _) fun r1 =>
  .ite _ (
   .sl 2 0 4 (x:=.c (.nil)) (y:=(.c (eU.tree []))) (eG.c (El.cO eU)) <|
   .ret [] _) (
   .ite _ (
    .ck _ <|
    .lt _ fun x2 =>
    .ck _ <|
    .fz 4 0 2 <|
    .ret [] _) (
    .esc [0,1] [(cd (bd Tryz.f149) [1,1,1,0]),(cd (bd Tryz.f149) [1,1,1,1])] ⟨[sP 2 0 0 0,sP 3 1 0 0,sB 13 (decide ((a1.dH:Int)<0))],[.cells (dQ.cs a0),.cells (dS.cs a1)],[],0⟩ (by
     refine Ref.eR 5 (by kernel_rfl) (by kernel_rfl) ?_
     refine dV.fE (cR:=⟨[sP 2 0 0 0,sP 3 1 0 0,sP 22 0 0 0,sP 24 1 0 0,sP 29 1 0 1],[.cells (dQ.cs a0),.cells (dS.cs a1)],[],0⟩) (fuel':=10) [0,2,7] [2,3,22,24,29] [0,1] rfl (by kernel_rfl) (by kernel_rfl) ?_
     refine dV.rG [12] ?_
     refine bQ.aC9 (⟨[sP 2 0 0 0,sP 3 1 0 0,sP 5 2 0 0],aIM a0 a1,[],0⟩) ((bO ((gd ((gd a0.bK a1.dA).bN) a1.dH).cV) (fun (x4:(List fG))=>(bW [room (x4.length * 80)] (bO ((gd ((gd a0.bK a1.dA).bN) a1.dH).cU) (fun (x5:(List fG))=>(bW [room ((x4.length+x5.length) * 80)] ((bU (F70 K a0 a1.dA)).bind (fun r6=>(bW [room ((((x4++x5).length)+r6.length) * 80)] (some (.inl (((x4++x5)++r6)))))))))))))) ?_ (fun hk=>?_)
     ·
      exact Ref.pt (
       .lt _ fun x4 =>
       .ck _ <|
       .lt _ fun x5 =>
       .ck _ <|
       .ob 7 1 4 (x:=.row 41 8 (x4.length+x5.length) fun i j=>bif Nat.blt i x4.length then eU.at x4 i j else (eU.at x5) (i - x4.length) j) (y:=(eU.row (x4++x5))) (El.cH eU x4 x5 rfl rfl) <|
       .sl 7 1 39 (x:=.c (.own 4 (x4.length+x5.length))) (y:=(.c (.own 4 ((x4++x5).length)))) (eG.c (eD.own (by first | (simp;done) | (simp;omega) | omega))) <|
       .call [] (aNE _ _ _) fun r6 =>
       .ck _ <|
       .ob 8 1 5 (x:=.row 41 8 (((x4++x5).length)+r6.length) fun i j=>bif Nat.blt i ((x4++x5).length) then eU.at (x4++x5) i j else (eU.at r6) (i - ((x4++x5).length)) j) (y:=(eU.row ((x4++x5)++r6))) (El.cH eU (x4++x5) r6 rfl rfl) <|
       .sl 8 1 45 (x:=.c (.own 5 (((x4++x5).length)+r6.length))) (y:=(.c (.own 5 (((x4++x5)++r6).length)))) (eG.c (eD.own (by first | (simp;done) | (simp;omega) | omega))) <|
       .fz 8 0 5 <|
       .ret [] _)
     ·
      refine bQ.v1 (fuel':=2) [cS a1.dA a0.bK.length,cS a1.dH ((gd a0.bK a1.dA).bN).length] [1,3,4,5,6,8,9,10] [2,3,32] [0,1] ?_
      refine bQ.cP (fuel':=1) 11 (by kernel_rfl) ?_
      refine cE.kC (cR:=⟨[sP 2 0 0 0,sP 3 1 0 0,sP 5 2 0 0,(32,.agg (kT.cs (gd ((gd a0.bK a1.dA).bN) a1.dH)))],[.cells (dQ.cs a0),.cells (dS.cs a1),oX5],[],0⟩) 11 [2,3,5,32] [0,1,2] (by kernel_rfl) (by kernel_rfl) ?_
      refine bQ.qM [12] rfl (by kernel_rfl) ?_
      refine cY.en 0 1 ⟨[sP 2 0 0 0,sP 3 1 0 0,sP 5 2 0 0],aIM a0 a1,[],0⟩ [2,3,5] [0,1,2] ?_
      refine Ref.ck ⟨[sP 2 0 0 0,sP 3 1 0 0,sP 5 2 0 0],aIM a0 a1,[],0⟩ [2,3,5] [0,1,2] ?_
      exact hk))))
def aIN (K:Nat) (a0:dD) (a1:dX) (a2:Bytes):Option ((fG × Bool) ⊕ (fG × Bool)) :=
 ((bU (aLU K a0 a1)).bind (fun r1=>(bM (bL ((iter K (fun (nO:Int)=>(bO (decide ((nO:Int)<(Int.ofNat r1.length))) (fun (x27:Bool)=>(if x27=true then (bM (bL (bW [cS nO r1.length] (bO (((r1.getD (nO:Int).toNat default).cG) == a2) (fun (x30:Bool)=>(if x30=true then (bW [cS nO r1.length] (some (.inl (Sum.inr (Sum.inr ((r1.getD (nO:Int).toNat default),true)))))) else (some (.inr ()))))))) (fun (u29:Unit)=>(some (.inr ((IntKind.i64.wrap (nO+1))))))) else (some (.inl (Sum.inl ()))))))) (0)).map .inl)) (fun (u16:Unit)=>(some (.inl ((⟨([]:Bytes),(⟨0,0,0,([]:Bytes)⟩:fP),0,0,0⟩:fG),false)))))))
theorem aFP (K:Nat) (a0:dD) (a1:dX) (a2:Bytes):bR Tryz.prog 199 [.agg (dQ.cs a0),.agg (dS.cs a1),.c (.str a2)] [] (bU (aIN K a0 a1 a2)) (fun r=>.iV [.agg (eU.cs r.1),.c (.val (.bool r.2))]) (fun r=>[eU.o r.1]):=by
 refine bR.it Tryz.f199 (fun r=>⟨[sP 6 0 0 0,sB 7 r.2],[eU.o r.1],[],0⟩) ?_
 unfold aIN
 exact Ref.pt (
  .call [] (aKb _ _ _) fun r1 =>
  .bk 0 (fun u16=>⟨[sP 6 0 0 0],[oX9],[],0⟩) (
   .lp [2] (fun nO=>⟨[sS 2 a2,sP 6 0 0 0,(8,.c (eU.tree r1)),sI 9 nO],[oX9],[],0⟩) fun nO =>
   .lt _ fun x27 =>
   .ite _ (
    .bk 1 (fun u29=>⟨[sS 2 a2,sP 6 0 0 0,(8,.c (eU.tree r1)),sI 9 nO],[oX9],[],0⟩) (
     .ck _ <|
     .lt _ fun x30 =>
     .ite _ (
      .ck _ <|
      .ret [0] _) (
      .nil [0] _)) fun u29 =>
    .nil [0] _) (
    .ret [0] _)) fun u16 =>
  .ret [0] _)
def aIP (K:Nat) (a0:dD) (a1:Bytes):Option ((Bool) ⊕ (Bool)) :=
 ((cK true (bU (F61 K a0 a1)) default).bind (fun r1=>((cK true (bU (F68 K a0 r1)) default).bind (fun r2=>(some (.inl ((((r2:Int) == 2) || ((r2:Int) == 1)))))))))
theorem aKd (K:Nat) (a0:dD) (a1:Bytes):bR Tryz.prog 200 [.agg (dQ.cs a0),.c (.str a1)] [] (bU (aIP K a0 a1)) (fun r=>.c (.val (.bool r))) (fun r=>[]):=by
 refine bR.it Tryz.f200 (fun r=>⟨[sB 4 r],[],[],0⟩) ?_
 unfold aIP
 exact Ref.pt (
  .ex [2] <|
  .tx [] <|
  .ex [0,1] <|
  .gB 3 (default:Int) _ [] (oZ K a0 a1) (fun _=>rfl) fun r1 =>
  .gB 4 (default:Int) _ [] (o9 K a0 r1) (fun _=>rfl) fun r2 =>
  .ex [5] <|
  .ret [] _)
def aNG (K:Nat) (a0:Int):Option ((Int) ⊕ (Int)) :=
 (bO ((decide ((a0:Int)<1)) || (decide ((a0:Int) ≥ (Int.ofNat ([(-1),0,0,0,0,0,1,1,1,2,0,0,0,0,1].length))))) (fun (x1:Bool)=>(if x1=true then (some (.inl ((-1)))) else (bW [cS a0 ([(-1),0,0,0,0,0,1,1,1,2,0,0,0,0,1].length)] (bO ([(-1),0,0,0,0,0,1,1,1,2,0,0,0,0,1].getD ((a0:Int).toNat) default) (fun (x2:Int)=>(some (.inl (x2)))))))))
theorem aQU (K:Nat) (a0:Int):bR Tryz.prog 227 [.c (.val (.int .i64 a0))] [] (bU (aNG K a0)) (fun r=>.c (.val (.int .i64 r))) (fun r=>[]):=by
 refine bR.it Tryz.f227 (fun r=>⟨[sI 2 r],[],[],0⟩) ?_
 unfold aNG
 exact Ref.pt (
  .ob 1 1 0 (x:=.row 3 1 15 (hG [[iC (-1)],[iC 0],[iC 0],[iC 0],[iC 0],[iC 0],[iC 1],[iC 1],[iC 1],[iC 2],[iC 0],[iC 0],[iC 0],[iC 0],[iC 1]])) (y:=(E3.row [(-1),0,0,0,0,0,1,1,1,2,0,0,0,0,1])) (El.bZ E3 [(-1),0,0,0,0,0,1,1,1,2,0,0,0,0,1] rfl (by kernel_rfl)) <|
  .sl 1 1 4 (x:=.c (.own 0 15)) (y:=(.c (.own 0 ([(-1),0,0,0,0,0,1,1,1,2,0,0,0,0,1].length)))) (eG.c (eD.own (by first | (simp;done) | (simp;omega) | omega))) <|
  .lt _ fun x1 =>
  .ite _ (
   .ret [] _) (
   .ck _ <|
   .lt _ fun x2 =>
   .ret [] _))
def aLV (K:Nat) (a0:Int) (a1:fP) (a2:fP):Option ((fP × Int) ⊕ (fP × Int)) :=
 (bO (((a1.bP:Int) == 1) && ((a2.bP:Int) == 1)) (fun (x1:Bool)=>(bM (bL (bO (((decide ((a0:Int) ≥ 1)) && (decide ((a0:Int)≤5))) && x1) (fun (x7:Bool)=>(if x7=true then (some (.inl (Sum.inr ((⟨1,0,0,([]:Bytes)⟩:fP),0)))) else (bO (((decide ((a0:Int) ≥ 8)) && (decide ((a0:Int)≤11))) && x1) (fun (x8:Bool)=>(if x8=true then (some (.inl (Sum.inr ((⟨2,0,0,([]:Bytes)⟩:fP),0)))) else (bO ((((decide ((a0:Int) ≥ 12)) && (decide ((a0:Int)≤14))) && ((a1.bP:Int) == 2)) && ((a2.bP:Int) == 2)) (fun (x9:Bool)=>(if x9=true then (some (.inl (Sum.inr ((⟨2,0,0,([]:Bytes)⟩:fP),0)))) else (bO (((((a0:Int) == 6) || ((a0:Int) == 7)) && ((a1.bP:Int) == a2.bP)) && ((((a1.bP:Int) == 1) || ((a1.bP:Int) == 2)) || ((a1.bP:Int) == 5))) (fun (x10:Bool)=>(if x10=true then (some (.inl (Sum.inr ((⟨2,0,0,([]:Bytes)⟩:fP),0)))) else (some (.inr ()))))))))))))))) (fun (u6:Unit)=>(some (.inl ((⟨0,0,0,([]:Bytes)⟩:fP),14)))))))
theorem aQV (K:Nat) (a0:Int) (a1:fP) (a2:fP):bR Tryz.prog 229 [.c (.val (.int .i64 a0)),.agg (gC.cs a1),.agg (gC.cs a2)] [] (bU (aLV K a0 a1 a2)) (fun r=>.iV [.agg (gC.cs r.1),.c (.val (.int .i64 r.2))]) (fun r=>[.cells (gC.cs r.1)]):=by
 refine bR.it Tryz.f229 (fun r=>⟨[sP 6 0 0 0,sI 7 r.2],[.cells (gC.cs r.1)],[],0⟩) ?_
 unfold aLV
 exact Ref.pt (
  .lt _ fun x1 =>
  .bk 0 (fun u6=>⟨[sP 6 0 0 0],[qC],[],0⟩) (
   .lt _ fun x7 =>
   .ite _ (
    .ret [2] _) (
    .lt _ fun x8 =>
    .ite _ (
     .ret [2] _) (
     .lt _ fun x9 =>
     .ite _ (
      .ret [2] _) (
      .lt _ fun x10 =>
      .ite _ (
       .ret [2] _) (
       .nil [2] _))))) fun u6 =>
  .ret [0] _)
def aLW (K:Nat) (a0:dD) (a1:Bytes) (a2:Bytes):Option ((Bool) ⊕ (Bool)) :=
 ((bU (F61 K a0 a1)).bind (fun r1=>((bU (F68 K a0 r1)).bind (fun r2=>(if (((r2:Int) != 2) && ((r2:Int) != 1))=true then (some (.inl (false))) else ((bU (F61 K a0 a2)).bind (fun r3=>((cK (!(a1 == a2)) (bU (aDo K a0 r1)) default).bind (fun r4=>((cK (!(a1 == a2)) (bU (aGR K r4 r3)) default).bind (fun r5=>((cK (!((a1 == a2) || r5)) (bU (aLT K a0 r1)) default).bind (fun r6=>((cK (!((a1 == a2) || r5)) (bU (aGR K r6 r3)) default).bind (fun r7=>(some (.inl ((((a1 == a2) || r5) || r7)))))))))))))))))))
theorem aKe (K:Nat) (a0:dD) (a1:Bytes) (a2:Bytes):bR Tryz.prog 160 [.agg (dQ.cs a0),.c (.str a1),.c (.str a2)] [] (bU (aLW K a0 a1 a2)) (fun r=>.c (.val (.bool r))) (fun r=>[]):=by
 refine bR.it Tryz.f160 (fun r=>⟨[sB 6 r],[],[],0⟩) ?_
 unfold aLW
 exact Ref.pt (
  .call [] (oZ _ _ _) fun r1 =>
  .call [] (o9 _ _ _) fun r2 =>
  .ite _ (
   .ret [] _) (
   .call [] (oZ _ _ _) fun r3 =>
   .yA (default:(List Int)) _ (uB K a0 r1) fun r4 =>
   .look (default:Bool) _ [] (aCy K r4 r3) (fun _=>rfl) fun r5 =>
   .yA (default:(List Int)) _ (aJ7 K a0 r1) fun r6 =>
   .look (default:Bool) _ [] (aCy K r6 r3) (fun _=>rfl) fun r7 =>
   .ret [] _))
def aFQ (K:Nat) (a0:dD) (a1:fP) (a2:fP):Option ((Bool) ⊕ (Bool)) :=
 (bM (bL (bM (if ((a1.bP:Int) == 1)=true then (some (.inr (((a1.bP:Int) == 1)))) else (some (.inr (((a1.bP:Int) == 3))))) (fun (u5:Bool)=>(if u5=true then (some (.inl (Sum.inr (((a2.bP:Int) == 1))))) else (if ((a1.bP:Int) == 2)=true then (some (.inl (Sum.inr (((a2.bP:Int) == 2))))) else (if ((a1.bP:Int) == 5)=true then ((cK ((!((a2.cG == ([]:Bytes)) || (a2.cG == a1.cG))) && ((a2.bP:Int) == 5)) (bU (aLW K a0 a2.cG a1.cG)) default).bind (fun r6=>(bO (((a2.bP:Int) == 5) && (((a2.cG == ([]:Bytes)) || (a2.cG == a1.cG)) || r6)) (fun (x7:Bool)=>(some (.inl (Sum.inr (x7)))))))) else (some (.inr ())))))))) (fun (u4:Unit)=>(some (.inl (false)))))
theorem aFR (K:Nat) (a0:dD) (a1:fP) (a2:fP):bR Tryz.prog 225 [.agg (dQ.cs a0),.agg (gC.cs a1),.agg (gC.cs a2)] [] (bU (aFQ K a0 a1 a2)) (fun r=>.c (.val (.bool r))) (fun r=>[]):=by
 refine bR.it Tryz.f225 (fun r=>⟨[sB 6 r],[],[],0⟩) ?_
 unfold aFQ
 exact Ref.pt (
  .bk 0 (fun u4=>⟨[],[],[],0⟩) (
   .jn (fun u5=>⟨[sP 3 0 0 0,sP 4 1 0 0,sP 5 2 0 0,sI 8 a1.bP,sB 9 u5],[.cells (dQ.cs a0),.cells (gC.cs a1),.cells (gC.cs a2)],[],0⟩) (
    .ite _ (
     .nil [0,1,2] _) (
     .nil [0,1,2] _)) fun u5 =>
   .ite _ (
    .ret [] _) (
    .ite _ (
     .ret [] _) (
     .ite _ (
      .look (default:Bool) _ [] (aKe K a0 a2.cG a1.cG) (fun _=>rfl) fun r6 =>
      .lt _ fun x7 =>
      .ret [] _) (
      .nil [] _)))) fun u4 =>
  .ret [] _)
end Go.Proofs.YtdbfbedholdjaaaGreat
