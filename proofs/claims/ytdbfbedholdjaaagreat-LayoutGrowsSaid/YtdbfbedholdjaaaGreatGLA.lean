/- No conditions. -/
import Derived.Test.YtdbfbedholdjaaaGreatGTy
import Derived.Test.YtdbfbedholdjaaaGreatProg
set_option linter.unusedVariables false
set_option linter.unusedSimpArgs false
set_option linter.unusedSectionVars false
namespace Go.Proofs.YtdbfbedholdjaaaGreat
open Go Go.Proofs Go.Dl
variable [dK]
set_option maxRecDepth 100000
set_option maxHeartbeats 4000000
def F61 (K:Nat) (a0:cM) (a1:Bytes):Option ((Int) ⊕ (Int)) :=
 (bP (bN ((iter K (fun (dZ:Int)=>(bO (decide ((dZ:Int)<(Int.ofNat a0.bM.length))) (fun (kP:Bool)=>(if kP=true then (bP (bN (bW [cY dZ a0.bM.length] (bO (((a0.bM.getD (dZ:Int).toNat default).cD) == a1) (fun (x31:Bool)=>(if x31=true then (some (.inl (Sum.inr (Sum.inr (dZ))))) else (some (.inr ()))))))) (fun (eS:Unit)=>(some (.inr ((IntKind.i64.wrap (dZ+1))))))) else (some (.inl (Sum.inl ()))))))) (0)).map .inl)) (fun (u16:Unit)=>(some (.inl ((-1))))))
theorem nF (K:Nat) (a0:cM) (a1:Bytes):bS Tryz.prog 61 [.agg (dP.cs a0),.c (.str a1)] [] (bV (F61 K a0 a1)) (fun r=>.c (.val (.int .i64 r))) (fun r=>[]):=by
 refine bS.it Tryz.f61 (fun r=>⟨[sI 4 r],[],[],0⟩) ?_
 unfold F61
 exact Ref.pt (
  .bk 0 (fun u16=>⟨[],[],[],0⟩) (
   .lp [0] (fun dZ=>⟨[sS 1 a1,sP 2 0 0 0,sI 5 dZ],[.cells (dP.cs a0)],[],0⟩) fun dZ =>
   .lt _ fun kP =>
   .ite _ (
    .bk 1 (fun eS=>⟨[sS 1 a1,sP 2 0 0 0,sI 5 dZ],[.cells (dP.cs a0)],[],0⟩) (
     .ck _ <|
     .lt _ fun x31 =>
     .ite _ (
      .ret [] _) (
      .nil [0] _)) fun eS =>
    .nil [0] _) (
    .ret [] _)) fun u16 =>
  .ret [] _)
def F68 (K:Nat) (a0:cM) (a1:Int):Option ((Int) ⊕ (Int)) :=
 (bO ((decide ((a1:Int)<0)) || (decide ((a1:Int) ≥ (Int.ofNat a0.bM.length)))) (fun (x1:Bool)=>(if x1=true then (some (.inl (0))) else (bW [cY a1 a0.bM.length] (bO ((a0.bM.getD (a1:Int).toNat default).bR) (fun (x2:Int)=>(some (.inl (x2)))))))))
theorem nG (K:Nat) (a0:cM) (a1:Int):bS Tryz.prog 68 [.agg (dP.cs a0),.c (.val (.int .i64 a1))] [] (bV (F68 K a0 a1)) (fun r=>.c (.val (.int .i64 r))) (fun r=>[]):=by
 refine bS.it Tryz.f68 (fun r=>⟨[sI 4 r],[],[],0⟩) ?_
 unfold F68
 exact Ref.pt (
  .lt _ fun x1 =>
  .ite _ (
   .ret [] _) (
   .ck _ <|
   .lt _ fun x2 =>
   .ret [] _))
def aGu (K:Nat) (a0:(List Int)) (a1:Int):Option ((Bool) ⊕ (Bool)) :=
 (bP (bN ((iter K (fun (hU:Int)=>(bO (decide ((hU:Int)<(Int.ofNat a0.length))) (fun (vY:Bool)=>(if vY=true then (bP (bN (bW [cY hU a0.length] (bO (((a0.getD (hU:Int).toNat default):Int) == a1) (fun (gZ:Bool)=>(if gZ=true then (some (.inl (Sum.inr (Sum.inr (true))))) else (some (.inr ()))))))) (fun (jG:Unit)=>(some (.inr ((IntKind.i64.wrap (hU+1))))))) else (some (.inl (Sum.inl ()))))))) (0)).map .inl)) (fun (tD:Unit)=>(some (.inl (false)))))
theorem aBp (K:Nat) (a0:(List Int)) (a1:Int):bS Tryz.prog 134 [.c (E3.tree a0),.c (.val (.int .i64 a1))] [] (bV (aGu K a0 a1)) (fun r=>.c (.val (.bool r))) (fun r=>[]):=by
 refine bS.it Tryz.f134 (fun r=>⟨[sB 4 r],[],[],0⟩) ?_
 unfold aGu
 exact Ref.pt (
  .bk 0 (fun tD=>⟨[],[],[],0⟩) (
   .lp [] (fun hU=>⟨[(0,.c (E3.tree a0)),sI 1 a1,sI 5 hU],[],[],0⟩) fun hU =>
   .lt _ fun vY =>
   .ite _ (
    .bk 1 (fun jG=>⟨[(0,.c (E3.tree a0)),sI 1 a1,sI 5 hU],[],[],0⟩) (
     .ck _ <|
     .lt _ fun gZ =>
     .ite _ (
      .ret [] _) (
      .nil [] _)) fun jG =>
    .nil [] _) (
    .ret [] _)) fun tD =>
  .ret [] _)
def aNr (K:Nat) (a0:gX) (a1:Bytes):Option ((Int) ⊕ (Int)) :=
 (bP (bN ((iter K (fun (dZ:Int)=>(bO (decide ((dZ:Int)<(Int.ofNat a0.bQ.length))) (fun (kP:Bool)=>(if kP=true then (bP (bN (bW [cY dZ a0.bQ.length] (bO (((a0.bQ.getD (dZ:Int).toNat default).cD) == a1) (fun (x31:Bool)=>(if x31=true then (some (.inl (Sum.inr (Sum.inr (dZ))))) else (some (.inr ()))))))) (fun (eS:Unit)=>(some (.inr ((IntKind.i64.wrap (dZ+1))))))) else (some (.inl (Sum.inl ()))))))) (0)).map .inl)) (fun (u16:Unit)=>(some (.inl ((-1))))))
theorem aRz (K:Nat) (a0:gX) (a1:Bytes):bS Tryz.prog 178 [.agg (gT.cs a0),.c (.str a1)] [] (bV (aNr K a0 a1)) (fun r=>.c (.val (.int .i64 r))) (fun r=>[]):=by
 refine bS.it Tryz.f178 (fun r=>⟨[sI 4 r],[],[],0⟩) ?_
 unfold aNr
 exact Ref.pt (
  .bk 0 (fun u16=>⟨[],[],[],0⟩) (
   .lp [0] (fun dZ=>⟨[sS 1 a1,sP 2 0 0 0,sI 5 dZ],[gT.o a0],[],0⟩) fun dZ =>
   .lt _ fun kP =>
   .ite _ (
    .bk 1 (fun eS=>⟨[sS 1 a1,sP 2 0 0 0,sI 5 dZ],[gT.o a0],[],0⟩) (
     .ck _ <|
     .lt _ fun x31 =>
     .ite _ (
      .ret [] _) (
      .nil [0] _)) fun eS =>
    .nil [0] _) (
    .ret [] _)) fun u16 =>
  .ret [] _)
def aCi (K:Nat) (a0:cM) (a1:Int):Option (((List Int)) ⊕ ((List Int))) :=
 (bP (bN ((iter K (fun (qG:Int × (List Int))=>((bV (F68 K a0 qG.1)).bind (fun oH=>((cF ((oH:Int) == 2) (bV (aGu K qG.2 qG.1)) default).bind (fun r44=>(if (((oH:Int) == 2) && (!r44))=true then (bP (bN (bW [room ((qG.2.length+([qG.1].length)) * 8)] (bW [cY qG.1 a0.bM.length] (bO ((a0.bM.getD (qG.1:Int).toNat default).fV) (fun (x48:Bytes)=>((cF true (bV (F61 K a0 x48)) default).bind (fun r49=>(some (.inr (r49,(qG.2++[qG.1]))))))))))) (fun (u47:Int × (List Int))=>(some (.inr (u47.1,u47.2))))) else (some (.inl (Sum.inl (qG.2)))))))))) (a1,[])).map .inl)) (fun (u25:(List Int))=>(some (.inl (u25)))))
theorem rD (K:Nat) (a0:cM) (a1:Int):bS Tryz.prog 105 [.agg (dP.cs a0),.c (.val (.int .i64 a1))] [] (bV (aCi K a0 a1)) (fun r=>.c (E3.tree r)) (fun r=>[]):=by
 refine bS.it Tryz.f105 (fun r=>⟨[(4,.c (E3.tree r))],[],[],0⟩) ?_
 unfold aCi
 exact Ref.pt (
  .bk 0 (fun u25=>⟨[(5,.c (.own 0 u25.length))],[E3.row u25],[],0⟩) (
   .ad 1 0 5 E3.ty E3.w (E3.at []) <|
   .lp [0,1] (fun qG=>⟨[sI 1 qG.1,sP 2 0 0 0,(5,.c (.own 1 qG.2.length))],[.cells (dP.cs a0),E3.row qG.2],[],0⟩) fun qG =>
   .call [] (nG _ _ _) fun oH =>
   .look (default:Bool) _ [1] (aBp K qG.2 qG.1) (fun _=>rfl) fun r44 =>
   .ite _ (
    .bk 1 (fun u47=>⟨[sI 1 u47.1,sP 2 0 0 0,(5,.c (.own 1 u47.2.length))],[.cells (dP.cs a0),E3.row u47.2],[],0⟩) (
     .ob 3 2 2 (El.cB E3 [qG.1] rfl rfl) <|
     .ck _ <|
     .ap 3 1 3 19 E3 qG.2 [qG.1] <|
     .ex [1,3] <|
     .tx [] <|
     .iU [0,2,4,5,6] _ <|
     .lt _ fun x48 =>
     .eH 7 (default:Int) _ [] (nF K a0 x48) (fun _=>rfl) fun r49 =>
     .ex [8] <|
     .nil [0,3] _) fun u47 =>
    .nil [0,1] _) (
    .ret [1] _)) fun u25 =>
  .fz 5 0 0 <|
  .ret [] _)
def aE6 (K:Nat) (a0:cM) (a1:Int) (a2:Bytes):Option ((dR × Bool) ⊕ (dR × Bool)) :=
 ((bV (aCi K a0 a1)).bind (fun r1=>((bV (F68 K a0 a1)).bind (fun r2=>(bP (if ((r2:Int) == 1)=true then (some (.inr ([a1]))) else (some (.inr (r1)))) (fun (u3:(List Int))=>(bP (bN ((iter K (fun (iX:Int)=>(bO (decide ((iX:Int)<(Int.ofNat u3.length))) (fun (gZ:Bool)=>(if gZ=true then (bP (bN (bW [cY iX u3.length] (bW [cY (u3.getD (iX:Int).toNat default) a0.bM.length] ((cF true (bV (aNr K (a0.bM.getD ((u3.getD (iX:Int).toNat default):Int).toNat default) a2)) default).bind (fun r32=>(if (decide ((r32:Int) ≥ 0))=true then (bW [cY iX u3.length] (some (.inl (Sum.inr (Sum.inr ((⟨(u3.getD (iX:Int).toNat default),r32⟩:dR),true)))))) else (some (.inr ())))))))) (fun (vZ:Unit)=>(some (.inr ((IntKind.i64.wrap (iX+1))))))) else (some (.inl (Sum.inl ()))))))) (0)).map .inl)) (fun (u18:Unit)=>(some (.inl ((⟨0,0⟩:dR),false)))))))))))
theorem xQ (K:Nat) (a0:cM) (a1:Int) (a2:Bytes):bS Tryz.prog 133 [.agg (dP.cs a0),.c (.val (.int .i64 a1)),.c (.str a2)] [] (bV (aE6 K a0 a1 a2)) (fun r=>.kC [.agg (eD.cs r.1),.c (.val (.bool r.2))]) (fun r=>[.cells (eD.cs r.1)]):=by
 refine bS.it Tryz.f133 (fun r=>⟨[sP 6 0 0 0,sB 7 r.2],[.cells (eD.cs r.1)],[],0⟩) ?_
 unfold aE6
 exact Ref.pt (
  .call [] (rD _ _ _) fun r1 =>
  .call [] (nG _ _ _) fun r2 =>
  .jn (fun u3=>⟨[sS 2 a2,sP 3 0 0 0,sP 6 1 0 0,(8,.c (E3.tree u3))],[.cells (dP.cs a0),.cells [iC 0,iC 0]],[],0⟩) (
   .ite _ (
    .ob 3 1 2 (El.cB E3 [a1] rfl rfl) <|
    .fz 3 0 2 <|
    .nil [0,1] _) (
    .nil [0,1] _)) fun u3 =>
  .bk 0 (fun u18=>⟨[sP 6 0 0 0],[.cells [iC 0,iC 0]],[],0⟩) (
   .lp [0,1] (fun iX=>⟨[sS 2 a2,sP 3 0 0 0,sP 6 1 0 0,(8,.c (E3.tree u3)),sI 9 iX],[.cells (dP.cs a0),.cells [iC 0,iC 0]],[],0⟩) fun iX =>
   .lt _ fun gZ =>
   .ite _ (
    .bk 1 (fun vZ=>⟨[sS 2 a2,sP 3 0 0 0,sP 6 1 0 0,(8,.c (E3.tree u3)),sI 9 iX],[.cells (dP.cs a0),.cells [iC 0,iC 0]],[],0⟩) (
     .iU [0,2,3,4,8] _ <|
     .tx [] <|
     .iU [1,5,6,7] _ <|
     .eH 9 (default:Int) _ [] (aRz K (a0.bM.getD ((gd u3 iX):Int).toNat default) a2) (fun _=>rfl) fun r32 =>
     .ex [10] <|
     .ite _ (
      .ck _ <|
      .ret [1] _) (
      .nil [0,1] _)) fun vZ =>
    .nil [0,1] _) (
    .ret [1] _)) fun u18 =>
  .ret [0] _)
def aK7 (K:Nat) (a0:cM) (a1:Int):Option (((List Int)) ⊕ ((List Int))) :=
 ((bV (aCi K a0 a1)).bind (fun r1=>(bP (bN ((iter K (fun (uT:(List Int) × Int)=>(bO (decide ((uT.2:Int)<(Int.ofNat r1.length))) (fun (aYb:Bool)=>(if aYb=true then (bP (bN (bW [cY uT.2 r1.length] (bW [cY (r1.getD (uT.2:Int).toNat default) a0.bM.length] (bO ((a0.bM.getD ((r1.getD (uT.2:Int).toNat default):Int).toNat default).cK) (fun (aIn:(List Bytes))=>(bP (bN ((iter K (fun (rU:(List Int) × Int)=>(bO (decide ((rU.2:Int)<(Int.ofNat aIn.length))) (fun (aYc:Bool)=>(if aYc=true then (bP (bN (bW [cY rU.2 aIn.length] ((cF true (bV (F61 K a0 (aIn.getD (rU.2:Int).toNat default))) default).bind (fun aGv=>((bV (F68 K a0 aGv)).bind (fun aVG=>((cF ((aVG:Int) == 1) (bV (aGu K rU.1 aGv)) default).bind (fun aYd=>(if (((aVG:Int) == 1) && (!aYd))=true then (bW [room ((rU.1.length+([aGv].length)) * 8)] (some (.inr ((rU.1++[aGv]))))) else (some (.inr (rU.1)))))))))))) (fun (aNs:(List Int))=>(some (.inr (aNs,(IntKind.i64.wrap (rU.2+1))))))) else (some (.inl (Sum.inl (rU.1)))))))) (uT.1,0)).map .inl)) (fun (aNt:(List Int))=>(some (.inr (aNt)))))))))) (fun (aNu:(List Int))=>(some (.inr (aNu,(IntKind.i64.wrap (uT.2+1))))))) else (some (.inl (Sum.inl (uT.1)))))))) ([],0)).map .inl)) (fun (aNv:(List Int))=>(some (.inl (aNv)))))))
theorem aJN (K:Nat) (a0:cM) (a1:Int):bS Tryz.prog 101 [.agg (dP.cs a0),.c (.val (.int .i64 a1))] [] (bV (aK7 K a0 a1)) (fun r=>.c (E3.tree r)) (fun r=>[]):=by
 refine bS.it Tryz.f101 (fun r=>⟨[(4,.c (E3.tree r))],[],[],0⟩) ?_
 unfold aK7
 exact Ref.pt (
  .call [] (rD _ _ _) fun r1 =>
  .bk 0 (fun aNv=>⟨[(5,.c (.own 0 aNv.length))],[E3.row aNv],[],0⟩) (
   .ad 3 0 5 E3.ty E3.w (E3.at []) <|
   .lp [0,1] (fun uT=>⟨[sP 2 0 0 0,(5,.c (.own 1 uT.1.length)),(6,.c (E3.tree r1)),sI 7 uT.2],[.cells (dP.cs a0),E3.row uT.1],[],0⟩) fun uT =>
   .lt _ fun aYb =>
   .ite _ (
    .bk 1 (fun aNu=>⟨[sP 2 0 0 0,(5,.c (.own 1 aNu.length)),(6,.c (E3.tree r1)),sI 7 uT.2],[.cells (dP.cs a0),E3.row aNu],[],0⟩) (
     .iU [0,2,3,4] _ <|
     .tx [] <|
     .iU [1,5,6,7,8,9] _ <|
     .lt _ fun aIn =>
     .bk 2 (fun aNt=>⟨[sP 2 0 0 0,(5,.c (.own 1 aNt.length)),(6,.c (E3.tree r1)),sI 7 uT.2],[.cells (dP.cs a0),E3.row aNt],[],0⟩) (
      .lp [0,1] (fun rU=>⟨[sP 2 0 0 0,(5,.c (.own 1 rU.1.length)),(6,.c (E3.tree r1)),sI 7 uT.2,(8,.c (E9.tree aIn)),sI 9 rU.2],[.cells (dP.cs a0),E3.row rU.1],[],0⟩) fun rU =>
      .lt _ fun aYc =>
      .ite _ (
       .bk 3 (fun aNs=>⟨[sP 2 0 0 0,(5,.c (.own 1 aNs.length)),(6,.c (E3.tree r1)),sI 7 uT.2,(8,.c (E9.tree aIn)),sI 9 rU.2],[.cells (dP.cs a0),E3.row aNs],[],0⟩) (
        .iU [1,2,3] _ <|
        .tx [] <|
        .ex [0,4] <|
        .eH 5 (default:Int) _ [] (nF K a0 (gd aIn rU.2)) (fun _=>rfl) fun aGv =>
        .ex [6] <|
        .call [] (nG _ _ _) fun aVG =>
        .look (default:Bool) _ [1] (aBp K rU.1 aGv) (fun _=>rfl) fun aYd =>
        .ite _ (
         .ob 12 2 2 (El.cB E3 [aGv] rfl rfl) <|
         .ck _ <|
         .ap 12 1 3 54 E3 rU.1 [aGv] <|
         .nil [0,3] _) (
         .nil [0,1] _)) fun aNs =>
       .nil [0,1] _) (
       .ret [0,1] _)) fun aNt =>
     .nil [0,1] _) fun aNu =>
    .nil [0,1] _) (
    .ret [1] _)) fun aNv =>
  .fz 13 0 0 <|
  .ret [] _)
def F70 (K:Nat) (a0:cM) (a1:Int):Option (((List fE)) ⊕ ((List fE))) :=
 ((bV (F68 K a0 a1)).bind (fun r1=>(if ((r1:Int) == 3)=true then (bW [cY a1 a0.bM.length] (bO ((a0.bM.getD (a1:Int).toNat default).cH) (fun (x2:(List fE))=>(bW [room (x2.length * 80)] (some (.inl (x2))))))) else ((bV (aCi K a0 a1)).bind (fun r3=>(bO (IntKind.i64.wrap ((Int.ofNat r3.length) - 1)) (fun (x4:Int)=>(bP (bN ((iter K (fun (dZ:(List fE) × Int)=>(if (decide ((dZ.2:Int) ≥ 0))=true then (bP (bN (bW [cY dZ.2 r3.length] (bW [cY (r3.getD (dZ.2:Int).toNat default) a0.bM.length] (bO ((a0.bM.getD ((r3.getD (dZ.2:Int).toNat default):Int).toNat default).cH) (fun (gZ:(List fE))=>(bW [room ((dZ.1.length+gZ.length) * 80)] (some (.inr ((dZ.1++gZ)))))))))) (fun (jG:(List fE))=>(some (.inr (jG,(IntKind.i64.wrap (dZ.2 - 1))))))) else (some (.inl (Sum.inl (dZ.1)))))) ([],x4)).map .inl)) (fun (kI:(List fE))=>(some (.inl (kI))))))))))))
theorem aNw (K:Nat) (a0:cM) (a1:Int):bS Tryz.prog 70 [.agg (dP.cs a0),.c (.val (.int .i64 a1))] [] (bV (F70 K a0 a1)) (fun r=>.c (eX.tree r)) (fun r=>[]):=by
 refine bS.it Tryz.f70 (fun r=>⟨[(4,.c (eX.tree r))],[],[],0⟩) ?_
 unfold F70
 exact Ref.pt (
  .call [] (nG _ _ _) fun r1 =>
  .ite _ (
   .ck _ <|
   .lt _ fun x2 =>
   .ck _ <|
   .fz 2 0 1 <|
   .ret [] _) (
   .call [] (rD _ _ _) fun r3 =>
   .lt _ fun x4 =>
   .bk 0 (fun kI=>⟨[(5,.c (.own 0 kI.length))],[eX.row kI],[],0⟩) (
    .ad 5 0 5 eX.ty eX.w (eX.at []) <|
    .lp [0,1] (fun dZ=>⟨[sP 2 0 0 0,(5,.c (.own 1 dZ.1.length)),(6,.c (E3.tree r3)),sI 7 dZ.2],[.cells (dP.cs a0),eX.row dZ.1],[],0⟩) fun dZ =>
    .ite _ (
     .bk 1 (fun jG=>⟨[sP 2 0 0 0,(5,.c (.own 1 jG.length)),(6,.c (E3.tree r3)),sI 7 dZ.2],[.cells (dP.cs a0),eX.row jG],[],0⟩) (
      .iU [0,1,3,4,5] _ <|
      .tx [10,11] <|
      .iU [2,6,7,8,9] _ <|
      .lt _ fun gZ =>
      .tl [10,11] <|
      .ck _ <|
      .ap 8 1 2 39 eX dZ.1 gZ <|
      .nil [0,2] _) fun jG =>
     .nil [0,1] _) (
     .ret [1] _)) fun kI =>
   .fz 9 0 0 <|
   .ret [] _))
def aK8 (K:Nat) (a0:iT) (a1:iT):Option ((Bool) ⊕ (Bool)) :=
 (bO ((((Int.ofNat a0.cN.length):Int) != (Int.ofNat a1.cN.length)) || (!(((a0.eY.bR:Int) == a1.eY.bR) && (((a0.eY.fLo:Int) == a1.eY.fLo) && (((a0.eY.fHi:Int) == a1.eY.fHi) && ((a0.eY.cD == a1.eY.cD) && true)))))) (fun (x1:Bool)=>(if x1=true then (some (.inl (false))) else (bP (bN ((iter K (fun (iX:Int)=>(bO (decide ((iX:Int)<(Int.ofNat a0.cN.length))) (fun (gZ:Bool)=>(if gZ=true then (bP (bN (bW [cY iX a0.cN.length,cY iX a1.cN.length] (bO (!(((((a0.cN.getD (iX:Int).toNat default).cO).bR:Int) == (((a1.cN.getD (iX:Int).toNat default).cO).bR)) && (((((a0.cN.getD (iX:Int).toNat default).cO).fLo:Int) == (((a1.cN.getD (iX:Int).toNat default).cO).fLo)) && (((((a0.cN.getD (iX:Int).toNat default).cO).fHi:Int) == (((a1.cN.getD (iX:Int).toNat default).cO).fHi)) && (((((a0.cN.getD (iX:Int).toNat default).cO).cD) == (((a1.cN.getD (iX:Int).toNat default).cO).cD)) && true))))) (fun (x32:Bool)=>(if x32=true then (some (.inl (Sum.inr (Sum.inr (false))))) else (some (.inr ()))))))) (fun (vZ:Unit)=>(some (.inr ((IntKind.i64.wrap (iX+1))))))) else (some (.inl (Sum.inl ()))))))) (0)).map .inl)) (fun (kI:Unit)=>(some (.inl (true))))))))
theorem aJP (K:Nat) (a0:iT) (a1:iT):bS Tryz.prog 195 [.agg (j3.cs a0),.agg (j3.cs a1)] [] (bV (aK8 K a0 a1)) (fun r=>.c (.val (.bool r))) (fun r=>[]):=by
 refine bS.it Tryz.f195 (fun r=>⟨[sB 4 r],[],[],0⟩) ?_
 unfold aK8
 exact Ref.pt (
  .lt _ fun x1 =>
  .ite _ (
   .ret [] _) (
   .bk 0 (fun kI=>⟨[],[],[],0⟩) (
    .lp [0,1] (fun iX=>⟨[sP 2 0 0 0,sP 3 1 0 0,sI 5 iX],[j3.o a0,j3.o a1],[],0⟩) fun iX =>
    .lt _ fun gZ =>
    .ite _ (
     .bk 1 (fun vZ=>⟨[sP 2 0 0 0,sP 3 1 0 0,sI 5 iX],[j3.o a0,j3.o a1],[],0⟩) (
      .ex [0,2,6,8] <|
      .tx [] <|
      .iU [1,3,4,5,7,9,10,11,12] _ <|
      .lt _ fun x32 =>
      .ite _ (
       .ret [] _) (
       .nil [0,1] _)) fun vZ =>
     .nil [0,1] _) (
     .ret [] _)) fun kI =>
   .ret [] _))
def F63 (K:Nat) (a0:cM) (a1:dR):Option ((iT) ⊕ (iT)) :=
 (bW [cY a1.c6 a0.bM.length,cY a1.dJ ((a0.bM.getD (a1.c6:Int).toNat default).bQ).length] (some (.inl ((((a0.bM.getD (a1.c6:Int).toNat default).bQ).getD (a1.dJ:Int).toNat default)))))
theorem aCj (K:Nat) (a0:cM) (a1:dR):bS Tryz.prog 63 [.agg (dP.cs a0),.agg (eD.cs a1)] [] (bV (F63 K a0 a1)) (fun r=>.agg (j3.cs r)) (fun r=>[j3.o r]):=by
 refine bS.it Tryz.f63 (fun r=>⟨[sP 4 0 0 0],[j3.o r],[],0⟩) ?_
 unfold F63
 exact Ref.pt (
  .ex [0,2,7] <|
  .tx [11] <|
  .iU [1,3,4,5,6,8,9,10] _ <|
  .tl [11] <|
  .ret [2] _)
end Go.Proofs.YtdbfbedholdjaaaGreat

namespace Go.Proofs.YtdbfbedholdjaaaGreat
open Go Go.Proofs Go.Dl
variable [dK]
set_option maxRecDepth 100000
set_option maxHeartbeats 4000000
def aIo (K:Nat) (a0:cM) (a1:dR):Option ((Bool) ⊕ (Bool)) :=
 ((cF true (bV (F68 K a0 a1.c6)) default).bind (fun r1=>(bW [!(((r1:Int) == 2) && (decide ((a1.dJ:Int) ≥ 0))) || cY a1.c6 a0.bM.length] (bO ((((r1:Int) == 2) && (decide ((a1.dJ:Int) ≥ 0))) && (decide ((a1.dJ:Int)<(Int.ofNat ((a0.bM.getD (a1.c6:Int).toNat default).bQ).length)))) (fun (x2:Bool)=>(some (.inl (x2))))))))
theorem aE8 (K:Nat) (a0:cM) (a1:dR):bS Tryz.prog 201 [.agg (dP.cs a0),.agg (eD.cs a1)] [] (bV (aIo K a0 a1)) (fun r=>.c (.val (.bool r))) (fun r=>[]):=by
 refine bS.it Tryz.f201 (fun r=>⟨[sB 4 r],[],[],0⟩) ?_
 unfold aIo
 exact Ref.pt (
  .ex [1] <|
  .tx [] <|
  .ex [0,2] <|
  .eH 3 (default:Int) _ [] (nG K a0 a1.c6) (fun _=>rfl) fun r1 =>
  .iU [4,5,6,7,8,9,10,11,12,13,14,15,16,17,18,19,20,21,22,23] _ <|
  .lt _ fun x2 =>
  .ret [] _)
def aGw (K:Nat) (a0:cM) (a1:dR):Option ((Bool) ⊕ (Bool)) :=
 ((bV (aIo K a0 a1)).bind (fun r1=>((cF (!r1) (bV (F68 K a0 a1.c6)) default).bind (fun r2=>(bO (r1 || (((r2:Int) == 3) && ((a1.dJ:Int) == (-1)))) (fun (x3:Bool)=>(some (.inl (x3)))))))))
theorem aBq (K:Nat) (a0:cM) (a1:dR):bS Tryz.prog 194 [.agg (dP.cs a0),.agg (eD.cs a1)] [] (bV (aGw K a0 a1)) (fun r=>.c (.val (.bool r))) (fun r=>[]):=by
 refine bS.it Tryz.f194 (fun r=>⟨[sB 4 r],[],[],0⟩) ?_
 unfold aGw
 exact Ref.pt (
  .call [] (aE8 _ _ _) fun r1 =>
  .look (default:Int) _ [] (nG K a0 a1.c6) (fun _=>rfl) fun r2 =>
  .lt _ fun x3 =>
  .ret [] _)
def aK9 (K:Nat) (a0:cM) (a1:dR):Option (((List fE)) ⊕ ((List fE))) :=
 ((bV (aGw K a0 a1)).bind (fun r1=>(if (!r1)=true then (some (.inl ([]))) else (if (decide ((a1.dJ:Int)<0))=true then (bW [cY a1.c6 a0.bM.length] (bO ((a0.bM.getD (a1.c6:Int).toNat default).cH) (fun (x2:(List fE))=>(bW [room (x2.length * 80)] (some (.inl (x2))))))) else (bW [cY a1.c6 a0.bM.length,cY a1.dJ ((a0.bM.getD (a1.c6:Int).toNat default).bQ).length] (bO ((((a0.bM.getD (a1.c6:Int).toNat default).bQ).getD (a1.dJ:Int).toNat default).cN) (fun (x4:(List fE))=>(bW [room (x4.length * 80)] (bO ((((a0.bM.getD (a1.c6:Int).toNat default).bQ).getD (a1.dJ:Int).toNat default).cH) (fun (x5:(List fE))=>(bW [room ((x4.length+x5.length) * 80)] ((bV (F70 K a0 a1.c6)).bind (fun r6=>(bW [room ((((x4++x5).length)+r6.length) * 80)] (some (.inl (((x4++x5)++r6))))))))))))))))))
theorem aJQ (K:Nat) (a0:cM) (a1:dR):bS Tryz.prog 149 [.agg (dP.cs a0),.agg (eD.cs a1)] [] (bV (aK9 K a0 a1)) (fun r=>.c (eX.tree r)) (fun r=>[]):=by
 refine bS.it Tryz.f149 (fun r=>⟨[(4,.c (eX.tree r))],[],[],0⟩) ?_
 unfold aK9
 exact Ref.pt (
  .call [] (aBq _ _ _) fun r1 =>
  .ite _ (
   .sl 2 0 4 (x:=.c (.nil)) (y:=(.c (eX.tree []))) (jR.c (El.cE eX)) <|
   .ret [] _) (
   .ite _ (
    .ck _ <|
    .lt _ fun x2 =>
    .ck _ <|
    .fz 4 0 2 <|
    .ret [] _) (
    .ex [0,2,7] <|
    .tx [12] <|
    .iU [1,3,4,5,6,8,9,10] _ <|
    .all [2,3,32,5] (rg (cd (bd Tryz.f149) [1,1,1,0])) [true,true,true,true,true,true,true,true,true,true,true,false,false] (hl []) ⟨[sP 2 0 0 0,sP 3 1 0 0,sP 5 2 0 0],[.cells (dP.cs a0),.cells (eD.cs a1),j3.o (gd ((gd a0.bM a1.c6).bQ) a1.dJ)],[],0⟩ [.s 2,.s 3,.s 5] <|
    .lt _ fun x4 =>
    .ck _ <|
    .lt _ fun x5 =>
    .ck _ <|
    .ap 7 1 4 39 eX x4 x5 <|
    .call [] (aNw _ _ _) fun r6 =>
    .ck _ <|
    .ap 8 1 5 45 eX (x4++x5) r6 <|
    .fz 8 0 5 <|
    .ret [] _)))
def aIp (K:Nat) (a0:cM) (a1:dR) (a2:Bytes):Option ((fE × Bool) ⊕ (fE × Bool)) :=
 ((bV (aK9 K a0 a1)).bind (fun r1=>(bP (bN ((iter K (fun (iF:Int)=>(bO (decide ((iF:Int)<(Int.ofNat r1.length))) (fun (x27:Bool)=>(if x27=true then (bP (bN (bW [cY iF r1.length] (bO (((r1.getD (iF:Int).toNat default).cD) == a2) (fun (x30:Bool)=>(if x30=true then (bW [cY iF r1.length] (some (.inl (Sum.inr (Sum.inr ((r1.getD (iF:Int).toNat default),true)))))) else (some (.inr ()))))))) (fun (u29:Unit)=>(some (.inr ((IntKind.i64.wrap (iF+1))))))) else (some (.inl (Sum.inl ()))))))) (0)).map .inl)) (fun (u16:Unit)=>(some (.inl ((⟨([]:Bytes),(⟨0,0,0,([]:Bytes)⟩:fU),0,0,0⟩:fE),false)))))))
theorem aE9 (K:Nat) (a0:cM) (a1:dR) (a2:Bytes):bS Tryz.prog 199 [.agg (dP.cs a0),.agg (eD.cs a1),.c (.str a2)] [] (bV (aIp K a0 a1 a2)) (fun r=>.kC [.agg (eX.cs r.1),.c (.val (.bool r.2))]) (fun r=>[eX.o r.1]):=by
 refine bS.it Tryz.f199 (fun r=>⟨[sP 6 0 0 0,sB 7 r.2],[eX.o r.1],[],0⟩) ?_
 unfold aIp
 exact Ref.pt (
  .call [] (aJQ _ _ _) fun r1 =>
  .bk 0 (fun u16=>⟨[sP 6 0 0 0],[oX7],[],0⟩) (
   .lp [2] (fun iF=>⟨[sS 2 a2,sP 6 0 0 0,(8,.c (eX.tree r1)),sI 9 iF],[oX7],[],0⟩) fun iF =>
   .lt _ fun x27 =>
   .ite _ (
    .bk 1 (fun u29=>⟨[sS 2 a2,sP 6 0 0 0,(8,.c (eX.tree r1)),sI 9 iF],[oX7],[],0⟩) (
     .ck _ <|
     .lt _ fun x30 =>
     .ite _ (
      .ck _ <|
      .ret [0] _) (
      .nil [0] _)) fun u29 =>
    .nil [0] _) (
    .ret [0] _)) fun u16 =>
  .ret [0] _)
def aIq (K:Nat) (a0:cM) (a1:Bytes):Option ((Bool) ⊕ (Bool)) :=
 ((cF true (bV (F61 K a0 a1)) default).bind (fun r1=>((cF true (bV (F68 K a0 r1)) default).bind (fun r2=>(some (.inl ((((r2:Int) == 2) || ((r2:Int) == 1)))))))))
theorem aJR (K:Nat) (a0:cM) (a1:Bytes):bS Tryz.prog 200 [.agg (dP.cs a0),.c (.str a1)] [] (bV (aIq K a0 a1)) (fun r=>.c (.val (.bool r))) (fun r=>[]):=by
 refine bS.it Tryz.f200 (fun r=>⟨[sB 4 r],[],[],0⟩) ?_
 unfold aIq
 exact Ref.pt (
  .ex [2] <|
  .tx [] <|
  .ex [0,1] <|
  .eH 3 (default:Int) _ [] (nF K a0 a1) (fun _=>rfl) fun r1 =>
  .eH 4 (default:Int) _ [] (nG K a0 r1) (fun _=>rfl) fun r2 =>
  .ex [5] <|
  .ret [] _)
def aNx (K:Nat) (a0:Int):Option ((Int) ⊕ (Int)) :=
 (bO ((decide ((a0:Int)<1)) || (decide ((a0:Int) ≥ (Int.ofNat ([(-1),0,0,0,0,0,1,1,1,2,0,0,0,0,1].length))))) (fun (x1:Bool)=>(if x1=true then (some (.inl ((-1)))) else (bW [cY a0 ([(-1),0,0,0,0,0,1,1,1,2,0,0,0,0,1].length)] (bO ([(-1),0,0,0,0,0,1,1,1,2,0,0,0,0,1].getD ((a0:Int).toNat) default) (fun (x2:Int)=>(some (.inl (x2)))))))))
theorem aRB (K:Nat) (a0:Int):bS Tryz.prog 227 [.c (.val (.int .i64 a0))] [] (bV (aNx K a0)) (fun r=>.c (.val (.int .i64 r))) (fun r=>[]):=by
 refine bS.it Tryz.f227 (fun r=>⟨[sI 2 r],[],[],0⟩) ?_
 unfold aNx
 exact Ref.pt (
  .ob 1 1 0 (El.cB E3 [(-1),0,0,0,0,0,1,1,1,2,0,0,0,0,1] rfl rfl) <|
  .lt _ fun x1 =>
  .ite _ (
   .ret [] _) (
   .ck _ <|
   .lt _ fun x2 =>
   .ret [] _))
def aLa (K:Nat) (a0:Int) (a1:fU) (a2:fU):Option ((fU × Int) ⊕ (fU × Int)) :=
 (bO (((a1.bR:Int) == 1) && ((a2.bR:Int) == 1)) (fun (x1:Bool)=>(bP (bN (bO (((decide ((a0:Int) ≥ 1)) && (decide ((a0:Int)≤5))) && x1) (fun (x7:Bool)=>(if x7=true then (some (.inl (Sum.inr ((⟨1,0,0,([]:Bytes)⟩:fU),0)))) else (bO (((decide ((a0:Int) ≥ 8)) && (decide ((a0:Int)≤11))) && x1) (fun (x8:Bool)=>(if x8=true then (some (.inl (Sum.inr ((⟨2,0,0,([]:Bytes)⟩:fU),0)))) else (bO ((((decide ((a0:Int) ≥ 12)) && (decide ((a0:Int)≤14))) && ((a1.bR:Int) == 2)) && ((a2.bR:Int) == 2)) (fun (x9:Bool)=>(if x9=true then (some (.inl (Sum.inr ((⟨2,0,0,([]:Bytes)⟩:fU),0)))) else (bO (((((a0:Int) == 6) || ((a0:Int) == 7)) && ((a1.bR:Int) == a2.bR)) && ((((a1.bR:Int) == 1) || ((a1.bR:Int) == 2)) || ((a1.bR:Int) == 5))) (fun (x10:Bool)=>(if x10=true then (some (.inl (Sum.inr ((⟨2,0,0,([]:Bytes)⟩:fU),0)))) else (some (.inr ()))))))))))))))) (fun (u6:Unit)=>(some (.inl ((⟨0,0,0,([]:Bytes)⟩:fU),14)))))))
theorem aRC (K:Nat) (a0:Int) (a1:fU) (a2:fU):bS Tryz.prog 229 [.c (.val (.int .i64 a0)),.agg (kD.cs a1),.agg (kD.cs a2)] [] (bV (aLa K a0 a1 a2)) (fun r=>.kC [.agg (kD.cs r.1),.c (.val (.int .i64 r.2))]) (fun r=>[.cells (kD.cs r.1)]):=by
 refine bS.it Tryz.f229 (fun r=>⟨[sP 6 0 0 0,sI 7 r.2],[.cells (kD.cs r.1)],[],0⟩) ?_
 unfold aLa
 exact Ref.pt (
  .lt _ fun x1 =>
  .bk 0 (fun u6=>⟨[sP 6 0 0 0],[uI],[],0⟩) (
   .lt _ fun x7 =>
   .ite _ (
    .ret [2] _) (
    .lt _ fun x8 =>
    .ite _ (
     .ret [2] _) (
     .lt _ fun x9 =>
     .ite _ (
      .ret [2] _) (
      .lt _ fun x10 =>
      .ite _ (
       .ret [2] _) (
       .nil [2] _))))) fun u6 =>
  .ret [0] _)
def aLb (K:Nat) (a0:cM) (a1:Bytes) (a2:Bytes):Option ((Bool) ⊕ (Bool)) :=
 ((bV (F61 K a0 a1)).bind (fun r1=>((bV (F68 K a0 r1)).bind (fun r2=>(if (((r2:Int) != 2) && ((r2:Int) != 1))=true then (some (.inl (false))) else ((bV (F61 K a0 a2)).bind (fun r3=>((cF (!(a1 == a2)) (bV (aCi K a0 r1)) default).bind (fun r4=>((cF (!(a1 == a2)) (bV (aGu K r4 r3)) default).bind (fun r5=>((cF (!((a1 == a2) || r5)) (bV (aK7 K a0 r1)) default).bind (fun r6=>((cF (!((a1 == a2) || r5)) (bV (aGu K r6 r3)) default).bind (fun r7=>(some (.inl ((((a1 == a2) || r5) || r7)))))))))))))))))))
theorem aJS (K:Nat) (a0:cM) (a1:Bytes) (a2:Bytes):bS Tryz.prog 160 [.agg (dP.cs a0),.c (.str a1),.c (.str a2)] [] (bV (aLb K a0 a1 a2)) (fun r=>.c (.val (.bool r))) (fun r=>[]):=by
 refine bS.it Tryz.f160 (fun r=>⟨[sB 6 r],[],[],0⟩) ?_
 unfold aLb
 exact Ref.pt (
  .call [] (nF _ _ _) fun r1 =>
  .call [] (nG _ _ _) fun r2 =>
  .ite _ (
   .ret [] _) (
   .call [] (nF _ _ _) fun r3 =>
   .uZ (default:(List Int)) _ (rD K a0 r1) fun r4 =>
   .look (default:Bool) _ [] (aBp K r4 r3) (fun _=>rfl) fun r5 =>
   .uZ (default:(List Int)) _ (aJN K a0 r1) fun r6 =>
   .look (default:Bool) _ [] (aBp K r6 r3) (fun _=>rfl) fun r7 =>
   .ret [] _))
def aGx (K:Nat) (a0:cM) (a1:fU) (a2:fU):Option ((Bool) ⊕ (Bool)) :=
 (bP (bN (bP (if ((a1.bR:Int) == 1)=true then (some (.inr (((a1.bR:Int) == 1)))) else (some (.inr (((a1.bR:Int) == 3))))) (fun (u5:Bool)=>(if u5=true then (some (.inl (Sum.inr (((a2.bR:Int) == 1))))) else (if ((a1.bR:Int) == 2)=true then (some (.inl (Sum.inr (((a2.bR:Int) == 2))))) else (if ((a1.bR:Int) == 5)=true then ((cF ((!((a2.cD == ([]:Bytes)) || (a2.cD == a1.cD))) && ((a2.bR:Int) == 5)) (bV (aLb K a0 a2.cD a1.cD)) default).bind (fun r6=>(bO (((a2.bR:Int) == 5) && (((a2.cD == ([]:Bytes)) || (a2.cD == a1.cD)) || r6)) (fun (x7:Bool)=>(some (.inl (Sum.inr (x7)))))))) else (some (.inr ())))))))) (fun (u4:Unit)=>(some (.inl (false)))))
theorem aFa (K:Nat) (a0:cM) (a1:fU) (a2:fU):bS Tryz.prog 225 [.agg (dP.cs a0),.agg (kD.cs a1),.agg (kD.cs a2)] [] (bV (aGx K a0 a1 a2)) (fun r=>.c (.val (.bool r))) (fun r=>[]):=by
 refine bS.it Tryz.f225 (fun r=>⟨[sB 6 r],[],[],0⟩) ?_
 unfold aGx
 exact Ref.pt (
  .bk 0 (fun u4=>⟨[],[],[],0⟩) (
   .jn (fun u5=>⟨[sP 3 0 0 0,sP 4 1 0 0,sP 5 2 0 0,sI 8 a1.bR,sB 9 u5],[.cells (dP.cs a0),.cells (kD.cs a1),.cells (kD.cs a2)],[],0⟩) (
    .ite _ (
     .nil [0,1,2] _) (
     .nil [0,1,2] _)) fun u5 =>
   .ite _ (
    .ret [] _) (
    .ite _ (
     .ret [] _) (
     .ite _ (
      .look (default:Bool) _ [] (aJS K a0 a2.cD a1.cD) (fun _=>rfl) fun r6 =>
      .lt _ fun x7 =>
      .ret [] _) (
      .nil [] _)))) fun u4 =>
  .ret [] _)
end Go.Proofs.YtdbfbedholdjaaaGreat
