/- No conditions. -/
import Derived.Test.YtdbfbedholdjaaaGreatLA
import Derived.Test.YtdbfbedholdjaaaGreatProg
import Derived.Test.YtdbfbedholdjaaaGreatLd
set_option linter.unusedVariables false
set_option linter.unusedSimpArgs false
set_option linter.unusedSectionVars false
namespace Go.Proofs.YtdbfbedholdjaaaGreat
open Go Go.Proofs Go.Dl
variable [eC]
set_option maxRecDepth 100000
set_option maxHeartbeats 4000000
def aNH (K:Nat) (a0:jX):Option ((Bool) ⊕ (Bool)) :=
 (bO (((decide (((Int.ofNat a0.bN.length):Int) > 6)) || (decide (((Int.ofNat a0.dZ.length):Int) > 4))) || (decide (((Int.ofNat a0.cU.length):Int) > 8))) (fun (x1:Bool)=>(if x1=true then (some (.inl (true))) else (bM (bL ((iter K (fun (kD:Int)=>(bO (decide ((kD:Int)<(Int.ofNat a0.bN.length))) (fun (iW:Bool)=>(if iW=true then (bM (bL (bW [cS kD a0.bN.length,!(!(decide (((Int.ofNat ((a0.bN.getD (kD:Int).toNat default).cV).length):Int) > 3))) || cS kD a0.bN.length] (bO ((decide (((Int.ofNat ((a0.bN.getD (kD:Int).toNat default).cV).length):Int) > 3)) || (decide (((Int.ofNat ((a0.bN.getD (kD:Int).toNat default).cU).length):Int) > 8))) (fun (x32:Bool)=>(if x32=true then (some (.inl (Sum.inr (Sum.inr (true))))) else (some (.inr ()))))))) (fun (yW:Unit)=>(some (.inr ((IntKind.i64.wrap (kD+1))))))) else (some (.inl (Sum.inl ()))))))) (0)).map .inl)) (fun (gW:Unit)=>(some (.inl (false))))))))
theorem aQW (K:Nat) (a0:jX):bR Tryz.prog 116 [.agg (iY.cs a0)] [] (bU (aNH K a0)) (fun r=>.c (.val (.bool r))) (fun r=>[]):=by
 refine bR.it Tryz.f116 (fun r=>⟨[sB 2 r],[],[],0⟩) ?_
 unfold aNH
 exact Ref.pt (
  .lt _ fun x1 =>
  .ite _ (
   .ret [] _) (
   .bk 0 (fun gW=>⟨[],[],[],0⟩) (
    .lp [0] (fun kD=>⟨[sP 1 0 0 0,sI 3 kD],[iY.o a0],[],0⟩) fun kD =>
    .lt _ fun iW =>
    .ite _ (
     .bk 1 (fun yW=>⟨[sP 1 0 0 0,sI 3 kD],[iY.o a0],[],0⟩) (
      .ck _ <|
      .lt _ fun x32 =>
      .ite _ (
       .ret [] _) (
       .nil [0] _)) fun yW =>
     .nil [0] _) (
     .ret [] _)) fun gW =>
   .ret [] _))
def aLX (K:Nat) (a0:dD) (a1:Bytes) (a2:Bool):Option ((Bool) ⊕ (Bool)) :=
 ((cK true (bU (F61 K a0 a1)) default).bind (fun r1=>((cK true (bU (F68 K a0 r1)) default).bind (fun r2=>(bO (((r2:Int) == 2) || (a2 && ((r2:Int) == 1))) (fun (x3:Bool)=>(some (.inl (x3)))))))))
theorem aKf (K:Nat) (a0:dD) (a1:Bytes) (a2:Bool):bR Tryz.prog 197 [.agg (dQ.cs a0),.c (.str a1),.c (.val (.bool a2))] [] (bU (aLX K a0 a1 a2)) (fun r=>.c (.val (.bool r))) (fun r=>[]):=by
 refine bR.it Tryz.f197 (fun r=>⟨[sB 6 r],[],[],0⟩) ?_
 unfold aLX
 exact Ref.pt (
  .ex [2] <|
  .tx [] <|
  .ex [0,1] <|
  .gB 3 (default:Int) _ [] (oZ K a0 a1) (fun _=>rfl) fun r1 =>
  .gB 4 (default:Int) _ [] (o9 K a0 r1) (fun _=>rfl) fun r2 =>
  .ex [5] <|
  .lt _ fun x3 =>
  .ret [] _)
def aLY (K:Nat) (a0:dD) (a1:fP):Option ((Bool) ⊕ (Bool)) :=
 (bO (((a1.bP:Int) == 1) || ((a1.bP:Int) == 2)) (fun (x1:Bool)=>((cK (((a1.bP:Int) == 5) && (!x1)) (bU (aLX K a0 a1.cG true)) default).bind (fun r2=>(some (.inl ((x1 || (((a1.bP:Int) == 5) && r2)))))))))
theorem aKg (K:Nat) (a0:dD) (a1:fP):bR Tryz.prog 191 [.agg (dQ.cs a0),.agg (gC.cs a1)] [] (bU (aLY K a0 a1)) (fun r=>.c (.val (.bool r))) (fun r=>[]):=by
 refine bR.it Tryz.f191 (fun r=>⟨[sB 4 r],[],[],0⟩) ?_
 unfold aLY
 exact Ref.pt (
  .lt _ fun x1 =>
  .look (default:Bool) _ [] (aKf K a0 a1.cG true) (fun _=>rfl) fun r2 =>
  .ret [] _)
def aNI (K:Nat) (a0:fP):Option ((Bool) ⊕ (Bool)) :=
 (bO ((((a0.bP:Int) == 0) || ((a0.bP:Int) == 1)) || ((a0.bP:Int) == 2)) (fun (x1:Bool)=>(some (.inl (x1)))))
theorem aQX (K:Nat) (a0:fP):bR Tryz.prog 192 [.agg (gC.cs a0)] [] (bU (aNI K a0)) (fun r=>.c (.val (.bool r))) (fun r=>[]):=by
 refine bR.it Tryz.f192 (fun r=>⟨[sB 2 r],[],[],0⟩) ?_
 unfold aNI
 exact Ref.pt (
  .lt _ fun x1 =>
  .ret [] _)
def aLZ (K:Nat) (a0:dD) (a1:iI):Option ((Bool) ⊕ (Bool)) :=
 (bM (bL ((iter K (fun (dY:Int)=>(bO (decide ((dY:Int)<(Int.ofNat a1.cV.length))) (fun (l8:Bool)=>(if l8=true then (bM (bL (bW [cS dY a1.cV.length] ((cK true (bU (aLY K a0 ((a1.cV.getD (dY:Int).toNat default).cI))) default).bind (fun xC=>(if (!xC)=true then (some (.inl (Sum.inr (Sum.inr (false))))) else (some (.inr ()))))))) (fun (eZ:Unit)=>(some (.inr ((IntKind.i64.wrap (dY+1))))))) else (some (.inl (Sum.inl ()))))))) (0)).map .inl)) (fun (u16:Unit)=>((bU (aNI K a1.fH)).bind (fun r32=>(some (.inl (r32)))))))
theorem aKh (K:Nat) (a0:dD) (a1:iI):bR Tryz.prog 144 [.agg (dQ.cs a0),.agg (kT.cs a1)] [] (bU (aLZ K a0 a1)) (fun r=>.c (.val (.bool r))) (fun r=>[]):=by
 refine bR.it Tryz.f144 (fun r=>⟨[sB 4 r],[],[],0⟩) ?_
 unfold aLZ
 exact Ref.pt (
  .bk 0 (fun u16=>⟨[sP 3 0 0 0],[kT.o a1],[],0⟩) (
   .lp [0,1] (fun dY=>⟨[sP 2 0 0 0,sP 3 1 0 0,sI 5 dY],[.cells (dQ.cs a0),kT.o a1],[],0⟩) fun dY =>
   .lt _ fun l8 =>
   .ite _ (
    .bk 1 (fun eZ=>⟨[sP 2 0 0 0,sP 3 1 0 0,sI 5 dY],[.cells (dQ.cs a0),kT.o a1],[],0⟩) (
     .ex [1,3] <|
     .tx [] <|
     .mT [0,2,4,5,6] _ <|
     .gB 7 (default:Bool) _ [] (aKg K a0 ((gd a1.cV dY).cI)) (fun _=>rfl) fun xC =>
     .ex [8] <|
     .ite _ (
      .ret [] _) (
      .nil [0,1] _)) fun eZ =>
    .nil [0,1] _) (
    .ret [1] _)) fun u16 =>
  .call [] (aQX _ _) fun r32 =>
  .ret [] _)
def aDq (K:Nat) (a0:(List Bytes)):Option ((Bool) ⊕ (Bool)) :=
 (bM (bL ((iter K (fun (aCa:Int)=>(bO (decide ((aCa:Int)<(Int.ofNat a0.length))) (fun (aWh:Bool)=>(if aWh=true then (bM (bL (bM (bL ((iter K (fun (aGU:Int)=>(if (decide ((aGU:Int)<aCa))=true then (bM (bL (bW [cS aGU a0.length,cS aCa a0.length] (bO ((a0.getD (aGU:Int).toNat default) == (a0.getD (aCa:Int).toNat default)) (fun (aWi:Bool)=>(if aWi=true then (some (.inl (Sum.inr (Sum.inr (Sum.inr (Sum.inr (true))))))) else (some (.inr ()))))))) (fun (aGV:Unit)=>(some (.inr ((IntKind.i64.wrap (aGU+1))))))) else (some (.inl (Sum.inl ()))))) (0)).map .inl)) (fun (aWj:Unit)=>(some (.inr ()))))) (fun (aWk:Unit)=>(some (.inr ((IntKind.i64.wrap (aCa+1))))))) else (some (.inl (Sum.inl ()))))))) (0)).map .inl)) (fun (aNJ:Unit)=>(some (.inl (false)))))
theorem uC (K:Nat) (a0:(List Bytes)):bR Tryz.prog 145 [.c (E9.tree a0)] [] (bU (aDq K a0)) (fun r=>.c (.val (.bool r))) (fun r=>[]):=by
 refine bR.it Tryz.f145 (fun r=>⟨[sB 2 r],[],[],0⟩) ?_
 unfold aDq
 exact Ref.pt (
  .bk 0 (fun aNJ=>⟨[],[],[],0⟩) (
   .lp [] (fun aCa=>⟨[(0,.c (E9.tree a0)),sI 3 aCa],[],[],0⟩) fun aCa =>
   .lt _ fun aWh =>
   .ite _ (
    .bk 1 (fun aWk=>⟨[(0,.c (E9.tree a0)),sI 3 aCa],[],[],0⟩) (
     .bk 2 (fun aWj=>⟨[(0,.c (E9.tree a0)),sI 3 aCa],[],[],0⟩) (
      .lp [] (fun aGU=>⟨[(0,.c (E9.tree a0)),sI 3 aCa,sI 4 aGU],[],[],0⟩) fun aGU =>
      .ite _ (
       .bk 3 (fun aGV=>⟨[(0,.c (E9.tree a0)),sI 3 aCa,sI 4 aGU],[],[],0⟩) (
        .mT [0,1,2,4,5,6] _ <|
        .tx [] <|
        .ex [3,7,8] <|
        .lt _ fun aWi =>
        .ite _ (
         .ret [] _) (
         .nil [] _)) fun aGV =>
       .nil [] _) (
       .ret [] _)) fun aWj =>
     .nil [] _) fun aWk =>
    .nil [] _) (
    .ret [] _)) fun aNJ =>
  .ret [] _)
def aIQ (K:Nat) (a0:jX):Option (((List Bytes)) ⊕ ((List Bytes))) :=
 (bM (bL ((iter K (fun (dY:(List Bytes) × Int)=>(bO (decide ((dY.2:Int)<(Int.ofNat a0.bN.length))) (fun (l8:Bool)=>(if l8=true then (bM (bL (bW [cS dY.2 a0.bN.length] (bO ((a0.bN.getD (dY.2:Int).toNat default).cG) (fun (x31:Bytes)=>(bW [room ((dY.1.length+([x31].length)) * 16)] (some (.inr ((dY.1++[x31]))))))))) (fun (eZ:(List Bytes))=>(some (.inr (eZ,(IntKind.i64.wrap (dY.2+1))))))) else (some (.inl (Sum.inl (dY.1)))))))) ([],0)).map .inl)) (fun (u16:(List Bytes))=>(some (.inl (u16)))))
theorem aFS (K:Nat) (a0:jX):bR Tryz.prog 146 [.agg (iY.cs a0)] [] (bU (aIQ K a0)) (fun r=>.c (E9.tree r)) (fun r=>[]):=by
 refine bR.it Tryz.f146 (fun r=>⟨[(2,.c (E9.tree r))],[],[],0⟩) ?_
 unfold aIQ
 exact Ref.pt (
  .bk 0 (fun u16=>⟨[(3,.c (.own 0 u16.length))],[E9.row u16],[],0⟩) (
   .ad 2 0 3 E9.ty E9.w (E9.at []) <|
   .lp [0,1] (fun dY=>⟨[sP 1 0 0 0,(3,.c (.own 1 dY.1.length)),sI 4 dY.2],[iY.o a0,E9.row dY.1],[],0⟩) fun dY =>
   .lt _ fun l8 =>
   .ite _ (
    .bk 1 (fun eZ=>⟨[sP 1 0 0 0,(3,.c (.own 1 eZ.length)),sI 4 dY.2],[iY.o a0,E9.row eZ],[],0⟩) (
     .ck _ <|
     .lt _ fun x31 =>
     .ob 5 2 2 (x:=.row 9 1 1 (hG [[.str x31]])) (y:=(E9.row [x31])) (El.bZ E9 [x31] rfl (by kernel_rfl)) <|
     .sl 5 2 19 (x:=.c (.own 2 1)) (y:=(.c (.own 2 ([x31].length)))) (eG.c (eD.own (by first | (simp;done) | (simp;omega) | omega))) <|
     .ck _ <|
     .ob 5 1 3 (x:=.row 9 1 (dY.1.length+([x31].length)) fun i j=>bif Nat.blt i dY.1.length then E9.at dY.1 i j else (E9.at [x31]) (i - dY.1.length) j) (y:=(E9.row (dY.1++[x31]))) (El.cH E9 dY.1 [x31] rfl rfl) <|
     .sl 5 1 20 (x:=.c (.own 3 (dY.1.length+([x31].length)))) (y:=(.c (.own 3 ((dY.1++[x31]).length)))) (eG.c (eD.own (by first | (simp;done) | (simp;omega) | omega))) <|
     .nil [0,3] _) fun eZ =>
    .nil [0,1] _) (
    .ret [1] _)) fun u16 =>
  .fz 6 0 0 <|
  .ret [] _)
def aGW (K:Nat) (a0:(List fG)):Option (((List Bytes)) ⊕ ((List Bytes))) :=
 (bM (bL ((iter K (fun (vA:(List Bytes) × Int)=>(bO (decide ((vA.2:Int)<(Int.ofNat a0.length))) (fun (x16:Bool)=>(if x16=true then (bM (bL (bW [cS vA.2 a0.length] (bW [room ((vA.1.length+([(a0.getD (vA.2:Int).toNat default).cG].length)) * 16)] (some (.inr ((vA.1++[(a0.getD (vA.2:Int).toNat default).cG]))))))) (fun (gW:(List Bytes))=>(some (.inr (gW,(IntKind.i64.wrap (vA.2+1))))))) else (some (.inl (Sum.inl (vA.1)))))))) ([],0)).map .inl)) (fun (u9:(List Bytes))=>(some (.inl (u9)))))
theorem aCA (K:Nat) (a0:(List fG)):bR Tryz.prog 147 [.c (eU.tree a0)] [] (bU (aGW K a0)) (fun r=>.c (E9.tree r)) (fun r=>[]):=by
 refine bR.it Tryz.f147 (fun r=>⟨[(2,.c (E9.tree r))],[],[],0⟩) ?_
 unfold aGW
 exact Ref.pt (
  .bk 0 (fun u9=>⟨[(3,.c (.own 0 u9.length))],[E9.row u9],[],0⟩) (
   .ad 2 0 3 E9.ty E9.w (E9.at []) <|
   .lp [0] (fun vA=>⟨[(0,.c (eU.tree a0)),(3,.c (.own 0 vA.1.length)),sI 4 vA.2],[E9.row vA.1],[],0⟩) fun vA =>
   .lt _ fun x16 =>
   .ite _ (
    .bk 1 (fun gW=>⟨[(0,.c (eU.tree a0)),(3,.c (.own 0 gW.length)),sI 4 vA.2],[E9.row gW],[],0⟩) (
     .ck _ <|
     .ob 5 2 1 (x:=.row 9 1 1 (hG [[.str ((gd a0 vA.2).cG)]])) (y:=(E9.row [(gd a0 vA.2).cG])) (El.bZ E9 [(gd a0 vA.2).cG] rfl (by kernel_rfl)) <|
     .sl 5 2 17 (x:=.c (.own 1 1)) (y:=(.c (.own 1 ([(gd a0 vA.2).cG].length)))) (eG.c (eD.own (by first | (simp;done) | (simp;omega) | omega))) <|
     .ck _ <|
     .ob 5 1 2 (x:=.row 9 1 (vA.1.length+([(gd a0 vA.2).cG].length)) fun i j=>bif Nat.blt i vA.1.length then E9.at vA.1 i j else (E9.at [(gd a0 vA.2).cG]) (i - vA.1.length) j) (y:=(E9.row (vA.1++[(gd a0 vA.2).cG]))) (El.cH E9 vA.1 [(gd a0 vA.2).cG] rfl rfl) <|
     .sl 5 1 18 (x:=.c (.own 2 (vA.1.length+([(gd a0 vA.2).cG].length)))) (y:=(.c (.own 2 ((vA.1++[(gd a0 vA.2).cG]).length)))) (eG.c (eD.own (by first | (simp;done) | (simp;omega) | omega))) <|
     .nil [2] _) fun gW =>
    .nil [0] _) (
    .ret [0] _)) fun u9 =>
  .fz 6 0 0 <|
  .ret [] _)
def aNK (K:Nat) (a0:dD) (a1:jX):Option ((Int) ⊕ (Int)) :=
 (bM (bL ((iter K (fun (dY:Int)=>(bO (decide ((dY:Int)<(Int.ofNat a1.bN.length))) (fun (l8:Bool)=>(if l8=true then (bM (bL (bW [cS dY a1.bN.length] ((cK true (bU (aLZ K a0 (a1.bN.getD (dY:Int).toNat default))) default).bind (fun xC=>(if (!xC)=true then (some (.inl (Sum.inr (Sum.inr (9))))) else (some (.inr ()))))))) (fun (eZ:Unit)=>(some (.inr ((IntKind.i64.wrap (dY+1))))))) else (some (.inl (Sum.inl ()))))))) (0)).map .inl)) (fun (u16:Unit)=>((bU (aIQ K a1)).bind (fun r32=>((bU (aDq K r32)).bind (fun xD=>(bM (bL ((iter K (fun (u63:Bool × Int)=>(bO (decide ((u63.2:Int)<(Int.ofNat a1.bN.length))) (fun (x71:Bool)=>(if x71=true then (bM (bL (bW [!(!u63.1) || cS u63.2 a1.bN.length] ((cK (!u63.1) (bU (aGW K ((a1.bN.getD (u63.2:Int).toNat default).cV))) default).bind (fun r75=>((cK (!u63.1) (bU (aDq K r75)) default).bind (fun r76=>(some (.inr ((u63.1 || r76)))))))))) (fun (u74:Bool)=>(some (.inr (u74,(IntKind.i64.wrap (u63.2+1))))))) else (some (.inl (Sum.inl (u63.1)))))))) (xD,0)).map .inl)) (fun (u55:Bool)=>(if u55=true then (some (.inl (6))) else (some (.inl (0))))))))))))
theorem aQY (K:Nat) (a0:dD) (a1:jX):bR Tryz.prog 117 [.agg (dQ.cs a0),.agg (iY.cs a1)] [] (bU (aNK K a0 a1)) (fun r=>.c (.val (.int .i64 r))) (fun r=>[]):=by
 refine bR.it Tryz.f117 (fun r=>⟨[sI 4 r],[],[],0⟩) ?_
 unfold aNK
 exact Ref.pt (
  .bk 0 (fun u16=>⟨[sP 3 0 0 0],[iY.o a1],[],0⟩) (
   .lp [0,1] (fun dY=>⟨[sP 2 0 0 0,sP 3 1 0 0,sI 5 dY],[.cells (dQ.cs a0),iY.o a1],[],0⟩) fun dY =>
   .lt _ fun l8 =>
   .ite _ (
    .bk 1 (fun eZ=>⟨[sP 2 0 0 0,sP 3 1 0 0,sI 5 dY],[.cells (dQ.cs a0),iY.o a1],[],0⟩) (
     .ex [1,3] <|
     .tx [] <|
     .mT [0,2,4,5] _ <|
     .gB 6 (default:Bool) _ [] (aKh K a0 (gd a1.bN dY)) (fun _=>rfl) fun xC =>
     .ex [7] <|
     .ite _ (
      .ret [] _) (
      .nil [0,1] _)) fun eZ =>
    .nil [0,1] _) (
    .ret [1] _)) fun u16 =>
  .call [] (aFS _ _) fun r32 =>
  .call [] (uC _ _) fun xD =>
  .bk 2 (fun u55=>⟨[sB 6 u55],[],[],0⟩) (
   .lp [0] (fun u63=>⟨[sP 3 0 0 0,sB 6 u63.1,sI 7 u63.2],[iY.o a1],[],0⟩) fun u63 =>
   .lt _ fun x71 =>
   .ite _ (
    .bk 3 (fun u74=>⟨[sP 3 0 0 0,sB 6 u74,sI 7 u63.2],[iY.o a1],[],0⟩) (
     .ck _ <|
     .yA (default:(List Bytes)) _ (aCA K ((gd a1.bN u63.2).cV)) fun r75 =>
     .look (default:Bool) _ [] (uC K r75) (fun _=>rfl) fun r76 =>
     .nil [0] _) fun u74 =>
    .nil [0] _) (
    .ret [] _)) fun u55 =>
  .ite _ (
   .ret [] _) (
   .ret [] _))
def aL0 (K:Nat) (a0:fG):Option ((Bool) ⊕ (Bool)) :=
 (bM (bL (if ((a0.cI.bP:Int) == 1)=true then (bO ((decide ((a0.fY:Int) ≥ (-32768))) && (decide ((a0.fY:Int)≤32767))) (fun (x5:Bool)=>(some (.inl (Sum.inr (x5)))))) else (if ((a0.cI.bP:Int) == 2)=true then (bO (((a0.fY:Int) == 0) || ((a0.fY:Int) == 1)) (fun (x6:Bool)=>(some (.inl (Sum.inr (x6)))))) else (if ((a0.cI.bP:Int) == 3)=true then (bO ((decide ((a0.fY:Int) ≥ a0.cI.fLo)) && (decide ((a0.fY:Int)≤a0.cI.vG))) (fun (x7:Bool)=>(some (.inl (Sum.inr (x7)))))) else (some (.inr ())))))) (fun (u4:Unit)=>(some (.inl (((a0.fY:Int) == 0))))))
theorem aKi (K:Nat) (a0:fG):bR Tryz.prog 155 [.agg (eU.cs a0)] [] (bU (aL0 K a0)) (fun r=>.c (.val (.bool r))) (fun r=>[]):=by
 refine bR.it Tryz.f155 (fun r=>⟨[sB 2 r],[],[],0⟩) ?_
 unfold aL0
 exact Ref.pt (
  .bk 0 (fun u4=>⟨[sP 1 0 0 0],[eU.o a0],[],0⟩) (
   .ite _ (
    .lt _ fun x5 =>
    .ret [] _) (
    .ite _ (
     .lt _ fun x6 =>
     .ret [] _) (
     .ite _ (
      .lt _ fun x7 =>
      .ret [] _) (
      .nil [0] _)))) fun u4 =>
  .ret [] _)
def aL1 (K:Nat) (a0:dD) (a1:fP):Option ((Bool) ⊕ (Bool)) :=
 ((bU (aLY K a0 a1)).bind (fun r1=>(bO ((r1 || (((((a1.bP:Int) == 3) && (decide ((a1.fLo:Int) ≥ (-32768)))) && (decide ((a1.vG:Int)≤32767))) && (decide ((a1.fLo:Int)≤a1.vG)))) || ((((a1.bP:Int) == 4) && (decide ((a1.vG:Int) ≥ 0))) && (decide ((a1.vG:Int)<8)))) (fun (x2:Bool)=>(some (.inl (x2)))))))
theorem aKj (K:Nat) (a0:dD) (a1:fP):bR Tryz.prog 193 [.agg (dQ.cs a0),.agg (gC.cs a1)] [] (bU (aL1 K a0 a1)) (fun r=>.c (.val (.bool r))) (fun r=>[]):=by
 refine bR.it Tryz.f193 (fun r=>⟨[sB 4 r],[],[],0⟩) ?_
 unfold aL1
 exact Ref.pt (
  .call [] (aKg _ _ _) fun r1 =>
  .lt _ fun x2 =>
  .ret [] _)
def aNL (K:Nat) (a0:dD) (a1:jX):Option ((Int) ⊕ (Int)) :=
 (bW [room (a1.cU.length * 80)] (bM (bL ((iter K (fun (lY:(List fG) × Int)=>(bO (decide ((lY.2:Int)<(Int.ofNat a1.bN.length))) (fun (aWm:Bool)=>(if aWm=true then (bM (bL (bW [cS lY.2 a1.bN.length] ((bU (aLZ K a0 (a1.bN.getD (lY.2:Int).toNat default))).bind (fun aWn=>(if (!aWn)=true then (some (.inl (Sum.inr (Sum.inr (9))))) else (bM (bL ((iter K (fun (aGX:Int)=>(bO (decide ((aGX:Int)<(Int.ofNat ((a1.bN.getD (lY.2:Int).toNat default).cV).length))) (fun (aWo:Bool)=>(if aWo=true then (bM (bL (bW [cS aGX ((a1.bN.getD (lY.2:Int).toNat default).cV).length] (bO ((((((a1.bN.getD (lY.2:Int).toNat default).cV).getD (aGX:Int).toNat default).l9):Int) != 0) (fun (aWp:Bool)=>(if aWp=true then (some (.inl (Sum.inr (Sum.inr (Sum.inr (Sum.inr (9))))))) else (some (.inr ()))))))) (fun (aWq:Unit)=>(some (.inr ((IntKind.i64.wrap (aGX+1))))))) else (some (.inl (Sum.inl ()))))))) (0)).map .inl)) (fun (aWr:Unit)=>(bO ((a1.bN.getD (lY.2:Int).toNat default).cU) (fun (aFT:(List fG))=>(bW [room ((lY.1.length+aFT.length) * 80)] (some (.inr ((lY.1++aFT)))))))))))))) (fun (aNM:(List fG))=>(some (.inr (aNM,(IntKind.i64.wrap (lY.2+1))))))) else (some (.inl (Sum.inl (lY.1)))))))) (a1.cU,0)).map .inl)) (fun (qP:(List fG))=>(bM (bL ((iter K (fun (aDs:Int)=>(bO (decide ((aDs:Int)<(Int.ofNat qP.length))) (fun (aWs:Bool)=>(if aWs=true then (bM (bL (bW [cS aDs qP.length] ((cK true (bU (aL1 K a0 ((qP.getD ((aDs:Int).toNat) default).cI))) default).bind (fun aT9=>(bW [!(!(!aT9)) || cS aDs qP.length] (bO ((!aT9) || ((((qP.getD ((aDs:Int).toNat) default).l9):Int) != 0)) (fun (aWt:Bool)=>(if aWt=true then (some (.inl (Sum.inr (Sum.inr (9))))) else (some (.inr ())))))))))) (fun (aWu:Unit)=>(some (.inr ((IntKind.i64.wrap (aDs+1))))))) else (some (.inl (Sum.inl ()))))))) (0)).map .inl)) (fun (aWv:Unit)=>(bM (bL ((iter K (fun (aGY:Int)=>(bO (decide ((aGY:Int)<(Int.ofNat qP.length))) (fun (aWw:Bool)=>(if aWw=true then (bM (bL (bW [cS aGY qP.length] ((bU (aL0 K (qP.getD ((aGY:Int).toNat) default))).bind (fun aWx=>(if (!aWx)=true then (some (.inl (Sum.inr (Sum.inr (10))))) else (some (.inr ()))))))) (fun (aWy:Unit)=>(some (.inr ((IntKind.i64.wrap (aGY+1))))))) else (some (.inl (Sum.inl ()))))))) (0)).map .inl)) (fun (aEG:Unit)=>(some (.inl (0))))))))))
abbrev aFU (v0:(List fG) × Int):List (Nat × D):=[sP 2 0 0 0,sP 3 1 0 0,(5,.c (.own 2 v0.1.length)),sI 6 v0.2]
theorem aQZ (K:Nat) (a0:dD) (a1:jX):bR Tryz.prog 148 [.agg (dQ.cs a0),.agg (iY.cs a1)] [] (bU (aNL K a0 a1)) (fun r=>.c (.val (.int .i64 r))) (fun r=>[]):=by
 refine bR.it Tryz.f148 (fun r=>⟨[sI 4 r],[],[],0⟩) ?_
 unfold aNL
 exact Ref.pt (
  .ck _ <|
  .bk 0 (fun qP=>⟨[sP 2 0 0 0,(5,.c (.own 1 qP.length))],[.cells (dQ.cs a0),eU.row qP],[],0⟩) (
   .lp [0,1,2] (fun lY=>⟨aFU lY,[.cells (dQ.cs a0),iY.o a1,eU.row lY.1],[],0⟩) fun lY =>
   .lt _ fun aWm =>
   .ite _ (
    .bk 1 (fun aNM=>⟨[sP 2 0 0 0,sP 3 1 0 0,(5,.c (.own 2 aNM.length)),sI 6 lY.2],[.cells (dQ.cs a0),iY.o a1,eU.row aNM],[],0⟩) (
     .ck _ <|
     .call [] (aKh _ _ _) fun aWn =>
     .ite _ (
      .ret [] _) (
      .bk 2 (fun aWr=>⟨aFU lY++[sP 7 3 0 0],[.cells (dQ.cs a0),iY.o a1,eU.row lY.1,kT.o (gd a1.bN lY.2)],[],0⟩) (
       .lp [0,1,2,3] (fun aGX=>⟨aFU lY++[sP 7 3 0 0,sI 8 aGX],[.cells (dQ.cs a0),iY.o a1,eU.row lY.1,kT.o (gd a1.bN lY.2)],[],0⟩) fun aGX =>
       .lt _ fun aWo =>
       .ite _ (
        .bk 3 (fun aWq=>⟨aFU lY++[sP 7 3 0 0,sI 8 aGX],[.cells (dQ.cs a0),iY.o a1,eU.row lY.1,kT.o (gd a1.bN lY.2)],[],0⟩) (
         .ck _ <|
         .lt _ fun aWp =>
         .ite _ (
          .ret [] _) (
          .nil [0,1,2,3] _)) fun aWq =>
        .nil [0,1,2,3] _) (
        .ret [0,1,2,3] _)) fun aWr =>
      .lt _ fun aFT =>
      .ck _ <|
      .ob 13 1 4 (x:=.row 41 8 (lY.1.length+aFT.length) fun i j=>bif Nat.blt i lY.1.length then eU.at lY.1 i j else (eU.at aFT) (i - lY.1.length) j) (y:=(eU.row (lY.1++aFT))) (El.cH eU lY.1 aFT rfl rfl) <|
      .sl 13 1 47 (x:=.c (.own 4 (lY.1.length+aFT.length))) (y:=(.c (.own 4 ((lY.1++aFT).length)))) (eG.c (eD.own (by first | (simp;done) | (simp;omega) | omega))) <|
      .nil [0,1,4] _)) fun aNM =>
    .nil [0,1,2] _) (
    .ret [0,2] _)) fun qP =>
  .bk 4 (fun aWv=>⟨[(5,.c (.own 0 qP.length))],[eU.row qP],[],0⟩) (
   .lp [0,1] (fun aDs=>⟨[sP 2 0 0 0,(5,.c (.own 1 qP.length)),sI 9 aDs],[.cells (dQ.cs a0),eU.row qP],[],0⟩) fun aDs =>
   .lt _ fun aWs =>
   .ite _ (
    .bk 5 (fun aWu=>⟨[sP 2 0 0 0,(5,.c (.own 1 qP.length)),sI 9 aDs],[.cells (dQ.cs a0),eU.row qP],[],0⟩) (
     .mT [1,2,3,4] _ <|
     .tx [] <|
     .ex [0,5] <|
     .gB 6 (default:Bool) _ [] (aKj K a0 ((qP.getD ((aDs:Int).toNat) default).cI)) (fun _=>rfl) fun aT9 =>
     .mT [7,8,9,10,11,12,13,14,15] _ <|
     .lt _ fun aWt =>
     .ite _ (
      .ret [] _) (
      .nil [0,1] _)) fun aWu =>
    .nil [0,1] _) (
    .ret [1] _)) fun aWv =>
  .bk 6 (fun aEG=>⟨[],[],[],0⟩) (
   .lp [0] (fun aGY=>⟨[(5,.c (.own 0 qP.length)),sI 10 aGY],[eU.row qP],[],0⟩) fun aGY =>
   .lt _ fun aWw =>
   .ite _ (
    .bk 7 (fun aWy=>⟨[(5,.c (.own 0 qP.length)),sI 10 aGY],[eU.row qP],[],0⟩) (
     .ck _ <|
     .call [] (aKi _ _) fun aWx =>
     .ite _ (
      .ret [] _) (
      .nil [0] _)) fun aWy =>
    .nil [0] _) (
    .ret [] _)) fun aEG =>
  .ret [] _)
def aNN (K:Nat) (a0:dD) (a1:Int):Option ((Bool) ⊕ (Bool)) :=
 (bW [cS a1 a0.bK.length] (bO (((a0.bK.getD (a1:Int).toNat default).eN) && ((a0.bK.getD (a1:Int).toNat default).wD)) (fun (x1:Bool)=>(if x1=true then (some (.inl (true))) else (bM (bL ((iter K (fun (kD:Int)=>(bO (decide ((kD:Int)<(Int.ofNat ((a0.bK.getD (a1:Int).toNat default).bN).length))) (fun (iW:Bool)=>(if iW=true then (bM (bL (bW [cS kD ((a0.bK.getD (a1:Int).toNat default).bN).length] (bO (((((a0.bK.getD (a1:Int).toNat default).bN).getD (kD:Int).toNat default).eN) && (((((((a0.bK.getD (a1:Int).toNat default).bN).getD (kD:Int).toNat default).wD) || (decide (((Int.ofNat ((((a0.bK.getD (a1:Int).toNat default).bN).getD (kD:Int).toNat default).cU).length):Int) > 0))) || (decide (((Int.ofNat ((((a0.bK.getD (a1:Int).toNat default).bN).getD (kD:Int).toNat default).uV).length):Int) > 0))) || (!((a0.bK.getD (a1:Int).toNat default).eN)))) (fun (x32:Bool)=>(if x32=true then (some (.inl (Sum.inr (Sum.inr (true))))) else (some (.inr ()))))))) (fun (yW:Unit)=>(some (.inr ((IntKind.i64.wrap (kD+1))))))) else (some (.inl (Sum.inl ()))))))) (0)).map .inl)) (fun (gW:Unit)=>((bU (aDo K a0 a1)).bind (fun xD=>(bM (bL ((iter K (fun (pV:Int)=>(bO ((decide ((pV:Int)<(Int.ofNat xD.length))) && (!((a0.bK.getD (a1:Int).toNat default).eN))) (fun (aWz:Bool)=>(if aWz=true then (bM (bL (bW [cS pV xD.length] (bW [cS (xD.getD (pV:Int).toNat default) a0.bK.length] ((bU (aIQ K (a0.bK.getD ((xD.getD (pV:Int).toNat default):Int).toNat default))).bind (fun rK=>(bM (bL ((iter K (fun (pW:Int)=>(bO (decide ((pW:Int)<(Int.ofNat rK.length))) (fun (aUa:Bool)=>(if aUa=true then (bM (bL (bW [cS pW rK.length] ((bU (aEF K a0 a1 (rK.getD (pW:Int).toNat default))).bind (fun nL=>((bU (F63 K a0 nL.1)).bind (fun aQ0=>(if aQ0.eN=true then (some (.inl (Sum.inr (Sum.inr (Sum.inr (Sum.inr (true))))))) else (some (.inr ()))))))))) (fun (aWA:Unit)=>(some (.inr ((IntKind.i64.wrap (pW+1))))))) else (some (.inl (Sum.inl ()))))))) (0)).map .inl)) (fun (aWB:Unit)=>(some (.inr ()))))))))) (fun (aWC:Unit)=>(some (.inr ((IntKind.i64.wrap (pV+1))))))) else (some (.inl (Sum.inl ()))))))) (0)).map .inl)) (fun (aWD:Unit)=>(some (.inl (false)))))))))))))
abbrev nD (v0:Int) (v1:(List Int)) (v2:Int) (v3:(List Bytes)) (v4:Int):List (Nat × D):=[sI 1 v0,sP 2 0 0 0,sP 5 1 0 0,(8,.c (E3.tree v1)),sI 9 v2,(10,.c (E9.tree v3)),sI 11 v4]
abbrev kE (v0:dD) (v1:Int):List Go.Dl.Obj:=[.cells (dQ.cs v0),iY.o (gd v0.bK v1)]
abbrev aDt (v0:dX × Bool):List (Nat × D):=[(89,.iV [.agg (dS.cs v0.1),.c (bC v0.2)]),(97,.agg (dS.cs v0.1))]
theorem aQ1 (K:Nat) (a0:dD) (a1:Int):bR Tryz.prog 150 [.agg (dQ.cs a0),.c (.val (.int .i64 a1))] [] (bU (aNN K a0 a1)) (fun r=>.c (.val (.bool r))) (fun r=>[]):=by
 refine bR.it Tryz.f150 (fun r=>⟨[sB 4 r],[],[],0⟩) ?_
 unfold aNN
 exact Ref.pt (
  .ck _ <|
  .lt _ fun x1 =>
  .ite _ (
   .ret [] _) (
   .bk 0 (fun gW=>⟨[sI 1 a1,sP 2 0 0 0,sP 5 1 0 0],kE a0 a1,[],0⟩) (
    .lp [0,1] (fun kD=>⟨[sI 1 a1,sP 2 0 0 0,sP 5 1 0 0,sI 6 kD],kE a0 a1,[],0⟩) fun kD =>
    .lt _ fun iW =>
    .ite _ (
     .bk 1 (fun yW=>⟨[sI 1 a1,sP 2 0 0 0,sP 5 1 0 0,sI 6 kD],kE a0 a1,[],0⟩) (
      .ck _ <|
      .lt _ fun x32 =>
      .ite _ (
       .ret [] _) (
       .nil [0,1] _)) fun yW =>
     .nil [0,1] _) (
     .ret [0,1] _)) fun gW =>
   .call [] (uB _ _ _) fun xD =>
   .bk 2 (fun aWD=>⟨[],[],[],0⟩) (
    .lp [0,1] (fun pV=>⟨[sI 1 a1,sP 2 0 0 0,sP 5 1 0 0,(8,.c (E3.tree xD)),sI 9 pV],kE a0 a1,[],0⟩) fun pV =>
    .lt _ fun aWz =>
    .ite _ (
     .bk 3 (fun aWC=>⟨[sI 1 a1,sP 2 0 0 0,sP 5 1 0 0,(8,.c (E3.tree xD)),sI 9 pV],kE a0 a1,[],0⟩) (
      .mT [0,2,3,4] _ <|
      .tx [8,9] <|
      .mT [1,5,6,7] _ <|
      .tl [8,9] <|
      .call [] (aFS _ _) fun rK =>
      .bk 4 (fun aWB=>⟨[sI 1 a1,sP 2 0 0 0,sP 5 1 0 0,(8,.c (E3.tree xD)),sI 9 pV],kE a0 a1,[],0⟩) (
       .lp [0,1] (fun pW=>⟨nD a1 xD pV rK pW,kE a0 a1,[],0⟩) fun pW =>
       .lt _ fun aUa =>
       .ite _ (
        .bk 5 (fun aWA=>⟨nD a1 xD pV rK pW,kE a0 a1,[],0⟩) (
         .esc [0,1] [(cd (bd Tryz.f150) [1,1,1,1,1,0,1,0,0,1,0,0,1,1,0,0,1,0,0,0]),(cd (bd Tryz.f150) [1,1,1,1,1,0,1,0,0,1,0,0,1,1,0,0,1,0,0,1])] ⟨nD a1 xD pV rK pW++[sB 86 aUa],kE a0 a1,[],0⟩ (by
          refine Ref.eR 18 (by kernel_rfl) (by kernel_rfl) ?_
          refine dV.evC (vs:=[cS pW rK.length]) (cR:=⟨nD a1 xD pV rK pW++[sI 91 a1,(94,.c (E9.ep (gd rK pW) 0))],kE a0 a1,[],0⟩) (fuel':=9) [1,2,3,4] [1,2,5,8,9,10,11,91,94] [0,1] rfl (by kernel_rfl) (by kernel_rfl) ?_
          refine dV.rG [6,11] ?_
          refine bQ.iD (fun (nL:dX × Bool)=>⟨nD a1 xD pV rK pW++[sP 12 2 0 0],kE a0 a1++[.cells (dS.cs nL.1)],[],0⟩) (fun (nL:dX × Bool)=>((bU (F63 K a0 nL.1)).bind (fun aQ0=>(if aQ0.eN=true then (some (.inl (Sum.inr (Sum.inr (Sum.inr (Sum.inr (true))))))) else (some (.inr ())))))) (fun nL=>?_) (fun hk=>?_)
          ·
           exact Ref.pt (
            .call [] (aDp _ _ _) fun aQ0 =>
            .ite _ (
             .ret [] _) (
             .nil [0,1] _))
          ·
           refine bQ.v0 (fuel':=7) [0,5] [1,2,5,8,9,10,11,90,91,95] [0,1] ?_
           refine bQ.lW (fuel':=6) 6 10 (by kernel_rfl) ?_ ?_
           ·
            refine cE.cF (t:=96) 6 [] rfl (by kernel_rfl) (pU K a0 a1 (gd rK pW)) (fun nL=>?_)
            refine bQ.fE (cR:=⟨nD a1 xD pV rK pW++aDt nL,kE a0 a1,[],0⟩) (fuel':=4) [7,8] [1,2,5,8,9,10,11,89,97] [0,1] rfl (by kernel_rfl) (by kernel_rfl) ?_
            refine bQ.iT (fuel':=3) [[],[(9,98)]] [(9,98)] [1,2,5,8,9,10,11,89,97] [0,1] ⟨nD a1 xD pV rK pW++aDt nL++[sB 98 nL.2],kE a0 a1,[],0⟩ ?_
            refine cQ.cP (fuel':=2) 10 ?_
            refine dP.kC (cR:=⟨nD a1 xD pV rK pW++(sP 12 2 0 0::(aDt nL++[sB 98 nL.2])),kE a0 a1++[.cells [iC 0,iC 0]],[],0⟩) 10 [1,2,5,8,9,10,11,12,89,97,98] [0,1,2] (by kernel_rfl) (by kernel_rfl) ?_
            refine cQ.cP (fuel':=1) 11 ?_
            refine dP.iA (cR:=⟨nD a1 xD pV rK pW++[sP 12 2 0 0,(89,.iV [.agg (dS.cs nL.1),.c (bC nL.2)]),sB 98 nL.2],kE a0 a1++[.cells (dS.cs nL.1)],[],0⟩) 11 [1,2,5,8,9,10,11,12,89,98] [0,1,2] (by kernel_rfl) (by kernel_rfl) ?_
            refine cQ.close ?_
            refine bQ.v0 (fuel':=0) [12] [1,2,5,8,9,10,11,12] [0,1,2] ?_
            refine bQ.done (by kernel_rfl) ?_
            refine Ref.ck ⟨nD a1 xD pV rK pW++[sP 12 2 0 0],kE a0 a1++[.cells (dS.cs nL.1)],[],0⟩ [1,2,5,8,9,10,11,12] [0,1,2] ?_
            exact hk nL
           ·
            refine cE.a0 10 [1,2,5,8,9,10,11,12,90,91,95] [0,1,2] ?_
            refine bQ.cP (fuel':=5) 6 (by kernel_rfl) ?_
            refine cE.cF (t:=96) 6 [] rfl (by kernel_rfl) (pU K a0 a1 (gd rK pW)) (fun nL=>?_)
            refine bQ.fE (cR:=⟨nD a1 xD pV rK pW++(sP 12 2 0 0::aDt nL),kE a0 a1++[.cells [iC 0,iC 0]],[],0⟩) (fuel':=3) [7,8] [1,2,5,8,9,10,11,12,89,97] [0,1,2] rfl (by kernel_rfl) (by kernel_rfl) ?_
            refine bQ.iT (fuel':=2) [[],[(9,98)]] [(9,98)] [1,2,5,8,9,10,11,12,89,97] [0,1,2] ⟨nD a1 xD pV rK pW++(sP 12 2 0 0::(aDt nL++[sB 98 nL.2])),kE a0 a1++[.cells [iC 0,iC 0]],[],0⟩ ?_
            refine cQ.cP (fuel':=1) 11 ?_
            refine dP.iA (cR:=⟨nD a1 xD pV rK pW++[sP 12 2 0 0,(89,.iV [.agg (dS.cs nL.1),.c (bC nL.2)]),sB 98 nL.2],kE a0 a1++[.cells (dS.cs nL.1)],[],0⟩) 11 [1,2,5,8,9,10,11,12,89,98] [0,1,2] (by kernel_rfl) (by kernel_rfl) ?_
            refine cQ.close ?_
            refine bQ.v0 (fuel':=0) [12] [1,2,5,8,9,10,11,12] [0,1,2] ?_
            refine bQ.done (by kernel_rfl) ?_
            refine Ref.ck ⟨nD a1 xD pV rK pW++[sP 12 2 0 0],kE a0 a1++[.cells (dS.cs nL.1)],[],0⟩ [1,2,5,8,9,10,11,12] [0,1,2] ?_
            exact hk nL)) fun aWA =>
        .nil [0,1] _) (
        .ret [0,1] _)) fun aWB =>
      .nil [0,1] _) fun aWC =>
     .nil [0,1] _) (
     .ret [] _)) fun aWD =>
   .ret [] _))
def aNO (K:Nat) (a0:dD) (a1:Int):Option ((Bool) ⊕ (Bool)) :=
 (bW [cS a1 a0.bK.length] ((bU (aDo K a0 a1)).bind (fun r1=>(bM (bL ((iter K (fun (jJ:Int)=>(bO (decide ((jJ:Int)<(Int.ofNat ((a0.bK.getD (a1:Int).toNat default).bN).length))) (fun (aWE:Bool)=>(if aWE=true then (bM (bL (bW [cS jJ ((a0.bK.getD (a1:Int).toNat default).bN).length] (bM (if (decide (((Int.ofNat r1.length):Int) > 1))=true then (bW [cS 1 r1.length] ((bU (aEF K a0 (r1.getD (1:Int).toNat default) ((((a0.bK.getD (a1:Int).toNat default).bN).getD (jJ:Int).toNat default).cG))).bind (fun kF=>(if kF.2=true then ((bU (F63 K a0 kF.1)).bind (fun pF=>(some (.inr (true,pF))))) else (some (.inr (false,(⟨([]:Bytes),false,false,false,[],(⟨0,0,0,([]:Bytes)⟩:fP),[],[]⟩:iI)))))))) else (some (.inr (false,(⟨([]:Bytes),false,false,false,[],(⟨0,0,0,([]:Bytes)⟩:fP),[],[]⟩:iI))))) (fun (sY:Bool × iI)=>(bO (!(((((a0.bK.getD (a1:Int).toNat default).bN).getD (jJ:Int).toNat default).aES) == sY.1)) (fun (aL2:Bool)=>((cK ((!sY.2.wD) && (sY.1 && (!aL2))) (bU (aGS K (((a0.bK.getD (a1:Int).toNat default).bN).getD (jJ:Int).toNat default) sY.2)) default).bind (fun aNP=>(bO (aL2 || (sY.1 && (sY.2.wD || (!aNP)))) (fun (aWF:Bool)=>(if aWF=true then (some (.inl (Sum.inr (Sum.inr (true))))) else (some (.inr ()))))))))))))) (fun (aWG:Unit)=>(some (.inr ((IntKind.i64.wrap (jJ+1))))))) else (some (.inl (Sum.inl ()))))))) (0)).map .inl)) (fun (rW:Unit)=>(some (.inl (false))))))))
abbrev pG (v0:(List Int)) (v1:Int):List (Nat × D):=[sP 2 0 0 0,sP 5 1 0 0,(6,.c (E3.tree v0)),sI 7 v1,sP 8 2 0 0,sB 9 false,sP 10 3 0 0]
abbrev nW (v0:dD) (v1:Int) (v2:Int):List Go.Dl.Obj:=[.cells (dQ.cs v0),iY.o (gd v0.bK v1),kT.o (gd ((gd v0.bK v1).bN) v2)]
abbrev aDu (v0:dX × Bool):List (Nat × D):=[(36,.iV [.agg (dS.cs v0.1),.c (bC v0.2)]),(44,.agg (dS.cs v0.1))]
theorem aQ2 (K:Nat) (a0:dD) (a1:Int):bR Tryz.prog 151 [.agg (dQ.cs a0),.c (.val (.int .i64 a1))] [] (bU (aNO K a0 a1)) (fun r=>.c (.val (.bool r))) (fun r=>[]):=by
 refine bR.it Tryz.f151 (fun r=>⟨[sB 4 r],[],[],0⟩) ?_
 unfold aNO
 exact Ref.pt (
  .ck _ <|
  .call [] (uB _ _ _) fun r1 =>
  .bk 0 (fun rW=>⟨[],[],[],0⟩) (
   .lp [0,1] (fun jJ=>⟨[sP 2 0 0 0,sP 5 1 0 0,(6,.c (E3.tree r1)),sI 7 jJ],[.cells (dQ.cs a0),iY.o (gd a0.bK a1)],[],0⟩) fun jJ =>
   .lt _ fun aWE =>
   .ite _ (
    .bk 1 (fun aWG=>⟨[sP 2 0 0 0,sP 5 1 0 0,(6,.c (E3.tree r1)),sI 7 jJ],[.cells (dQ.cs a0),iY.o (gd a0.bK a1)],[],0⟩) (
     .ck _ <|
     .jn (fun sY=>⟨[sP 2 0 0 0,sP 5 1 0 0,(6,.c (E3.tree r1)),sI 7 jJ,sP 8 2 0 0,sB 9 sY.1,sP 10 3 0 0],nW a0 a1 jJ++[kT.o sY.2],[],0⟩) (
      .ite _ (
       .esc [0,1,2,3] [(cd (bd Tryz.f151) [1,1,1,0,1,0,0,1,0,0,1,1,1,0,1,0,0]),(cd (bd Tryz.f151) [1,1,1,0,1,0,0,1,0,0,1,1,1,0,1,0,1])] ⟨pG r1 jJ++[sB 35 (decide ((Int.ofNat r1.length) > 1))],nW a0 a1 jJ++[oX5],[],0⟩ (by
        refine Ref.eR 10 (by kernel_rfl) (by kernel_rfl) ?_
        refine dV.evC (vs:=[cS 1 r1.length]) (cR:=⟨pG r1 jJ++[(39,.c (E3.ep (gd r1 1) 0)),sP 41 2 0 0],nW a0 a1 jJ++[oX5],[],0⟩) (fuel':=10) [1,2,4] [2,5,6,7,8,9,10,39,41] [0,1,2,3] rfl (by kernel_rfl) (by kernel_rfl) ?_
        refine dV.rG [6,11] ?_
        refine bQ.iD (fun (kF:dX × Bool)=>⟨pG r1 jJ++[sP 11 4 0 0,sB 12 kF.2],nW a0 a1 jJ++[oX5,.cells (dS.cs kF.1)],[],0⟩) (fun (kF:dX × Bool)=>(if kF.2=true then ((bU (F63 K a0 kF.1)).bind (fun pF=>(some (.inr (true,pF))))) else (some (.inr (false,(⟨([]:Bytes),false,false,false,[],(⟨0,0,0,([]:Bytes)⟩:fP),[],[]⟩:iI)))))) (fun kF=>?_) (fun hk=>?_)
        ·
         exact Ref.pt (
          .ite _ (
           .call [] (aDp _ _ _) fun pF =>
           .nil [0,1,2,3] _) (
           .ok 11 0 3 4 (x:=.nil) (y:=eU.tree []) (El.cO eU) <|
           .ok 11 0 3 9 (x:=.nil) (y:=eU.tree []) (El.cO eU) <|
           .ok 11 0 3 10 (x:=.nil) (y:=dL.tree []) (El.cO dL) <|
           .nil [0,1,2,3] _))
        ·
         refine bQ.v0 (fuel':=7) [0,3,5] [2,5,6,7,8,9,10,37,40,42] [0,1,2,3] ?_
         refine bQ.lW (fuel':=6) 6 10 (by kernel_rfl) ?_ ?_
         ·
          refine cE.cF (t:=43) 6 [] rfl (by kernel_rfl) (pU K a0 (gd r1 1) ((gd ((gd a0.bK a1).bN) jJ).cG)) (fun kF=>?_)
          refine bQ.fE (cR:=⟨pG r1 jJ++aDu kF,nW a0 a1 jJ++[oX5],[],0⟩) (fuel':=4) [7,8] [2,5,6,7,8,9,10,36,44] [0,1,2,3] rfl (by kernel_rfl) (by kernel_rfl) ?_
          refine bQ.iT (fuel':=3) [[],[(9,45)]] [(9,45)] [2,5,6,7,8,9,10,36,44] [0,1,2,3] ⟨pG r1 jJ++aDu kF++[sB 45 kF.2],nW a0 a1 jJ++[oX5],[],0⟩ ?_
          refine cQ.cP (fuel':=2) 10 ?_
          refine dP.kC (cR:=⟨pG r1 jJ++(sP 11 4 0 0::(aDu kF++[sB 45 kF.2])),nW a0 a1 jJ++[oX5,.cells [iC 0,iC 0]],[],0⟩) 10 [2,5,6,7,8,9,10,11,36,44,45] [0,1,2,3,4] (by kernel_rfl) (by kernel_rfl) ?_
          refine cQ.cP (fuel':=1) 11 ?_
          refine dP.iA (cR:=⟨pG r1 jJ++[sP 11 4 0 0,(36,.iV [.agg (dS.cs kF.1),.c (bC kF.2)]),sB 45 kF.2],nW a0 a1 jJ++[oX5,.cells (dS.cs kF.1)],[],0⟩) 11 [2,5,6,7,8,9,10,11,36,45] [0,1,2,3,4] (by kernel_rfl) (by kernel_rfl) ?_
          refine cQ.close ?_
          refine bQ.v0 (fuel':=0) [12] [2,5,6,7,8,9,10,11,12] [0,1,2,3,4] ?_
          refine bQ.done (by kernel_rfl) ?_
          refine Ref.ck ⟨pG r1 jJ++[sP 11 4 0 0,sB 12 kF.2],nW a0 a1 jJ++[oX5,.cells (dS.cs kF.1)],[],0⟩ [2,5,6,7,8,9,10,11,12] [0,1,2,3,4] ?_
          exact hk kF
         ·
          refine cE.a0 10 [2,5,6,7,8,9,10,11,37,40,42] [0,1,2,3,4] ?_
          refine bQ.cP (fuel':=5) 6 (by kernel_rfl) ?_
          refine cE.cF (t:=43) 6 [] rfl (by kernel_rfl) (pU K a0 (gd r1 1) ((gd ((gd a0.bK a1).bN) jJ).cG)) (fun kF=>?_)
          refine bQ.fE (cR:=⟨pG r1 jJ++(sP 11 4 0 0::aDu kF),nW a0 a1 jJ++[oX5,.cells [iC 0,iC 0]],[],0⟩) (fuel':=3) [7,8] [2,5,6,7,8,9,10,11,36,44] [0,1,2,3,4] rfl (by kernel_rfl) (by kernel_rfl) ?_
          refine bQ.iT (fuel':=2) [[],[(9,45)]] [(9,45)] [2,5,6,7,8,9,10,11,36,44] [0,1,2,3,4] ⟨pG r1 jJ++(sP 11 4 0 0::(aDu kF++[sB 45 kF.2])),nW a0 a1 jJ++[oX5,.cells [iC 0,iC 0]],[],0⟩ ?_
          refine cQ.cP (fuel':=1) 11 ?_
          refine dP.iA (cR:=⟨pG r1 jJ++[sP 11 4 0 0,(36,.iV [.agg (dS.cs kF.1),.c (bC kF.2)]),sB 45 kF.2],nW a0 a1 jJ++[oX5,.cells (dS.cs kF.1)],[],0⟩) 11 [2,5,6,7,8,9,10,11,36,45] [0,1,2,3,4] (by kernel_rfl) (by kernel_rfl) ?_
          refine cQ.close ?_
          refine bQ.v0 (fuel':=0) [12] [2,5,6,7,8,9,10,11,12] [0,1,2,3,4] ?_
          refine bQ.done (by kernel_rfl) ?_
          refine Ref.ck ⟨pG r1 jJ++[sP 11 4 0 0,sB 12 kF.2],nW a0 a1 jJ++[oX5,.cells (dS.cs kF.1)],[],0⟩ [2,5,6,7,8,9,10,11,12] [0,1,2,3,4] ?_
          exact hk kF)) (
       .ok 9 0 3 4 (x:=.nil) (y:=eU.tree []) (El.cO eU) <|
       .ok 9 0 3 9 (x:=.nil) (y:=eU.tree []) (El.cO eU) <|
       .ok 9 0 3 10 (x:=.nil) (y:=dL.tree []) (El.cO dL) <|
       .nil [0,1,2,3] _)) fun sY =>
     .lt _ fun aL2 =>
     .look (default:Bool) _ [] (aJ9 K (gd ((gd a0.bK a1).bN) jJ) sY.2) (fun _=>rfl) fun aNP =>
     .lt _ fun aWF =>
     .ite _ (
      .ret [] _) (
      .nil [0,1] _)) fun aWG =>
    .nil [0,1] _) (
    .ret [] _)) fun rW =>
  .ret [] _)
def aNQ (K:Nat) (a0:dD) (a1:fP):Option ((Bool) ⊕ (Bool)) :=
 (if ((a1.bP:Int) == 6)=true then ((cK true (bU (aLX K a0 a1.cG false)) default).bind (fun r1=>((cK r1 (bU (F61 K a0 a1.cG)) default).bind (fun r2=>(bW [!r1 || cS r2 a0.bK.length] (bO (r1 && (!((a0.bK.getD (r2:Int).toNat default).eN))) (fun (x3:Bool)=>(some (.inl (x3)))))))))) else ((bU (aL1 K a0 a1)).bind (fun r4=>(bO (r4 || ((((a1.bP:Int) == 7) && (decide ((a1.fLo:Int) ≥ 1))) && (decide ((a1.fLo:Int)≤7)))) (fun (x5:Bool)=>(some (.inl (x5))))))))
theorem aQ3 (K:Nat) (a0:dD) (a1:fP):bR Tryz.prog 154 [.agg (dQ.cs a0),.agg (gC.cs a1)] [] (bU (aNQ K a0 a1)) (fun r=>.c (.val (.bool r))) (fun r=>[]):=by
 refine bR.it Tryz.f154 (fun r=>⟨[sB 4 r],[],[],0⟩) ?_
 unfold aNQ
 exact Ref.pt (
  .ite _ (
   .ex [1] <|
   .tx [] <|
   .ex [0,2] <|
   .gB 3 (default:Bool) _ [] (aKf K a0 a1.cG false) (fun _=>rfl) fun r1 =>
   .ex [4,5,6,7,8,9] <|
   .gB 10 (default:Int) _ [] (oZ K a0 a1.cG) (fun _=>rfl) fun r2 =>
   .mT [11,12,13,14,15,16] _ <|
   .lt _ fun x3 =>
   .ret [] _) (
   .call [] (aKj _ _ _) fun r4 =>
   .lt _ fun x5 =>
   .ret [] _))
def aNR (K:Nat) (a0:dD) (a1:Int) (a2:Int):Option ((Bool) ⊕ (Bool)) :=
 (bM (bL ((iter K (fun (rL:Int)=>(if (decide ((rL:Int)≤a1))=true then (bM (bL (bW [cS rL a0.bK.length] (bM (bL ((iter K (fun (aAm:Int)=>(bO (((decide ((aAm:Int)<(Int.ofNat ((a0.bK.getD (rL:Int).toNat default).cU).length))) && ((((a0.bK.getD (rL:Int).toNat default).bP):Int) == 3)) && ((decide ((rL:Int)<a1)) || (decide ((aAm:Int)<a2)))) (fun (aWH:Bool)=>(if aWH=true then (bM (bL (bW [cS aAm ((a0.bK.getD (rL:Int).toNat default).cU).length,!((((((a0.bK.getD (rL:Int).toNat default).cU).getD (aAm:Int).toNat default).l9):Int) == 2) || cS aAm ((a0.bK.getD (rL:Int).toNat default).cU).length,!((((((a0.bK.getD (rL:Int).toNat default).cU).getD (aAm:Int).toNat default).l9):Int) == 2) || cS a1 a0.bK.length,!((((((a0.bK.getD (rL:Int).toNat default).cU).getD (aAm:Int).toNat default).l9):Int) == 2) || cS a2 ((a0.bK.getD (a1:Int).toNat default).cU).length] (bO (((((((a0.bK.getD (rL:Int).toNat default).cU).getD (aAm:Int).toNat default).l9):Int) == 2) && ((((((a0.bK.getD (rL:Int).toNat default).cU).getD (aAm:Int).toNat default).gF):Int) == ((((a0.bK.getD (a1:Int).toNat default).cU).getD (a2:Int).toNat default).gF))) (fun (aWI:Bool)=>(if aWI=true then (some (.inl (Sum.inr (Sum.inr (Sum.inr (Sum.inr (true))))))) else (some (.inr ()))))))) (fun (uD:Unit)=>(some (.inr ((IntKind.i64.wrap (aAm+1))))))) else (some (.inl (Sum.inl ()))))))) (0)).map .inl)) (fun (aWJ:Unit)=>(some (.inr ())))))) (fun (aWK:Unit)=>(some (.inr ((IntKind.i64.wrap (rL+1))))))) else (some (.inl (Sum.inl ()))))) (0)).map .inl)) (fun (aWL:Unit)=>(some (.inl (false)))))
theorem aQ4 (K:Nat) (a0:dD) (a1:Int) (a2:Int):bR Tryz.prog 156 [.agg (dQ.cs a0),.c (.val (.int .i64 a1)),.c (.val (.int .i64 a2))] [] (bU (aNR K a0 a1 a2)) (fun r=>.c (.val (.bool r))) (fun r=>[]):=by
 refine bR.it Tryz.f156 (fun r=>⟨[sB 6 r],[],[],0⟩) ?_
 unfold aNR
 exact Ref.pt (
  .bk 0 (fun aWL=>⟨[],[],[],0⟩) (
   .lp [0] (fun rL=>⟨[sI 1 a1,sI 2 a2,sP 3 0 0 0,sI 7 rL],[.cells (dQ.cs a0)],[],0⟩) fun rL =>
   .ite _ (
    .bk 1 (fun aWK=>⟨[sI 1 a1,sI 2 a2,sP 3 0 0 0,sI 7 rL],[.cells (dQ.cs a0)],[],0⟩) (
     .ck _ <|
     .bk 2 (fun aWJ=>⟨[sI 1 a1,sI 2 a2,sP 3 0 0 0,sI 7 rL],[.cells (dQ.cs a0)],[],0⟩) (
      .lp [0,1] (fun aAm=>⟨[sI 1 a1,sI 2 a2,sP 3 0 0 0,sI 7 rL,sP 8 1 0 0,sI 9 aAm],[.cells (dQ.cs a0),iY.o (gd a0.bK rL)],[],0⟩) fun aAm =>
      .lt _ fun aWH =>
      .ite _ (
       .bk 3 (fun uD=>⟨[sI 1 a1,sI 2 a2,sP 3 0 0 0,sI 7 rL,sP 8 1 0 0,sI 9 aAm],[.cells (dQ.cs a0),iY.o (gd a0.bK rL)],[],0⟩) (
        .ex [0,2] <|
        .tx [] <|
        .mT [1,3,4,5,6,7,8,9,10,11,12,13,14,15,16,17,18,19,20,21,22,23,24,25] _ <|
        .lt _ fun aWI =>
        .ite _ (
         .ret [] _) (
         .nil [0,1] _)) fun uD =>
       .nil [0,1] _) (
       .ret [0] _)) fun aWJ =>
     .nil [0] _) fun aWK =>
    .nil [0] _) (
    .ret [] _)) fun aWL =>
  .ret [] _)
end Go.Proofs.YtdbfbedholdjaaaGreat

namespace Go.Proofs.YtdbfbedholdjaaaGreat
open Go Go.Proofs Go.Dl
variable [eC]
set_option maxRecDepth 100000
set_option maxHeartbeats 4000000
mutual
def yX:(K:Nat)→(dD)→(dX)→((List cJ))→(Bool)→Option ((Int) ⊕ (Int))
 | 0,_,_,_,_=>none
 | K+1,a0,a1,a2,a3 =>
 (bM (bL ((iter K (fun (jH:Int)=>(bO (decide ((jH:Int)<(Int.ofNat a2.length))) (fun (yV:Bool)=>(if yV=true then (bM (bL (bW [cS jH a2.length] ((cK true (bU (aL5 K a0 a1 (a2.getD (jH:Int).toNat default) a3)) default).bind (fun r29=>(if ((r29:Int) != 0)=true then (some (.inl (Sum.inr (Sum.inr (r29))))) else (some (.inr ()))))))) (fun (gX:Unit)=>(some (.inr ((IntKind.i64.wrap (jH+1))))))) else (some (.inl (Sum.inl ()))))))) (0)).map .inl)) (fun (wC:Unit)=>(some (.inl (0)))))
def aL5:(K:Nat)→(dD)→(dX)→(cJ)→(Bool)→Option ((Int) ⊕ (Int))
 | 0,_,_,_,_=>none
 | K+1,a0,a1,a2,a3 =>
 ((bU (aNT K a2)).bind (fun r1=>(if (!r1)=true then (some (.inl (14))) else (bM (bL (bM (if ((a2.bP:Int) == 1)=true then (some (.inr (((a2.bP:Int) == 1)))) else (if ((a2.bP:Int) == 2)=true then (some (.inr (((a2.bP:Int) == 2)))) else (if ((a2.bP:Int) == 3)=true then (some (.inr (((a2.bP:Int) == 3)))) else (if ((a2.bP:Int) == 8)=true then (some (.inr (((a2.bP:Int) == 8)))) else (some (.inr (((a2.bP:Int) == 11)))))))) (fun (u56:Bool)=>(if u56=true then ((bU (aL6 K a0 a1 a2)).bind (fun r57=>(some (.inl (Sum.inr (r57)))))) else (if ((a2.bP:Int) == 4)=true then (bW [cS 0 a2.cT.length] ((bU (aFV K a0 a1 (a2.cT.getD (0:Int).toNat default))).bind (fun wG=>(some (.inl (Sum.inr (wG.2))))))) else (if ((a2.bP:Int) == 5)=true then (bM (bL ((iter K (fun (u89:Int)=>(bO (decide ((u89:Int)<(Int.ofNat a2.cT.length))) (fun (x97:Bool)=>(if x97=true then (bM (bL (bW [cS u89 a2.cT.length] ((cK true (bU (aIS K a0 a1 (a2.cT.getD (u89:Int).toNat default))) default).bind (fun aUb=>(if ((aUb:Int) != 0)=true then (some (.inl (Sum.inr (Sum.inr (Sum.inr (aUb)))))) else (bW [cS u89 a2.bX.length] ((cK true (bU (yX K a0 a1 (a2.bX.getD (u89:Int).toNat default) a3)) default).bind (fun aUc=>(if ((aUc:Int) != 0)=true then (some (.inl (Sum.inr (Sum.inr (Sum.inr (aUc)))))) else (some (.inr ()))))))))))) (fun (aWS:Unit)=>(some (.inr ((IntKind.i64.wrap (u89+1))))))) else (some (.inl (Sum.inl ()))))))) (0)).map .inl)) (fun (u81:Unit)=>(bW [cS (Int.ofNat a2.cT.length) a2.bX.length] (bO (a2.bX.getD ((Int.ofNat a2.cT.length):Int).toNat default) (fun (aUd:(List cJ))=>((cK true (bU (yX K a0 a1 aUd a3)) default).bind (fun aWT=>(some (.inl (Sum.inr (aWT))))))))))) else (if ((a2.bP:Int) == 6)=true then ((bU (aL7 K a0 a1 a2 a3)).bind (fun aWU=>(some (.inl (Sum.inr (aWU)))))) else (if ((a2.bP:Int) == 7)=true then (bW [cS 0 a2.cT.length] ((cK true (bU (aIS K a0 a1 (a2.cT.getD (0:Int).toNat default))) default).bind (fun iU=>(if ((iU:Int) != 0)=true then (some (.inl (Sum.inr (iU)))) else (bW [cS 0 a2.bX.length] ((cK true (bU (yX K a0 a1 (a2.bX.getD (0:Int).toNat default) true)) default).bind (fun aWV=>(some (.inl (Sum.inr (aWV))))))))))) else (if ((a2.bP:Int) == 9)=true then ((bU (aNS K a0 a1 a2)).bind (fun aDz=>(some (.inl (Sum.inr (aDz)))))) else (some (.inr ()))))))))))) (fun (u55:Unit)=>(if (!a3)=true then (some (.inl (14))) else (some (.inl (0)))))))))
def aL6:(K:Nat)→(dD)→(dX)→(cJ)→Option ((Int) ⊕ (Int))
 | 0,_,_,_=>none
 | K+1,a0,a1,a2 =>
 ((bU (aIN K a0 a1 a2.cG)).bind (fun r1=>(if (!r1.2)=true then (some (.inl (13))) else (bM (bL (if ((a2.bP:Int) == 1)=true then (some (.inr (((r1.1.l9:Int) == 1),1))) else (if ((a2.bP:Int) == 2)=true then (some (.inr (((r1.1.cI.bP:Int) != 4),2))) else (if ((a2.bP:Int) == 3)=true then (some (.inr (((r1.1.cI.bP:Int) != 5),1))) else (if ((a2.bP:Int) == 8)=true then (bO ((((r1.1.cI.bP:Int) != 1) || ((r1.1.l9:Int) == 1)) || ((a2.fN:Int) == 0)) (fun (x4:Bool)=>(some (.inr (x4,2))))) else (if ((a2.bP:Int) == 11)=true then (some (.inr (((r1.1.cI.bP:Int) != 7),2))) else (some (.inr (false,2))))))))) (fun (u3:Bool × Int)=>(if u3.1=true then (some (.inl (14))) else (bW [c9 a2.cT.length 0 u3.2] ((bU (aEH K a0 a1 ((a2.cT.drop (0:Int).toNat).take ((u3.2:Int).toNat - (0:Int).toNat)))).bind (fun r5=>(if ((r5.2:Int) != 0)=true then (some (.inl (r5.2))) else (bM (bL (if ((a2.bP:Int) == 1)=true then (bW [cS 0 r5.1.length] ((cK true (bU (aFQ K a0 r1.1.cI (r5.1.getD (0:Int).toNat default))) default).bind (fun r12=>(some (.inr (r12)))))) else (if ((a2.bP:Int) == 3)=true then (bW [cS 0 r5.1.length] (bO ((((r5.1.getD (0:Int).toNat default).bP):Int) == 5) (fun (x13:Bool)=>(some (.inr (x13)))))) else (if ((a2.bP:Int) == 11)=true then (bW [cS 0 r5.1.length,!((((r5.1.getD (0:Int).toNat default).bP):Int) == 2) || cS 1 r5.1.length] (bO (((((r5.1.getD (0:Int).toNat default).bP):Int) == 2) && ((((r5.1.getD (1:Int).toNat default).bP):Int) == 1)) (fun (x14:Bool)=>(some (.inr (x14)))))) else (bW [cS 0 r5.1.length,!((((r5.1.getD (0:Int).toNat default).bP):Int) == 1) || cS 1 r5.1.length] (bO (((((r5.1.getD (0:Int).toNat default).bP):Int) == 1) && ((((r5.1.getD (1:Int).toNat default).bP):Int) == 1)) (fun (x15:Bool)=>(some (.inr (x15)))))))))) (fun (u11:Bool)=>(if (!u11)=true then (some (.inl (14))) else (if ((a2.bP:Int) == 8)=true then (bW [cS 0 a2.bX.length] ((cK true (bU (yX K a0 a1 (a2.bX.getD (0:Int).toNat default) true)) default).bind (fun mN=>(some (.inl (mN)))))) else (some (.inl (0)))))))))))))))))
def aL7:(K:Nat)→(dD)→(dX)→(cJ)→(Bool)→Option ((Int) ⊕ (Int))
 | 0,_,_,_,_=>none
 | K+1,a0,a1,a2,a3 =>
 (bW [cS 0 a2.cT.length] ((bU (aCb K a0 a1 (a2.cT.getD (0:Int).toNat default))).bind (fun r1=>(if ((r1.2:Int) != 0)=true then (some (.inl (r1.2))) else (if ((r1.1.bP:Int) != 1)=true then (some (.inl (14))) else (bM (bL ((iter K (fun (jS:(List Int) × Int)=>(bO (decide ((jS.2:Int)<(Int.ofNat a2.eP.length))) (fun (aKo:Bool)=>(if aKo=true then (bM (bL (bM (bL ((iter K (fun (fU:(List Int) × Int)=>(bW [cS jS.2 a2.eP.length] (bO (decide ((fU.2:Int)<(Int.ofNat (a2.eP.getD (jS.2:Int).toNat default).length))) (fun (aKp:Bool)=>(if aKp=true then (bM (bL (bW [cS jS.2 a2.eP.length,cS fU.2 (a2.eP.getD (jS.2:Int).toNat default).length] (bO ((a2.eP.getD (jS.2:Int).toNat default).getD (fU.2:Int).toNat default) (fun (kO:Int)=>(bM (bL ((iter K (fun (tN:Int)=>(bO (decide ((tN:Int)<(Int.ofNat fU.1.length))) (fun (aKq:Bool)=>(if aKq=true then (bM (bL (bW [cS tN fU.1.length] (bO (((fU.1.getD ((tN:Int).toNat) default):Int) == kO) (fun (aKr:Bool)=>(if aKr=true then (some (.inl (Sum.inr (Sum.inr (Sum.inr (Sum.inr (Sum.inr (Sum.inr (6))))))))) else (some (.inr ()))))))) (fun (aNU:Unit)=>(some (.inr ((IntKind.i64.wrap (tN+1))))))) else (some (.inl (Sum.inl ()))))))) (0)).map .inl)) (fun (aNV:Unit)=>(bO ((decide ((kO:Int)<(-32768))) || (decide ((kO:Int) > 32767))) (fun (aKs:Bool)=>(if aKs=true then (some (.inl (Sum.inr (Sum.inr (Sum.inr (Sum.inr (6))))))) else (bW [room ((fU.1.length+([kO].length)) * 8)] (some (.inr ((fU.1++[kO])))))))))))))) (fun (aDA:(List Int))=>(some (.inr (aDA,(IntKind.i64.wrap (fU.2+1))))))) else (some (.inl (Sum.inl (fU.1))))))))) (jS.1,0)).map .inl)) (fun (aDB:(List Int))=>(some (.inr (aDB)))))) (fun (aDC:(List Int))=>(some (.inr (aDC,(IntKind.i64.wrap (jS.2+1))))))) else (some (.inl (Sum.inl ()))))))) ([],0)).map .inl)) (fun (aNW:Unit)=>(bM (bL ((iter K (fun (tO:Int)=>(bO (decide ((tO:Int)<(Int.ofNat a2.bX.length))) (fun (aKt:Bool)=>(if aKt=true then (bM (bL (bW [cS tO a2.bX.length] (bO (a2.bX.getD (tO:Int).toNat default) (fun (aGZ:(List cJ))=>((cK true (bU (yX K a0 a1 aGZ a3)) default).bind (fun aE3=>(if ((aE3:Int) != 0)=true then (some (.inl (Sum.inr (Sum.inr (aE3))))) else (some (.inr ()))))))))) (fun (aNX:Unit)=>(some (.inr ((IntKind.i64.wrap (tO+1))))))) else (some (.inl (Sum.inl ()))))))) (0)).map .inl)) (fun (aNY:Unit)=>(some (.inl (0))))))))))))
end
abbrev e8 (v0:dD) (v1:dX):List Go.Dl.Obj:=[.cells (dQ.cs v0),.cells (dS.cs v1)]
abbrev gS (v0:Bool):List (Nat × D):=[sB 3 v0,sP 4 0 0 0,sP 5 1 0 0,sP 6 2 0 0]
abbrev yY:List (Nat × D):=[sP 3 0 0 0,sP 4 1 0 0,sP 5 2 0 0,sP 7 3 0 0]
abbrev aDD (v0:fP × Int):List (Nat × D):=[(31,.iV [.agg (gC.cs v0.1),.c (iC v0.2)]),(39,.agg (gC.cs v0.1))]
theorem aQ9:∀ K:Nat,(∀ (a0:dD),∀ (a1:dX),∀ (a2:(List cJ)),∀ (a3:Bool),bR Tryz.prog 196 [.agg (dQ.cs a0),.agg (dS.cs a1),.c (dL.tree a2),.c (.val (.bool a3))] [] (bU (yX K a0 a1 a2 a3)) (fun r=>.c (.val (.int .i64 r))) (fun r=>[]))∧(∀ (a0:dD),∀ (a1:dX),∀ (a2:cJ),∀ (a3:Bool),bR Tryz.prog 215 [.agg (dQ.cs a0),.agg (dS.cs a1),.agg (dL.cs a2),.c (.val (.bool a3))] [] (bU (aL5 K a0 a1 a2 a3)) (fun r=>.c (.val (.int .i64 r))) (fun r=>[]))∧(∀ (a0:dD),∀ (a1:dX),∀ (a2:cJ),bR Tryz.prog 219 [.agg (dQ.cs a0),.agg (dS.cs a1),.agg (dL.cs a2)] [] (bU (aL6 K a0 a1 a2)) (fun r=>.c (.val (.int .i64 r))) (fun r=>[]))∧(∀ (a0:dD),∀ (a1:dX),∀ (a2:cJ),∀ (a3:Bool),bR Tryz.prog 222 [.agg (dQ.cs a0),.agg (dS.cs a1),.agg (dL.cs a2),.c (.val (.bool a3))] [] (bU (aL7 K a0 a1 a2 a3)) (fun r=>.c (.val (.int .i64 r))) (fun r=>[])):=by
 intro K
 induction K with
 | zero=>exact ⟨fun a0 a1 a2 a3=>bR.none (by rw[yX];rfl),fun a0 a1 a2 a3=>bR.none (by rw[aL5];rfl),fun a0 a1 a2=>bR.none (by rw[aL6];rfl),fun a0 a1 a2 a3=>bR.none (by rw[aL7];rfl)⟩
 | succ K ih =>
  obtain ⟨aG0,aWW,aWX,aWY⟩:=ih
  refine ⟨?_,?_,?_,?_⟩
  ·
   intro a0 a1 a2 a3
   refine bR.it Tryz.f196 (fun r=>⟨[sI 8 r],[],[],0⟩) ?_
   rw[yX]
   exact Ref.pt (
    .bk 0 (fun wC=>⟨[],[],[],0⟩) (
     .lp [0,1] (fun jH=>⟨[(2,.c (dL.tree a2)),sB 3 a3,sP 4 0 0 0,sP 5 1 0 0,sI 9 jH],e8 a0 a1,[],0⟩) fun jH =>
     .lt _ fun yV =>
     .ite _ (
      .bk 1 (fun gX=>⟨[(2,.c (dL.tree a2)),sB 3 a3,sP 4 0 0 0,sP 5 1 0 0,sI 9 jH],e8 a0 a1,[],0⟩) (
       .ex [2,3,6] <|
       .tx [] <|
       .mT [0,1,4,5] _ <|
       .gB 7 (default:Int) _ [] (aWW a0 a1 (gd a2 jH) a3) (fun _=>rfl) fun r29 =>
       .ex [8] <|
       .ite _ (
        .ret [] _) (
        .nil [0,1] _)) fun gX =>
      .nil [0,1] _) (
      .ret [] _)) fun wC =>
    .ret [] _)
  ·
   intro a0 a1 a2 a3
   refine bR.it Tryz.f215 (fun r=>⟨[sI 8 r],[],[],0⟩) ?_
   rw[aL5]
   exact Ref.pt (
    .call [] (aQ8 _ _) fun r1 =>
    .ite _ (
     .ret [] _) (
     .bk 0 (fun u55=>⟨[sB 3 a3],[],[],0⟩) (
      .jn (fun u56=>⟨gS a3++[sI 18 a2.bP,sB 19 u56],e8 a0 a1++[dL.o a2],[],0⟩) (
       .ite _ (
        .nil [0,1,2] _) (
        .ite _ (
         .nil [0,1,2] _) (
         .ite _ (
          .nil [0,1,2] _) (
          .ite _ (
           .nil [0,1,2] _) (
           .nil [0,1,2] _))))) fun u56 =>
      .ite _ (
       .call [] (aWX _ _ _) fun r57 =>
       .ret [] _) (
       .ite _ (
        .esc [0,1,2] [(cd (bd Tryz.f215) [1,1,0,1,0,1,1,1,0,0]),(cd (bd Tryz.f215) [1,1,0,1,0,1,1,1,0,1])] ⟨gS a3++[sI 18 a2.bP,sB 29 ((a2.bP:Int) == 4)],e8 a0 a1++[dL.o a2],[],0⟩ (by
         refine Ref.eR 11 (by kernel_rfl) (by kernel_rfl) ?_
         refine dV.fE (cR:=⟨[sP 4 0 0 0,sP 5 1 0 0,sP 34 2 0 3],e8 a0 a1++[dL.o a2],[],0⟩) (fuel':=12) [2] [4,5,34] [0,1,2] rfl (by kernel_rfl) (by kernel_rfl) ?_
         refine dV.rG [6,11] ?_
         refine bQ.iD (fun (wG:fP × Int)=>⟨[sI 10 wG.2],[],[],0⟩) (fun (wG:fP × Int)=>(some (.inl (Sum.inr (wG.2))))) (fun wG=>?_) (fun hk=>?_)
         ·
          exact Ref.pt (
           .ret [] _)
         ·
          refine bQ.v0 (fuel':=9) [0,1,3] [32,33,35] [] ?_
          refine bQ.v1 (fuel':=7) [cS 0 a2.cT.length] [4,5] [32,33,37] [] ?_
          refine bQ.lW (fuel':=6) 6 10 (by kernel_rfl) ?_ ?_
          ·
           refine cE.cF (t:=38) 6 [] rfl (by kernel_rfl) (aKm K a0 a1 (gd a2.cT 0)) (fun wG=>?_)
           refine bQ.fE (cR:=⟨aDD wG,[],[],0⟩) (fuel':=4) [7,8] [31,39] [] rfl (by kernel_rfl) (by kernel_rfl) ?_
           refine bQ.iT (fuel':=3) [[],[(9,40)]] [(9,40)] [31,39] [] ⟨aDD wG++[sI 40 wG.2],[],[],0⟩ ?_
           refine cQ.cP (fuel':=2) 10 ?_
           refine dP.kC (cR:=⟨sP 9 0 0 0::(aDD wG++[sI 40 wG.2]),[qC],[],0⟩) 10 [9,31,39,40] [0] (by kernel_rfl) (by kernel_rfl) ?_
           refine cQ.cP (fuel':=1) 11 ?_
           refine dP.iA (cR:=⟨[(31,.iV [.agg (gC.cs wG.1),.c (iC wG.2)]),sI 40 wG.2],[],[],0⟩) 11 [31,40] [] (by kernel_rfl) (by kernel_rfl) ?_
           refine cQ.close ?_
           refine bQ.v0 (fuel':=0) [12] [10] [] ?_
           refine bQ.done (by kernel_rfl) ?_
           refine Ref.ck ⟨[sI 10 wG.2],[],[],0⟩ [10] [] ?_
           exact hk wG
          ·
           refine cE.a0 10 [9,32,33,37] [0] ?_
           refine bQ.cP (fuel':=5) 6 (by kernel_rfl) ?_
           refine cE.cF (t:=38) 6 [] rfl (by kernel_rfl) (aKm K a0 a1 (gd a2.cT 0)) (fun wG=>?_)
           refine bQ.fE (cR:=⟨sP 9 0 0 0::aDD wG,[qC],[],0⟩) (fuel':=3) [7,8] [9,31,39] [0] rfl (by kernel_rfl) (by kernel_rfl) ?_
           refine bQ.iT (fuel':=2) [[],[(9,40)]] [(9,40)] [9,31,39] [0] ⟨sP 9 0 0 0::(aDD wG++[sI 40 wG.2]),[qC],[],0⟩ ?_
           refine cQ.cP (fuel':=1) 11 ?_
           refine dP.iA (cR:=⟨[(31,.iV [.agg (gC.cs wG.1),.c (iC wG.2)]),sI 40 wG.2],[],[],0⟩) 11 [31,40] [] (by kernel_rfl) (by kernel_rfl) ?_
           refine cQ.close ?_
           refine bQ.v0 (fuel':=0) [12] [10] [] ?_
           refine bQ.done (by kernel_rfl) ?_
           refine Ref.ck ⟨[sI 10 wG.2],[],[],0⟩ [10] [] ?_
           exact hk wG)) (
        .ite _ (
         .bk 1 (fun u81=>⟨gS a3,e8 a0 a1++[dL.o a2],[],0⟩) (
          .lp [0,1,2] (fun u89=>⟨gS a3++[sI 11 u89],e8 a0 a1++[dL.o a2],[],0⟩) fun u89 =>
          .lt _ fun x97 =>
          .ite _ (
           .bk 2 (fun aWS=>⟨gS a3++[sI 11 u89],e8 a0 a1++[dL.o a2],[],0⟩) (
            .ex [2,4] <|
            .tx [] <|
            .ex [0,1,3] <|
            .mT [5,6] _ <|
            .gB 7 (default:Int) _ [] (aKn K a0 a1 (gd a2.cT u89)) (fun _=>rfl) fun aUb =>
            .ex [8] <|
            .ite _ (
             .ret [] _) (
             .ex [2,4,7] <|
             .tx [] <|
             .ex [0,1,3] <|
             .sl 1000000 0 65 (x:=.c (nE a2.bX)) (y:=(.c (jA.tree a2.bX))) (eG.c (kV _)) <|
             .mT [5,6] _ <|
             .gB 8 (default:Int) _ [] (aG0 a0 a1 (gd a2.bX u89) a3) (fun _=>rfl) fun aUc =>
             .ex [9] <|
             .ite _ (
              .ret [] _) (
              .nil [0,1,2] _))) fun aWS =>
           .nil [0,1,2] _) (
           .ret [0,1,2] _)) fun u81 =>
         .ex [2,4,9] <|
         .tx [] <|
         .ex [0,1,3,5,6] <|
         .sl 1000000 0 77 (x:=.c (nE a2.bX)) (y:=(.c (jA.tree a2.bX))) (eG.c (kV _)) <|
         .mT [7,8] _ <|
         .lt _ fun aUd =>
         .gB 10 (default:Int) _ [] (aG0 a0 a1 aUd a3) (fun _=>rfl) fun aWT =>
         .ex [11] <|
         .ret [] _) (
         .ite _ (
          .call [] (aWY _ _ _ _) fun aWU =>
          .ret [] _) (
          .ite _ (
           .ex [2] <|
           .tx [] <|
           .ex [0,1,3] <|
           .mT [4,5] _ <|
           .gB 6 (default:Int) _ [] (aKn K a0 a1 (gd a2.cT 0)) (fun _=>rfl) fun iU =>
           .ex [7] <|
           .ite _ (
            .ret [] _) (
            .ex [2] <|
            .tx [] <|
            .ex [0,1,3] <|
            .sl 1000000 0 107 (x:=.c (nE a2.bX)) (y:=(.c (jA.tree a2.bX))) (eG.c (kV _)) <|
            .mT [4,5] _ <|
            .gB 6 (default:Int) _ [] (aG0 a0 a1 (gd a2.bX 0) true) (fun _=>rfl) fun aWV =>
            .ex [7] <|
            .ret [] _)) (
           .ite _ (
            .call [] (aQ7 _ _ _ _) fun aDz =>
            .ret [] _) (
            .nil [] _))))))) fun u55 =>
     .ite _ (
      .ret [] _) (
      .ret [] _)))
  ·
   intro a0 a1 a2
   refine bR.it Tryz.f219 (fun r=>⟨[sI 6 r],[],[],0⟩) ?_
   rw[aL6]
   exact Ref.pt (
    .call [] (aFP _ _ _ _) fun r1 =>
    .ite _ (
     .ret [] _) (
     .bk 0 (fun u3=>⟨yY++[sB 10 u3.1,sI 11 u3.2],e8 a0 a1++[dL.o a2,eU.o r1.1],[],0⟩) (
      .ite _ (
       .nil [0,1,2,4] _) (
       .ite _ (
        .nil [0,1,2,4] _) (
        .ite _ (
         .nil [0,1,2,4] _) (
         .ite _ (
          .lt _ fun x4 =>
          .nil [0,1,2,4] _) (
          .ite _ (
           .nil [0,1,2,4] _) (
           .nil [0,1,2,4] _)))))) fun u3 =>
     .ite _ (
      .ret [] _) (
      .esc [0,1,2,3] [(cd (bd Tryz.f219) [1,1,1,1,1,1,1,1,0]),(cd (bd Tryz.f219) [1,1,1,1,1,1,1,1,1])] ⟨yY++[sI 11 u3.2,sB 61 u3.1],e8 a0 a1++[dL.o a2,eU.o r1.1],[],0⟩ (by
       refine Ref.eR 22 (by kernel_rfl) (by kernel_rfl) ?_
       refine dV.fE (cR:=⟨yY++[sP 65 2 0 3,sI 67 u3.2],e8 a0 a1++[dL.o a2,eU.o r1.1],[],0⟩) (fuel':=10) [2,4] [3,4,5,7,65,67] [0,1,2,3] rfl (by kernel_rfl) (by kernel_rfl) ?_
       refine dV.rG [6] ?_
       refine bQ.iD (fun (r5:(List fP) × Int)=>⟨yY++[(12,.c (gC.tree r5.1)),sI 13 r5.2],e8 a0 a1++[dL.o a2,eU.o r1.1],[],0⟩) (fun (r5:(List fP) × Int)=>(if ((r5.2:Int) != 0)=true then (some (.inl (r5.2))) else (bM (bL (if ((a2.bP:Int) == 1)=true then (bW [cS 0 r5.1.length] ((cK true (bU (aFQ K a0 r1.1.cI (gd r5.1 0))) default).bind (fun r12=>(some (.inr (r12)))))) else (if ((a2.bP:Int) == 3)=true then (bW [cS 0 r5.1.length] (bO ((((gd r5.1 0).bP):Int) == 5) (fun (x13:Bool)=>(some (.inr (x13)))))) else (if ((a2.bP:Int) == 11)=true then (bW [cS 0 r5.1.length,!((((gd r5.1 0).bP):Int) == 2) || cS 1 r5.1.length] (bO (((((gd r5.1 0).bP):Int) == 2) && ((((gd r5.1 1).bP):Int) == 1)) (fun (x14:Bool)=>(some (.inr (x14)))))) else (bW [cS 0 r5.1.length,!((((gd r5.1 0).bP):Int) == 1) || cS 1 r5.1.length] (bO (((((gd r5.1 0).bP):Int) == 1) && ((((gd r5.1 1).bP):Int) == 1)) (fun (x15:Bool)=>(some (.inr (x15)))))))))) (fun (u11:Bool)=>(if (!u11)=true then (some (.inl (14))) else (if ((a2.bP:Int) == 8)=true then (bW [cS 0 a2.bX.length] ((cK true (bU (yX K a0 a1 (gd a2.bX 0) true)) default).bind (fun mN=>(some (.inl (mN)))))) else (some (.inl (0))))))))) (fun r5=>?_) (fun hk=>?_)
       ·
        exact Ref.pt (
         .ite _ (
          .ret [] _) (
          .bk 1 (fun u11=>⟨[sP 3 0 0 0,sP 4 1 0 0,sP 5 2 0 0,sB 14 u11],e8 a0 a1++[dL.o a2],[],0⟩) (
           .ite _ (
            .mT [1,3,4] _ <|
            .tx [] <|
            .ex [0,2,5] <|
            .gB 6 (default:Bool) _ [] (aFR K a0 r1.1.cI (gd r5.1 0)) (fun _=>rfl) fun r12 =>
            .ex [7] <|
            .nil [0,1,2] _) (
            .ite _ (
             .ck _ <|
             .lt _ fun x13 =>
             .nil [0,1,2] _) (
             .ite _ (
              .ck _ <|
              .lt _ fun x14 =>
              .nil [0,1,2] _) (
              .ck _ <|
              .lt _ fun x15 =>
              .nil [0,1,2] _)))) fun u11 =>
          .ite _ (
           .ret [] _) (
           .ite _ (
            .ex [2] <|
            .tx [] <|
            .ex [0,1,3] <|
            .sl 1000000 0 127 (x:=.c (nE a2.bX)) (y:=(.c (jA.tree a2.bX))) (eG.c (kV _)) <|
            .mT [4,5] _ <|
            .gB 6 (default:Int) _ [] (aG0 a0 a1 (gd a2.bX 0) true) (fun _=>rfl) fun mN =>
            .ex [7] <|
            .ret [] _) (
            .ret [] _))))
       ·
        refine bQ.fE (cR:=⟨yY++[(63,.agg (dQ.cs a0)),(64,.agg (dS.cs a1)),(66,.c (cA.tree a2.cT)),sI 67 u3.2],e8 a0 a1++[dL.o a2,eU.o r1.1],[],0⟩) (fuel':=7) [0,1,3] [3,4,5,7,63,64,66,67] [0,1,2,3] rfl (by kernel_rfl) (by kernel_rfl) ?_
        refine bQ.evH (vs:=[c9 a2.cT.length 0 u3.2]) (cR:=⟨yY++[(63,.agg (dQ.cs a0)),(64,.agg (dS.cs a1)),(68,.c (.tree cA.w ((u3.2:Int).toNat - (0:Int).toNat) fun i j=>cA.at a2.cT ((0:Int).toNat+i) j))],e8 a0 a1++[dL.o a2,eU.o r1.1],[],0⟩) (fuel':=6) [5] [3,4,5,7,63,64,68] [0,1,2,3] rfl (by kernel_rfl) (by kernel_rfl) (fun hv=>?_)
        refine bQ.conv (Conv.sl 68 (.c (cA.tree ((a2.cT.drop (0:Int).toNat).take ((u3.2:Int).toNat - (0:Int).toNat)))) (eG.c (El.qN cA _ (vW (hv _ (List.Mem.head _)))))) ?_
        refine bQ.cP (fuel':=5) 6 (by kernel_rfl) ?_
        refine cE.cF (t:=69) 6 [] rfl (by kernel_rfl) (aQ6 K a0 a1 ((a2.cT.drop (0:Int).toNat).take ((u3.2:Int).toNat - (0:Int).toNat))) (fun r5=>?_)
        refine bQ.v0 (fuel':=0) [7,8,9,10,11] [3,4,5,7,12,13] [0,1,2,3] ?_
        refine bQ.done (by kernel_rfl) ?_
        refine Ref.ck ⟨yY++[(12,.c (gC.tree r5.1)),sI 13 r5.2],e8 a0 a1++[dL.o a2,eU.o r1.1],[],0⟩ [3,4,5,7,12,13] [0,1,2,3] ?_
        exact hk r5))))
  ·
   intro a0 a1 a2 a3
   refine bR.it Tryz.f222 (fun r=>⟨[sI 8 r],[],[],0⟩) ?_
   rw[aL7]
   exact Ref.pt (
    .esc [0,1,2] [(cd (bd Tryz.f222) [1,0]),(cd (bd Tryz.f222) [1,1])] ⟨gS a3,e8 a0 a1++[dL.o a2],[],0⟩ (by
     refine Ref.eR 1 (by kernel_rfl) (by kernel_rfl) ?_
     refine dV.fE (cR:=⟨gS a3++[sP 21 2 0 3],e8 a0 a1++[dL.o a2],[],0⟩) (fuel':=12) [2] [3,4,5,6,21] [0,1,2] rfl (by kernel_rfl) (by kernel_rfl) ?_
     refine dV.rG [6,11] ?_
     refine bQ.iD (fun (r1:fP × Int)=>⟨gS a3++[sP 9 3 0 0,sI 10 r1.2],e8 a0 a1++[dL.o a2,.cells (gC.cs r1.1)],[],0⟩) (fun (r1:fP × Int)=>(if ((r1.2:Int) != 0)=true then (some (.inl (r1.2))) else (if ((r1.1.bP:Int) != 1)=true then (some (.inl (14))) else (bM (bL ((iter K (fun (jS:(List Int) × Int)=>(bO (decide ((jS.2:Int)<(Int.ofNat a2.eP.length))) (fun (aKo:Bool)=>(if aKo=true then (bM (bL (bM (bL ((iter K (fun (fU:(List Int) × Int)=>(bW [cS jS.2 a2.eP.length] (bO (decide ((fU.2:Int)<(Int.ofNat (gd a2.eP jS.2).length))) (fun (aKp:Bool)=>(if aKp=true then (bM (bL (bW [cS jS.2 a2.eP.length,cS fU.2 (gd a2.eP jS.2).length] (bO (gd (gd a2.eP jS.2) fU.2) (fun (kO:Int)=>(bM (bL ((iter K (fun (tN:Int)=>(bO (decide ((tN:Int)<(Int.ofNat fU.1.length))) (fun (aKq:Bool)=>(if aKq=true then (bM (bL (bW [cS tN fU.1.length] (bO (((fU.1.getD ((tN:Int).toNat) default):Int) == kO) (fun (aKr:Bool)=>(if aKr=true then (some (.inl (Sum.inr (Sum.inr (Sum.inr (Sum.inr (Sum.inr (Sum.inr (6))))))))) else (some (.inr ()))))))) (fun (aNU:Unit)=>(some (.inr ((IntKind.i64.wrap (tN+1))))))) else (some (.inl (Sum.inl ()))))))) (0)).map .inl)) (fun (aNV:Unit)=>(bO ((decide ((kO:Int)<(-32768))) || (decide ((kO:Int) > 32767))) (fun (aKs:Bool)=>(if aKs=true then (some (.inl (Sum.inr (Sum.inr (Sum.inr (Sum.inr (6))))))) else (bW [room ((fU.1.length+([kO].length)) * 8)] (some (.inr ((fU.1++[kO])))))))))))))) (fun (aDA:(List Int))=>(some (.inr (aDA,(IntKind.i64.wrap (fU.2+1))))))) else (some (.inl (Sum.inl (fU.1))))))))) (jS.1,0)).map .inl)) (fun (aDB:(List Int))=>(some (.inr (aDB)))))) (fun (aDC:(List Int))=>(some (.inr (aDC,(IntKind.i64.wrap (jS.2+1))))))) else (some (.inl (Sum.inl ()))))))) ([],0)).map .inl)) (fun (aNW:Unit)=>(bM (bL ((iter K (fun (tO:Int)=>(bO (decide ((tO:Int)<(Int.ofNat a2.bX.length))) (fun (aKt:Bool)=>(if aKt=true then (bM (bL (bW [cS tO a2.bX.length] (bO (gd a2.bX tO) (fun (aGZ:(List cJ))=>((cK true (bU (yX K a0 a1 aGZ a3)) default).bind (fun aE3=>(if ((aE3:Int) != 0)=true then (some (.inl (Sum.inr (Sum.inr (aE3))))) else (some (.inr ()))))))))) (fun (aNX:Unit)=>(some (.inr ((IntKind.i64.wrap (tO+1))))))) else (some (.inl (Sum.inl ()))))))) (0)).map .inl)) (fun (aNY:Unit)=>(some (.inl (0)))))))))) (fun r1=>?_) (fun hk=>?_)
     ·
      exact Ref.pt (
       .ite _ (
        .ret [] _) (
        .ite _ (
         .ret [] _) (
         .bk 0 (fun aNW=>⟨gS a3,e8 a0 a1++[dL.o a2],[],0⟩) (
          .ad 7 0 11 E3.ty E3.w (E3.at []) <|
          .lp [0,1,2,4] (fun jS=>⟨gS a3++[(11,.c (.own 3 jS.1.length)),sI 12 jS.2],e8 a0 a1++[dL.o a2,E3.row jS.1],[],0⟩) fun jS =>
          .lt _ fun aKo =>
          .ite _ (
           .bk 1 (fun aDC=>⟨gS a3++[(11,.c (.own 3 aDC.length)),sI 12 jS.2],e8 a0 a1++[dL.o a2,E3.row aDC],[],0⟩) (
            .bk 2 (fun aDB=>⟨gS a3++[(11,.c (.own 3 aDB.length)),sI 12 jS.2],e8 a0 a1++[dL.o a2,E3.row aDB],[],0⟩) (
             .lp [0,1,2,3] (fun fU=>⟨gS a3++[(11,.c (.own 3 fU.1.length)),sI 12 jS.2,sI 13 fU.2],e8 a0 a1++[dL.o a2,E3.row fU.1],[],0⟩) fun fU =>
             .ck _ <|
             .lt _ fun aKp =>
             .ite _ (
              .bk 3 (fun aDA=>⟨gS a3++[(11,.c (.own 3 aDA.length)),sI 12 jS.2,sI 13 fU.2],e8 a0 a1++[dL.o a2,E3.row aDA],[],0⟩) (
               .ck _ <|
               .lt _ fun kO =>
               .bk 4 (fun aNV=>⟨gS a3++[(11,.c (.own 3 fU.1.length)),sI 12 jS.2,sI 13 fU.2,sI 14 kO],e8 a0 a1++[dL.o a2,E3.row fU.1],[],0⟩) (
                .lp [0,1,2,3] (fun tN=>⟨gS a3++[(11,.c (.own 3 fU.1.length)),sI 12 jS.2,sI 13 fU.2,sI 14 kO,sI 15 tN],e8 a0 a1++[dL.o a2,E3.row fU.1],[],0⟩) fun tN =>
                .lt _ fun aKq =>
                .ite _ (
                 .bk 5 (fun aNU=>⟨gS a3++[(11,.c (.own 3 fU.1.length)),sI 12 jS.2,sI 13 fU.2,sI 14 kO,sI 15 tN],e8 a0 a1++[dL.o a2,E3.row fU.1],[],0⟩) (
                  .ck _ <|
                  .lt _ fun aKr =>
                  .ite _ (
                   .ret [] _) (
                   .nil [0,1,2,3] _)) fun aNU =>
                 .nil [0,1,2,3] _) (
                 .ret [0,1,2,3] _)) fun aNV =>
               .lt _ fun aKs =>
               .ite _ (
                .ret [] _) (
                .ob 21 2 4 (x:=.row 3 1 1 (hG [[iC kO]])) (y:=(E3.row [kO])) (El.bZ E3 [kO] rfl (by kernel_rfl)) <|
                .sl 21 2 79 (x:=.c (.own 4 1)) (y:=(.c (.own 4 ([kO].length)))) (eG.c (eD.own (by first | (simp;done) | (simp;omega) | omega))) <|
                .ck _ <|
                .ob 21 1 5 (x:=.row 3 1 (fU.1.length+([kO].length)) fun i j=>bif Nat.blt i fU.1.length then E3.at fU.1 i j else (E3.at [kO]) (i - fU.1.length) j) (y:=(E3.row (fU.1++[kO]))) (El.cH E3 fU.1 [kO] rfl rfl) <|
                .sl 21 1 80 (x:=.c (.own 5 (fU.1.length+([kO].length)))) (y:=(.c (.own 5 ((fU.1++[kO]).length)))) (eG.c (eD.own (by first | (simp;done) | (simp;omega) | omega))) <|
                .nil [0,1,2,5] _)) fun aDA =>
              .nil [0,1,2,3] _) (
              .ret [0,1,2,3] _)) fun aDB =>
            .nil [0,1,2,3] _) fun aDC =>
           .nil [0,1,2,3] _) (
           .ret [0,1,2] _)) fun aNW =>
         .bk 6 (fun aNY=>⟨[],[],[],0⟩) (
          .lp [0,1,2] (fun tO=>⟨gS a3++[sI 16 tO],e8 a0 a1++[dL.o a2],[],0⟩) fun tO =>
          .lt _ fun aKt =>
          .ite _ (
           .bk 7 (fun aNX=>⟨gS a3++[sI 16 tO],e8 a0 a1++[dL.o a2],[],0⟩) (
            .ex [2,4,7] <|
            .tx [] <|
            .ex [0,1,3] <|
            .sl 1000000 0 91 (x:=.c (nE a2.bX)) (y:=(.c (jA.tree a2.bX))) (eG.c (kV _)) <|
            .mT [5,6] _ <|
            .lt _ fun aGZ =>
            .gB 8 (default:Int) _ [] (aG0 a0 a1 aGZ a3) (fun _=>rfl) fun aE3 =>
            .ex [9] <|
            .ite _ (
             .ret [] _) (
             .nil [0,1,2] _)) fun aNX =>
           .nil [0,1,2] _) (
           .ret [] _)) fun aNY =>
         .ret [] _)))
     ·
      refine bQ.v0 (fuel':=9) [0,1,3] [3,4,5,6,19,20,22] [0,1,2] ?_
      refine bQ.v1 (fuel':=7) [cS 0 a2.cT.length] [4,5] [3,4,5,6,19,20,24] [0,1,2] ?_
      refine bQ.lW (fuel':=6) 6 10 (by kernel_rfl) ?_ ?_
      ·
       refine cE.cF (t:=25) 6 [] rfl (by kernel_rfl) (aAn K a0 a1 (gd a2.cT 0)) (fun r1=>?_)
       refine bQ.fE (cR:=⟨gS a3++[(18,.iV [.agg (gC.cs r1.1),.c (iC r1.2)]),(26,.agg (gC.cs r1.1))],e8 a0 a1++[dL.o a2],[],0⟩) (fuel':=4) [7,8] [3,4,5,6,18,26] [0,1,2] rfl (by kernel_rfl) (by kernel_rfl) ?_
       refine bQ.iT (fuel':=3) [[],[(9,27)]] [(9,27)] [3,4,5,6,18,26] [0,1,2] ⟨gS a3++[(18,.iV [.agg (gC.cs r1.1),.c (iC r1.2)]),(26,.agg (gC.cs r1.1)),sI 27 r1.2],e8 a0 a1++[dL.o a2],[],0⟩ ?_
       refine cQ.cP (fuel':=2) 10 ?_
       refine dP.kC (cR:=⟨gS a3++[sP 9 3 0 0,(18,.iV [.agg (gC.cs r1.1),.c (iC r1.2)]),(26,.agg (gC.cs r1.1)),sI 27 r1.2],e8 a0 a1++[dL.o a2,qC],[],0⟩) 10 [3,4,5,6,9,18,26,27] [0,1,2,3] (by kernel_rfl) (by kernel_rfl) ?_
       refine cQ.cP (fuel':=1) 11 ?_
       refine dP.iA (cR:=⟨gS a3++[sP 9 3 0 0,(18,.iV [.agg (gC.cs r1.1),.c (iC r1.2)]),sI 27 r1.2],e8 a0 a1++[dL.o a2,.cells (gC.cs r1.1)],[],0⟩) 11 [3,4,5,6,9,18,27] [0,1,2,3] (by kernel_rfl) (by kernel_rfl) ?_
       refine cQ.close ?_
       refine bQ.v0 (fuel':=0) [12] [3,4,5,6,9,10] [0,1,2,3] ?_
       refine bQ.done (by kernel_rfl) ?_
       refine Ref.ck ⟨gS a3++[sP 9 3 0 0,sI 10 r1.2],e8 a0 a1++[dL.o a2,.cells (gC.cs r1.1)],[],0⟩ [3,4,5,6,9,10] [0,1,2,3] ?_
       exact hk r1
      ·
       refine cE.a0 10 [3,4,5,6,9,19,20,24] [0,1,2,3] ?_
       refine bQ.cP (fuel':=5) 6 (by kernel_rfl) ?_
       refine cE.cF (t:=25) 6 [] rfl (by kernel_rfl) (aAn K a0 a1 (gd a2.cT 0)) (fun r1=>?_)
       refine bQ.fE (cR:=⟨gS a3++[sP 9 3 0 0,(18,.iV [.agg (gC.cs r1.1),.c (iC r1.2)]),(26,.agg (gC.cs r1.1))],e8 a0 a1++[dL.o a2,qC],[],0⟩) (fuel':=3) [7,8] [3,4,5,6,9,18,26] [0,1,2,3] rfl (by kernel_rfl) (by kernel_rfl) ?_
       refine bQ.iT (fuel':=2) [[],[(9,27)]] [(9,27)] [3,4,5,6,9,18,26] [0,1,2,3] ⟨gS a3++[sP 9 3 0 0,(18,.iV [.agg (gC.cs r1.1),.c (iC r1.2)]),(26,.agg (gC.cs r1.1)),sI 27 r1.2],e8 a0 a1++[dL.o a2,qC],[],0⟩ ?_
       refine cQ.cP (fuel':=1) 11 ?_
       refine dP.iA (cR:=⟨gS a3++[sP 9 3 0 0,(18,.iV [.agg (gC.cs r1.1),.c (iC r1.2)]),sI 27 r1.2],e8 a0 a1++[dL.o a2,.cells (gC.cs r1.1)],[],0⟩) 11 [3,4,5,6,9,18,27] [0,1,2,3] (by kernel_rfl) (by kernel_rfl) ?_
       refine cQ.close ?_
       refine bQ.v0 (fuel':=0) [12] [3,4,5,6,9,10] [0,1,2,3] ?_
       refine bQ.done (by kernel_rfl) ?_
       refine Ref.ck ⟨gS a3++[sP 9 3 0 0,sI 10 r1.2],e8 a0 a1++[dL.o a2,.cells (gC.cs r1.1)],[],0⟩ [3,4,5,6,9,10] [0,1,2,3] ?_
       exact hk r1))
theorem aRa (K:Nat) (a0:dD) (a1:dX) (a2:(List cJ)) (a3:Bool):bR Tryz.prog 196 [.agg (dQ.cs a0),.agg (dS.cs a1),.c (dL.tree a2),.c (.val (.bool a3))] [] (bU (yX K a0 a1 a2 a3)) (fun r=>.c (.val (.int .i64 r))) (fun r=>[]):=(aQ9 K).1 a0 a1 a2 a3
def aL8 (K:Nat) (a0:dD) (a1:dX) (a2:(List cJ)):Option ((Int) ⊕ (Int)) :=
 ((bU (aGT K a0 a1)).bind (fun r1=>(if (!r1)=true then (some (.inl (22))) else ((bU (yX K a0 a1 a2 false)).bind (fun r2=>(some (.inl (r2))))))))
theorem aKu (K:Nat) (a0:dD) (a1:dX) (a2:(List cJ)):bR Tryz.prog 153 [.agg (dQ.cs a0),.agg (dS.cs a1),.c (dL.tree a2)] [] (bU (aL8 K a0 a1 a2)) (fun r=>.c (.val (.int .i64 r))) (fun r=>[]):=by
 refine bR.it Tryz.f153 (fun r=>⟨[sI 6 r],[],[],0⟩) ?_
 unfold aL8
 exact Ref.pt (
  .call [] (aCz _ _ _) fun r1 =>
  .ite _ (
   .ret [] _) (
   .call [] (aRa _ _ _ _ _) fun r2 =>
   .ret [] _))
end Go.Proofs.YtdbfbedholdjaaaGreat

namespace Go.Proofs.YtdbfbedholdjaaaGreat
open Go Go.Proofs Go.Dl
variable [eC]
set_option maxRecDepth 100000
set_option maxHeartbeats 4000000
def aNZ (K:Nat) (a0:dD) (a1:Int):Option ((Int) ⊕ (Int)) :=
 (bW [cS a1 a0.bK.length] (bM (bL ((iter K (fun (eZ:Int)=>(bO (decide ((eZ:Int)<(Int.ofNat ((a0.bK.getD (a1:Int).toNat default).cU).length))) (fun (x38:Bool)=>(if x38=true then (bM (bL (bW [cS eZ ((a0.bK.getD (a1:Int).toNat default).cU).length] ((bU (aNQ K a0 ((((a0.bK.getD (a1:Int).toNat default).cU).getD (eZ:Int).toNat default).cI))).bind (fun r42=>(bO ((((!r42) || (decide ((((((a0.bK.getD (a1:Int).toNat default).cU).getD (eZ:Int).toNat default).l9):Int)<0))) || (decide ((((((a0.bK.getD (a1:Int).toNat default).cU).getD (eZ:Int).toNat default).l9):Int) > 2))) || ((((((((a0.bK.getD (a1:Int).toNat default).cU).getD (eZ:Int).toNat default).l9):Int) != 0) && (((((((a0.bK.getD (a1:Int).toNat default).cU).getD (eZ:Int).toNat default).cI).bP):Int) != 1)) && (((((((a0.bK.getD (a1:Int).toNat default).cU).getD (eZ:Int).toNat default).cI).bP):Int) != 2))) (fun (x43:Bool)=>(if x43=true then (some (.inl (Sum.inr (Sum.inr (9))))) else (some (.inr ()))))))))) (fun (u41:Unit)=>(some (.inr ((IntKind.i64.wrap (eZ+1))))))) else (some (.inl (Sum.inl ()))))))) (0)).map .inl)) (fun (dY:Unit)=>(bM (bL ((iter K (fun (rW:Int)=>(bO (decide ((rW:Int)<(Int.ofNat ((a0.bK.getD (a1:Int).toNat default).cU).length))) (fun (x71:Bool)=>(if x71=true then (bM (bL (bW [cS rW ((a0.bK.getD (a1:Int).toNat default).cU).length] ((bU (aL0 K (((a0.bK.getD (a1:Int).toNat default).cU).getD (rW:Int).toNat default))).bind (fun r74=>(if (!r74)=true then (some (.inl (Sum.inr (Sum.inr (10))))) else (some (.inr ()))))))) (fun (u73:Unit)=>(some (.inr ((IntKind.i64.wrap (rW+1))))))) else (some (.inl (Sum.inl ()))))))) (0)).map .inl)) (fun (u59:Unit)=>(bM (bL ((iter K (fun (aAo:Int)=>(bO (decide ((aAo:Int)<(Int.ofNat ((a0.bK.getD (a1:Int).toNat default).cU).length))) (fun (aWZ:Bool)=>(if aWZ=true then (bM (bL (bW [cS aAo ((a0.bK.getD (a1:Int).toNat default).cU).length] (bO (((((((a0.bK.getD (a1:Int).toNat default).cU).getD (aAo:Int).toNat default).l9):Int) != 0) && ((decide ((((((a0.bK.getD (a1:Int).toNat default).cU).getD (aAo:Int).toNat default).gF):Int)<0)) || (decide ((((((a0.bK.getD (a1:Int).toNat default).cU).getD (aAo:Int).toNat default).gF):Int) ≥ 8)))) (fun (aUe:Bool)=>((cK (((((((a0.bK.getD (a1:Int).toNat default).cU).getD (aAo:Int).toNat default).l9):Int) == 2) && (!aUe)) (bU (aNR K a0 a1 aAo)) default).bind (fun pF=>(bO (aUe || (((((((a0.bK.getD (a1:Int).toNat default).cU).getD (aAo:Int).toNat default).l9):Int) == 2) && pF)) (fun (aL2:Bool)=>(if aL2=true then (some (.inl (Sum.inr (Sum.inr (16))))) else (some (.inr ()))))))))))) (fun (aW0:Unit)=>(some (.inr ((IntKind.i64.wrap (aAo+1))))))) else (some (.inl (Sum.inl ()))))))) (0)).map .inl)) (fun (aIV:Unit)=>(bO ((a0.bK.getD (a1:Int).toNat default).cU) (fun (aW1:(List fG))=>((bU (aGW K aW1)).bind (fun aDE=>((bU (aDq K aDE)).bind (fun aL9=>(if aL9=true then (some (.inl (6))) else (bO ((a0.bK.getD (a1:Int).toNat default).uV) (fun (aMa:(List cJ))=>((bU (aL8 K a0 (⟨a1,(-1)⟩:dX) aMa)).bind (fun aN0=>(some (.inl (aN0)))))))))))))))))))))
theorem aRb (K:Nat) (a0:dD) (a1:Int):bR Tryz.prog 119 [.agg (dQ.cs a0),.c (.val (.int .i64 a1))] [] (bU (aNZ K a0 a1)) (fun r=>.c (.val (.int .i64 r))) (fun r=>[]):=by
 refine bR.it Tryz.f119 (fun r=>⟨[sI 4 r],[],[],0⟩) ?_
 unfold aNZ
 exact Ref.pt (
  .ck _ <|
  .bk 0 (fun dY=>⟨[sI 1 a1,sP 2 0 0 0,sP 5 1 0 0],[.cells (dQ.cs a0),iY.o (gd a0.bK a1)],[],0⟩) (
   .lp [0,1] (fun eZ=>⟨[sI 1 a1,sP 2 0 0 0,sP 5 1 0 0,sI 6 eZ],[.cells (dQ.cs a0),iY.o (gd a0.bK a1)],[],0⟩) fun eZ =>
   .lt _ fun x38 =>
   .ite _ (
    .bk 1 (fun u41=>⟨[sI 1 a1,sP 2 0 0 0,sP 5 1 0 0,sI 6 eZ],[.cells (dQ.cs a0),iY.o (gd a0.bK a1)],[],0⟩) (
     .ck _ <|
     .call [] (aQ3 _ _ _) fun r42 =>
     .lt _ fun x43 =>
     .ite _ (
      .ret [] _) (
      .nil [0,1] _)) fun u41 =>
    .nil [0,1] _) (
    .ret [0,1] _)) fun dY =>
  .bk 2 (fun u59=>⟨[sI 1 a1,sP 2 0 0 0,sP 5 1 0 0],[.cells (dQ.cs a0),iY.o (gd a0.bK a1)],[],0⟩) (
   .lp [0,1] (fun rW=>⟨[sI 1 a1,sP 2 0 0 0,sP 5 1 0 0,sI 8 rW],[.cells (dQ.cs a0),iY.o (gd a0.bK a1)],[],0⟩) fun rW =>
   .lt _ fun x71 =>
   .ite _ (
    .bk 3 (fun u73=>⟨[sI 1 a1,sP 2 0 0 0,sP 5 1 0 0,sI 8 rW],[.cells (dQ.cs a0),iY.o (gd a0.bK a1)],[],0⟩) (
     .ck _ <|
     .call [] (aKi _ _) fun r74 =>
     .ite _ (
      .ret [] _) (
      .nil [0,1] _)) fun u73 =>
    .nil [0,1] _) (
    .ret [0,1] _)) fun u59 =>
  .bk 4 (fun aIV=>⟨[sI 1 a1,sP 2 0 0 0,sP 5 1 0 0],[.cells (dQ.cs a0),iY.o (gd a0.bK a1)],[],0⟩) (
   .lp [0,1] (fun aAo=>⟨[sI 1 a1,sP 2 0 0 0,sP 5 1 0 0,sI 9 aAo],[.cells (dQ.cs a0),iY.o (gd a0.bK a1)],[],0⟩) fun aAo =>
   .lt _ fun aWZ =>
   .ite _ (
    .bk 5 (fun aW0=>⟨[sI 1 a1,sP 2 0 0 0,sP 5 1 0 0,sI 9 aAo],[.cells (dQ.cs a0),iY.o (gd a0.bK a1)],[],0⟩) (
     .ck _ <|
     .lt _ fun aUe =>
     .look (default:Bool) _ [] (aQ4 K a0 a1 aAo) (fun _=>rfl) fun pF =>
     .lt _ fun aL2 =>
     .ite _ (
      .ret [] _) (
      .nil [0,1] _)) fun aW0 =>
    .nil [0,1] _) (
    .ret [0,1] _)) fun aIV =>
  .lt _ fun aW1 =>
  .call [] (aCA _ _) fun aDE =>
  .call [] (uC _ _) fun aL9 =>
  .ite _ (
   .ret [] _) (
   .lt _ fun aMa =>
   .call [] (aKu _ _ _ _) fun aN0 =>
   .ret [] _))
def aN1 (K:Nat) (a0:dD) (a1:Int):Option ((Int) ⊕ (Int)) :=
 (bW [cS a1 a0.bK.length] (bO ((a0.bK.getD (a1:Int).toNat default).lE) (fun (x1:Bytes)=>((bU (F61 K a0 x1)).bind (fun r2=>((bU (F68 K a0 r2)).bind (fun r3=>(bO (((((((r3:Int) != 3) || (decide ((r2:Int) ≥ a1))) || (decide ((((a0.bK.getD (a1:Int).toNat default).wH):Int)<1))) || (decide ((((a0.bK.getD (a1:Int).toNat default).wH):Int) > 100))) || (decide ((((a0.bK.getD (a1:Int).toNat default).uE):Int)<0))) || (decide ((((a0.bK.getD (a1:Int).toNat default).uE):Int) > 9))) (fun (x4:Bool)=>(bM (bL ((iter K (fun (dY:Bool × Int)=>(if (decide ((dY.2:Int)<a1))=true then (bM (bL (bW [!(!dY.1) || cS dY.2 a0.bK.length,!(((((a0.bK.getD (dY.2:Int).toNat default).bP):Int) == 4) && (!dY.1)) || cS dY.2 a0.bK.length] (bO (dY.1 || (((((a0.bK.getD (dY.2:Int).toNat default).bP):Int) == 4) && (((a0.bK.getD (dY.2:Int).toNat default).lE) == ((a0.bK.getD (a1:Int).toNat default).lE)))) (fun (iW:Bool)=>(some (.inr (iW))))))) (fun (gX:Bool)=>(some (.inr (gX,(IntKind.i64.wrap (dY.2+1))))))) else (some (.inl (Sum.inl (dY.1)))))) (x4,0)).map .inl)) (fun (gW:Bool)=>(if gW=true then (some (.inl (17))) else (some (.inl (0)))))))))))))))
theorem aRc (K:Nat) (a0:dD) (a1:Int):bR Tryz.prog 120 [.agg (dQ.cs a0),.c (.val (.int .i64 a1))] [] (bU (aN1 K a0 a1)) (fun r=>.c (.val (.int .i64 r))) (fun r=>[]):=by
 refine bR.it Tryz.f120 (fun r=>⟨[sI 4 r],[],[],0⟩) ?_
 unfold aN1
 exact Ref.pt (
  .ck _ <|
  .lt _ fun x1 =>
  .call [] (oZ _ _ _) fun r2 =>
  .call [] (o9 _ _ _) fun r3 =>
  .lt _ fun x4 =>
  .bk 0 (fun gW=>⟨[sB 7 gW],[],[],0⟩) (
   .lp [0,1] (fun dY=>⟨[sI 1 a1,sP 2 0 0 0,sP 5 1 0 0,sB 7 dY.1,sI 8 dY.2],[.cells (dQ.cs a0),iY.o (gd a0.bK a1)],[],0⟩) fun dY =>
   .ite _ (
    .bk 1 (fun gX=>⟨[sI 1 a1,sP 2 0 0 0,sP 5 1 0 0,sB 7 gX,sI 8 dY.2],[.cells (dQ.cs a0),iY.o (gd a0.bK a1)],[],0⟩) (
     .ex [0,1,2,4] <|
     .tx [] <|
     .mT [3,5,6,7,8,9,10,11,12,13,14,15,16,17,18,19,20,21] _ <|
     .lt _ fun iW =>
     .nil [0,1] _) fun gX =>
    .nil [0,1] _) (
    .ret [] _)) fun gW =>
  .ite _ (
   .ret [] _) (
   .ret [] _))
end Go.Proofs.YtdbfbedholdjaaaGreat
