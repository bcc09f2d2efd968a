/- No conditions. -/
import Derived.Test.YtdbfbedholdjaaaGreatGLA
import Derived.Test.YtdbfbedholdjaaaGreatProg
import Derived.Test.YtdbfbedholdjaaaGreatGLd
set_option linter.unusedVariables false
set_option linter.unusedSimpArgs false
set_option linter.unusedSectionVars false
namespace Go.Proofs.YtdbfbedholdjaaaGreat
open Go Go.Proofs Go.Dl
variable [dK]
set_option maxRecDepth 100000
set_option maxHeartbeats 4000000
def aNy (K:Nat) (a0:gX):Option ((Bool) ⊕ (Bool)) :=
 (bO (((decide (((Int.ofNat a0.bQ.length):Int) > 6)) || (decide (((Int.ofNat a0.cK.length):Int) > 4))) || (decide (((Int.ofNat a0.cH.length):Int) > 8))) (fun (x1:Bool)=>(if x1=true then (some (.inl (true))) else (bP (bN ((iter K (fun (iX:Int)=>(bO (decide ((iX:Int)<(Int.ofNat a0.bQ.length))) (fun (gZ:Bool)=>(if gZ=true then (bP (bN (bW [cY iX a0.bQ.length,!(!(decide (((Int.ofNat ((a0.bQ.getD (iX:Int).toNat default).cN).length):Int) > 3))) || cY iX a0.bQ.length] (bO ((decide (((Int.ofNat ((a0.bQ.getD (iX:Int).toNat default).cN).length):Int) > 3)) || (decide (((Int.ofNat ((a0.bQ.getD (iX:Int).toNat default).cH).length):Int) > 8))) (fun (x32:Bool)=>(if x32=true then (some (.inl (Sum.inr (Sum.inr (true))))) else (some (.inr ()))))))) (fun (vZ:Unit)=>(some (.inr ((IntKind.i64.wrap (iX+1))))))) else (some (.inl (Sum.inl ()))))))) (0)).map .inl)) (fun (kI:Unit)=>(some (.inl (false))))))))
theorem aRD (K:Nat) (a0:gX):bS Tryz.prog 116 [.agg (gT.cs a0)] [] (bV (aNy K a0)) (fun r=>.c (.val (.bool r))) (fun r=>[]):=by
 refine bS.it Tryz.f116 (fun r=>⟨[sB 2 r],[],[],0⟩) ?_
 unfold aNy
 exact Ref.pt (
  .lt _ fun x1 =>
  .ite _ (
   .ret [] _) (
   .bk 0 (fun kI=>⟨[],[],[],0⟩) (
    .lp [0] (fun iX=>⟨[sP 1 0 0 0,sI 3 iX],[gT.o a0],[],0⟩) fun iX =>
    .lt _ fun gZ =>
    .ite _ (
     .bk 1 (fun vZ=>⟨[sP 1 0 0 0,sI 3 iX],[gT.o a0],[],0⟩) (
      .ck _ <|
      .lt _ fun x32 =>
      .ite _ (
       .ret [] _) (
       .nil [0] _)) fun vZ =>
     .nil [0] _) (
     .ret [] _)) fun kI =>
   .ret [] _))
def aLc (K:Nat) (a0:cM) (a1:Bytes) (a2:Bool):Option ((Bool) ⊕ (Bool)) :=
 ((cF true (bV (F61 K a0 a1)) default).bind (fun r1=>((cF true (bV (F68 K a0 r1)) default).bind (fun r2=>(bO (((r2:Int) == 2) || (a2 && ((r2:Int) == 1))) (fun (x3:Bool)=>(some (.inl (x3)))))))))
theorem aJT (K:Nat) (a0:cM) (a1:Bytes) (a2:Bool):bS Tryz.prog 197 [.agg (dP.cs a0),.c (.str a1),.c (.val (.bool a2))] [] (bV (aLc K a0 a1 a2)) (fun r=>.c (.val (.bool r))) (fun r=>[]):=by
 refine bS.it Tryz.f197 (fun r=>⟨[sB 6 r],[],[],0⟩) ?_
 unfold aLc
 exact Ref.pt (
  .ex [2] <|
  .tx [] <|
  .ex [0,1] <|
  .eH 3 (default:Int) _ [] (nF K a0 a1) (fun _=>rfl) fun r1 =>
  .eH 4 (default:Int) _ [] (nG K a0 r1) (fun _=>rfl) fun r2 =>
  .ex [5] <|
  .lt _ fun x3 =>
  .ret [] _)
def aLd (K:Nat) (a0:cM) (a1:fU):Option ((Bool) ⊕ (Bool)) :=
 (bO (((a1.bR:Int) == 1) || ((a1.bR:Int) == 2)) (fun (x1:Bool)=>((cF (((a1.bR:Int) == 5) && (!x1)) (bV (aLc K a0 a1.cD true)) default).bind (fun r2=>(some (.inl ((x1 || (((a1.bR:Int) == 5) && r2)))))))))
theorem aJU (K:Nat) (a0:cM) (a1:fU):bS Tryz.prog 191 [.agg (dP.cs a0),.agg (kD.cs a1)] [] (bV (aLd K a0 a1)) (fun r=>.c (.val (.bool r))) (fun r=>[]):=by
 refine bS.it Tryz.f191 (fun r=>⟨[sB 4 r],[],[],0⟩) ?_
 unfold aLd
 exact Ref.pt (
  .lt _ fun x1 =>
  .look (default:Bool) _ [] (aJT K a0 a1.cD true) (fun _=>rfl) fun r2 =>
  .ret [] _)
def aNz (K:Nat) (a0:fU):Option ((Bool) ⊕ (Bool)) :=
 (bO ((((a0.bR:Int) == 0) || ((a0.bR:Int) == 1)) || ((a0.bR:Int) == 2)) (fun (x1:Bool)=>(some (.inl (x1)))))
theorem aRE (K:Nat) (a0:fU):bS Tryz.prog 192 [.agg (kD.cs a0)] [] (bV (aNz K a0)) (fun r=>.c (.val (.bool r))) (fun r=>[]):=by
 refine bS.it Tryz.f192 (fun r=>⟨[sB 2 r],[],[],0⟩) ?_
 unfold aNz
 exact Ref.pt (
  .lt _ fun x1 =>
  .ret [] _)
def aLe (K:Nat) (a0:cM) (a1:iT):Option ((Bool) ⊕ (Bool)) :=
 (bP (bN ((iter K (fun (dZ:Int)=>(bO (decide ((dZ:Int)<(Int.ofNat a1.cN.length))) (fun (kP:Bool)=>(if kP=true then (bP (bN (bW [cY dZ a1.cN.length] ((cF true (bV (aLd K a0 ((a1.cN.getD (dZ:Int).toNat default).cO))) default).bind (fun r31=>(if (!r31)=true then (some (.inl (Sum.inr (Sum.inr (false))))) else (some (.inr ()))))))) (fun (eS:Unit)=>(some (.inr ((IntKind.i64.wrap (dZ+1))))))) else (some (.inl (Sum.inl ()))))))) (0)).map .inl)) (fun (u16:Unit)=>((bV (aNz K a1.eY)).bind (fun r32=>(some (.inl (r32)))))))
theorem aJV (K:Nat) (a0:cM) (a1:iT):bS Tryz.prog 144 [.agg (dP.cs a0),.agg (j3.cs a1)] [] (bV (aLe K a0 a1)) (fun r=>.c (.val (.bool r))) (fun r=>[]):=by
 refine bS.it Tryz.f144 (fun r=>⟨[sB 4 r],[],[],0⟩) ?_
 unfold aLe
 exact Ref.pt (
  .bk 0 (fun u16=>⟨[sP 3 0 0 0],[j3.o a1],[],0⟩) (
   .lp [0,1] (fun dZ=>⟨[sP 2 0 0 0,sP 3 1 0 0,sI 5 dZ],[.cells (dP.cs a0),j3.o a1],[],0⟩) fun dZ =>
   .lt _ fun kP =>
   .ite _ (
    .bk 1 (fun eS=>⟨[sP 2 0 0 0,sP 3 1 0 0,sI 5 dZ],[.cells (dP.cs a0),j3.o a1],[],0⟩) (
     .ex [1,3] <|
     .tx [] <|
     .iU [0,2,4,5,6] _ <|
     .eH 7 (default:Bool) _ [] (aJU K a0 ((gd a1.cN dZ).cO)) (fun _=>rfl) fun r31 =>
     .ex [8] <|
     .ite _ (
      .ret [] _) (
      .nil [0,1] _)) fun eS =>
    .nil [0,1] _) (
    .ret [1] _)) fun u16 =>
  .call [] (aRE _ _) fun r32 =>
  .ret [] _)
def aCk (K:Nat) (a0:(List Bytes)):Option ((Bool) ⊕ (Bool)) :=
 (bP (bN ((iter K (fun (aAP:Int)=>(bO (decide ((aAP:Int)<(Int.ofNat a0.length))) (fun (aYf:Bool)=>(if aYf=true then (bP (bN (bP (bN ((iter K (fun (aGy:Int)=>(if (decide ((aGy:Int)<aAP))=true then (bP (bN (bW [cY aGy a0.length,cY aAP a0.length] (bO ((a0.getD (aGy:Int).toNat default) == (a0.getD (aAP:Int).toNat default)) (fun (aYg:Bool)=>(if aYg=true then (some (.inl (Sum.inr (Sum.inr (Sum.inr (Sum.inr (true))))))) else (some (.inr ()))))))) (fun (aGz:Unit)=>(some (.inr ((IntKind.i64.wrap (aGy+1))))))) else (some (.inl (Sum.inl ()))))) (0)).map .inl)) (fun (aYh:Unit)=>(some (.inr ()))))) (fun (aYi:Unit)=>(some (.inr ((IntKind.i64.wrap (aAP+1))))))) else (some (.inl (Sum.inl ()))))))) (0)).map .inl)) (fun (aNA:Unit)=>(some (.inl (false)))))
theorem rE (K:Nat) (a0:(List Bytes)):bS Tryz.prog 145 [.c (E9.tree a0)] [] (bV (aCk K a0)) (fun r=>.c (.val (.bool r))) (fun r=>[]):=by
 refine bS.it Tryz.f145 (fun r=>⟨[sB 2 r],[],[],0⟩) ?_
 unfold aCk
 exact Ref.pt (
  .bk 0 (fun aNA=>⟨[],[],[],0⟩) (
   .lp [] (fun aAP=>⟨[(0,.c (E9.tree a0)),sI 3 aAP],[],[],0⟩) fun aAP =>
   .lt _ fun aYf =>
   .ite _ (
    .bk 1 (fun aYi=>⟨[(0,.c (E9.tree a0)),sI 3 aAP],[],[],0⟩) (
     .bk 2 (fun aYh=>⟨[(0,.c (E9.tree a0)),sI 3 aAP],[],[],0⟩) (
      .lp [] (fun aGy=>⟨[(0,.c (E9.tree a0)),sI 3 aAP,sI 4 aGy],[],[],0⟩) fun aGy =>
      .ite _ (
       .bk 3 (fun aGz=>⟨[(0,.c (E9.tree a0)),sI 3 aAP,sI 4 aGy],[],[],0⟩) (
        .iU [0,1,2,4,5,6] _ <|
        .tx [] <|
        .ex [3,7,8] <|
        .lt _ fun aYg =>
        .ite _ (
         .ret [] _) (
         .nil [] _)) fun aGz =>
       .nil [] _) (
       .ret [] _)) fun aYh =>
     .nil [] _) fun aYi =>
    .nil [] _) (
    .ret [] _)) fun aNA =>
  .ret [] _)
def aIr (K:Nat) (a0:gX):Option (((List Bytes)) ⊕ ((List Bytes))) :=
 (bP (bN ((iter K (fun (dZ:(List Bytes) × Int)=>(bO (decide ((dZ.2:Int)<(Int.ofNat a0.bQ.length))) (fun (kP:Bool)=>(if kP=true then (bP (bN (bW [cY dZ.2 a0.bQ.length] (bO ((a0.bQ.getD (dZ.2:Int).toNat default).cD) (fun (x31:Bytes)=>(bW [room ((dZ.1.length+([x31].length)) * 16)] (some (.inr ((dZ.1++[x31]))))))))) (fun (eS:(List Bytes))=>(some (.inr (eS,(IntKind.i64.wrap (dZ.2+1))))))) else (some (.inl (Sum.inl (dZ.1)))))))) ([],0)).map .inl)) (fun (u16:(List Bytes))=>(some (.inl (u16)))))
theorem aFb (K:Nat) (a0:gX):bS Tryz.prog 146 [.agg (gT.cs a0)] [] (bV (aIr K a0)) (fun r=>.c (E9.tree r)) (fun r=>[]):=by
 refine bS.it Tryz.f146 (fun r=>⟨[(2,.c (E9.tree r))],[],[],0⟩) ?_
 unfold aIr
 exact Ref.pt (
  .bk 0 (fun u16=>⟨[(3,.c (.own 0 u16.length))],[E9.row u16],[],0⟩) (
   .ad 2 0 3 E9.ty E9.w (E9.at []) <|
   .lp [0,1] (fun dZ=>⟨[sP 1 0 0 0,(3,.c (.own 1 dZ.1.length)),sI 4 dZ.2],[gT.o a0,E9.row dZ.1],[],0⟩) fun dZ =>
   .lt _ fun kP =>
   .ite _ (
    .bk 1 (fun eS=>⟨[sP 1 0 0 0,(3,.c (.own 1 eS.length)),sI 4 dZ.2],[gT.o a0,E9.row eS],[],0⟩) (
     .ck _ <|
     .lt _ fun x31 =>
     .ob 5 2 2 (El.cB E9 [x31] rfl rfl) <|
     .ck _ <|
     .ap 5 1 3 20 E9 dZ.1 [x31] <|
     .nil [0,3] _) fun eS =>
    .nil [0,1] _) (
    .ret [1] _)) fun u16 =>
  .fz 6 0 0 <|
  .ret [] _)
def aGA (K:Nat) (a0:(List fE)):Option (((List Bytes)) ⊕ ((List Bytes))) :=
 (bP (bN ((iter K (fun (u12:(List Bytes) × Int)=>(bO (decide ((u12.2:Int)<(Int.ofNat a0.length))) (fun (x16:Bool)=>(if x16=true then (bP (bN (bW [cY u12.2 a0.length] (bW [room ((u12.1.length+([(a0.getD (u12.2:Int).toNat default).cD].length)) * 16)] (some (.inr ((u12.1++[(a0.getD (u12.2:Int).toNat default).cD]))))))) (fun (kI:(List Bytes))=>(some (.inr (kI,(IntKind.i64.wrap (u12.2+1))))))) else (some (.inl (Sum.inl (u12.1)))))))) ([],0)).map .inl)) (fun (u9:(List Bytes))=>(some (.inl (u9)))))
theorem aBr (K:Nat) (a0:(List fE)):bS Tryz.prog 147 [.c (eX.tree a0)] [] (bV (aGA K a0)) (fun r=>.c (E9.tree r)) (fun r=>[]):=by
 refine bS.it Tryz.f147 (fun r=>⟨[(2,.c (E9.tree r))],[],[],0⟩) ?_
 unfold aGA
 exact Ref.pt (
  .bk 0 (fun u9=>⟨[(3,.c (.own 0 u9.length))],[E9.row u9],[],0⟩) (
   .ad 2 0 3 E9.ty E9.w (E9.at []) <|
   .lp [0] (fun u12=>⟨[(0,.c (eX.tree a0)),(3,.c (.own 0 u12.1.length)),sI 4 u12.2],[E9.row u12.1],[],0⟩) fun u12 =>
   .lt _ fun x16 =>
   .ite _ (
    .bk 1 (fun kI=>⟨[(0,.c (eX.tree a0)),(3,.c (.own 0 kI.length)),sI 4 u12.2],[E9.row kI],[],0⟩) (
     .ck _ <|
     .ob 5 2 1 (El.cB E9 [(gd a0 u12.2).cD] rfl rfl) <|
     .ck _ <|
     .ap 5 1 2 18 E9 u12.1 [(gd a0 u12.2).cD] <|
     .nil [2] _) fun kI =>
    .nil [0] _) (
    .ret [0] _)) fun u9 =>
  .fz 6 0 0 <|
  .ret [] _)
def aNB (K:Nat) (a0:cM) (a1:gX):Option ((Int) ⊕ (Int)) :=
 (bP (bN ((iter K (fun (dZ:Int)=>(bO (decide ((dZ:Int)<(Int.ofNat a1.bQ.length))) (fun (kP:Bool)=>(if kP=true then (bP (bN (bW [cY dZ a1.bQ.length] ((cF true (bV (aLe K a0 (a1.bQ.getD (dZ:Int).toNat default))) default).bind (fun r31=>(if (!r31)=true then (some (.inl (Sum.inr (Sum.inr (9))))) else (some (.inr ()))))))) (fun (eS:Unit)=>(some (.inr ((IntKind.i64.wrap (dZ+1))))))) else (some (.inl (Sum.inl ()))))))) (0)).map .inl)) (fun (u16:Unit)=>((bV (aIr K a1)).bind (fun r32=>((bV (aCk K r32)).bind (fun r33=>(bP (bN ((iter K (fun (u63:Bool × Int)=>(bO (decide ((u63.2:Int)<(Int.ofNat a1.bQ.length))) (fun (x71:Bool)=>(if x71=true then (bP (bN (bW [!(!u63.1) || cY u63.2 a1.bQ.length] ((cF (!u63.1) (bV (aGA K ((a1.bQ.getD (u63.2:Int).toNat default).cN))) default).bind (fun r75=>((cF (!u63.1) (bV (aCk K r75)) default).bind (fun r76=>(some (.inr ((u63.1 || r76)))))))))) (fun (u74:Bool)=>(some (.inr (u74,(IntKind.i64.wrap (u63.2+1))))))) else (some (.inl (Sum.inl (u63.1)))))))) (r33,0)).map .inl)) (fun (u55:Bool)=>(if u55=true then (some (.inl (6))) else (some (.inl (0))))))))))))
theorem aRF (K:Nat) (a0:cM) (a1:gX):bS Tryz.prog 117 [.agg (dP.cs a0),.agg (gT.cs a1)] [] (bV (aNB K a0 a1)) (fun r=>.c (.val (.int .i64 r))) (fun r=>[]):=by
 refine bS.it Tryz.f117 (fun r=>⟨[sI 4 r],[],[],0⟩) ?_
 unfold aNB
 exact Ref.pt (
  .bk 0 (fun u16=>⟨[sP 3 0 0 0],[gT.o a1],[],0⟩) (
   .lp [0,1] (fun dZ=>⟨[sP 2 0 0 0,sP 3 1 0 0,sI 5 dZ],[.cells (dP.cs a0),gT.o a1],[],0⟩) fun dZ =>
   .lt _ fun kP =>
   .ite _ (
    .bk 1 (fun eS=>⟨[sP 2 0 0 0,sP 3 1 0 0,sI 5 dZ],[.cells (dP.cs a0),gT.o a1],[],0⟩) (
     .ex [1,3] <|
     .tx [] <|
     .iU [0,2,4,5] _ <|
     .eH 6 (default:Bool) _ [] (aJV K a0 (gd a1.bQ dZ)) (fun _=>rfl) fun r31 =>
     .ex [7] <|
     .ite _ (
      .ret [] _) (
      .nil [0,1] _)) fun eS =>
    .nil [0,1] _) (
    .ret [1] _)) fun u16 =>
  .call [] (aFb _ _) fun r32 =>
  .call [] (rE _ _) fun r33 =>
  .bk 2 (fun u55=>⟨[sB 6 u55],[],[],0⟩) (
   .lp [0] (fun u63=>⟨[sP 3 0 0 0,sB 6 u63.1,sI 7 u63.2],[gT.o a1],[],0⟩) fun u63 =>
   .lt _ fun x71 =>
   .ite _ (
    .bk 3 (fun u74=>⟨[sP 3 0 0 0,sB 6 u74,sI 7 u63.2],[gT.o a1],[],0⟩) (
     .ck _ <|
     .uZ (default:(List Bytes)) _ (aBr K ((gd a1.bQ u63.2).cN)) fun r75 =>
     .look (default:Bool) _ [] (rE K r75) (fun _=>rfl) fun r76 =>
     .nil [0] _) fun u74 =>
    .nil [0] _) (
    .ret [] _)) fun u55 =>
  .ite _ (
   .ret [] _) (
   .ret [] _))
def aLf (K:Nat) (a0:fE):Option ((Bool) ⊕ (Bool)) :=
 (bP (bN (if ((a0.cO.bR:Int) == 1)=true then (bO ((decide ((a0.dU:Int) ≥ (-32768))) && (decide ((a0.dU:Int)≤32767))) (fun (x5:Bool)=>(some (.inl (Sum.inr (x5)))))) else (if ((a0.cO.bR:Int) == 2)=true then (bO (((a0.dU:Int) == 0) || ((a0.dU:Int) == 1)) (fun (x6:Bool)=>(some (.inl (Sum.inr (x6)))))) else (if ((a0.cO.bR:Int) == 3)=true then (bO ((decide ((a0.dU:Int) ≥ a0.cO.fLo)) && (decide ((a0.dU:Int)≤a0.cO.fHi))) (fun (x7:Bool)=>(some (.inl (Sum.inr (x7)))))) else (some (.inr ())))))) (fun (u4:Unit)=>(some (.inl (((a0.dU:Int) == 0))))))
theorem aJW (K:Nat) (a0:fE):bS Tryz.prog 155 [.agg (eX.cs a0)] [] (bV (aLf K a0)) (fun r=>.c (.val (.bool r))) (fun r=>[]):=by
 refine bS.it Tryz.f155 (fun r=>⟨[sB 2 r],[],[],0⟩) ?_
 unfold aLf
 exact Ref.pt (
  .bk 0 (fun u4=>⟨[sP 1 0 0 0],[eX.o a0],[],0⟩) (
   .ite _ (
    .lt _ fun x5 =>
    .ret [] _) (
    .ite _ (
     .lt _ fun x6 =>
     .ret [] _) (
     .ite _ (
      .lt _ fun x7 =>
      .ret [] _) (
      .nil [0] _)))) fun u4 =>
  .ret [] _)
def aLg (K:Nat) (a0:cM) (a1:fU):Option ((Bool) ⊕ (Bool)) :=
 ((bV (aLd K a0 a1)).bind (fun r1=>(bO ((r1 || (((((a1.bR:Int) == 3) && (decide ((a1.fLo:Int) ≥ (-32768)))) && (decide ((a1.fHi:Int)≤32767))) && (decide ((a1.fLo:Int)≤a1.fHi)))) || ((((a1.bR:Int) == 4) && (decide ((a1.fHi:Int) ≥ 0))) && (decide ((a1.fHi:Int)<8)))) (fun (x2:Bool)=>(some (.inl (x2)))))))
theorem aJX (K:Nat) (a0:cM) (a1:fU):bS Tryz.prog 193 [.agg (dP.cs a0),.agg (kD.cs a1)] [] (bV (aLg K a0 a1)) (fun r=>.c (.val (.bool r))) (fun r=>[]):=by
 refine bS.it Tryz.f193 (fun r=>⟨[sB 4 r],[],[],0⟩) ?_
 unfold aLg
 exact Ref.pt (
  .call [] (aJU _ _ _) fun r1 =>
  .lt _ fun x2 =>
  .ret [] _)
def aNC (K:Nat) (a0:cM) (a1:gX):Option ((Int) ⊕ (Int)) :=
 (bW [room (a1.cH.length * 80)] (bP (bN ((iter K (fun (mW:(List fE) × Int)=>(bO (decide ((mW.2:Int)<(Int.ofNat a1.bQ.length))) (fun (aYk:Bool)=>(if aYk=true then (bP (bN (bW [cY mW.2 a1.bQ.length] ((bV (aLe K a0 (a1.bQ.getD (mW.2:Int).toNat default))).bind (fun aYl=>(if (!aYl)=true then (some (.inl (Sum.inr (Sum.inr (9))))) else (bP (bN ((iter K (fun (aGB:Int)=>(bO (decide ((aGB:Int)<(Int.ofNat ((a1.bQ.getD (mW.2:Int).toNat default).cN).length))) (fun (aYm:Bool)=>(if aYm=true then (bP (bN (bW [cY aGB ((a1.bQ.getD (mW.2:Int).toNat default).cN).length] (bO ((((((a1.bQ.getD (mW.2:Int).toNat default).cN).getD (aGB:Int).toNat default).kO):Int) != 0) (fun (aYn:Bool)=>(if aYn=true then (some (.inl (Sum.inr (Sum.inr (Sum.inr (Sum.inr (9))))))) else (some (.inr ()))))))) (fun (aYo:Unit)=>(some (.inr ((IntKind.i64.wrap (aGB+1))))))) else (some (.inl (Sum.inl ()))))))) (0)).map .inl)) (fun (aYp:Unit)=>(bO ((a1.bQ.getD (mW.2:Int).toNat default).cH) (fun (aRG:(List fE))=>(bW [room ((mW.1.length+aRG.length) * 80)] (some (.inr ((mW.1++aRG)))))))))))))) (fun (aND:(List fE))=>(some (.inr (aND,(IntKind.i64.wrap (mW.2+1))))))) else (some (.inl (Sum.inl (mW.1)))))))) (a1.cH,0)).map .inl)) (fun (oI:(List fE))=>(bP (bN ((iter K (fun (aCm:Int)=>(bO (decide ((aCm:Int)<(Int.ofNat oI.length))) (fun (aYq:Bool)=>(if aYq=true then (bP (bN (bW [cY aCm oI.length] ((cF true (bV (aLg K a0 ((oI.getD ((aCm:Int).toNat) default).cO))) default).bind (fun aVI=>(bW [!(!(!aVI)) || cY aCm oI.length] (bO ((!aVI) || ((((oI.getD ((aCm:Int).toNat) default).kO):Int) != 0)) (fun (aYr:Bool)=>(if aYr=true then (some (.inl (Sum.inr (Sum.inr (9))))) else (some (.inr ())))))))))) (fun (aYs:Unit)=>(some (.inr ((IntKind.i64.wrap (aCm+1))))))) else (some (.inl (Sum.inl ()))))))) (0)).map .inl)) (fun (aYt:Unit)=>(bP (bN ((iter K (fun (aGC:Int)=>(bO (decide ((aGC:Int)<(Int.ofNat oI.length))) (fun (aNE:Bool)=>(if aNE=true then (bP (bN (bW [cY aGC oI.length] ((bV (aLf K (oI.getD ((aGC:Int).toNat) default))).bind (fun aYu=>(if (!aYu)=true then (some (.inl (Sum.inr (Sum.inr (10))))) else (some (.inr ()))))))) (fun (aYv:Unit)=>(some (.inr ((IntKind.i64.wrap (aGC+1))))))) else (some (.inl (Sum.inl ()))))))) (0)).map .inl)) (fun (aGD:Unit)=>(some (.inl (0))))))))))
abbrev aFc (v0:(List fE) × Int):List (Nat × D):=[sP 2 0 0 0,sP 3 1 0 0,(5,.c (.own 2 v0.1.length)),sI 6 v0.2]
theorem aRH (K:Nat) (a0:cM) (a1:gX):bS Tryz.prog 148 [.agg (dP.cs a0),.agg (gT.cs a1)] [] (bV (aNC K a0 a1)) (fun r=>.c (.val (.int .i64 r))) (fun r=>[]):=by
 refine bS.it Tryz.f148 (fun r=>⟨[sI 4 r],[],[],0⟩) ?_
 unfold aNC
 exact Ref.pt (
  .ck _ <|
  .bk 0 (fun oI=>⟨[sP 2 0 0 0,(5,.c (.own 1 oI.length))],[.cells (dP.cs a0),eX.row oI],[],0⟩) (
   .lp [0,1,2] (fun mW=>⟨aFc mW,[.cells (dP.cs a0),gT.o a1,eX.row mW.1],[],0⟩) fun mW =>
   .lt _ fun aYk =>
   .ite _ (
    .bk 1 (fun aND=>⟨[sP 2 0 0 0,sP 3 1 0 0,(5,.c (.own 2 aND.length)),sI 6 mW.2],[.cells (dP.cs a0),gT.o a1,eX.row aND],[],0⟩) (
     .ck _ <|
     .call [] (aJV _ _ _) fun aYl =>
     .ite _ (
      .ret [] _) (
      .bk 2 (fun aYp=>⟨aFc mW++[sP 7 3 0 0],[.cells (dP.cs a0),gT.o a1,eX.row mW.1,j3.o (gd a1.bQ mW.2)],[],0⟩) (
       .lp [0,1,2,3] (fun aGB=>⟨aFc mW++[sP 7 3 0 0,sI 8 aGB],[.cells (dP.cs a0),gT.o a1,eX.row mW.1,j3.o (gd a1.bQ mW.2)],[],0⟩) fun aGB =>
       .lt _ fun aYm =>
       .ite _ (
        .bk 3 (fun aYo=>⟨aFc mW++[sP 7 3 0 0,sI 8 aGB],[.cells (dP.cs a0),gT.o a1,eX.row mW.1,j3.o (gd a1.bQ mW.2)],[],0⟩) (
         .ck _ <|
         .lt _ fun aYn =>
         .ite _ (
          .ret [] _) (
          .nil [0,1,2,3] _)) fun aYo =>
        .nil [0,1,2,3] _) (
        .ret [0,1,2,3] _)) fun aYp =>
      .lt _ fun aRG =>
      .ck _ <|
      .ap 13 1 4 47 eX mW.1 aRG <|
      .nil [0,1,4] _)) fun aND =>
    .nil [0,1,2] _) (
    .ret [0,2] _)) fun oI =>
  .bk 4 (fun aYt=>⟨[(5,.c (.own 0 oI.length))],[eX.row oI],[],0⟩) (
   .lp [0,1] (fun aCm=>⟨[sP 2 0 0 0,(5,.c (.own 1 oI.length)),sI 9 aCm],[.cells (dP.cs a0),eX.row oI],[],0⟩) fun aCm =>
   .lt _ fun aYq =>
   .ite _ (
    .bk 5 (fun aYs=>⟨[sP 2 0 0 0,(5,.c (.own 1 oI.length)),sI 9 aCm],[.cells (dP.cs a0),eX.row oI],[],0⟩) (
     .iU [1,2,3,4] _ <|
     .tx [] <|
     .ex [0,5] <|
     .eH 6 (default:Bool) _ [] (aJX K a0 ((oI.getD ((aCm:Int).toNat) default).cO)) (fun _=>rfl) fun aVI =>
     .iU [7,8,9,10,11,12,13,14,15] _ <|
     .lt _ fun aYr =>
     .ite _ (
      .ret [] _) (
      .nil [0,1] _)) fun aYs =>
    .nil [0,1] _) (
    .ret [1] _)) fun aYt =>
  .bk 6 (fun aGD=>⟨[],[],[],0⟩) (
   .lp [0] (fun aGC=>⟨[(5,.c (.own 0 oI.length)),sI 10 aGC],[eX.row oI],[],0⟩) fun aGC =>
   .lt _ fun aNE =>
   .ite _ (
    .bk 7 (fun aYv=>⟨[(5,.c (.own 0 oI.length)),sI 10 aGC],[eX.row oI],[],0⟩) (
     .ck _ <|
     .call [] (aJW _ _) fun aYu =>
     .ite _ (
      .ret [] _) (
      .nil [0] _)) fun aYv =>
    .nil [0] _) (
    .ret [] _)) fun aGD =>
  .ret [] _)
def aNF (K:Nat) (a0:cM) (a1:Int):Option ((Bool) ⊕ (Bool)) :=
 (bW [cY a1 a0.bM.length] (bO (((a0.bM.getD (a1:Int).toNat default).eQ) && ((a0.bM.getD (a1:Int).toNat default).tE)) (fun (x1:Bool)=>(if x1=true then (some (.inl (true))) else (bP (bN ((iter K (fun (iX:Int)=>(bO (decide ((iX:Int)<(Int.ofNat ((a0.bM.getD (a1:Int).toNat default).bQ).length))) (fun (gZ:Bool)=>(if gZ=true then (bP (bN (bW [cY iX ((a0.bM.getD (a1:Int).toNat default).bQ).length] (bO (((((a0.bM.getD (a1:Int).toNat default).bQ).getD (iX:Int).toNat default).eQ) && (((((((a0.bM.getD (a1:Int).toNat default).bQ).getD (iX:Int).toNat default).tE) || (decide (((Int.ofNat ((((a0.bM.getD (a1:Int).toNat default).bQ).getD (iX:Int).toNat default).cH).length):Int) > 0))) || (decide (((Int.ofNat ((((a0.bM.getD (a1:Int).toNat default).bQ).getD (iX:Int).toNat default).rP).length):Int) > 0))) || (!((a0.bM.getD (a1:Int).toNat default).eQ)))) (fun (x32:Bool)=>(if x32=true then (some (.inl (Sum.inr (Sum.inr (true))))) else (some (.inr ()))))))) (fun (vZ:Unit)=>(some (.inr ((IntKind.i64.wrap (iX+1))))))) else (some (.inl (Sum.inl ()))))))) (0)).map .inl)) (fun (kI:Unit)=>((bV (aCi K a0 a1)).bind (fun r33=>(bP (bN ((iter K (fun (zS:Int)=>(bO ((decide ((zS:Int)<(Int.ofNat r33.length))) && (!((a0.bM.getD (a1:Int).toNat default).eQ))) (fun (aYw:Bool)=>(if aYw=true then (bP (bN (bW [cY zS r33.length] (bW [cY (r33.getD (zS:Int).toNat default) a0.bM.length] ((bV (aIr K (a0.bM.getD ((r33.getD (zS:Int).toNat default):Int).toNat default))).bind (fun aIs=>(bP (bN ((iter K (fun (aFd:Int)=>(bO (decide ((aFd:Int)<(Int.ofNat aIs.length))) (fun (aYx:Bool)=>(if aYx=true then (bP (bN (bW [cY aFd aIs.length] ((bV (aE6 K a0 a1 (aIs.getD (aFd:Int).toNat default))).bind (fun aVJ=>((bV (F63 K a0 aVJ.1)).bind (fun aYy=>(if aYy.eQ=true then (some (.inl (Sum.inr (Sum.inr (Sum.inr (Sum.inr (true))))))) else (some (.inr ()))))))))) (fun (aYz:Unit)=>(some (.inr ((IntKind.i64.wrap (aFd+1))))))) else (some (.inl (Sum.inl ()))))))) (0)).map .inl)) (fun (aYA:Unit)=>(some (.inr ()))))))))) (fun (aYB:Unit)=>(some (.inr ((IntKind.i64.wrap (zS+1))))))) else (some (.inl (Sum.inl ()))))))) (0)).map .inl)) (fun (aYC:Unit)=>(some (.inl (false)))))))))))))
theorem aRI (K:Nat) (a0:cM) (a1:Int):bS Tryz.prog 150 [.agg (dP.cs a0),.c (.val (.int .i64 a1))] [] (bV (aNF K a0 a1)) (fun r=>.c (.val (.bool r))) (fun r=>[]):=by
 refine bS.it Tryz.f150 (fun r=>⟨[sB 4 r],[],[],0⟩) ?_
 unfold aNF
 exact Ref.pt (
  .ck _ <|
  .lt _ fun x1 =>
  .ite _ (
   .ret [] _) (
   .bk 0 (fun kI=>⟨[sI 1 a1,sP 2 0 0 0,sP 5 1 0 0],[.cells (dP.cs a0),gT.o (gd a0.bM a1)],[],0⟩) (
    .lp [0,1] (fun iX=>⟨[sI 1 a1,sP 2 0 0 0,sP 5 1 0 0,sI 6 iX],[.cells (dP.cs a0),gT.o (gd a0.bM a1)],[],0⟩) fun iX =>
    .lt _ fun gZ =>
    .ite _ (
     .bk 1 (fun vZ=>⟨[sI 1 a1,sP 2 0 0 0,sP 5 1 0 0,sI 6 iX],[.cells (dP.cs a0),gT.o (gd a0.bM a1)],[],0⟩) (
      .ck _ <|
      .lt _ fun x32 =>
      .ite _ (
       .ret [] _) (
       .nil [0,1] _)) fun vZ =>
     .nil [0,1] _) (
     .ret [0,1] _)) fun kI =>
   .call [] (rD _ _ _) fun r33 =>
   .bk 2 (fun aYC=>⟨[],[],[],0⟩) (
    .lp [0,1] (fun zS=>⟨[sI 1 a1,sP 2 0 0 0,sP 5 1 0 0,(8,.c (E3.tree r33)),sI 9 zS],[.cells (dP.cs a0),gT.o (gd a0.bM a1)],[],0⟩) fun zS =>
    .lt _ fun aYw =>
    .ite _ (
     .bk 3 (fun aYB=>⟨[sI 1 a1,sP 2 0 0 0,sP 5 1 0 0,(8,.c (E3.tree r33)),sI 9 zS],[.cells (dP.cs a0),gT.o (gd a0.bM a1)],[],0⟩) (
      .iU [0,2,3,4] _ <|
      .tx [8,9] <|
      .iU [1,5,6,7] _ <|
      .tl [8,9] <|
      .call [] (aFb _ _) fun aIs =>
      .bk 4 (fun aYA=>⟨[sI 1 a1,sP 2 0 0 0,sP 5 1 0 0,(8,.c (E3.tree r33)),sI 9 zS],[.cells (dP.cs a0),gT.o (gd a0.bM a1)],[],0⟩) (
       .lp [0,1] (fun aFd=>⟨[sI 1 a1,sP 2 0 0 0,sP 5 1 0 0,(8,.c (E3.tree r33)),sI 9 zS,(10,.c (E9.tree aIs)),sI 11 aFd],[.cells (dP.cs a0),gT.o (gd a0.bM a1)],[],0⟩) fun aFd =>
       .lt _ fun aYx =>
       .ite _ (
        .bk 5 (fun aYz=>⟨[sI 1 a1,sP 2 0 0 0,sP 5 1 0 0,(8,.c (E3.tree r33)),sI 9 zS,(10,.c (E9.tree aIs)),sI 11 aFd],[.cells (dP.cs a0),gT.o (gd a0.bM a1)],[],0⟩) (
         .iU [1,2,3,4] _ <|
         .tx [6,11] <|
         .ex [0,5] <|
         .kn fun aVJ aYD =>
         .all [1,2,5,8,9,10,11,90,91,95,96,89,97,98,12,13] (rg (cd (bd Tryz.f150) [1,1,1,1,1,0,1,0,0,1,0,0,1,1,0,0,1,0,0,0])) [true,true,true,true,true,true,false,false,false,false,false,false,false] (hl [(6,.kc [] (bS.eq (xQ _ _ _ _) aYD) [])]) ⟨[sI 1 a1,sP 2 0 0 0,sP 5 1 0 0,(8,.c (E3.tree r33)),sI 9 zS,(10,.c (E9.tree aIs)),sI 11 aFd,sP 12 2 0 0],[.cells (dP.cs a0),gT.o (gd a0.bM a1),.cells (eD.cs aVJ.1)],[],0⟩ [.s 2,.s 5,.s 12] <|
         .call [] (aCj _ _ _) fun aYy =>
         .ite _ (
          .ret [] _) (
          .nil [0,1] _)) fun aYz =>
        .nil [0,1] _) (
        .ret [0,1] _)) fun aYA =>
      .nil [0,1] _) fun aYB =>
     .nil [0,1] _) (
     .ret [] _)) fun aYC =>
   .ret [] _))
def aNG (K:Nat) (a0:cM) (a1:Int):Option ((Bool) ⊕ (Bool)) :=
 (bW [cY a1 a0.bM.length] ((bV (aCi K a0 a1)).bind (fun r1=>(bP (bN ((iter K (fun (lY:Int)=>(bO (decide ((lY:Int)<(Int.ofNat ((a0.bM.getD (a1:Int).toNat default).bQ).length))) (fun (aYE:Bool)=>(if aYE=true then (bP (bN (bW [cY lY ((a0.bM.getD (a1:Int).toNat default).bQ).length] (bP (if (decide (((Int.ofNat r1.length):Int) > 1))=true then (bW [cY 1 r1.length] ((bV (aE6 K a0 (r1.getD (1:Int).toNat default) ((((a0.bM.getD (a1:Int).toNat default).bQ).getD (lY:Int).toNat default).cD))).bind (fun aAQ=>(if aAQ.2=true then ((bV (F63 K a0 aAQ.1)).bind (fun v7=>(some (.inr (true,v7))))) else (some (.inr (false,(⟨([]:Bytes),false,false,false,[],(⟨0,0,0,([]:Bytes)⟩:fU),[],[]⟩:iT)))))))) else (some (.inr (false,(⟨([]:Bytes),false,false,false,[],(⟨0,0,0,([]:Bytes)⟩:fU),[],[]⟩:iT))))) (fun (pS:Bool × iT)=>(bO (!(((((a0.bM.getD (a1:Int).toNat default).bQ).getD (lY:Int).toNat default).aDQ) == pS.1)) (fun (aLh:Bool)=>((cF ((!pS.2.tE) && (pS.1 && (!aLh))) (bV (aK8 K (((a0.bM.getD (a1:Int).toNat default).bQ).getD (lY:Int).toNat default) pS.2)) default).bind (fun aNH=>(bO (aLh || (pS.1 && (pS.2.tE || (!aNH)))) (fun (aYF:Bool)=>(if aYF=true then (some (.inl (Sum.inr (Sum.inr (true))))) else (some (.inr ()))))))))))))) (fun (aYG:Unit)=>(some (.inr ((IntKind.i64.wrap (lY+1))))))) else (some (.inl (Sum.inl ()))))))) (0)).map .inl)) (fun (v8:Unit)=>(some (.inl (false))))))))
theorem aRJ (K:Nat) (a0:cM) (a1:Int):bS Tryz.prog 151 [.agg (dP.cs a0),.c (.val (.int .i64 a1))] [] (bV (aNG K a0 a1)) (fun r=>.c (.val (.bool r))) (fun r=>[]):=by
 refine bS.it Tryz.f151 (fun r=>⟨[sB 4 r],[],[],0⟩) ?_
 unfold aNG
 exact Ref.pt (
  .ck _ <|
  .call [] (rD _ _ _) fun r1 =>
  .bk 0 (fun v8=>⟨[],[],[],0⟩) (
   .lp [0,1] (fun lY=>⟨[sP 2 0 0 0,sP 5 1 0 0,(6,.c (E3.tree r1)),sI 7 lY],[.cells (dP.cs a0),gT.o (gd a0.bM a1)],[],0⟩) fun lY =>
   .lt _ fun aYE =>
   .ite _ (
    .bk 1 (fun aYG=>⟨[sP 2 0 0 0,sP 5 1 0 0,(6,.c (E3.tree r1)),sI 7 lY],[.cells (dP.cs a0),gT.o (gd a0.bM a1)],[],0⟩) (
     .ck _ <|
     .jn (fun pS=>⟨[sP 2 0 0 0,sP 5 1 0 0,(6,.c (E3.tree r1)),sI 7 lY,sP 8 2 0 0,sB 9 pS.1,sP 10 3 0 0],[.cells (dP.cs a0),gT.o (gd a0.bM a1),j3.o (gd ((gd a0.bM a1).bQ) lY),j3.o pS.2],[],0⟩) (
      .ite _ (
       .iU [1,2,4] _ <|
       .tx [6,11] <|
       .ex [0,3,5] <|
       .kn fun aAQ aYH =>
       .all [2,5,6,7,8,9,10,37,40,42,43,36,44,45,11,12] (rg (cd (bd Tryz.f151) [1,1,1,0,1,0,0,1,0,0,1,1,1,0,1,0,0])) [true,true,true,true,true,true,false,false,false,false,false,false,false] (hl [(6,.kc [] (bS.eq (xQ _ _ _ _) aYH) [])]) ⟨[sP 2 0 0 0,sP 5 1 0 0,(6,.c (E3.tree r1)),sI 7 lY,sP 8 2 0 0,sB 9 false,sP 10 3 0 0,sP 11 4 0 0,sB 12 aAQ.2],[.cells (dP.cs a0),gT.o (gd a0.bM a1),j3.o (gd ((gd a0.bM a1).bQ) lY),.cells [.str [],bC false,bC false,bC false,.nil,iC 0,iC 0,iC 0,.str [],.nil,.nil],.cells (eD.cs aAQ.1)],[],0⟩ [.s 2,.s 5,.s 8,.s 10,.s 11] <|
       .ite _ (
        .call [] (aCj _ _ _) fun v7 =>
        .nil [0,1,2,3] _) (
        .ok 11 0 3 4 (x:=.nil) (y:=eX.tree []) (El.cE eX) <|
        .ok 11 0 3 9 (x:=.nil) (y:=eX.tree []) (El.cE eX) <|
        .ok 11 0 3 10 (x:=.nil) (y:=dO.tree []) (El.cE dO) <|
        .nil [0,1,2,3] _)) (
       .ok 9 0 3 4 (x:=.nil) (y:=eX.tree []) (El.cE eX) <|
       .ok 9 0 3 9 (x:=.nil) (y:=eX.tree []) (El.cE eX) <|
       .ok 9 0 3 10 (x:=.nil) (y:=dO.tree []) (El.cE dO) <|
       .nil [0,1,2,3] _)) fun pS =>
     .lt _ fun aLh =>
     .look (default:Bool) _ [] (aJP K (gd ((gd a0.bM a1).bQ) lY) pS.2) (fun _=>rfl) fun aNH =>
     .lt _ fun aYF =>
     .ite _ (
      .ret [] _) (
      .nil [0,1] _)) fun aYG =>
    .nil [0,1] _) (
    .ret [] _)) fun v8 =>
  .ret [] _)
def aNI (K:Nat) (a0:cM) (a1:fU):Option ((Bool) ⊕ (Bool)) :=
 (if ((a1.bR:Int) == 6)=true then ((cF true (bV (aLc K a0 a1.cD false)) default).bind (fun r1=>((cF r1 (bV (F61 K a0 a1.cD)) default).bind (fun r2=>(bW [!r1 || cY r2 a0.bM.length] (bO (r1 && (!((a0.bM.getD (r2:Int).toNat default).eQ))) (fun (x3:Bool)=>(some (.inl (x3)))))))))) else ((bV (aLg K a0 a1)).bind (fun r4=>(bO (r4 || ((((a1.bR:Int) == 7) && (decide ((a1.fLo:Int) ≥ 1))) && (decide ((a1.fLo:Int)≤7)))) (fun (x5:Bool)=>(some (.inl (x5))))))))
theorem aRK (K:Nat) (a0:cM) (a1:fU):bS Tryz.prog 154 [.agg (dP.cs a0),.agg (kD.cs a1)] [] (bV (aNI K a0 a1)) (fun r=>.c (.val (.bool r))) (fun r=>[]):=by
 refine bS.it Tryz.f154 (fun r=>⟨[sB 4 r],[],[],0⟩) ?_
 unfold aNI
 exact Ref.pt (
  .ite _ (
   .ex [1] <|
   .tx [] <|
   .ex [0,2] <|
   .eH 3 (default:Bool) _ [] (aJT K a0 a1.cD false) (fun _=>rfl) fun r1 =>
   .ex [4,5,6,7,8,9] <|
   .eH 10 (default:Int) _ [] (nF K a0 a1.cD) (fun _=>rfl) fun r2 =>
   .iU [11,12,13,14,15,16] _ <|
   .lt _ fun x3 =>
   .ret [] _) (
   .call [] (aJX _ _ _) fun r4 =>
   .lt _ fun x5 =>
   .ret [] _))
def aNJ (K:Nat) (a0:cM) (a1:Int) (a2:Int):Option ((Bool) ⊕ (Bool)) :=
 (bP (bN ((iter K (fun (oU:Int)=>(if (decide ((oU:Int)≤a1))=true then (bP (bN (bW [cY oU a0.bM.length] (bP (bN ((iter K (fun (xR:Int)=>(bO (((decide ((xR:Int)<(Int.ofNat ((a0.bM.getD (oU:Int).toNat default).cH).length))) && ((((a0.bM.getD (oU:Int).toNat default).bR):Int) == 3)) && ((decide ((oU:Int)<a1)) || (decide ((xR:Int)<a2)))) (fun (aYI:Bool)=>(if aYI=true then (bP (bN (bW [cY xR ((a0.bM.getD (oU:Int).toNat default).cH).length,!((((((a0.bM.getD (oU:Int).toNat default).cH).getD (xR:Int).toNat default).kO):Int) == 2) || cY xR ((a0.bM.getD (oU:Int).toNat default).cH).length,!((((((a0.bM.getD (oU:Int).toNat default).cH).getD (xR:Int).toNat default).kO):Int) == 2) || cY a1 a0.bM.length,!((((((a0.bM.getD (oU:Int).toNat default).cH).getD (xR:Int).toNat default).kO):Int) == 2) || cY a2 ((a0.bM.getD (a1:Int).toNat default).cH).length] (bO (((((((a0.bM.getD (oU:Int).toNat default).cH).getD (xR:Int).toNat default).kO):Int) == 2) && ((((((a0.bM.getD (oU:Int).toNat default).cH).getD (xR:Int).toNat default).lW):Int) == ((((a0.bM.getD (a1:Int).toNat default).cH).getD (a2:Int).toNat default).lW))) (fun (aYJ:Bool)=>(if aYJ=true then (some (.inl (Sum.inr (Sum.inr (Sum.inr (Sum.inr (true))))))) else (some (.inr ()))))))) (fun (aCn:Unit)=>(some (.inr ((IntKind.i64.wrap (xR+1))))))) else (some (.inl (Sum.inl ()))))))) (0)).map .inl)) (fun (aYK:Unit)=>(some (.inr ())))))) (fun (aYL:Unit)=>(some (.inr ((IntKind.i64.wrap (oU+1))))))) else (some (.inl (Sum.inl ()))))) (0)).map .inl)) (fun (aYM:Unit)=>(some (.inl (false)))))
theorem aRL (K:Nat) (a0:cM) (a1:Int) (a2:Int):bS Tryz.prog 156 [.agg (dP.cs a0),.c (.val (.int .i64 a1)),.c (.val (.int .i64 a2))] [] (bV (aNJ K a0 a1 a2)) (fun r=>.c (.val (.bool r))) (fun r=>[]):=by
 refine bS.it Tryz.f156 (fun r=>⟨[sB 6 r],[],[],0⟩) ?_
 unfold aNJ
 exact Ref.pt (
  .bk 0 (fun aYM=>⟨[],[],[],0⟩) (
   .lp [0] (fun oU=>⟨[sI 1 a1,sI 2 a2,sP 3 0 0 0,sI 7 oU],[.cells (dP.cs a0)],[],0⟩) fun oU =>
   .ite _ (
    .bk 1 (fun aYL=>⟨[sI 1 a1,sI 2 a2,sP 3 0 0 0,sI 7 oU],[.cells (dP.cs a0)],[],0⟩) (
     .ck _ <|
     .bk 2 (fun aYK=>⟨[sI 1 a1,sI 2 a2,sP 3 0 0 0,sI 7 oU],[.cells (dP.cs a0)],[],0⟩) (
      .lp [0,1] (fun xR=>⟨[sI 1 a1,sI 2 a2,sP 3 0 0 0,sI 7 oU,sP 8 1 0 0,sI 9 xR],[.cells (dP.cs a0),gT.o (gd a0.bM oU)],[],0⟩) fun xR =>
      .lt _ fun aYI =>
      .ite _ (
       .bk 3 (fun aCn=>⟨[sI 1 a1,sI 2 a2,sP 3 0 0 0,sI 7 oU,sP 8 1 0 0,sI 9 xR],[.cells (dP.cs a0),gT.o (gd a0.bM oU)],[],0⟩) (
        .ex [0,2] <|
        .tx [] <|
        .iU [1,3,4,5,6,7,8,9,10,11,12,13,14,15,16,17,18,19,20,21,22,23,24,25] _ <|
        .lt _ fun aYJ =>
        .ite _ (
         .ret [] _) (
         .nil [0,1] _)) fun aCn =>
       .nil [0,1] _) (
       .ret [0] _)) fun aYK =>
     .nil [0] _) fun aYL =>
    .nil [0] _) (
    .ret [] _)) fun aYM =>
  .ret [] _)
end Go.Proofs.YtdbfbedholdjaaaGreat

namespace Go.Proofs.YtdbfbedholdjaaaGreat
open Go Go.Proofs Go.Dl
variable [dK]
set_option maxRecDepth 100000
set_option maxHeartbeats 4000000
mutual
def xT:(K:Nat)→(cM)→(dR)→((List cG))→(Bool)→Option ((Int) ⊕ (Int))
 | 0,_,_,_,_=>none
 | K+1,a0,a1,a2,a3 =>
 (bP (bN ((iter K (fun (hU:Int)=>(bO (decide ((hU:Int)<(Int.ofNat a2.length))) (fun (vY:Bool)=>(if vY=true then (bP (bN (bW [cY hU a2.length] ((cF true (bV (aLl K a0 a1 (a2.getD (hU:Int).toNat default) a3)) default).bind (fun r29=>(if ((r29:Int) != 0)=true then (some (.inl (Sum.inr (Sum.inr (r29))))) else (some (.inr ()))))))) (fun (jG:Unit)=>(some (.inr ((IntKind.i64.wrap (hU+1))))))) else (some (.inl (Sum.inl ()))))))) (0)).map .inl)) (fun (tD:Unit)=>(some (.inl (0)))))
def aLl:(K:Nat)→(cM)→(dR)→(cG)→(Bool)→Option ((Int) ⊕ (Int))
 | 0,_,_,_,_=>none
 | K+1,a0,a1,a2,a3 =>
 ((bV (aNM K a2)).bind (fun r1=>(if (!r1)=true then (some (.inl (14))) else (bP (bN (bP (if ((a2.bR:Int) == 1)=true then (some (.inr (((a2.bR:Int) == 1)))) else (if ((a2.bR:Int) == 2)=true then (some (.inr (((a2.bR:Int) == 2)))) else (if ((a2.bR:Int) == 3)=true then (some (.inr (((a2.bR:Int) == 3)))) else (if ((a2.bR:Int) == 8)=true then (some (.inr (((a2.bR:Int) == 8)))) else (some (.inr (((a2.bR:Int) == 11)))))))) (fun (u56:Bool)=>(if u56=true then ((bV (aLm K a0 a1 a2)).bind (fun r57=>(some (.inl (Sum.inr (r57)))))) else (if ((a2.bR:Int) == 4)=true then (bW [cY 0 a2.cT.length] ((bV (aFe K a0 a1 (a2.cT.getD (0:Int).toNat default))).bind (fun r58=>(some (.inl (Sum.inr (r58.2))))))) else (if ((a2.bR:Int) == 5)=true then (bP (bN ((iter K (fun (u89:Int)=>(bO (decide ((u89:Int)<(Int.ofNat a2.cT.length))) (fun (x97:Bool)=>(if x97=true then (bP (bN (bW [cY u89 a2.cT.length] ((cF true (bV (aIv K a0 a1 (a2.cT.getD (u89:Int).toNat default))) default).bind (fun aVM=>(if ((aVM:Int) != 0)=true then (some (.inl (Sum.inr (Sum.inr (Sum.inr (aVM)))))) else (bW [cY u89 a2.bY.length] ((cF true (bV (xT K a0 a1 (a2.bY.getD (u89:Int).toNat default) a3)) default).bind (fun aVN=>(if ((aVN:Int) != 0)=true then (some (.inl (Sum.inr (Sum.inr (Sum.inr (aVN)))))) else (some (.inr ()))))))))))) (fun (aNN:Unit)=>(some (.inr ((IntKind.i64.wrap (u89+1))))))) else (some (.inl (Sum.inl ()))))))) (0)).map .inl)) (fun (u81:Unit)=>(bW [cY (Int.ofNat a2.cT.length) a2.bY.length] (bO (a2.bY.getD ((Int.ofNat a2.cT.length):Int).toNat default) (fun (aVO:(List cG))=>((cF true (bV (xT K a0 a1 aVO a3)) default).bind (fun aYV=>(some (.inl (Sum.inr (aYV))))))))))) else (if ((a2.bR:Int) == 6)=true then ((bV (aLn K a0 a1 a2 a3)).bind (fun aYW=>(some (.inl (Sum.inr (aYW)))))) else (if ((a2.bR:Int) == 7)=true then (bW [cY 0 a2.cT.length] ((cF true (bV (aIv K a0 a1 (a2.cT.getD (0:Int).toNat default))) default).bind (fun qI=>(if ((qI:Int) != 0)=true then (some (.inl (Sum.inr (qI)))) else (bW [cY 0 a2.bY.length] ((cF true (bV (xT K a0 a1 (a2.bY.getD (0:Int).toNat default) true)) default).bind (fun aYX=>(some (.inl (Sum.inr (aYX))))))))))) else (if ((a2.bR:Int) == 9)=true then ((bV (aNL K a0 a1 a2)).bind (fun aNO=>(some (.inl (Sum.inr (aNO)))))) else (some (.inr ()))))))))))) (fun (u55:Unit)=>(if (!a3)=true then (some (.inl (14))) else (some (.inl (0)))))))))
def aLm:(K:Nat)→(cM)→(dR)→(cG)→Option ((Int) ⊕ (Int))
 | 0,_,_,_=>none
 | K+1,a0,a1,a2 =>
 ((bV (aIp K a0 a1 a2.cD)).bind (fun r1=>(if (!r1.2)=true then (some (.inl (13))) else (bP (bN (if ((a2.bR:Int) == 1)=true then (some (.inr (((r1.1.kO:Int) == 1),1))) else (if ((a2.bR:Int) == 2)=true then (some (.inr (((r1.1.cO.bR:Int) != 4),2))) else (if ((a2.bR:Int) == 3)=true then (some (.inr (((r1.1.cO.bR:Int) != 5),1))) else (if ((a2.bR:Int) == 8)=true then (bO ((((r1.1.cO.bR:Int) != 1) || ((r1.1.kO:Int) == 1)) || ((a2.fN:Int) == 0)) (fun (x4:Bool)=>(some (.inr (x4,2))))) else (if ((a2.bR:Int) == 11)=true then (some (.inr (((r1.1.cO.bR:Int) != 7),2))) else (some (.inr (false,2))))))))) (fun (u3:Bool × Int)=>(if u3.1=true then (some (.inl (14))) else (bW [c5 a2.cT.length 0 u3.2] ((bV (aDE K a0 a1 ((a2.cT.drop (0:Int).toNat).take ((u3.2:Int).toNat - (0:Int).toNat)))).bind (fun r5=>(if ((r5.2:Int) != 0)=true then (some (.inl (r5.2))) else (bP (bN (if ((a2.bR:Int) == 1)=true then (bW [cY 0 r5.1.length] ((cF true (bV (aGx K a0 r1.1.cO (r5.1.getD (0:Int).toNat default))) default).bind (fun r12=>(some (.inr (r12)))))) else (if ((a2.bR:Int) == 3)=true then (bW [cY 0 r5.1.length] (bO ((((r5.1.getD (0:Int).toNat default).bR):Int) == 5) (fun (x13:Bool)=>(some (.inr (x13)))))) else (if ((a2.bR:Int) == 11)=true then (bW [cY 0 r5.1.length,!((((r5.1.getD (0:Int).toNat default).bR):Int) == 2) || cY 1 r5.1.length] (bO (((((r5.1.getD (0:Int).toNat default).bR):Int) == 2) && ((((r5.1.getD (1:Int).toNat default).bR):Int) == 1)) (fun (x14:Bool)=>(some (.inr (x14)))))) else (bW [cY 0 r5.1.length,!((((r5.1.getD (0:Int).toNat default).bR):Int) == 1) || cY 1 r5.1.length] (bO (((((r5.1.getD (0:Int).toNat default).bR):Int) == 1) && ((((r5.1.getD (1:Int).toNat default).bR):Int) == 1)) (fun (x15:Bool)=>(some (.inr (x15)))))))))) (fun (u11:Bool)=>(if (!u11)=true then (some (.inl (14))) else (if ((a2.bR:Int) == 8)=true then (bW [cY 0 a2.bY.length] ((cF true (bV (xT K a0 a1 (a2.bY.getD (0:Int).toNat default) true)) default).bind (fun lZ=>(some (.inl (lZ)))))) else (some (.inl (0)))))))))))))))))
def aLn:(K:Nat)→(cM)→(dR)→(cG)→(Bool)→Option ((Int) ⊕ (Int))
 | 0,_,_,_,_=>none
 | K+1,a0,a1,a2,a3 =>
 (bW [cY 0 a2.cT.length] ((bV (aAR K a0 a1 (a2.cT.getD (0:Int).toNat default))).bind (fun r1=>(if ((r1.2:Int) != 0)=true then (some (.inl (r1.2))) else (if ((r1.1.bR:Int) != 1)=true then (some (.inl (14))) else (bP (bN ((iter K (fun (lI:(List Int) × Int)=>(bO (decide ((lI.2:Int)<(Int.ofNat a2.eT.length))) (fun (aTG:Bool)=>(if aTG=true then (bP (bN (bP (bN ((iter K (fun (jD:(List Int) × Int)=>(bW [cY lI.2 a2.eT.length] (bO (decide ((jD.2:Int)<(Int.ofNat (a2.eT.getD (lI.2:Int).toNat default).length))) (fun (aTH:Bool)=>(if aTH=true then (bP (bN (bW [cY lI.2 a2.eT.length,cY jD.2 (a2.eT.getD (lI.2:Int).toNat default).length] (bO ((a2.eT.getD (lI.2:Int).toNat default).getD (jD.2:Int).toNat default) (fun (tG:Int)=>(bP (bN ((iter K (fun (aAB:Int)=>(bO (decide ((aAB:Int)<(Int.ofNat jD.1.length))) (fun (aTI:Bool)=>(if aTI=true then (bP (bN (bW [cY aAB jD.1.length] (bO (((jD.1.getD ((aAB:Int).toNat) default):Int) == tG) (fun (aTJ:Bool)=>(if aTJ=true then (some (.inl (Sum.inr (Sum.inr (Sum.inr (Sum.inr (Sum.inr (Sum.inr (6))))))))) else (some (.inr ()))))))) (fun (aTK:Unit)=>(some (.inr ((IntKind.i64.wrap (aAB+1))))))) else (some (.inl (Sum.inl ()))))))) (0)).map .inl)) (fun (aTL:Unit)=>(bO ((decide ((tG:Int)<(-32768))) || (decide ((tG:Int) > 32767))) (fun (aTM:Bool)=>(if aTM=true then (some (.inl (Sum.inr (Sum.inr (Sum.inr (Sum.inr (6))))))) else (bW [room ((jD.1.length+([tG].length)) * 8)] (some (.inr ((jD.1++[tG])))))))))))))) (fun (aGE:(List Int))=>(some (.inr (aGE,(IntKind.i64.wrap (jD.2+1))))))) else (some (.inl (Sum.inl (jD.1))))))))) (lI.1,0)).map .inl)) (fun (aGF:(List Int))=>(some (.inr (aGF)))))) (fun (aGG:(List Int))=>(some (.inr (aGG,(IntKind.i64.wrap (lI.2+1))))))) else (some (.inl (Sum.inl ()))))))) ([],0)).map .inl)) (fun (aTN:Unit)=>(bP (bN ((iter K (fun (aAC:Int)=>(bO (decide ((aAC:Int)<(Int.ofNat a2.bY.length))) (fun (aTO:Bool)=>(if aTO=true then (bP (bN (bW [cY aAC a2.bY.length] (bO (a2.bY.getD (aAC:Int).toNat default) (fun (aNP:(List cG))=>((cF true (bV (xT K a0 a1 aNP a3)) default).bind (fun aNQ=>(if ((aNQ:Int) != 0)=true then (some (.inl (Sum.inr (Sum.inr (aNQ))))) else (some (.inr ()))))))))) (fun (aTP:Unit)=>(some (.inr ((IntKind.i64.wrap (aAC+1))))))) else (some (.inl (Sum.inl ()))))))) (0)).map .inl)) (fun (aTQ:Unit)=>(some (.inl (0))))))))))))
end
abbrev gI (v0:cM) (v1:dR):List Go.Dl.Obj:=[.cells (dP.cs v0),.cells (eD.cs v1)]
abbrev kG (v0:Bool):List (Nat × D):=[sB 3 v0,sP 4 0 0 0,sP 5 1 0 0,sP 6 2 0 0]
abbrev wA:List (Nat × D):=[sP 3 0 0 0,sP 4 1 0 0,sP 5 2 0 0,sP 7 3 0 0]
theorem aRS:∀ K:Nat,(∀ (a0:cM),∀ (a1:dR),∀ (a2:(List cG)),∀ (a3:Bool),bS Tryz.prog 196 [.agg (dP.cs a0),.agg (eD.cs a1),.c (dO.tree a2),.c (.val (.bool a3))] [] (bV (xT K a0 a1 a2 a3)) (fun r=>.c (.val (.int .i64 r))) (fun r=>[]))∧(∀ (a0:cM),∀ (a1:dR),∀ (a2:cG),∀ (a3:Bool),bS Tryz.prog 215 [.agg (dP.cs a0),.agg (eD.cs a1),.agg (dO.cs a2),.c (.val (.bool a3))] [] (bV (aLl K a0 a1 a2 a3)) (fun r=>.c (.val (.int .i64 r))) (fun r=>[]))∧(∀ (a0:cM),∀ (a1:dR),∀ (a2:cG),bS Tryz.prog 219 [.agg (dP.cs a0),.agg (eD.cs a1),.agg (dO.cs a2)] [] (bV (aLm K a0 a1 a2)) (fun r=>.c (.val (.int .i64 r))) (fun r=>[]))∧(∀ (a0:cM),∀ (a1:dR),∀ (a2:cG),∀ (a3:Bool),bS Tryz.prog 222 [.agg (dP.cs a0),.agg (eD.cs a1),.agg (dO.cs a2),.c (.val (.bool a3))] [] (bV (aLn K a0 a1 a2 a3)) (fun r=>.c (.val (.int .i64 r))) (fun r=>[])):=by
 intro K
 induction K with
 | zero=>exact ⟨fun a0 a1 a2 a3=>bS.none (by rw[xT];rfl),fun a0 a1 a2 a3=>bS.none (by rw[aLl];rfl),fun a0 a1 a2=>bS.none (by rw[aLm];rfl),fun a0 a1 a2 a3=>bS.none (by rw[aLn];rfl)⟩
 | succ K ih =>
  obtain ⟨aGH,aYY,aYZ,aY0⟩:=ih
  refine ⟨?_,?_,?_,?_⟩
  ·
   intro a0 a1 a2 a3
   refine bS.it Tryz.f196 (fun r=>⟨[sI 8 r],[],[],0⟩) ?_
   rw[xT]
   exact Ref.pt (
    .bk 0 (fun tD=>⟨[],[],[],0⟩) (
     .lp [0,1] (fun hU=>⟨[(2,.c (dO.tree a2)),sB 3 a3,sP 4 0 0 0,sP 5 1 0 0,sI 9 hU],gI a0 a1,[],0⟩) fun hU =>
     .lt _ fun vY =>
     .ite _ (
      .bk 1 (fun jG=>⟨[(2,.c (dO.tree a2)),sB 3 a3,sP 4 0 0 0,sP 5 1 0 0,sI 9 hU],gI a0 a1,[],0⟩) (
       .ex [2,3,6] <|
       .tx [] <|
       .iU [0,1,4,5] _ <|
       .eH 7 (default:Int) _ [] (aYY a0 a1 (gd a2 hU) a3) (fun _=>rfl) fun r29 =>
       .ex [8] <|
       .ite _ (
        .ret [] _) (
        .nil [0,1] _)) fun jG =>
      .nil [0,1] _) (
      .ret [] _)) fun tD =>
    .ret [] _)
  ·
   intro a0 a1 a2 a3
   refine bS.it Tryz.f215 (fun r=>⟨[sI 8 r],[],[],0⟩) ?_
   rw[aLl]
   exact Ref.pt (
    .call [] (aRR _ _) fun r1 =>
    .ite _ (
     .ret [] _) (
     .bk 0 (fun u55=>⟨[sB 3 a3],[],[],0⟩) (
      .jn (fun u56=>⟨kG a3++[sI 18 a2.bR,sB 19 u56],gI a0 a1++[dO.o a2],[],0⟩) (
       .ite _ (
        .nil [0,1,2] _) (
        .ite _ (
         .nil [0,1,2] _) (
         .ite _ (
          .nil [0,1,2] _) (
          .ite _ (
           .nil [0,1,2] _) (
           .nil [0,1,2] _))))) fun u56 =>
      .ite _ (
       .call [] (aYZ _ _ _) fun r57 =>
       .ret [] _) (
       .ite _ (
        .ex [2] <|
        .tx [6,11] <|
        .ex [0,1,3] <|
        .iU [4,5] _ <|
        .kn fun r58 a2P =>
        .all [32,33,37,38,31,39,40,9,10] (rg (cd (bd Tryz.f215) [1,1,0,1,0,1,1,1,0,0])) [true,true,true,true,true,true,false,false,false,false,false,false,false] (hl [(6,.kc [] (bS.eq (aRO _ _ _ _) a2P) [])]) ⟨[sI 10 r58.2],[],[],0⟩ [] <|
        .ret [] _) (
        .ite _ (
         .bk 1 (fun u81=>⟨kG a3,gI a0 a1++[dO.o a2],[],0⟩) (
          .lp [0,1,2] (fun u89=>⟨kG a3++[sI 11 u89],gI a0 a1++[dO.o a2],[],0⟩) fun u89 =>
          .lt _ fun x97 =>
          .ite _ (
           .bk 2 (fun aNN=>⟨kG a3++[sI 11 u89],gI a0 a1++[dO.o a2],[],0⟩) (
            .ex [2,4] <|
            .tx [] <|
            .ex [0,1,3] <|
            .iU [5,6] _ <|
            .eH 7 (default:Int) _ [] (aJZ K a0 a1 (gd a2.cT u89)) (fun _=>rfl) fun aVM =>
            .ex [8] <|
            .ite _ (
             .ret [] _) (
             .ex [2,4,7] <|
             .tx [] <|
             .ex [0,1,3] <|
             .sl 1000000 0 65 (x:=.c (lX a2.bY)) (y:=(.c (jQ.tree a2.bY))) (jR.c (jM _)) <|
             .iU [5,6] _ <|
             .eH 8 (default:Int) _ [] (aGH a0 a1 (gd a2.bY u89) a3) (fun _=>rfl) fun aVN =>
             .ex [9] <|
             .ite _ (
              .ret [] _) (
              .nil [0,1,2] _))) fun aNN =>
           .nil [0,1,2] _) (
           .ret [0,1,2] _)) fun u81 =>
         .ex [2,4,9] <|
         .tx [] <|
         .ex [0,1,3,5,6] <|
         .sl 1000000 0 77 (x:=.c (lX a2.bY)) (y:=(.c (jQ.tree a2.bY))) (jR.c (jM _)) <|
         .iU [7,8] _ <|
         .lt _ fun aVO =>
         .eH 10 (default:Int) _ [] (aGH a0 a1 aVO a3) (fun _=>rfl) fun aYV =>
         .ex [11] <|
         .ret [] _) (
         .ite _ (
          .call [] (aY0 _ _ _ _) fun aYW =>
          .ret [] _) (
          .ite _ (
           .ex [2] <|
           .tx [] <|
           .ex [0,1,3] <|
           .iU [4,5] _ <|
           .eH 6 (default:Int) _ [] (aJZ K a0 a1 (gd a2.cT 0)) (fun _=>rfl) fun qI =>
           .ex [7] <|
           .ite _ (
            .ret [] _) (
            .ex [2] <|
            .tx [] <|
            .ex [0,1,3] <|
            .sl 1000000 0 107 (x:=.c (lX a2.bY)) (y:=(.c (jQ.tree a2.bY))) (jR.c (jM _)) <|
            .iU [4,5] _ <|
            .eH 6 (default:Int) _ [] (aGH a0 a1 (gd a2.bY 0) true) (fun _=>rfl) fun aYX =>
            .ex [7] <|
            .ret [] _)) (
           .ite _ (
            .call [] (aRQ _ _ _ _) fun aNO =>
            .ret [] _) (
            .nil [] _))))))) fun u55 =>
     .ite _ (
      .ret [] _) (
      .ret [] _)))
  ·
   intro a0 a1 a2
   refine bS.it Tryz.f219 (fun r=>⟨[sI 6 r],[],[],0⟩) ?_
   rw[aLm]
   exact Ref.pt (
    .call [] (aE9 _ _ _ _) fun r1 =>
    .ite _ (
     .ret [] _) (
     .bk 0 (fun u3=>⟨wA++[sB 10 u3.1,sI 11 u3.2],gI a0 a1++[dO.o a2,eX.o r1.1],[],0⟩) (
      .ite _ (
       .nil [0,1,2,4] _) (
       .ite _ (
        .nil [0,1,2,4] _) (
        .ite _ (
         .nil [0,1,2,4] _) (
         .ite _ (
          .lt _ fun x4 =>
          .nil [0,1,2,4] _) (
          .ite _ (
           .nil [0,1,2,4] _) (
           .nil [0,1,2,4] _)))))) fun u3 =>
     .ite _ (
      .ret [] _) (
      .esc [0,1,2,3] [(cd (bd Tryz.f219) [1,1,1,1,1,1,1,1,0]),(cd (bd Tryz.f219) [1,1,1,1,1,1,1,1,1])] ⟨wA++[sI 11 u3.2,sB 61 u3.1],gI a0 a1++[dO.o a2,eX.o r1.1],[],0⟩ (by
       refine Ref.vM 22 (by kernel_rfl) (by kernel_rfl) ?_
       refine gH.zH (dD:=⟨wA++[sP 65 2 0 3,sI 67 u3.2],gI a0 a1++[dO.o a2,eX.o r1.1],[],0⟩) (fuel':=10) [2,4] [3,4,5,7,65,67] [0,1,2,3] rfl (by kernel_rfl) (by kernel_rfl) ?_
       refine gH.toX [6] ?_
       refine cW.aEM (fun (r5:(List fU) × Int)=>⟨wA++[(12,.c (kD.tree r5.1)),sI 13 r5.2],gI a0 a1++[dO.o a2,eX.o r1.1],[],0⟩) (fun (r5:(List fU) × Int)=>(if ((r5.2:Int) != 0)=true then (some (.inl (r5.2))) else (bP (bN (if ((a2.bR:Int) == 1)=true then (bW [cY 0 r5.1.length] ((cF true (bV (aGx K a0 r1.1.cO (gd r5.1 0))) default).bind (fun r12=>(some (.inr (r12)))))) else (if ((a2.bR:Int) == 3)=true then (bW [cY 0 r5.1.length] (bO ((((gd r5.1 0).bR):Int) == 5) (fun (x13:Bool)=>(some (.inr (x13)))))) else (if ((a2.bR:Int) == 11)=true then (bW [cY 0 r5.1.length,!((((gd r5.1 0).bR):Int) == 2) || cY 1 r5.1.length] (bO (((((gd r5.1 0).bR):Int) == 2) && ((((gd r5.1 1).bR):Int) == 1)) (fun (x14:Bool)=>(some (.inr (x14)))))) else (bW [cY 0 r5.1.length,!((((gd r5.1 0).bR):Int) == 1) || cY 1 r5.1.length] (bO (((((gd r5.1 0).bR):Int) == 1) && ((((gd r5.1 1).bR):Int) == 1)) (fun (x15:Bool)=>(some (.inr (x15)))))))))) (fun (u11:Bool)=>(if (!u11)=true then (some (.inl (14))) else (if ((a2.bR:Int) == 8)=true then (bW [cY 0 a2.bY.length] ((cF true (bV (xT K a0 a1 (gd a2.bY 0) true)) default).bind (fun lZ=>(some (.inl (lZ)))))) else (some (.inl (0))))))))) (fun r5=>?_) (fun hk=>?_)
       ·
        exact Ref.pt (
         .ite _ (
          .ret [] _) (
          .bk 1 (fun u11=>⟨[sP 3 0 0 0,sP 4 1 0 0,sP 5 2 0 0,sB 14 u11],gI a0 a1++[dO.o a2],[],0⟩) (
           .ite _ (
            .iU [1,3,4] _ <|
            .tx [] <|
            .ex [0,2,5] <|
            .eH 6 (default:Bool) _ [] (aFa K a0 r1.1.cO (gd r5.1 0)) (fun _=>rfl) fun r12 =>
            .ex [7] <|
            .nil [0,1,2] _) (
            .ite _ (
             .ck _ <|
             .lt _ fun x13 =>
             .nil [0,1,2] _) (
             .ite _ (
              .ck _ <|
              .lt _ fun x14 =>
              .nil [0,1,2] _) (
              .ck _ <|
              .lt _ fun x15 =>
              .nil [0,1,2] _)))) fun u11 =>
          .ite _ (
           .ret [] _) (
           .ite _ (
            .ex [2] <|
            .tx [] <|
            .ex [0,1,3] <|
            .sl 1000000 0 127 (x:=.c (lX a2.bY)) (y:=(.c (jQ.tree a2.bY))) (jR.c (jM _)) <|
            .iU [4,5] _ <|
            .eH 6 (default:Int) _ [] (aGH a0 a1 (gd a2.bY 0) true) (fun _=>rfl) fun lZ =>
            .ex [7] <|
            .ret [] _) (
            .ret [] _))))
       ·
        refine cW.zH (dD:=⟨wA++[(63,.agg (dP.cs a0)),(64,.agg (eD.cs a1)),(66,.c (cL.tree a2.cT)),sI 67 u3.2],gI a0 a1++[dO.o a2,eX.o r1.1],[],0⟩) (fuel':=7) [0,1,3] [3,4,5,7,63,64,66,67] [0,1,2,3] rfl (by kernel_rfl) (by kernel_rfl) ?_
        refine cW.evH (vs:=[c5 a2.cT.length 0 u3.2]) (dD:=⟨wA++[(63,.agg (dP.cs a0)),(64,.agg (eD.cs a1)),(68,.c (.tree cL.w ((u3.2:Int).toNat - (0:Int).toNat) fun i j=>cL.at a2.cT ((0:Int).toNat+i) j))],gI a0 a1++[dO.o a2,eX.o r1.1],[],0⟩) (fuel':=6) [5] [3,4,5,7,63,64,68] [0,1,2,3] rfl (by kernel_rfl) (by kernel_rfl) (fun hv=>?_)
        refine cW.conv (Conv.sl 68 (.c (cL.tree ((a2.cT.drop (0:Int).toNat).take ((u3.2:Int).toNat - (0:Int).toNat)))) (jR.c (El.oC cL _ (sZ (hv _ (List.Mem.head _)))))) ?_
        refine cW.mS (fuel':=5) 6 (by kernel_rfl) ?_
        refine eG.dA (t:=69) 6 [] rfl (by kernel_rfl) (aRP K a0 a1 ((a2.cT.drop (0:Int).toNat).take ((u3.2:Int).toNat - (0:Int).toNat))) (fun r5=>?_)
        refine cW.v0 (fuel':=0) [7,8,9,10,11] [3,4,5,7,12,13] [0,1,2,3] ?_
        refine cW.done (by kernel_rfl) ?_
        refine Ref.ck ⟨wA++[(12,.c (kD.tree r5.1)),sI 13 r5.2],gI a0 a1++[dO.o a2,eX.o r1.1],[],0⟩ [3,4,5,7,12,13] [0,1,2,3] ?_
        exact hk r5))))
  ·
   intro a0 a1 a2 a3
   refine bS.it Tryz.f222 (fun r=>⟨[sI 8 r],[],[],0⟩) ?_
   rw[aLn]
   exact Ref.pt (
    .ex [2] <|
    .tx [6,11] <|
    .ex [0,1,3] <|
    .iU [4,5] _ <|
    .kn fun r1 er1 =>
    .all [3,4,5,6,19,20,24,25,18,26,27,9,10] (rg (cd (bd Tryz.f222) [1,0])) [true,true,true,true,true,true,false,false,false,false,false,false,false] (hl [(6,.kc [] (bS.eq (aFg _ _ _ _) er1) [])]) ⟨kG a3++[sP 9 3 0 0,sI 10 r1.2],gI a0 a1++[dO.o a2,.cells (kD.cs r1.1)],[],0⟩ [.s 4,.s 5,.s 6,.s 9] <|
    .ite _ (
     .ret [] _) (
     .ite _ (
      .ret [] _) (
      .bk 0 (fun aTN=>⟨kG a3,gI a0 a1++[dO.o a2],[],0⟩) (
       .ad 7 0 11 E3.ty E3.w (E3.at []) <|
       .lp [0,1,2,4] (fun lI=>⟨kG a3++[(11,.c (.own 3 lI.1.length)),sI 12 lI.2],gI a0 a1++[dO.o a2,E3.row lI.1],[],0⟩) fun lI =>
       .lt _ fun aTG =>
       .ite _ (
        .bk 1 (fun aGG=>⟨kG a3++[(11,.c (.own 3 aGG.length)),sI 12 lI.2],gI a0 a1++[dO.o a2,E3.row aGG],[],0⟩) (
         .bk 2 (fun aGF=>⟨kG a3++[(11,.c (.own 3 aGF.length)),sI 12 lI.2],gI a0 a1++[dO.o a2,E3.row aGF],[],0⟩) (
          .lp [0,1,2,3] (fun jD=>⟨kG a3++[(11,.c (.own 3 jD.1.length)),sI 12 lI.2,sI 13 jD.2],gI a0 a1++[dO.o a2,E3.row jD.1],[],0⟩) fun jD =>
          .ck _ <|
          .lt _ fun aTH =>
          .ite _ (
           .bk 3 (fun aGE=>⟨kG a3++[(11,.c (.own 3 aGE.length)),sI 12 lI.2,sI 13 jD.2],gI a0 a1++[dO.o a2,E3.row aGE],[],0⟩) (
            .ck _ <|
            .lt _ fun tG =>
            .bk 4 (fun aTL=>⟨kG a3++[(11,.c (.own 3 jD.1.length)),sI 12 lI.2,sI 13 jD.2,sI 14 tG],gI a0 a1++[dO.o a2,E3.row jD.1],[],0⟩) (
             .lp [0,1,2,3] (fun aAB=>⟨kG a3++[(11,.c (.own 3 jD.1.length)),sI 12 lI.2,sI 13 jD.2,sI 14 tG,sI 15 aAB],gI a0 a1++[dO.o a2,E3.row jD.1],[],0⟩) fun aAB =>
             .lt _ fun aTI =>
             .ite _ (
              .bk 5 (fun aTK=>⟨kG a3++[(11,.c (.own 3 jD.1.length)),sI 12 lI.2,sI 13 jD.2,sI 14 tG,sI 15 aAB],gI a0 a1++[dO.o a2,E3.row jD.1],[],0⟩) (
               .ck _ <|
               .lt _ fun aTJ =>
               .ite _ (
                .ret [] _) (
                .nil [0,1,2,3] _)) fun aTK =>
              .nil [0,1,2,3] _) (
              .ret [0,1,2,3] _)) fun aTL =>
            .lt _ fun aTM =>
            .ite _ (
             .ret [] _) (
             .ob 21 2 4 (El.cB E3 [tG] rfl rfl) <|
             .ck _ <|
             .ap 21 1 5 80 E3 jD.1 [tG] <|
             .nil [0,1,2,5] _)) fun aGE =>
           .nil [0,1,2,3] _) (
           .ret [0,1,2,3] _)) fun aGF =>
         .nil [0,1,2,3] _) fun aGG =>
        .nil [0,1,2,3] _) (
        .ret [0,1,2] _)) fun aTN =>
      .bk 6 (fun aTQ=>⟨[],[],[],0⟩) (
       .lp [0,1,2] (fun aAC=>⟨kG a3++[sI 16 aAC],gI a0 a1++[dO.o a2],[],0⟩) fun aAC =>
       .lt _ fun aTO =>
       .ite _ (
        .bk 7 (fun aTP=>⟨kG a3++[sI 16 aAC],gI a0 a1++[dO.o a2],[],0⟩) (
         .ex [2,4,7] <|
         .tx [] <|
         .ex [0,1,3] <|
         .sl 1000000 0 91 (x:=.c (lX a2.bY)) (y:=(.c (jQ.tree a2.bY))) (jR.c (jM _)) <|
         .iU [5,6] _ <|
         .lt _ fun aNP =>
         .eH 8 (default:Int) _ [] (aGH a0 a1 aNP a3) (fun _=>rfl) fun aNQ =>
         .ex [9] <|
         .ite _ (
          .ret [] _) (
          .nil [0,1,2] _)) fun aTP =>
        .nil [0,1,2] _) (
        .ret [] _)) fun aTQ =>
      .ret [] _)))
theorem aRT (K:Nat) (a0:cM) (a1:dR) (a2:(List cG)) (a3:Bool):bS Tryz.prog 196 [.agg (dP.cs a0),.agg (eD.cs a1),.c (dO.tree a2),.c (.val (.bool a3))] [] (bV (xT K a0 a1 a2 a3)) (fun r=>.c (.val (.int .i64 r))) (fun r=>[]):=(aRS K).1 a0 a1 a2 a3
def aLo (K:Nat) (a0:cM) (a1:dR) (a2:(List cG)):Option ((Int) ⊕ (Int)) :=
 ((bV (aGw K a0 a1)).bind (fun r1=>(if (!r1)=true then (some (.inl (22))) else ((bV (xT K a0 a1 a2 false)).bind (fun r2=>(some (.inl (r2))))))))
theorem aJ0 (K:Nat) (a0:cM) (a1:dR) (a2:(List cG)):bS Tryz.prog 153 [.agg (dP.cs a0),.agg (eD.cs a1),.c (dO.tree a2)] [] (bV (aLo K a0 a1 a2)) (fun r=>.c (.val (.int .i64 r))) (fun r=>[]):=by
 refine bS.it Tryz.f153 (fun r=>⟨[sI 6 r],[],[],0⟩) ?_
 unfold aLo
 exact Ref.pt (
  .call [] (aBq _ _ _) fun r1 =>
  .ite _ (
   .ret [] _) (
   .call [] (aRT _ _ _ _ _) fun r2 =>
   .ret [] _))
end Go.Proofs.YtdbfbedholdjaaaGreat

namespace Go.Proofs.YtdbfbedholdjaaaGreat
open Go Go.Proofs Go.Dl
variable [dK]
set_option maxRecDepth 100000
set_option maxHeartbeats 4000000
def aNR (K:Nat) (a0:cM) (a1:Int):Option ((Int) ⊕ (Int)) :=
 (bW [cY a1 a0.bM.length] (bP (bN ((iter K (fun (eS:Int)=>(bO (decide ((eS:Int)<(Int.ofNat ((a0.bM.getD (a1:Int).toNat default).cH).length))) (fun (x38:Bool)=>(if x38=true then (bP (bN (bW [cY eS ((a0.bM.getD (a1:Int).toNat default).cH).length] ((bV (aNI K a0 ((((a0.bM.getD (a1:Int).toNat default).cH).getD (eS:Int).toNat default).cO))).bind (fun r42=>(bO ((((!r42) || (decide ((((((a0.bM.getD (a1:Int).toNat default).cH).getD (eS:Int).toNat default).kO):Int)<0))) || (decide ((((((a0.bM.getD (a1:Int).toNat default).cH).getD (eS:Int).toNat default).kO):Int) > 2))) || ((((((((a0.bM.getD (a1:Int).toNat default).cH).getD (eS:Int).toNat default).kO):Int) != 0) && (((((((a0.bM.getD (a1:Int).toNat default).cH).getD (eS:Int).toNat default).cO).bR):Int) != 1)) && (((((((a0.bM.getD (a1:Int).toNat default).cH).getD (eS:Int).toNat default).cO).bR):Int) != 2))) (fun (x43:Bool)=>(if x43=true then (some (.inl (Sum.inr (Sum.inr (9))))) else (some (.inr ()))))))))) (fun (u41:Unit)=>(some (.inr ((IntKind.i64.wrap (eS+1))))))) else (some (.inl (Sum.inl ()))))))) (0)).map .inl)) (fun (dZ:Unit)=>(bP (bN ((iter K (fun (v8:Int)=>(bO (decide ((v8:Int)<(Int.ofNat ((a0.bM.getD (a1:Int).toNat default).cH).length))) (fun (x71:Bool)=>(if x71=true then (bP (bN (bW [cY v8 ((a0.bM.getD (a1:Int).toNat default).cH).length] ((bV (aLf K (((a0.bM.getD (a1:Int).toNat default).cH).getD (v8:Int).toNat default))).bind (fun r74=>(if (!r74)=true then (some (.inl (Sum.inr (Sum.inr (10))))) else (some (.inr ()))))))) (fun (u73:Unit)=>(some (.inr ((IntKind.i64.wrap (v8+1))))))) else (some (.inl (Sum.inl ()))))))) (0)).map .inl)) (fun (u59:Unit)=>(bP (bN ((iter K (fun (xU:Int)=>(bO (decide ((xU:Int)<(Int.ofNat ((a0.bM.getD (a1:Int).toNat default).cH).length))) (fun (aY2:Bool)=>(if aY2=true then (bP (bN (bW [cY xU ((a0.bM.getD (a1:Int).toNat default).cH).length] (bO (((((((a0.bM.getD (a1:Int).toNat default).cH).getD (xU:Int).toNat default).kO):Int) != 0) && ((decide ((((((a0.bM.getD (a1:Int).toNat default).cH).getD (xU:Int).toNat default).lW):Int)<0)) || (decide ((((((a0.bM.getD (a1:Int).toNat default).cH).getD (xU:Int).toNat default).lW):Int) ≥ 8)))) (fun (aVQ:Bool)=>((cF (((((((a0.bM.getD (a1:Int).toNat default).cH).getD (xU:Int).toNat default).kO):Int) == 2) && (!aVQ)) (bV (aNJ K a0 a1 xU)) default).bind (fun v7=>(bO (aVQ || (((((((a0.bM.getD (a1:Int).toNat default).cH).getD (xU:Int).toNat default).kO):Int) == 2) && v7)) (fun (aLh:Bool)=>(if aLh=true then (some (.inl (Sum.inr (Sum.inr (16))))) else (some (.inr ()))))))))))) (fun (aY3:Unit)=>(some (.inr ((IntKind.i64.wrap (xU+1))))))) else (some (.inl (Sum.inl ()))))))) (0)).map .inl)) (fun (aIx:Unit)=>(bO ((a0.bM.getD (a1:Int).toNat default).cH) (fun (aY4:(List fE))=>((bV (aGA K aY4)).bind (fun aCr=>((bV (aCk K aCr)).bind (fun aLq=>(if aLq=true then (some (.inl (6))) else (bO ((a0.bM.getD (a1:Int).toNat default).rP) (fun (aLr:(List cG))=>((bV (aLo K a0 (⟨a1,(-1)⟩:dR) aLr)).bind (fun aNS=>(some (.inl (aNS)))))))))))))))))))))
theorem aRU (K:Nat) (a0:cM) (a1:Int):bS Tryz.prog 119 [.agg (dP.cs a0),.c (.val (.int .i64 a1))] [] (bV (aNR K a0 a1)) (fun r=>.c (.val (.int .i64 r))) (fun r=>[]):=by
 refine bS.it Tryz.f119 (fun r=>⟨[sI 4 r],[],[],0⟩) ?_
 unfold aNR
 exact Ref.pt (
  .ck _ <|
  .bk 0 (fun dZ=>⟨[sI 1 a1,sP 2 0 0 0,sP 5 1 0 0],[.cells (dP.cs a0),gT.o (gd a0.bM a1)],[],0⟩) (
   .lp [0,1] (fun eS=>⟨[sI 1 a1,sP 2 0 0 0,sP 5 1 0 0,sI 6 eS],[.cells (dP.cs a0),gT.o (gd a0.bM a1)],[],0⟩) fun eS =>
   .lt _ fun x38 =>
   .ite _ (
    .bk 1 (fun u41=>⟨[sI 1 a1,sP 2 0 0 0,sP 5 1 0 0,sI 6 eS],[.cells (dP.cs a0),gT.o (gd a0.bM a1)],[],0⟩) (
     .ck _ <|
     .call [] (aRK _ _ _) fun r42 =>
     .lt _ fun x43 =>
     .ite _ (
      .ret [] _) (
      .nil [0,1] _)) fun u41 =>
    .nil [0,1] _) (
    .ret [0,1] _)) fun dZ =>
  .bk 2 (fun u59=>⟨[sI 1 a1,sP 2 0 0 0,sP 5 1 0 0],[.cells (dP.cs a0),gT.o (gd a0.bM a1)],[],0⟩) (
   .lp [0,1] (fun v8=>⟨[sI 1 a1,sP 2 0 0 0,sP 5 1 0 0,sI 8 v8],[.cells (dP.cs a0),gT.o (gd a0.bM a1)],[],0⟩) fun v8 =>
   .lt _ fun x71 =>
   .ite _ (
    .bk 3 (fun u73=>⟨[sI 1 a1,sP 2 0 0 0,sP 5 1 0 0,sI 8 v8],[.cells (dP.cs a0),gT.o (gd a0.bM a1)],[],0⟩) (
     .ck _ <|
     .call [] (aJW _ _) fun r74 =>
     .ite _ (
      .ret [] _) (
      .nil [0,1] _)) fun u73 =>
    .nil [0,1] _) (
    .ret [0,1] _)) fun u59 =>
  .bk 4 (fun aIx=>⟨[sI 1 a1,sP 2 0 0 0,sP 5 1 0 0],[.cells (dP.cs a0),gT.o (gd a0.bM a1)],[],0⟩) (
   .lp [0,1] (fun xU=>⟨[sI 1 a1,sP 2 0 0 0,sP 5 1 0 0,sI 9 xU],[.cells (dP.cs a0),gT.o (gd a0.bM a1)],[],0⟩) fun xU =>
   .lt _ fun aY2 =>
   .ite _ (
    .bk 5 (fun aY3=>⟨[sI 1 a1,sP 2 0 0 0,sP 5 1 0 0,sI 9 xU],[.cells (dP.cs a0),gT.o (gd a0.bM a1)],[],0⟩) (
     .ck _ <|
     .lt _ fun aVQ =>
     .look (default:Bool) _ [] (aRL K a0 a1 xU) (fun _=>rfl) fun v7 =>
     .lt _ fun aLh =>
     .ite _ (
      .ret [] _) (
      .nil [0,1] _)) fun aY3 =>
    .nil [0,1] _) (
    .ret [0,1] _)) fun aIx =>
  .lt _ fun aY4 =>
  .call [] (aBr _ _) fun aCr =>
  .call [] (rE _ _) fun aLq =>
  .ite _ (
   .ret [] _) (
   .lt _ fun aLr =>
   .call [] (aJ0 _ _ _ _) fun aNS =>
   .ret [] _))
def aNT (K:Nat) (a0:cM) (a1:Int):Option ((Int) ⊕ (Int)) :=
 (bW [cY a1 a0.bM.length] (bO ((a0.bM.getD (a1:Int).toNat default).fV) (fun (x1:Bytes)=>((bV (F61 K a0 x1)).bind (fun r2=>((bV (F68 K a0 r2)).bind (fun r3=>(bO (((((((r3:Int) != 3) || (decide ((r2:Int) ≥ a1))) || (decide ((((a0.bM.getD (a1:Int).toNat default).rA):Int)<1))) || (decide ((((a0.bM.getD (a1:Int).toNat default).rA):Int) > 100))) || (decide ((((a0.bM.getD (a1:Int).toNat default).rB):Int)<0))) || (decide ((((a0.bM.getD (a1:Int).toNat default).rB):Int) > 9))) (fun (x4:Bool)=>(bP (bN ((iter K (fun (dZ:Bool × Int)=>(if (decide ((dZ.2:Int)<a1))=true then (bP (bN (bW [!(!dZ.1) || cY dZ.2 a0.bM.length,!(((((a0.bM.getD (dZ.2:Int).toNat default).bR):Int) == 4) && (!dZ.1)) || cY dZ.2 a0.bM.length] (bO (dZ.1 || (((((a0.bM.getD (dZ.2:Int).toNat default).bR):Int) == 4) && (((a0.bM.getD (dZ.2:Int).toNat default).fV) == ((a0.bM.getD (a1:Int).toNat default).fV)))) (fun (gZ:Bool)=>(some (.inr (gZ))))))) (fun (jG:Bool)=>(some (.inr (jG,(IntKind.i64.wrap (dZ.2+1))))))) else (some (.inl (Sum.inl (dZ.1)))))) (x4,0)).map .inl)) (fun (kI:Bool)=>(if kI=true then (some (.inl (17))) else (some (.inl (0)))))))))))))))
theorem aRV (K:Nat) (a0:cM) (a1:Int):bS Tryz.prog 120 [.agg (dP.cs a0),.c (.val (.int .i64 a1))] [] (bV (aNT K a0 a1)) (fun r=>.c (.val (.int .i64 r))) (fun r=>[]):=by
 refine bS.it Tryz.f120 (fun r=>⟨[sI 4 r],[],[],0⟩) ?_
 unfold aNT
 exact Ref.pt (
  .ck _ <|
  .lt _ fun x1 =>
  .call [] (nF _ _ _) fun r2 =>
  .call [] (nG _ _ _) fun r3 =>
  .lt _ fun x4 =>
  .bk 0 (fun kI=>⟨[sB 7 kI],[],[],0⟩) (
   .lp [0,1] (fun dZ=>⟨[sI 1 a1,sP 2 0 0 0,sP 5 1 0 0,sB 7 dZ.1,sI 8 dZ.2],[.cells (dP.cs a0),gT.o (gd a0.bM a1)],[],0⟩) fun dZ =>
   .ite _ (
    .bk 1 (fun jG=>⟨[sI 1 a1,sP 2 0 0 0,sP 5 1 0 0,sB 7 jG,sI 8 dZ.2],[.cells (dP.cs a0),gT.o (gd a0.bM a1)],[],0⟩) (
     .ex [0,1,2,4] <|
     .tx [] <|
     .iU [3,5,6,7,8,9,10,11,12,13,14,15,16,17,18,19,20,21] _ <|
     .lt _ fun gZ =>
     .nil [0,1] _) fun jG =>
    .nil [0,1] _) (
    .ret [] _)) fun kI =>
  .ite _ (
   .ret [] _) (
   .ret [] _))
end Go.Proofs.YtdbfbedholdjaaaGreat
