/- No conditions. -/
import Derived.Test.YtdbfbedholdjaaaGreatPLA
import Derived.Test.YtdbfbedholdjaaaGreatProg
import Derived.Test.YtdbfbedholdjaaaGreatPLd
set_option linter.unusedVariables false
set_option linter.unusedSimpArgs false
set_option linter.unusedSectionVars false
namespace Go.Proofs.YtdbfbedholdjaaaGreat
open Go Go.Proofs Go.Dl
variable [dW]
set_option maxRecDepth 100000
set_option maxHeartbeats 4000000
def aNW (K:Nat) (a0:jG):Option ((Bool) ⊕ (Bool)) :=
 (bN (((decide (((Int.ofNat a0.bM.length):Int) > 6)) || (decide (((Int.ofNat a0.eB.length):Int) > 4))) || (decide (((Int.ofNat a0.cU.length):Int) > 8))) (fun (x1:Bool)=>(if x1=true then (some (.inl (true))) else (bL (bJ ((iter K (fun (kB:Int)=>(bN (decide ((kB:Int)<(Int.ofNat a0.bM.length))) (fun (iU:Bool)=>(if iU=true then (bL (bJ (bW [cS kB a0.bM.length,!(!(decide (((Int.ofNat ((a0.bM.getD (kB:Int).toNat default).cV).length):Int) > 3))) || cS kB a0.bM.length] (bN ((decide (((Int.ofNat ((a0.bM.getD (kB:Int).toNat default).cV).length):Int) > 3)) || (decide (((Int.ofNat ((a0.bM.getD (kB:Int).toNat default).cU).length):Int) > 8))) (fun (x32:Bool)=>(if x32=true then (some (.inl (Sum.inr (Sum.inr (true))))) else (some (.inr ()))))))) (fun (y8:Unit)=>(some (.inr ((IntKind.i64.wrap (kB+1))))))) else (some (.inl (Sum.inl ()))))))) (0)).map .inl)) (fun (gO:Unit)=>(some (.inl (false))))))))
theorem aRj (K:Nat) (a0:jG):bS Tryz.prog 116 [.agg (jR.cs a0)] [] (bT (aNW K a0)) (fun r=>.c (.val (.bool r))) (fun r=>[]):=by
 refine bS.it Tryz.f116 (fun r=>⟨[sB 2 r],[],[],0⟩) ?_
 unfold aNW
 exact Ref.pt (
  .lt _ fun x1 =>
  .ite _ (
   .ret [] _) (
   .bk 0 (fun gO=>⟨[],[],[],0⟩) (
    .lp [0] (fun kB=>⟨[sP 1 0 0 0,sI 3 kB],[jR.o a0],[],0⟩) fun kB =>
    .lt _ fun iU =>
    .ite _ (
     .bk 1 (fun y8=>⟨[sP 1 0 0 0,sI 3 kB],[jR.o a0],[],0⟩) (
      .ck _ <|
      .lt _ fun x32 =>
      .ite _ (
       .ret [] _) (
       .nil [0] _)) fun y8 =>
     .nil [0] _) (
     .ret [] _)) fun gO =>
   .ret [] _))
def aMc (K:Nat) (a0:cZ) (a1:Bytes) (a2:Bool):Option ((Bool) ⊕ (Bool)) :=
 ((cH true (bT (F61 K a0 a1)) default).bind (fun r1=>((cH true (bT (F68 K a0 r1)) default).bind (fun r2=>(bN (((r2:Int) == 2) || (a2 && ((r2:Int) == 1))) (fun (x3:Bool)=>(some (.inl (x3)))))))))
theorem aKq (K:Nat) (a0:cZ) (a1:Bytes) (a2:Bool):bS Tryz.prog 197 [.agg (dM.cs a0),.c (.str a1),.c (.val (.bool a2))] [] (bT (aMc K a0 a1 a2)) (fun r=>.c (.val (.bool r))) (fun r=>[]):=by
 refine bS.it Tryz.f197 (fun r=>⟨[sB 6 r],[],[],0⟩) ?_
 unfold aMc
 exact Ref.pt (
  .ex [2] <|
  .tx [] <|
  .ex [0,1] <|
  .fF 3 (default:Int) _ [] (oY K a0 a1) (fun _=>rfl) fun r1 =>
  .fF 4 (default:Int) _ [] (oZ K a0 r1) (fun _=>rfl) fun r2 =>
  .ex [5] <|
  .lt _ fun x3 =>
  .ret [] _)
def aMd (K:Nat) (a0:cZ) (a1:fL):Option ((Bool) ⊕ (Bool)) :=
 (bN (((a1.bP:Int) == 1) || ((a1.bP:Int) == 2)) (fun (x1:Bool)=>((cH (((a1.bP:Int) == 5) && (!x1)) (bT (aMc K a0 a1.cC true)) default).bind (fun r2=>(some (.inl ((x1 || (((a1.bP:Int) == 5) && r2)))))))))
theorem aKr (K:Nat) (a0:cZ) (a1:fL):bS Tryz.prog 191 [.agg (dM.cs a0),.agg (fX.cs a1)] [] (bT (aMd K a0 a1)) (fun r=>.c (.val (.bool r))) (fun r=>[]):=by
 refine bS.it Tryz.f191 (fun r=>⟨[sB 4 r],[],[],0⟩) ?_
 unfold aMd
 exact Ref.pt (
  .lt _ fun x1 =>
  .look (default:Bool) _ [] (aKq K a0 a1.cC true) (fun _=>rfl) fun r2 =>
  .ret [] _)
def aNX (K:Nat) (a0:fL):Option ((Bool) ⊕ (Bool)) :=
 (bN ((((a0.bP:Int) == 0) || ((a0.bP:Int) == 1)) || ((a0.bP:Int) == 2)) (fun (x1:Bool)=>(some (.inl (x1)))))
theorem aRk (K:Nat) (a0:fL):bS Tryz.prog 192 [.agg (fX.cs a0)] [] (bT (aNX K a0)) (fun r=>.c (.val (.bool r))) (fun r=>[]):=by
 refine bS.it Tryz.f192 (fun r=>⟨[sB 2 r],[],[],0⟩) ?_
 unfold aNX
 exact Ref.pt (
  .lt _ fun x1 =>
  .ret [] _)
def aMe (K:Nat) (a0:cZ) (a1:hU):Option ((Bool) ⊕ (Bool)) :=
 (bL (bJ ((iter K (fun (dU:Int)=>(bN (decide ((dU:Int)<(Int.ofNat a1.cV.length))) (fun (l4:Bool)=>(if l4=true then (bL (bJ (bW [cS dU a1.cV.length] ((cH true (bT (aMd K a0 ((a1.cV.getD (dU:Int).toNat default).cQ))) default).bind (fun xF=>(if (!xF)=true then (some (.inl (Sum.inr (Sum.inr (false))))) else (some (.inr ()))))))) (fun (eY:Unit)=>(some (.inr ((IntKind.i64.wrap (dU+1))))))) else (some (.inl (Sum.inl ()))))))) (0)).map .inl)) (fun (u16:Unit)=>((bT (aNX K a1.fG)).bind (fun r32=>(some (.inl (r32)))))))
theorem aKs (K:Nat) (a0:cZ) (a1:hU):bS Tryz.prog 144 [.agg (dM.cs a0),.agg (kJ.cs a1)] [] (bT (aMe K a0 a1)) (fun r=>.c (.val (.bool r))) (fun r=>[]):=by
 refine bS.it Tryz.f144 (fun r=>⟨[sB 4 r],[],[],0⟩) ?_
 unfold aMe
 exact Ref.pt (
  .bk 0 (fun u16=>⟨[sP 3 0 0 0],[kJ.o a1],[],0⟩) (
   .lp [0,1] (fun dU=>⟨[sP 2 0 0 0,sP 3 1 0 0,sI 5 dU],[.cells (dM.cs a0),kJ.o a1],[],0⟩) fun dU =>
   .lt _ fun l4 =>
   .ite _ (
    .bk 1 (fun eY=>⟨[sP 2 0 0 0,sP 3 1 0 0,sI 5 dU],[.cells (dM.cs a0),kJ.o a1],[],0⟩) (
     .ex [1,3] <|
     .tx [] <|
     .lT [0,2,4,5,6] _ <|
     .fF 7 (default:Bool) _ [] (aKr K a0 ((gd a1.cV dU).cQ)) (fun _=>rfl) fun xF =>
     .ex [8] <|
     .ite _ (
      .ret [] _) (
      .nil [0,1] _)) fun eY =>
    .nil [0,1] _) (
    .ret [1] _)) fun u16 =>
  .call [] (aRk _ _) fun r32 =>
  .ret [] _)
def aDz (K:Nat) (a0:(List Bytes)):Option ((Bool) ⊕ (Bool)) :=
 (bL (bJ ((iter K (fun (aCg:Int)=>(bN (decide ((aCg:Int)<(Int.ofNat a0.length))) (fun (aWG:Bool)=>(if aWG=true then (bL (bJ (bL (bJ ((iter K (fun (aG3:Int)=>(if (decide ((aG3:Int)<aCg))=true then (bL (bJ (bW [cS aG3 a0.length,cS aCg a0.length] (bN ((a0.getD (aG3:Int).toNat default) == (a0.getD (aCg:Int).toNat default)) (fun (aWH:Bool)=>(if aWH=true then (some (.inl (Sum.inr (Sum.inr (Sum.inr (Sum.inr (true))))))) else (some (.inr ()))))))) (fun (aG4:Unit)=>(some (.inr ((IntKind.i64.wrap (aG3+1))))))) else (some (.inl (Sum.inl ()))))) (0)).map .inl)) (fun (aWI:Unit)=>(some (.inr ()))))) (fun (aWJ:Unit)=>(some (.inr ((IntKind.i64.wrap (aCg+1))))))) else (some (.inl (Sum.inl ()))))))) (0)).map .inl)) (fun (aNY:Unit)=>(some (.inl (false)))))
theorem uD (K:Nat) (a0:(List Bytes)):bS Tryz.prog 145 [.c (E9.tree a0)] [] (bT (aDz K a0)) (fun r=>.c (.val (.bool r))) (fun r=>[]):=by
 refine bS.it Tryz.f145 (fun r=>⟨[sB 2 r],[],[],0⟩) ?_
 unfold aDz
 exact Ref.pt (
  .bk 0 (fun aNY=>⟨[],[],[],0⟩) (
   .lp [] (fun aCg=>⟨[(0,.c (E9.tree a0)),sI 3 aCg],[],[],0⟩) fun aCg =>
   .lt _ fun aWG =>
   .ite _ (
    .bk 1 (fun aWJ=>⟨[(0,.c (E9.tree a0)),sI 3 aCg],[],[],0⟩) (
     .bk 2 (fun aWI=>⟨[(0,.c (E9.tree a0)),sI 3 aCg],[],[],0⟩) (
      .lp [] (fun aG3=>⟨[(0,.c (E9.tree a0)),sI 3 aCg,sI 4 aG3],[],[],0⟩) fun aG3 =>
      .ite _ (
       .bk 3 (fun aG4=>⟨[(0,.c (E9.tree a0)),sI 3 aCg,sI 4 aG3],[],[],0⟩) (
        .lT [0,1,2,4,5,6] _ <|
        .tx [] <|
        .ex [3,7,8] <|
        .lt _ fun aWH =>
        .ite _ (
         .ret [] _) (
         .nil [] _)) fun aG4 =>
       .nil [] _) (
       .ret [] _)) fun aWI =>
     .nil [] _) fun aWJ =>
    .nil [] _) (
    .ret [] _)) fun aNY =>
  .ret [] _)
def aI0 (K:Nat) (a0:jG):Option (((List Bytes)) ⊕ ((List Bytes))) :=
 (bL (bJ ((iter K (fun (dU:(List Bytes) × Int)=>(bN (decide ((dU.2:Int)<(Int.ofNat a0.bM.length))) (fun (l4:Bool)=>(if l4=true then (bL (bJ (bW [cS dU.2 a0.bM.length] (bN ((a0.bM.getD (dU.2:Int).toNat default).cC) (fun (x31:Bytes)=>(bW [room ((dU.1.length+([x31].length)) * 16)] (some (.inr ((dU.1++[x31]))))))))) (fun (eY:(List Bytes))=>(some (.inr (eY,(IntKind.i64.wrap (dU.2+1))))))) else (some (.inl (Sum.inl (dU.1)))))))) ([],0)).map .inl)) (fun (u16:(List Bytes))=>(some (.inl (u16)))))
theorem aFZ (K:Nat) (a0:jG):bS Tryz.prog 146 [.agg (jR.cs a0)] [] (bT (aI0 K a0)) (fun r=>.c (E9.tree r)) (fun r=>[]):=by
 refine bS.it Tryz.f146 (fun r=>⟨[(2,.c (E9.tree r))],[],[],0⟩) ?_
 unfold aI0
 exact Ref.pt (
  .bk 0 (fun u16=>⟨[(3,.c (.own 0 u16.length))],[E9.row u16],[],0⟩) (
   .ad 2 0 3 E9.ty E9.w (E9.at []) <|
   .lp [0,1] (fun dU=>⟨[sP 1 0 0 0,(3,.c (.own 1 dU.1.length)),sI 4 dU.2],[jR.o a0,E9.row dU.1],[],0⟩) fun dU =>
   .lt _ fun l4 =>
   .ite _ (
    .bk 1 (fun eY=>⟨[sP 1 0 0 0,(3,.c (.own 1 eY.length)),sI 4 dU.2],[jR.o a0,E9.row eY],[],0⟩) (
     .ck _ <|
     .lt _ fun x31 =>
     .ob 5 2 2 (x:=.row 9 1 1 (gY [[.str x31]])) (y:=(E9.row [x31])) (El.bZ E9 [x31] rfl (by kernel_rfl)) <|
     .sl 5 2 19 (x:=.c (.own 2 1)) (y:=(.c (.own 2 ([x31].length)))) (eA.c (dY.own (by first | (simp;done) | (simp;omega) | omega))) <|
     .ck _ <|
     .ob 5 1 3 (x:=.row 9 1 (dU.1.length+([x31].length)) fun i j=>bif Nat.blt i dU.1.length then E9.at dU.1 i j else (E9.at [x31]) (i - dU.1.length) j) (y:=(E9.row (dU.1++[x31]))) (El.cI E9 dU.1 [x31] rfl rfl) <|
     .sl 5 1 20 (x:=.c (.own 3 (dU.1.length+([x31].length)))) (y:=(.c (.own 3 ((dU.1++[x31]).length)))) (eA.c (dY.own (by first | (simp;done) | (simp;omega) | omega))) <|
     .nil [0,3] _) fun eY =>
    .nil [0,1] _) (
    .ret [1] _)) fun u16 =>
  .fz 6 0 0 <|
  .ret [] _)
def aG5 (K:Nat) (a0:(List fE)):Option (((List Bytes)) ⊕ ((List Bytes))) :=
 (bL (bJ ((iter K (fun (qS:(List Bytes) × Int)=>(bN (decide ((qS.2:Int)<(Int.ofNat a0.length))) (fun (x16:Bool)=>(if x16=true then (bL (bJ (bW [cS qS.2 a0.length] (bW [room ((qS.1.length+([(a0.getD (qS.2:Int).toNat default).cC].length)) * 16)] (some (.inr ((qS.1++[(a0.getD (qS.2:Int).toNat default).cC]))))))) (fun (gO:(List Bytes))=>(some (.inr (gO,(IntKind.i64.wrap (qS.2+1))))))) else (some (.inl (Sum.inl (qS.1)))))))) ([],0)).map .inl)) (fun (u9:(List Bytes))=>(some (.inl (u9)))))
theorem aCF (K:Nat) (a0:(List fE)):bS Tryz.prog 147 [.c (eN.tree a0)] [] (bT (aG5 K a0)) (fun r=>.c (E9.tree r)) (fun r=>[]):=by
 refine bS.it Tryz.f147 (fun r=>⟨[(2,.c (E9.tree r))],[],[],0⟩) ?_
 unfold aG5
 exact Ref.pt (
  .bk 0 (fun u9=>⟨[(3,.c (.own 0 u9.length))],[E9.row u9],[],0⟩) (
   .ad 2 0 3 E9.ty E9.w (E9.at []) <|
   .lp [0] (fun qS=>⟨[(0,.c (eN.tree a0)),(3,.c (.own 0 qS.1.length)),sI 4 qS.2],[E9.row qS.1],[],0⟩) fun qS =>
   .lt _ fun x16 =>
   .ite _ (
    .bk 1 (fun gO=>⟨[(0,.c (eN.tree a0)),(3,.c (.own 0 gO.length)),sI 4 qS.2],[E9.row gO],[],0⟩) (
     .ck _ <|
     .ob 5 2 1 (x:=.row 9 1 1 (gY [[.str ((gd a0 qS.2).cC)]])) (y:=(E9.row [(gd a0 qS.2).cC])) (El.bZ E9 [(gd a0 qS.2).cC] rfl (by kernel_rfl)) <|
     .sl 5 2 17 (x:=.c (.own 1 1)) (y:=(.c (.own 1 ([(gd a0 qS.2).cC].length)))) (eA.c (dY.own (by first | (simp;done) | (simp;omega) | omega))) <|
     .ck _ <|
     .ob 5 1 2 (x:=.row 9 1 (qS.1.length+([(gd a0 qS.2).cC].length)) fun i j=>bif Nat.blt i qS.1.length then E9.at qS.1 i j else (E9.at [(gd a0 qS.2).cC]) (i - qS.1.length) j) (y:=(E9.row (qS.1++[(gd a0 qS.2).cC]))) (El.cI E9 qS.1 [(gd a0 qS.2).cC] rfl rfl) <|
     .sl 5 1 18 (x:=.c (.own 2 (qS.1.length+([(gd a0 qS.2).cC].length)))) (y:=(.c (.own 2 ((qS.1++[(gd a0 qS.2).cC]).length)))) (eA.c (dY.own (by first | (simp;done) | (simp;omega) | omega))) <|
     .nil [2] _) fun gO =>
    .nil [0] _) (
    .ret [0] _)) fun u9 =>
  .fz 6 0 0 <|
  .ret [] _)
def aNZ (K:Nat) (a0:cZ) (a1:jG):Option ((Int) ⊕ (Int)) :=
 (bL (bJ ((iter K (fun (dU:Int)=>(bN (decide ((dU:Int)<(Int.ofNat a1.bM.length))) (fun (l4:Bool)=>(if l4=true then (bL (bJ (bW [cS dU a1.bM.length] ((cH true (bT (aMe K a0 (a1.bM.getD (dU:Int).toNat default))) default).bind (fun xF=>(if (!xF)=true then (some (.inl (Sum.inr (Sum.inr (9))))) else (some (.inr ()))))))) (fun (eY:Unit)=>(some (.inr ((IntKind.i64.wrap (dU+1))))))) else (some (.inl (Sum.inl ()))))))) (0)).map .inl)) (fun (u16:Unit)=>((bT (aI0 K a1)).bind (fun r32=>((bT (aDz K r32)).bind (fun xG=>(bL (bJ ((iter K (fun (u63:Bool × Int)=>(bN (decide ((u63.2:Int)<(Int.ofNat a1.bM.length))) (fun (x71:Bool)=>(if x71=true then (bL (bJ (bW [!(!u63.1) || cS u63.2 a1.bM.length] ((cH (!u63.1) (bT (aG5 K ((a1.bM.getD (u63.2:Int).toNat default).cV))) default).bind (fun r75=>((cH (!u63.1) (bT (aDz K r75)) default).bind (fun r76=>(some (.inr ((u63.1 || r76)))))))))) (fun (u74:Bool)=>(some (.inr (u74,(IntKind.i64.wrap (u63.2+1))))))) else (some (.inl (Sum.inl (u63.1)))))))) (xG,0)).map .inl)) (fun (u55:Bool)=>(if u55=true then (some (.inl (6))) else (some (.inl (0))))))))))))
theorem aRl (K:Nat) (a0:cZ) (a1:jG):bS Tryz.prog 117 [.agg (dM.cs a0),.agg (jR.cs a1)] [] (bT (aNZ K a0 a1)) (fun r=>.c (.val (.int .i64 r))) (fun r=>[]):=by
 refine bS.it Tryz.f117 (fun r=>⟨[sI 4 r],[],[],0⟩) ?_
 unfold aNZ
 exact Ref.pt (
  .bk 0 (fun u16=>⟨[sP 3 0 0 0],[jR.o a1],[],0⟩) (
   .lp [0,1] (fun dU=>⟨[sP 2 0 0 0,sP 3 1 0 0,sI 5 dU],[.cells (dM.cs a0),jR.o a1],[],0⟩) fun dU =>
   .lt _ fun l4 =>
   .ite _ (
    .bk 1 (fun eY=>⟨[sP 2 0 0 0,sP 3 1 0 0,sI 5 dU],[.cells (dM.cs a0),jR.o a1],[],0⟩) (
     .ex [1,3] <|
     .tx [] <|
     .lT [0,2,4,5] _ <|
     .fF 6 (default:Bool) _ [] (aKs K a0 (gd a1.bM dU)) (fun _=>rfl) fun xF =>
     .ex [7] <|
     .ite _ (
      .ret [] _) (
      .nil [0,1] _)) fun eY =>
    .nil [0,1] _) (
    .ret [1] _)) fun u16 =>
  .call [] (aFZ _ _) fun r32 =>
  .call [] (uD _ _) fun xG =>
  .bk 2 (fun u55=>⟨[sB 6 u55],[],[],0⟩) (
   .lp [0] (fun u63=>⟨[sP 3 0 0 0,sB 6 u63.1,sI 7 u63.2],[jR.o a1],[],0⟩) fun u63 =>
   .lt _ fun x71 =>
   .ite _ (
    .bk 3 (fun u74=>⟨[sP 3 0 0 0,sB 6 u74,sI 7 u63.2],[jR.o a1],[],0⟩) (
     .ck _ <|
     .yE (default:(List Bytes)) _ (aCF K ((gd a1.bM u63.2).cV)) fun r75 =>
     .look (default:Bool) _ [] (uD K r75) (fun _=>rfl) fun r76 =>
     .nil [0] _) fun u74 =>
    .nil [0] _) (
    .ret [] _)) fun u55 =>
  .ite _ (
   .ret [] _) (
   .ret [] _))
def aMf (K:Nat) (a0:fE):Option ((Bool) ⊕ (Bool)) :=
 (bL (bJ (if ((a0.cQ.bP:Int) == 1)=true then (bN ((decide ((a0.gA:Int) ≥ (-32768))) && (decide ((a0.gA:Int)≤32767))) (fun (x5:Bool)=>(some (.inl (Sum.inr (x5)))))) else (if ((a0.cQ.bP:Int) == 2)=true then (bN (((a0.gA:Int) == 0) || ((a0.gA:Int) == 1)) (fun (x6:Bool)=>(some (.inl (Sum.inr (x6)))))) else (if ((a0.cQ.bP:Int) == 3)=true then (bN ((decide ((a0.gA:Int) ≥ a0.cQ.fLo)) && (decide ((a0.gA:Int)≤a0.cQ.fHi))) (fun (x7:Bool)=>(some (.inl (Sum.inr (x7)))))) else (some (.inr ())))))) (fun (u4:Unit)=>(some (.inl (((a0.gA:Int) == 0))))))
theorem aKt (K:Nat) (a0:fE):bS Tryz.prog 155 [.agg (eN.cs a0)] [] (bT (aMf K a0)) (fun r=>.c (.val (.bool r))) (fun r=>[]):=by
 refine bS.it Tryz.f155 (fun r=>⟨[sB 2 r],[],[],0⟩) ?_
 unfold aMf
 exact Ref.pt (
  .bk 0 (fun u4=>⟨[sP 1 0 0 0],[eN.o a0],[],0⟩) (
   .ite _ (
    .lt _ fun x5 =>
    .ret [] _) (
    .ite _ (
     .lt _ fun x6 =>
     .ret [] _) (
     .ite _ (
      .lt _ fun x7 =>
      .ret [] _) (
      .nil [0] _)))) fun u4 =>
  .ret [] _)
def aMg (K:Nat) (a0:cZ) (a1:fL):Option ((Bool) ⊕ (Bool)) :=
 ((bT (aMd K a0 a1)).bind (fun r1=>(bN ((r1 || (((((a1.bP:Int) == 3) && (decide ((a1.fLo:Int) ≥ (-32768)))) && (decide ((a1.fHi:Int)≤32767))) && (decide ((a1.fLo:Int)≤a1.fHi)))) || ((((a1.bP:Int) == 4) && (decide ((a1.fHi:Int) ≥ 0))) && (decide ((a1.fHi:Int)<8)))) (fun (x2:Bool)=>(some (.inl (x2)))))))
theorem aKu (K:Nat) (a0:cZ) (a1:fL):bS Tryz.prog 193 [.agg (dM.cs a0),.agg (fX.cs a1)] [] (bT (aMg K a0 a1)) (fun r=>.c (.val (.bool r))) (fun r=>[]):=by
 refine bS.it Tryz.f193 (fun r=>⟨[sB 4 r],[],[],0⟩) ?_
 unfold aMg
 exact Ref.pt (
  .call [] (aKr _ _ _) fun r1 =>
  .lt _ fun x2 =>
  .ret [] _)
def aN0 (K:Nat) (a0:cZ) (a1:jG):Option ((Int) ⊕ (Int)) :=
 (bW [room (a1.cU.length * 80)] (bL (bJ ((iter K (fun (lW:(List fE) × Int)=>(bN (decide ((lW.2:Int)<(Int.ofNat a1.bM.length))) (fun (aWK:Bool)=>(if aWK=true then (bL (bJ (bW [cS lW.2 a1.bM.length] ((bT (aMe K a0 (a1.bM.getD (lW.2:Int).toNat default))).bind (fun aWL=>(if (!aWL)=true then (some (.inl (Sum.inr (Sum.inr (9))))) else (bL (bJ ((iter K (fun (aG6:Int)=>(bN (decide ((aG6:Int)<(Int.ofNat ((a1.bM.getD (lW.2:Int).toNat default).cV).length))) (fun (aWM:Bool)=>(if aWM=true then (bL (bJ (bW [cS aG6 ((a1.bM.getD (lW.2:Int).toNat default).cV).length] (bN ((((((a1.bM.getD (lW.2:Int).toNat default).cV).getD (aG6:Int).toNat default).nF):Int) != 0) (fun (aWN:Bool)=>(if aWN=true then (some (.inl (Sum.inr (Sum.inr (Sum.inr (Sum.inr (9))))))) else (some (.inr ()))))))) (fun (aWO:Unit)=>(some (.inr ((IntKind.i64.wrap (aG6+1))))))) else (some (.inl (Sum.inl ()))))))) (0)).map .inl)) (fun (aWP:Unit)=>(bN ((a1.bM.getD (lW.2:Int).toNat default).cU) (fun (aF0:(List fE))=>(bW [room ((lW.1.length+aF0.length) * 80)] (some (.inr ((lW.1++aF0)))))))))))))) (fun (aN1:(List fE))=>(some (.inr (aN1,(IntKind.i64.wrap (lW.2+1))))))) else (some (.inl (Sum.inl (lW.1)))))))) (a1.cU,0)).map .inl)) (fun (qT:(List fE))=>(bL (bJ ((iter K (fun (aDB:Int)=>(bN (decide ((aDB:Int)<(Int.ofNat qT.length))) (fun (aWQ:Bool)=>(if aWQ=true then (bL (bJ (bW [cS aDB qT.length] ((cH true (bT (aMg K a0 ((qT.getD ((aDB:Int).toNat) default).cQ))) default).bind (fun aUs=>(bW [!(!(!aUs)) || cS aDB qT.length] (bN ((!aUs) || ((((qT.getD ((aDB:Int).toNat) default).nF):Int) != 0)) (fun (aWR:Bool)=>(if aWR=true then (some (.inl (Sum.inr (Sum.inr (9))))) else (some (.inr ())))))))))) (fun (aWS:Unit)=>(some (.inr ((IntKind.i64.wrap (aDB+1))))))) else (some (.inl (Sum.inl ()))))))) (0)).map .inl)) (fun (aWT:Unit)=>(bL (bJ ((iter K (fun (aG7:Int)=>(bN (decide ((aG7:Int)<(Int.ofNat qT.length))) (fun (aWU:Bool)=>(if aWU=true then (bL (bJ (bW [cS aG7 qT.length] ((bT (aMf K (qT.getD ((aG7:Int).toNat) default))).bind (fun aWV=>(if (!aWV)=true then (some (.inl (Sum.inr (Sum.inr (10))))) else (some (.inr ()))))))) (fun (aWW:Unit)=>(some (.inr ((IntKind.i64.wrap (aG7+1))))))) else (some (.inl (Sum.inl ()))))))) (0)).map .inl)) (fun (aEO:Unit)=>(some (.inl (0))))))))))
abbrev aF1 (v0:(List fE) × Int):List (Nat × D):=[sP 2 0 0 0,sP 3 1 0 0,(5,.c (.own 2 v0.1.length)),sI 6 v0.2]
theorem aRm (K:Nat) (a0:cZ) (a1:jG):bS Tryz.prog 148 [.agg (dM.cs a0),.agg (jR.cs a1)] [] (bT (aN0 K a0 a1)) (fun r=>.c (.val (.int .i64 r))) (fun r=>[]):=by
 refine bS.it Tryz.f148 (fun r=>⟨[sI 4 r],[],[],0⟩) ?_
 unfold aN0
 exact Ref.pt (
  .ck _ <|
  .bk 0 (fun qT=>⟨[sP 2 0 0 0,(5,.c (.own 1 qT.length))],[.cells (dM.cs a0),eN.row qT],[],0⟩) (
   .lp [0,1,2] (fun lW=>⟨aF1 lW,[.cells (dM.cs a0),jR.o a1,eN.row lW.1],[],0⟩) fun lW =>
   .lt _ fun aWK =>
   .ite _ (
    .bk 1 (fun aN1=>⟨[sP 2 0 0 0,sP 3 1 0 0,(5,.c (.own 2 aN1.length)),sI 6 lW.2],[.cells (dM.cs a0),jR.o a1,eN.row aN1],[],0⟩) (
     .ck _ <|
     .call [] (aKs _ _ _) fun aWL =>
     .ite _ (
      .ret [] _) (
      .bk 2 (fun aWP=>⟨aF1 lW++[sP 7 3 0 0],[.cells (dM.cs a0),jR.o a1,eN.row lW.1,kJ.o (gd a1.bM lW.2)],[],0⟩) (
       .lp [0,1,2,3] (fun aG6=>⟨aF1 lW++[sP 7 3 0 0,sI 8 aG6],[.cells (dM.cs a0),jR.o a1,eN.row lW.1,kJ.o (gd a1.bM lW.2)],[],0⟩) fun aG6 =>
       .lt _ fun aWM =>
       .ite _ (
        .bk 3 (fun aWO=>⟨aF1 lW++[sP 7 3 0 0,sI 8 aG6],[.cells (dM.cs a0),jR.o a1,eN.row lW.1,kJ.o (gd a1.bM lW.2)],[],0⟩) (
         .ck _ <|
         .lt _ fun aWN =>
         .ite _ (
          .ret [] _) (
          .nil [0,1,2,3] _)) fun aWO =>
        .nil [0,1,2,3] _) (
        .ret [0,1,2,3] _)) fun aWP =>
      .lt _ fun aF0 =>
      .ck _ <|
      .ob 13 1 4 (x:=.row 41 8 (lW.1.length+aF0.length) fun i j=>bif Nat.blt i lW.1.length then eN.at lW.1 i j else (eN.at aF0) (i - lW.1.length) j) (y:=(eN.row (lW.1++aF0))) (El.cI eN lW.1 aF0 rfl rfl) <|
      .sl 13 1 47 (x:=.c (.own 4 (lW.1.length+aF0.length))) (y:=(.c (.own 4 ((lW.1++aF0).length)))) (eA.c (dY.own (by first | (simp;done) | (simp;omega) | omega))) <|
      .nil [0,1,4] _)) fun aN1 =>
    .nil [0,1,2] _) (
    .ret [0,2] _)) fun qT =>
  .bk 4 (fun aWT=>⟨[(5,.c (.own 0 qT.length))],[eN.row qT],[],0⟩) (
   .lp [0,1] (fun aDB=>⟨[sP 2 0 0 0,(5,.c (.own 1 qT.length)),sI 9 aDB],[.cells (dM.cs a0),eN.row qT],[],0⟩) fun aDB =>
   .lt _ fun aWQ =>
   .ite _ (
    .bk 5 (fun aWS=>⟨[sP 2 0 0 0,(5,.c (.own 1 qT.length)),sI 9 aDB],[.cells (dM.cs a0),eN.row qT],[],0⟩) (
     .lT [1,2,3,4] _ <|
     .tx [] <|
     .ex [0,5] <|
     .fF 6 (default:Bool) _ [] (aKu K a0 ((qT.getD ((aDB:Int).toNat) default).cQ)) (fun _=>rfl) fun aUs =>
     .lT [7,8,9,10,11,12,13,14,15] _ <|
     .lt _ fun aWR =>
     .ite _ (
      .ret [] _) (
      .nil [0,1] _)) fun aWS =>
    .nil [0,1] _) (
    .ret [1] _)) fun aWT =>
  .bk 6 (fun aEO=>⟨[],[],[],0⟩) (
   .lp [0] (fun aG7=>⟨[(5,.c (.own 0 qT.length)),sI 10 aG7],[eN.row qT],[],0⟩) fun aG7 =>
   .lt _ fun aWU =>
   .ite _ (
    .bk 7 (fun aWW=>⟨[(5,.c (.own 0 qT.length)),sI 10 aG7],[eN.row qT],[],0⟩) (
     .ck _ <|
     .call [] (aKt _ _) fun aWV =>
     .ite _ (
      .ret [] _) (
      .nil [0] _)) fun aWW =>
    .nil [0] _) (
    .ret [] _)) fun aEO =>
  .ret [] _)
def aN2 (K:Nat) (a0:cZ) (a1:Int):Option ((Bool) ⊕ (Bool)) :=
 (bW [cS a1 a0.bK.length] (bN (((a0.bK.getD (a1:Int).toNat default).eV) && ((a0.bK.getD (a1:Int).toNat default).wE)) (fun (x1:Bool)=>(if x1=true then (some (.inl (true))) else (bL (bJ ((iter K (fun (kB:Int)=>(bN (decide ((kB:Int)<(Int.ofNat ((a0.bK.getD (a1:Int).toNat default).bM).length))) (fun (iU:Bool)=>(if iU=true then (bL (bJ (bW [cS kB ((a0.bK.getD (a1:Int).toNat default).bM).length] (bN (((((a0.bK.getD (a1:Int).toNat default).bM).getD (kB:Int).toNat default).eV) && (((((((a0.bK.getD (a1:Int).toNat default).bM).getD (kB:Int).toNat default).wE) || (decide (((Int.ofNat ((((a0.bK.getD (a1:Int).toNat default).bM).getD (kB:Int).toNat default).cU).length):Int) > 0))) || (decide (((Int.ofNat ((((a0.bK.getD (a1:Int).toNat default).bM).getD (kB:Int).toNat default).uW).length):Int) > 0))) || (!((a0.bK.getD (a1:Int).toNat default).eV)))) (fun (x32:Bool)=>(if x32=true then (some (.inl (Sum.inr (Sum.inr (true))))) else (some (.inr ()))))))) (fun (y8:Unit)=>(some (.inr ((IntKind.i64.wrap (kB+1))))))) else (some (.inl (Sum.inl ()))))))) (0)).map .inl)) (fun (gO:Unit)=>((bT (aDx K a0 a1)).bind (fun xG=>(bL (bJ ((iter K (fun (pU:Int)=>(bN ((decide ((pU:Int)<(Int.ofNat xG.length))) && (!((a0.bK.getD (a1:Int).toNat default).eV))) (fun (aWX:Bool)=>(if aWX=true then (bL (bJ (bW [cS pU xG.length] (bW [cS (xG.getD (pU:Int).toNat default) a0.bK.length] ((bT (aI0 K (a0.bK.getD ((xG.getD (pU:Int).toNat default):Int).toNat default))).bind (fun rN=>(bL (bJ ((iter K (fun (pV:Int)=>(bN (decide ((pV:Int)<(Int.ofNat rN.length))) (fun (aUt:Bool)=>(if aUt=true then (bL (bJ (bW [cS pV rN.length] ((bT (aEN K a0 a1 (rN.getD (pV:Int).toNat default))).bind (fun nG=>((bT (F63 K a0 nG.1)).bind (fun aRn=>(if aRn.eV=true then (some (.inl (Sum.inr (Sum.inr (Sum.inr (Sum.inr (true))))))) else (some (.inr ()))))))))) (fun (aWY:Unit)=>(some (.inr ((IntKind.i64.wrap (pV+1))))))) else (some (.inl (Sum.inl ()))))))) (0)).map .inl)) (fun (aWZ:Unit)=>(some (.inr ()))))))))) (fun (aW0:Unit)=>(some (.inr ((IntKind.i64.wrap (pU+1))))))) else (some (.inl (Sum.inl ()))))))) (0)).map .inl)) (fun (aW1:Unit)=>(some (.inl (false)))))))))))))
abbrev mY (v0:Int) (v1:(List Int)) (v2:Int) (v3:(List Bytes)) (v4:Int):List (Nat × D):=[sI 1 v0,sP 2 0 0 0,sP 5 1 0 0,(8,.c (E3.tree v1)),sI 9 v2,(10,.c (E9.tree v3)),sI 11 v4]
abbrev kC (v0:cZ) (v1:Int):List Go.Dl.Obj:=[.cells (dM.cs v0),jR.o (gd v0.bK v1)]
abbrev aDC (v0:dR × Bool):List (Nat × D):=[(89,.iT [.agg (dO.cs v0.1),.c (bC v0.2)]),(97,.agg (dO.cs v0.1))]
theorem aRo (K:Nat) (a0:cZ) (a1:Int):bS Tryz.prog 150 [.agg (dM.cs a0),.c (.val (.int .i64 a1))] [] (bT (aN2 K a0 a1)) (fun r=>.c (.val (.bool r))) (fun r=>[]):=by
 refine bS.it Tryz.f150 (fun r=>⟨[sB 4 r],[],[],0⟩) ?_
 unfold aN2
 exact Ref.pt (
  .ck _ <|
  .lt _ fun x1 =>
  .ite _ (
   .ret [] _) (
   .bk 0 (fun gO=>⟨[sI 1 a1,sP 2 0 0 0,sP 5 1 0 0],kC a0 a1,[],0⟩) (
    .lp [0,1] (fun kB=>⟨[sI 1 a1,sP 2 0 0 0,sP 5 1 0 0,sI 6 kB],kC a0 a1,[],0⟩) fun kB =>
    .lt _ fun iU =>
    .ite _ (
     .bk 1 (fun y8=>⟨[sI 1 a1,sP 2 0 0 0,sP 5 1 0 0,sI 6 kB],kC a0 a1,[],0⟩) (
      .ck _ <|
      .lt _ fun x32 =>
      .ite _ (
       .ret [] _) (
       .nil [0,1] _)) fun y8 =>
     .nil [0,1] _) (
     .ret [0,1] _)) fun gO =>
   .call [] (uC _ _ _) fun xG =>
   .bk 2 (fun aW1=>⟨[],[],[],0⟩) (
    .lp [0,1] (fun pU=>⟨[sI 1 a1,sP 2 0 0 0,sP 5 1 0 0,(8,.c (E3.tree xG)),sI 9 pU],kC a0 a1,[],0⟩) fun pU =>
    .lt _ fun aWX =>
    .ite _ (
     .bk 3 (fun aW0=>⟨[sI 1 a1,sP 2 0 0 0,sP 5 1 0 0,(8,.c (E3.tree xG)),sI 9 pU],kC a0 a1,[],0⟩) (
      .lT [0,2,3,4] _ <|
      .tx [8,9] <|
      .lT [1,5,6,7] _ <|
      .tl [8,9] <|
      .call [] (aFZ _ _) fun rN =>
      .bk 4 (fun aWZ=>⟨[sI 1 a1,sP 2 0 0 0,sP 5 1 0 0,(8,.c (E3.tree xG)),sI 9 pU],kC a0 a1,[],0⟩) (
       .lp [0,1] (fun pV=>⟨mY a1 xG pU rN pV,kC a0 a1,[],0⟩) fun pV =>
       .lt _ fun aUt =>
       .ite _ (
        .bk 5 (fun aWY=>⟨mY a1 xG pU rN pV,kC a0 a1,[],0⟩) (
         .esc [0,1] [(cd (bd Tryz.f150) [1,1,1,1,1,0,1,0,0,1,0,0,1,1,0,0,1,0,0,0]),(cd (bd Tryz.f150) [1,1,1,1,1,0,1,0,0,1,0,0,1,1,0,0,1,0,0,1])] ⟨mY a1 xG pU rN pV++[sB 86 aUt],kC a0 a1,[],0⟩ (by
          refine Ref.eH 18 (by kernel_rfl) (by kernel_rfl) ?_
          refine dN.evC (vs:=[cS pV rN.length]) (cR:=⟨mY a1 xG pU rN pV++[sI 91 a1,(94,.c (E9.ep (gd rN pV) 0))],kC a0 a1,[],0⟩) (fuel':=9) [1,2,3,4] [1,2,5,8,9,10,11,91,94] [0,1] rfl (by kernel_rfl) (by kernel_rfl) ?_
          refine dN.qB [6,11] ?_
          refine bO.iA (fun (nG:dR × Bool)=>⟨mY a1 xG pU rN pV++[sP 12 2 0 0],kC a0 a1++[.cells (dO.cs nG.1)],[],0⟩) (fun (nG:dR × Bool)=>((bT (F63 K a0 nG.1)).bind (fun aRn=>(if aRn.eV=true then (some (.inl (Sum.inr (Sum.inr (Sum.inr (Sum.inr (true))))))) else (some (.inr ())))))) (fun nG=>?_) (fun hk=>?_)
          ·
           exact Ref.pt (
            .call [] (aDy _ _ _) fun aRn =>
            .ite _ (
             .ret [] _) (
             .nil [0,1] _))
          ·
           refine bO.v0 (fuel':=7) [0,5] [1,2,5,8,9,10,11,90,91,95] [0,1] ?_
           refine bO.kV (fuel':=6) 6 10 (by kernel_rfl) ?_ ?_
           ·
            refine cF.cG (t:=96) 6 [] rfl (by kernel_rfl) (pT K a0 a1 (gd rN pV)) (fun nG=>?_)
            refine bO.eW (cR:=⟨mY a1 xG pU rN pV++aDC nG,kC a0 a1,[],0⟩) (fuel':=4) [7,8] [1,2,5,8,9,10,11,89,97] [0,1] rfl (by kernel_rfl) (by kernel_rfl) ?_
            refine bO.iR (fuel':=3) [[],[(9,98)]] [(9,98)] [1,2,5,8,9,10,11,89,97] [0,1] ⟨mY a1 xG pU rN pV++aDC nG++[sB 98 nG.2],kC a0 a1,[],0⟩ ?_
            refine cO.cM (fuel':=2) 10 ?_
            refine dB.iY (cR:=⟨mY a1 xG pU rN pV++(sP 12 2 0 0::(aDC nG++[sB 98 nG.2])),kC a0 a1++[.cells [iC 0,iC 0]],[],0⟩) 10 [1,2,5,8,9,10,11,12,89,97,98] [0,1,2] (by kernel_rfl) (by kernel_rfl) ?_
            refine cO.cM (fuel':=1) 11 ?_
            refine dB.gI (cR:=⟨mY a1 xG pU rN pV++[sP 12 2 0 0,(89,.iT [.agg (dO.cs nG.1),.c (bC nG.2)]),sB 98 nG.2],kC a0 a1++[.cells (dO.cs nG.1)],[],0⟩) 11 [1,2,5,8,9,10,11,12,89,98] [0,1,2] (by kernel_rfl) (by kernel_rfl) ?_
            refine cO.close ?_
            refine bO.v0 (fuel':=0) [12] [1,2,5,8,9,10,11,12] [0,1,2] ?_
            refine bO.done (by kernel_rfl) ?_
            refine Ref.ck ⟨mY a1 xG pU rN pV++[sP 12 2 0 0],kC a0 a1++[.cells (dO.cs nG.1)],[],0⟩ [1,2,5,8,9,10,11,12] [0,1,2] ?_
            exact hk nG
           ·
            refine cF.a0 10 [1,2,5,8,9,10,11,12,90,91,95] [0,1,2] ?_
            refine bO.cM (fuel':=5) 6 (by kernel_rfl) ?_
            refine cF.cG (t:=96) 6 [] rfl (by kernel_rfl) (pT K a0 a1 (gd rN pV)) (fun nG=>?_)
            refine bO.eW (cR:=⟨mY a1 xG pU rN pV++(sP 12 2 0 0::aDC nG),kC a0 a1++[.cells [iC 0,iC 0]],[],0⟩) (fuel':=3) [7,8] [1,2,5,8,9,10,11,12,89,97] [0,1,2] rfl (by kernel_rfl) (by kernel_rfl) ?_
            refine bO.iR (fuel':=2) [[],[(9,98)]] [(9,98)] [1,2,5,8,9,10,11,12,89,97] [0,1,2] ⟨mY a1 xG pU rN pV++(sP 12 2 0 0::(aDC nG++[sB 98 nG.2])),kC a0 a1++[.cells [iC 0,iC 0]],[],0⟩ ?_
            refine cO.cM (fuel':=1) 11 ?_
            refine dB.gI (cR:=⟨mY a1 xG pU rN pV++[sP 12 2 0 0,(89,.iT [.agg (dO.cs nG.1),.c (bC nG.2)]),sB 98 nG.2],kC a0 a1++[.cells (dO.cs nG.1)],[],0⟩) 11 [1,2,5,8,9,10,11,12,89,98] [0,1,2] (by kernel_rfl) (by kernel_rfl) ?_
            refine cO.close ?_
            refine bO.v0 (fuel':=0) [12] [1,2,5,8,9,10,11,12] [0,1,2] ?_
            refine bO.done (by kernel_rfl) ?_
            refine Ref.ck ⟨mY a1 xG pU rN pV++[sP 12 2 0 0],kC a0 a1++[.cells (dO.cs nG.1)],[],0⟩ [1,2,5,8,9,10,11,12] [0,1,2] ?_
            exact hk nG)) fun aWY =>
        .nil [0,1] _) (
        .ret [0,1] _)) fun aWZ =>
      .nil [0,1] _) fun aW0 =>
     .nil [0,1] _) (
     .ret [] _)) fun aW1 =>
   .ret [] _))
def aN3 (K:Nat) (a0:cZ) (a1:Int):Option ((Bool) ⊕ (Bool)) :=
 (bW [cS a1 a0.bK.length] ((bT (aDx K a0 a1)).bind (fun r1=>(bL (bJ ((iter K (fun (jI:Int)=>(bN (decide ((jI:Int)<(Int.ofNat ((a0.bK.getD (a1:Int).toNat default).bM).length))) (fun (aW2:Bool)=>(if aW2=true then (bL (bJ (bW [cS jI ((a0.bK.getD (a1:Int).toNat default).bM).length] (bL (if (decide (((Int.ofNat r1.length):Int) > 1))=true then (bW [cS 1 r1.length] ((bT (aEN K a0 (r1.getD (1:Int).toNat default) ((((a0.bK.getD (a1:Int).toNat default).bM).getD (jI:Int).toNat default).cC))).bind (fun kE=>(if kE.2=true then ((bT (F63 K a0 kE.1)).bind (fun pE=>(some (.inr (true,pE))))) else (some (.inr (false,(⟨([]:Bytes),false,false,false,[],(⟨0,0,0,([]:Bytes)⟩:fL),[],[]⟩:hU)))))))) else (some (.inr (false,(⟨([]:Bytes),false,false,false,[],(⟨0,0,0,([]:Bytes)⟩:fL),[],[]⟩:hU))))) (fun (s0:Bool × hU)=>(bN (!(((((a0.bK.getD (a1:Int).toNat default).bM).getD (jI:Int).toNat default).aBt) == s0.1)) (fun (aMh:Bool)=>((cH ((!s0.2.wE) && (s0.1 && (!aMh))) (bT (aG1 K (((a0.bK.getD (a1:Int).toNat default).bM).getD (jI:Int).toNat default) s0.2)) default).bind (fun aN4=>(bN (aMh || (s0.1 && (s0.2.wE || (!aN4)))) (fun (aW3:Bool)=>(if aW3=true then (some (.inl (Sum.inr (Sum.inr (true))))) else (some (.inr ()))))))))))))) (fun (aW4:Unit)=>(some (.inr ((IntKind.i64.wrap (jI+1))))))) else (some (.inl (Sum.inl ()))))))) (0)).map .inl)) (fun (rY:Unit)=>(some (.inl (false))))))))
abbrev pF (v0:(List Int)) (v1:Int):List (Nat × D):=[sP 2 0 0 0,sP 5 1 0 0,(6,.c (E3.tree v0)),sI 7 v1,sP 8 2 0 0,sB 9 false,sP 10 3 0 0]
abbrev nS (v0:cZ) (v1:Int) (v2:Int):List Go.Dl.Obj:=[.cells (dM.cs v0),jR.o (gd v0.bK v1),kJ.o (gd ((gd v0.bK v1).bM) v2)]
abbrev aDD (v0:dR × Bool):List (Nat × D):=[(36,.iT [.agg (dO.cs v0.1),.c (bC v0.2)]),(44,.agg (dO.cs v0.1))]
theorem aRp (K:Nat) (a0:cZ) (a1:Int):bS Tryz.prog 151 [.agg (dM.cs a0),.c (.val (.int .i64 a1))] [] (bT (aN3 K a0 a1)) (fun r=>.c (.val (.bool r))) (fun r=>[]):=by
 refine bS.it Tryz.f151 (fun r=>⟨[sB 4 r],[],[],0⟩) ?_
 unfold aN3
 exact Ref.pt (
  .ck _ <|
  .call [] (uC _ _ _) fun r1 =>
  .bk 0 (fun rY=>⟨[],[],[],0⟩) (
   .lp [0,1] (fun jI=>⟨[sP 2 0 0 0,sP 5 1 0 0,(6,.c (E3.tree r1)),sI 7 jI],[.cells (dM.cs a0),jR.o (gd a0.bK a1)],[],0⟩) fun jI =>
   .lt _ fun aW2 =>
   .ite _ (
    .bk 1 (fun aW4=>⟨[sP 2 0 0 0,sP 5 1 0 0,(6,.c (E3.tree r1)),sI 7 jI],[.cells (dM.cs a0),jR.o (gd a0.bK a1)],[],0⟩) (
     .ck _ <|
     .jn (fun s0=>⟨[sP 2 0 0 0,sP 5 1 0 0,(6,.c (E3.tree r1)),sI 7 jI,sP 8 2 0 0,sB 9 s0.1,sP 10 3 0 0],nS a0 a1 jI++[kJ.o s0.2],[],0⟩) (
      .ite _ (
       .esc [0,1,2,3] [(cd (bd Tryz.f151) [1,1,1,0,1,0,0,1,0,0,1,1,1,0,1,0,0]),(cd (bd Tryz.f151) [1,1,1,0,1,0,0,1,0,0,1,1,1,0,1,0,1])] ⟨pF r1 jI++[sB 35 (decide ((Int.ofNat r1.length) > 1))],nS a0 a1 jI++[oX5],[],0⟩ (by
        refine Ref.eH 10 (by kernel_rfl) (by kernel_rfl) ?_
        refine dN.evC (vs:=[cS 1 r1.length]) (cR:=⟨pF r1 jI++[(39,.c (E3.ep (gd r1 1) 0)),sP 41 2 0 0],nS a0 a1 jI++[oX5],[],0⟩) (fuel':=10) [1,2,4] [2,5,6,7,8,9,10,39,41] [0,1,2,3] rfl (by kernel_rfl) (by kernel_rfl) ?_
        refine dN.qB [6,11] ?_
        refine bO.iA (fun (kE:dR × Bool)=>⟨pF r1 jI++[sP 11 4 0 0,sB 12 kE.2],nS a0 a1 jI++[oX5,.cells (dO.cs kE.1)],[],0⟩) (fun (kE:dR × Bool)=>(if kE.2=true then ((bT (F63 K a0 kE.1)).bind (fun pE=>(some (.inr (true,pE))))) else (some (.inr (false,(⟨([]:Bytes),false,false,false,[],(⟨0,0,0,([]:Bytes)⟩:fL),[],[]⟩:hU)))))) (fun kE=>?_) (fun hk=>?_)
        ·
         exact Ref.pt (
          .ite _ (
           .call [] (aDy _ _ _) fun pE =>
           .nil [0,1,2,3] _) (
           .ok 11 0 3 4 (x:=.nil) (y:=eN.tree []) (El.cN eN) <|
           .ok 11 0 3 9 (x:=.nil) (y:=eN.tree []) (El.cN eN) <|
           .ok 11 0 3 10 (x:=.nil) (y:=dJ.tree []) (El.cN dJ) <|
           .nil [0,1,2,3] _))
        ·
         refine bO.v0 (fuel':=7) [0,3,5] [2,5,6,7,8,9,10,37,40,42] [0,1,2,3] ?_
         refine bO.kV (fuel':=6) 6 10 (by kernel_rfl) ?_ ?_
         ·
          refine cF.cG (t:=43) 6 [] rfl (by kernel_rfl) (pT K a0 (gd r1 1) ((gd ((gd a0.bK a1).bM) jI).cC)) (fun kE=>?_)
          refine bO.eW (cR:=⟨pF r1 jI++aDD kE,nS a0 a1 jI++[oX5],[],0⟩) (fuel':=4) [7,8] [2,5,6,7,8,9,10,36,44] [0,1,2,3] rfl (by kernel_rfl) (by kernel_rfl) ?_
          refine bO.iR (fuel':=3) [[],[(9,45)]] [(9,45)] [2,5,6,7,8,9,10,36,44] [0,1,2,3] ⟨pF r1 jI++aDD kE++[sB 45 kE.2],nS a0 a1 jI++[oX5],[],0⟩ ?_
          refine cO.cM (fuel':=2) 10 ?_
          refine dB.iY (cR:=⟨pF r1 jI++(sP 11 4 0 0::(aDD kE++[sB 45 kE.2])),nS a0 a1 jI++[oX5,.cells [iC 0,iC 0]],[],0⟩) 10 [2,5,6,7,8,9,10,11,36,44,45] [0,1,2,3,4] (by kernel_rfl) (by kernel_rfl) ?_
          refine cO.cM (fuel':=1) 11 ?_
          refine dB.gI (cR:=⟨pF r1 jI++[sP 11 4 0 0,(36,.iT [.agg (dO.cs kE.1),.c (bC kE.2)]),sB 45 kE.2],nS a0 a1 jI++[oX5,.cells (dO.cs kE.1)],[],0⟩) 11 [2,5,6,7,8,9,10,11,36,45] [0,1,2,3,4] (by kernel_rfl) (by kernel_rfl) ?_
          refine cO.close ?_
          refine bO.v0 (fuel':=0) [12] [2,5,6,7,8,9,10,11,12] [0,1,2,3,4] ?_
          refine bO.done (by kernel_rfl) ?_
          refine Ref.ck ⟨pF r1 jI++[sP 11 4 0 0,sB 12 kE.2],nS a0 a1 jI++[oX5,.cells (dO.cs kE.1)],[],0⟩ [2,5,6,7,8,9,10,11,12] [0,1,2,3,4] ?_
          exact hk kE
         ·
          refine cF.a0 10 [2,5,6,7,8,9,10,11,37,40,42] [0,1,2,3,4] ?_
          refine bO.cM (fuel':=5) 6 (by kernel_rfl) ?_
          refine cF.cG (t:=43) 6 [] rfl (by kernel_rfl) (pT K a0 (gd r1 1) ((gd ((gd a0.bK a1).bM) jI).cC)) (fun kE=>?_)
          refine bO.eW (cR:=⟨pF r1 jI++(sP 11 4 0 0::aDD kE),nS a0 a1 jI++[oX5,.cells [iC 0,iC 0]],[],0⟩) (fuel':=3) [7,8] [2,5,6,7,8,9,10,11,36,44] [0,1,2,3,4] rfl (by kernel_rfl) (by kernel_rfl) ?_
          refine bO.iR (fuel':=2) [[],[(9,45)]] [(9,45)] [2,5,6,7,8,9,10,11,36,44] [0,1,2,3,4] ⟨pF r1 jI++(sP 11 4 0 0::(aDD kE++[sB 45 kE.2])),nS a0 a1 jI++[oX5,.cells [iC 0,iC 0]],[],0⟩ ?_
          refine cO.cM (fuel':=1) 11 ?_
          refine dB.gI (cR:=⟨pF r1 jI++[sP 11 4 0 0,(36,.iT [.agg (dO.cs kE.1),.c (bC kE.2)]),sB 45 kE.2],nS a0 a1 jI++[oX5,.cells (dO.cs kE.1)],[],0⟩) 11 [2,5,6,7,8,9,10,11,36,45] [0,1,2,3,4] (by kernel_rfl) (by kernel_rfl) ?_
          refine cO.close ?_
          refine bO.v0 (fuel':=0) [12] [2,5,6,7,8,9,10,11,12] [0,1,2,3,4] ?_
          refine bO.done (by kernel_rfl) ?_
          refine Ref.ck ⟨pF r1 jI++[sP 11 4 0 0,sB 12 kE.2],nS a0 a1 jI++[oX5,.cells (dO.cs kE.1)],[],0⟩ [2,5,6,7,8,9,10,11,12] [0,1,2,3,4] ?_
          exact hk kE)) (
       .ok 9 0 3 4 (x:=.nil) (y:=eN.tree []) (El.cN eN) <|
       .ok 9 0 3 9 (x:=.nil) (y:=eN.tree []) (El.cN eN) <|
       .ok 9 0 3 10 (x:=.nil) (y:=dJ.tree []) (El.cN dJ) <|
       .nil [0,1,2,3] _)) fun s0 =>
     .lt _ fun aMh =>
     .look (default:Bool) _ [] (aKj K (gd ((gd a0.bK a1).bM) jI) s0.2) (fun _=>rfl) fun aN4 =>
     .lt _ fun aW3 =>
     .ite _ (
      .ret [] _) (
      .nil [0,1] _)) fun aW4 =>
    .nil [0,1] _) (
    .ret [] _)) fun rY =>
  .ret [] _)
def aN5 (K:Nat) (a0:cZ) (a1:fL):Option ((Bool) ⊕ (Bool)) :=
 (if ((a1.bP:Int) == 6)=true then ((cH true (bT (aMc K a0 a1.cC false)) default).bind (fun r1=>((cH r1 (bT (F61 K a0 a1.cC)) default).bind (fun r2=>(bW [!r1 || cS r2 a0.bK.length] (bN (r1 && (!((a0.bK.getD (r2:Int).toNat default).eV))) (fun (x3:Bool)=>(some (.inl (x3)))))))))) else ((bT (aMg K a0 a1)).bind (fun r4=>(bN (r4 || ((((a1.bP:Int) == 7) && (decide ((a1.fLo:Int) ≥ 1))) && (decide ((a1.fLo:Int)≤7)))) (fun (x5:Bool)=>(some (.inl (x5))))))))
theorem aRq (K:Nat) (a0:cZ) (a1:fL):bS Tryz.prog 154 [.agg (dM.cs a0),.agg (fX.cs a1)] [] (bT (aN5 K a0 a1)) (fun r=>.c (.val (.bool r))) (fun r=>[]):=by
 refine bS.it Tryz.f154 (fun r=>⟨[sB 4 r],[],[],0⟩) ?_
 unfold aN5
 exact Ref.pt (
  .ite _ (
   .ex [1] <|
   .tx [] <|
   .ex [0,2] <|
   .fF 3 (default:Bool) _ [] (aKq K a0 a1.cC false) (fun _=>rfl) fun r1 =>
   .ex [4,5,6,7,8,9] <|
   .fF 10 (default:Int) _ [] (oY K a0 a1.cC) (fun _=>rfl) fun r2 =>
   .lT [11,12,13,14,15,16] _ <|
   .lt _ fun x3 =>
   .ret [] _) (
   .call [] (aKu _ _ _) fun r4 =>
   .lt _ fun x5 =>
   .ret [] _))
def aN6 (K:Nat) (a0:cZ) (a1:Int) (a2:Int):Option ((Bool) ⊕ (Bool)) :=
 (bL (bJ ((iter K (fun (rO:Int)=>(if (decide ((rO:Int)≤a1))=true then (bL (bJ (bW [cS rO a0.bK.length] (bL (bJ ((iter K (fun (aAq:Int)=>(bN (((decide ((aAq:Int)<(Int.ofNat ((a0.bK.getD (rO:Int).toNat default).cU).length))) && ((((a0.bK.getD (rO:Int).toNat default).bP):Int) == 3)) && ((decide ((rO:Int)<a1)) || (decide ((aAq:Int)<a2)))) (fun (aW5:Bool)=>(if aW5=true then (bL (bJ (bW [cS aAq ((a0.bK.getD (rO:Int).toNat default).cU).length,!((((((a0.bK.getD (rO:Int).toNat default).cU).getD (aAq:Int).toNat default).nF):Int) == 2) || cS aAq ((a0.bK.getD (rO:Int).toNat default).cU).length,!((((((a0.bK.getD (rO:Int).toNat default).cU).getD (aAq:Int).toNat default).nF):Int) == 2) || cS a1 a0.bK.length,!((((((a0.bK.getD (rO:Int).toNat default).cU).getD (aAq:Int).toNat default).nF):Int) == 2) || cS a2 ((a0.bK.getD (a1:Int).toNat default).cU).length] (bN (((((((a0.bK.getD (rO:Int).toNat default).cU).getD (aAq:Int).toNat default).nF):Int) == 2) && ((((((a0.bK.getD (rO:Int).toNat default).cU).getD (aAq:Int).toNat default).gB):Int) == ((((a0.bK.getD (a1:Int).toNat default).cU).getD (a2:Int).toNat default).gB))) (fun (aW6:Bool)=>(if aW6=true then (some (.inl (Sum.inr (Sum.inr (Sum.inr (Sum.inr (true))))))) else (some (.inr ()))))))) (fun (uE:Unit)=>(some (.inr ((IntKind.i64.wrap (aAq+1))))))) else (some (.inl (Sum.inl ()))))))) (0)).map .inl)) (fun (aW7:Unit)=>(some (.inr ())))))) (fun (aW8:Unit)=>(some (.inr ((IntKind.i64.wrap (rO+1))))))) else (some (.inl (Sum.inl ()))))) (0)).map .inl)) (fun (aW9:Unit)=>(some (.inl (false)))))
theorem aRr (K:Nat) (a0:cZ) (a1:Int) (a2:Int):bS Tryz.prog 156 [.agg (dM.cs a0),.c (.val (.int .i64 a1)),.c (.val (.int .i64 a2))] [] (bT (aN6 K a0 a1 a2)) (fun r=>.c (.val (.bool r))) (fun r=>[]):=by
 refine bS.it Tryz.f156 (fun r=>⟨[sB 6 r],[],[],0⟩) ?_
 unfold aN6
 exact Ref.pt (
  .bk 0 (fun aW9=>⟨[],[],[],0⟩) (
   .lp [0] (fun rO=>⟨[sI 1 a1,sI 2 a2,sP 3 0 0 0,sI 7 rO],[.cells (dM.cs a0)],[],0⟩) fun rO =>
   .ite _ (
    .bk 1 (fun aW8=>⟨[sI 1 a1,sI 2 a2,sP 3 0 0 0,sI 7 rO],[.cells (dM.cs a0)],[],0⟩) (
     .ck _ <|
     .bk 2 (fun aW7=>⟨[sI 1 a1,sI 2 a2,sP 3 0 0 0,sI 7 rO],[.cells (dM.cs a0)],[],0⟩) (
      .lp [0,1] (fun aAq=>⟨[sI 1 a1,sI 2 a2,sP 3 0 0 0,sI 7 rO,sP 8 1 0 0,sI 9 aAq],[.cells (dM.cs a0),jR.o (gd a0.bK rO)],[],0⟩) fun aAq =>
      .lt _ fun aW5 =>
      .ite _ (
       .bk 3 (fun uE=>⟨[sI 1 a1,sI 2 a2,sP 3 0 0 0,sI 7 rO,sP 8 1 0 0,sI 9 aAq],[.cells (dM.cs a0),jR.o (gd a0.bK rO)],[],0⟩) (
        .ex [0,2] <|
        .tx [] <|
        .lT [1,3,4,5,6,7,8,9,10,11,12,13,14,15,16,17,18,19,20,21,22,23,24,25] _ <|
        .lt _ fun aW6 =>
        .ite _ (
         .ret [] _) (
         .nil [0,1] _)) fun uE =>
       .nil [0,1] _) (
       .ret [0] _)) fun aW7 =>
     .nil [0] _) fun aW8 =>
    .nil [0] _) (
    .ret [] _)) fun aW9 =>
  .ret [] _)
end Go.Proofs.YtdbfbedholdjaaaGreat

namespace Go.Proofs.YtdbfbedholdjaaaGreat
open Go Go.Proofs Go.Dl
variable [dW]
set_option maxRecDepth 100000
set_option maxHeartbeats 4000000
mutual
def y9:(K:Nat)→(cZ)→(dR)→((List cJ))→(Bool)→Option ((Int) ⊕ (Int))
 | 0,_,_,_,_=>none
 | K+1,a0,a1,a2,a3 =>
 (bL (bJ ((iter K (fun (jF:Int)=>(bN (decide ((jF:Int)<(Int.ofNat a2.length))) (fun (y7:Bool)=>(if y7=true then (bL (bJ (bW [cS jF a2.length] ((cH true (bT (aMk K a0 a1 (a2.getD (jF:Int).toNat default) a3)) default).bind (fun r29=>(if ((r29:Int) != 0)=true then (some (.inl (Sum.inr (Sum.inr (r29))))) else (some (.inr ()))))))) (fun (gU:Unit)=>(some (.inr ((IntKind.i64.wrap (jF+1))))))) else (some (.inl (Sum.inl ()))))))) (0)).map .inl)) (fun (wD:Unit)=>(some (.inl (0)))))
def aMk:(K:Nat)→(cZ)→(dR)→(cJ)→(Bool)→Option ((Int) ⊕ (Int))
 | 0,_,_,_,_=>none
 | K+1,a0,a1,a2,a3 =>
 ((bT (aN8 K a2)).bind (fun r1=>(if (!r1)=true then (some (.inl (14))) else (bL (bJ (bL (if ((a2.bP:Int) == 1)=true then (some (.inr (((a2.bP:Int) == 1)))) else (if ((a2.bP:Int) == 2)=true then (some (.inr (((a2.bP:Int) == 2)))) else (if ((a2.bP:Int) == 3)=true then (some (.inr (((a2.bP:Int) == 3)))) else (if ((a2.bP:Int) == 8)=true then (some (.inr (((a2.bP:Int) == 8)))) else (some (.inr (((a2.bP:Int) == 11)))))))) (fun (u56:Bool)=>(if u56=true then ((bT (aMl K a0 a1 a2)).bind (fun r57=>(some (.inl (Sum.inr (r57)))))) else (if ((a2.bP:Int) == 4)=true then (bW [cS 0 a2.cT.length] ((bT (aF2 K a0 a1 (a2.cT.getD (0:Int).toNat default))).bind (fun wH=>(some (.inl (Sum.inr (wH.2))))))) else (if ((a2.bP:Int) == 5)=true then (bL (bJ ((iter K (fun (u89:Int)=>(bN (decide ((u89:Int)<(Int.ofNat a2.cT.length))) (fun (x97:Bool)=>(if x97=true then (bL (bJ (bW [cS u89 a2.cT.length] ((cH true (bT (aI2 K a0 a1 (a2.cT.getD (u89:Int).toNat default))) default).bind (fun aUu=>(if ((aUu:Int) != 0)=true then (some (.inl (Sum.inr (Sum.inr (Sum.inr (aUu)))))) else (bW [cS u89 a2.bY.length] ((cH true (bT (y9 K a0 a1 (a2.bY.getD (u89:Int).toNat default) a3)) default).bind (fun aUv=>(if ((aUv:Int) != 0)=true then (some (.inl (Sum.inr (Sum.inr (Sum.inr (aUv)))))) else (some (.inr ()))))))))))) (fun (aXg:Unit)=>(some (.inr ((IntKind.i64.wrap (u89+1))))))) else (some (.inl (Sum.inl ()))))))) (0)).map .inl)) (fun (u81:Unit)=>(bW [cS (Int.ofNat a2.cT.length) a2.bY.length] (bN (a2.bY.getD ((Int.ofNat a2.cT.length):Int).toNat default) (fun (aUw:(List cJ))=>((cH true (bT (y9 K a0 a1 aUw a3)) default).bind (fun aXh=>(some (.inl (Sum.inr (aXh))))))))))) else (if ((a2.bP:Int) == 6)=true then ((bT (aMm K a0 a1 a2 a3)).bind (fun aXi=>(some (.inl (Sum.inr (aXi)))))) else (if ((a2.bP:Int) == 7)=true then (bW [cS 0 a2.cT.length] ((cH true (bT (aI2 K a0 a1 (a2.cT.getD (0:Int).toNat default))) default).bind (fun iS=>(if ((iS:Int) != 0)=true then (some (.inl (Sum.inr (iS)))) else (bW [cS 0 a2.bY.length] ((cH true (bT (y9 K a0 a1 (a2.bY.getD (0:Int).toNat default) true)) default).bind (fun aXj=>(some (.inl (Sum.inr (aXj))))))))))) else (if ((a2.bP:Int) == 9)=true then ((bT (aN7 K a0 a1 a2)).bind (fun aDI=>(some (.inl (Sum.inr (aDI)))))) else (some (.inr ()))))))))))) (fun (u55:Unit)=>(if (!a3)=true then (some (.inl (14))) else (some (.inl (0)))))))))
def aMl:(K:Nat)→(cZ)→(dR)→(cJ)→Option ((Int) ⊕ (Int))
 | 0,_,_,_=>none
 | K+1,a0,a1,a2 =>
 ((bT (aIX K a0 a1 a2.cC)).bind (fun r1=>(if (!r1.2)=true then (some (.inl (13))) else (bL (bJ (if ((a2.bP:Int) == 1)=true then (some (.inr (((r1.1.nF:Int) == 1),1))) else (if ((a2.bP:Int) == 2)=true then (some (.inr (((r1.1.cQ.bP:Int) != 4),2))) else (if ((a2.bP:Int) == 3)=true then (some (.inr (((r1.1.cQ.bP:Int) != 5),1))) else (if ((a2.bP:Int) == 8)=true then (bN ((((r1.1.cQ.bP:Int) != 1) || ((r1.1.nF:Int) == 1)) || ((a2.fN:Int) == 0)) (fun (x4:Bool)=>(some (.inr (x4,2))))) else (if ((a2.bP:Int) == 11)=true then (some (.inr (((r1.1.cQ.bP:Int) != 7),2))) else (some (.inr (false,2))))))))) (fun (u3:Bool × Int)=>(if u3.1=true then (some (.inl (14))) else (bW [cW a2.cT.length 0 u3.2] ((bT (aEP K a0 a1 ((a2.cT.drop (0:Int).toNat).take ((u3.2:Int).toNat - (0:Int).toNat)))).bind (fun r5=>(if ((r5.2:Int) != 0)=true then (some (.inl (r5.2))) else (bL (bJ (if ((a2.bP:Int) == 1)=true then (bW [cS 0 r5.1.length] ((cH true (bT (aFX K a0 r1.1.cQ (r5.1.getD (0:Int).toNat default))) default).bind (fun r12=>(some (.inr (r12)))))) else (if ((a2.bP:Int) == 3)=true then (bW [cS 0 r5.1.length] (bN ((((r5.1.getD (0:Int).toNat default).bP):Int) == 5) (fun (x13:Bool)=>(some (.inr (x13)))))) else (if ((a2.bP:Int) == 11)=true then (bW [cS 0 r5.1.length,!((((r5.1.getD (0:Int).toNat default).bP):Int) == 2) || cS 1 r5.1.length] (bN (((((r5.1.getD (0:Int).toNat default).bP):Int) == 2) && ((((r5.1.getD (1:Int).toNat default).bP):Int) == 1)) (fun (x14:Bool)=>(some (.inr (x14)))))) else (bW [cS 0 r5.1.length,!((((r5.1.getD (0:Int).toNat default).bP):Int) == 1) || cS 1 r5.1.length] (bN (((((r5.1.getD (0:Int).toNat default).bP):Int) == 1) && ((((r5.1.getD (1:Int).toNat default).bP):Int) == 1)) (fun (x15:Bool)=>(some (.inr (x15)))))))))) (fun (u11:Bool)=>(if (!u11)=true then (some (.inl (14))) else (if ((a2.bP:Int) == 8)=true then (bW [cS 0 a2.bY.length] ((cH true (bT (y9 K a0 a1 (a2.bY.getD (0:Int).toNat default) true)) default).bind (fun mI=>(some (.inl (mI)))))) else (some (.inl (0)))))))))))))))))
def aMm:(K:Nat)→(cZ)→(dR)→(cJ)→(Bool)→Option ((Int) ⊕ (Int))
 | 0,_,_,_,_=>none
 | K+1,a0,a1,a2,a3 =>
 (bW [cS 0 a2.cT.length] ((bT (aCh K a0 a1 (a2.cT.getD (0:Int).toNat default))).bind (fun r1=>(if ((r1.2:Int) != 0)=true then (some (.inl (r1.2))) else (if ((r1.1.bP:Int) != 1)=true then (some (.inl (14))) else (bL (bJ ((iter K (fun (jS:(List Int) × Int)=>(bN (decide ((jS.2:Int)<(Int.ofNat a2.eL.length))) (fun (aKz:Bool)=>(if aKz=true then (bL (bJ (bL (bJ ((iter K (fun (fR:(List Int) × Int)=>(bW [cS jS.2 a2.eL.length] (bN (decide ((fR.2:Int)<(Int.ofNat (a2.eL.getD (jS.2:Int).toNat default).length))) (fun (aKA:Bool)=>(if aKA=true then (bL (bJ (bW [cS jS.2 a2.eL.length,cS fR.2 (a2.eL.getD (jS.2:Int).toNat default).length] (bN ((a2.eL.getD (jS.2:Int).toNat default).getD (fR.2:Int).toNat default) (fun (kM:Int)=>(bL (bJ ((iter K (fun (tN:Int)=>(bN (decide ((tN:Int)<(Int.ofNat fR.1.length))) (fun (aKB:Bool)=>(if aKB=true then (bL (bJ (bW [cS tN fR.1.length] (bN (((fR.1.getD ((tN:Int).toNat) default):Int) == kM) (fun (aKC:Bool)=>(if aKC=true then (some (.inl (Sum.inr (Sum.inr (Sum.inr (Sum.inr (Sum.inr (Sum.inr (6))))))))) else (some (.inr ()))))))) (fun (aN9:Unit)=>(some (.inr ((IntKind.i64.wrap (tN+1))))))) else (some (.inl (Sum.inl ()))))))) (0)).map .inl)) (fun (aOa:Unit)=>(bN ((decide ((kM:Int)<(-32768))) || (decide ((kM:Int) > 32767))) (fun (aKD:Bool)=>(if aKD=true then (some (.inl (Sum.inr (Sum.inr (Sum.inr (Sum.inr (6))))))) else (bW [room ((fR.1.length+([kM].length)) * 8)] (some (.inr ((fR.1++[kM])))))))))))))) (fun (aDJ:(List Int))=>(some (.inr (aDJ,(IntKind.i64.wrap (fR.2+1))))))) else (some (.inl (Sum.inl (fR.1))))))))) (jS.1,0)).map .inl)) (fun (aDK:(List Int))=>(some (.inr (aDK)))))) (fun (aDL:(List Int))=>(some (.inr (aDL,(IntKind.i64.wrap (jS.2+1))))))) else (some (.inl (Sum.inl ()))))))) ([],0)).map .inl)) (fun (aOb:Unit)=>(bL (bJ ((iter K (fun (tO:Int)=>(bN (decide ((tO:Int)<(Int.ofNat a2.bY.length))) (fun (aKE:Bool)=>(if aKE=true then (bL (bJ (bW [cS tO a2.bY.length] (bN (a2.bY.getD (tO:Int).toNat default) (fun (aG8:(List cJ))=>((cH true (bT (y9 K a0 a1 aG8 a3)) default).bind (fun aE9=>(if ((aE9:Int) != 0)=true then (some (.inl (Sum.inr (Sum.inr (aE9))))) else (some (.inr ()))))))))) (fun (aOc:Unit)=>(some (.inr ((IntKind.i64.wrap (tO+1))))))) else (some (.inl (Sum.inl ()))))))) (0)).map .inl)) (fun (aOd:Unit)=>(some (.inl (0))))))))))))
end
abbrev eZ (v0:cZ) (v1:dR):List Go.Dl.Obj:=[.cells (dM.cs v0),.cells (dO.cs v1)]
abbrev gP (v0:Bool):List (Nat × D):=[sB 3 v0,sP 4 0 0 0,sP 5 1 0 0,sP 6 2 0 0]
abbrev zA:List (Nat × D):=[sP 3 0 0 0,sP 4 1 0 0,sP 5 2 0 0,sP 7 3 0 0]
abbrev aDM (v0:fL × Int):List (Nat × D):=[(31,.iT [.agg (fX.cs v0.1),.c (iC v0.2)]),(39,.agg (fX.cs v0.1))]
theorem aRw:∀ K:Nat,(∀ (a0:cZ),∀ (a1:dR),∀ (a2:(List cJ)),∀ (a3:Bool),bS Tryz.prog 196 [.agg (dM.cs a0),.agg (dO.cs a1),.c (dJ.tree a2),.c (.val (.bool a3))] [] (bT (y9 K a0 a1 a2 a3)) (fun r=>.c (.val (.int .i64 r))) (fun r=>[]))∧(∀ (a0:cZ),∀ (a1:dR),∀ (a2:cJ),∀ (a3:Bool),bS Tryz.prog 215 [.agg (dM.cs a0),.agg (dO.cs a1),.agg (dJ.cs a2),.c (.val (.bool a3))] [] (bT (aMk K a0 a1 a2 a3)) (fun r=>.c (.val (.int .i64 r))) (fun r=>[]))∧(∀ (a0:cZ),∀ (a1:dR),∀ (a2:cJ),bS Tryz.prog 219 [.agg (dM.cs a0),.agg (dO.cs a1),.agg (dJ.cs a2)] [] (bT (aMl K a0 a1 a2)) (fun r=>.c (.val (.int .i64 r))) (fun r=>[]))∧(∀ (a0:cZ),∀ (a1:dR),∀ (a2:cJ),∀ (a3:Bool),bS Tryz.prog 222 [.agg (dM.cs a0),.agg (dO.cs a1),.agg (dJ.cs a2),.c (.val (.bool a3))] [] (bT (aMm K a0 a1 a2 a3)) (fun r=>.c (.val (.int .i64 r))) (fun r=>[])):=by
 intro K
 induction K with
 | zero=>exact ⟨fun a0 a1 a2 a3=>bS.none (by rw[y9];rfl),fun a0 a1 a2 a3=>bS.none (by rw[aMk];rfl),fun a0 a1 a2=>bS.none (by rw[aMl];rfl),fun a0 a1 a2 a3=>bS.none (by rw[aMm];rfl)⟩
 | succ K ih =>
  obtain ⟨aG9,aXk,aXl,aXm⟩:=ih
  refine ⟨?_,?_,?_,?_⟩
  ·
   intro a0 a1 a2 a3
   refine bS.it Tryz.f196 (fun r=>⟨[sI 8 r],[],[],0⟩) ?_
   rw[y9]
   exact Ref.pt (
    .bk 0 (fun wD=>⟨[],[],[],0⟩) (
     .lp [0,1] (fun jF=>⟨[(2,.c (dJ.tree a2)),sB 3 a3,sP 4 0 0 0,sP 5 1 0 0,sI 9 jF],eZ a0 a1,[],0⟩) fun jF =>
     .lt _ fun y7 =>
     .ite _ (
      .bk 1 (fun gU=>⟨[(2,.c (dJ.tree a2)),sB 3 a3,sP 4 0 0 0,sP 5 1 0 0,sI 9 jF],eZ a0 a1,[],0⟩) (
       .ex [2,3,6] <|
       .tx [] <|
       .lT [0,1,4,5] _ <|
       .fF 7 (default:Int) _ [] (aXk a0 a1 (gd a2 jF) a3) (fun _=>rfl) fun r29 =>
       .ex [8] <|
       .ite _ (
        .ret [] _) (
        .nil [0,1] _)) fun gU =>
      .nil [0,1] _) (
      .ret [] _)) fun wD =>
    .ret [] _)
  ·
   intro a0 a1 a2 a3
   refine bS.it Tryz.f215 (fun r=>⟨[sI 8 r],[],[],0⟩) ?_
   rw[aMk]
   exact Ref.pt (
    .call [] (aRv _ _) fun r1 =>
    .ite _ (
     .ret [] _) (
     .bk 0 (fun u55=>⟨[sB 3 a3],[],[],0⟩) (
      .jn (fun u56=>⟨gP a3++[sI 18 a2.bP,sB 19 u56],eZ a0 a1++[dJ.o a2],[],0⟩) (
       .ite _ (
        .nil [0,1,2] _) (
        .ite _ (
         .nil [0,1,2] _) (
         .ite _ (
          .nil [0,1,2] _) (
          .ite _ (
           .nil [0,1,2] _) (
           .nil [0,1,2] _))))) fun u56 =>
      .ite _ (
       .call [] (aXl _ _ _) fun r57 =>
       .ret [] _) (
       .ite _ (
        .esc [0,1,2] [(cd (bd Tryz.f215) [1,1,0,1,0,1,1,1,0,0]),(cd (bd Tryz.f215) [1,1,0,1,0,1,1,1,0,1])] ⟨gP a3++[sI 18 a2.bP,sB 29 ((a2.bP:Int) == 4)],eZ a0 a1++[dJ.o a2],[],0⟩ (by
         refine Ref.eH 11 (by kernel_rfl) (by kernel_rfl) ?_
         refine dN.eW (cR:=⟨[sP 4 0 0 0,sP 5 1 0 0,sP 34 2 0 3],eZ a0 a1++[dJ.o a2],[],0⟩) (fuel':=12) [2] [4,5,34] [0,1,2] rfl (by kernel_rfl) (by kernel_rfl) ?_
         refine dN.qB [6,11] ?_
         refine bO.iA (fun (wH:fL × Int)=>⟨[sI 10 wH.2],[],[],0⟩) (fun (wH:fL × Int)=>(some (.inl (Sum.inr (wH.2))))) (fun wH=>?_) (fun hk=>?_)
         ·
          exact Ref.pt (
           .ret [] _)
         ·
          refine bO.v0 (fuel':=9) [0,1,3] [32,33,35] [] ?_
          refine bO.v1 (fuel':=7) [cS 0 a2.cT.length] [4,5] [32,33,37] [] ?_
          refine bO.kV (fuel':=6) 6 10 (by kernel_rfl) ?_ ?_
          ·
           refine cF.cG (t:=38) 6 [] rfl (by kernel_rfl) (aKx K a0 a1 (gd a2.cT 0)) (fun wH=>?_)
           refine bO.eW (cR:=⟨aDM wH,[],[],0⟩) (fuel':=4) [7,8] [31,39] [] rfl (by kernel_rfl) (by kernel_rfl) ?_
           refine bO.iR (fuel':=3) [[],[(9,40)]] [(9,40)] [31,39] [] ⟨aDM wH++[sI 40 wH.2],[],[],0⟩ ?_
           refine cO.cM (fuel':=2) 10 ?_
           refine dB.iY (cR:=⟨sP 9 0 0 0::(aDM wH++[sI 40 wH.2]),[qE],[],0⟩) 10 [9,31,39,40] [0] (by kernel_rfl) (by kernel_rfl) ?_
           refine cO.cM (fuel':=1) 11 ?_
           refine dB.gI (cR:=⟨[(31,.iT [.agg (fX.cs wH.1),.c (iC wH.2)]),sI 40 wH.2],[],[],0⟩) 11 [31,40] [] (by kernel_rfl) (by kernel_rfl) ?_
           refine cO.close ?_
           refine bO.v0 (fuel':=0) [12] [10] [] ?_
           refine bO.done (by kernel_rfl) ?_
           refine Ref.ck ⟨[sI 10 wH.2],[],[],0⟩ [10] [] ?_
           exact hk wH
          ·
           refine cF.a0 10 [9,32,33,37] [0] ?_
           refine bO.cM (fuel':=5) 6 (by kernel_rfl) ?_
           refine cF.cG (t:=38) 6 [] rfl (by kernel_rfl) (aKx K a0 a1 (gd a2.cT 0)) (fun wH=>?_)
           refine bO.eW (cR:=⟨sP 9 0 0 0::aDM wH,[qE],[],0⟩) (fuel':=3) [7,8] [9,31,39] [0] rfl (by kernel_rfl) (by kernel_rfl) ?_
           refine bO.iR (fuel':=2) [[],[(9,40)]] [(9,40)] [9,31,39] [0] ⟨sP 9 0 0 0::(aDM wH++[sI 40 wH.2]),[qE],[],0⟩ ?_
           refine cO.cM (fuel':=1) 11 ?_
           refine dB.gI (cR:=⟨[(31,.iT [.agg (fX.cs wH.1),.c (iC wH.2)]),sI 40 wH.2],[],[],0⟩) 11 [31,40] [] (by kernel_rfl) (by kernel_rfl) ?_
           refine cO.close ?_
           refine bO.v0 (fuel':=0) [12] [10] [] ?_
           refine bO.done (by kernel_rfl) ?_
           refine Ref.ck ⟨[sI 10 wH.2],[],[],0⟩ [10] [] ?_
           exact hk wH)) (
        .ite _ (
         .bk 1 (fun u81=>⟨gP a3,eZ a0 a1++[dJ.o a2],[],0⟩) (
          .lp [0,1,2] (fun u89=>⟨gP a3++[sI 11 u89],eZ a0 a1++[dJ.o a2],[],0⟩) fun u89 =>
          .lt _ fun x97 =>
          .ite _ (
           .bk 2 (fun aXg=>⟨gP a3++[sI 11 u89],eZ a0 a1++[dJ.o a2],[],0⟩) (
            .ex [2,4] <|
            .tx [] <|
            .ex [0,1,3] <|
            .lT [5,6] _ <|
            .fF 7 (default:Int) _ [] (aKy K a0 a1 (gd a2.cT u89)) (fun _=>rfl) fun aUu =>
            .ex [8] <|
            .ite _ (
             .ret [] _) (
             .ex [2,4,7] <|
             .tx [] <|
             .ex [0,1,3] <|
             .sl 1000000 0 65 (x:=.c (mZ a2.bY)) (y:=(.c (iW.tree a2.bY))) (eA.c (kS _)) <|
             .lT [5,6] _ <|
             .fF 8 (default:Int) _ [] (aG9 a0 a1 (gd a2.bY u89) a3) (fun _=>rfl) fun aUv =>
             .ex [9] <|
             .ite _ (
              .ret [] _) (
              .nil [0,1,2] _))) fun aXg =>
           .nil [0,1,2] _) (
           .ret [0,1,2] _)) fun u81 =>
         .ex [2,4,9] <|
         .tx [] <|
         .ex [0,1,3,5,6] <|
         .sl 1000000 0 77 (x:=.c (mZ a2.bY)) (y:=(.c (iW.tree a2.bY))) (eA.c (kS _)) <|
         .lT [7,8] _ <|
         .lt _ fun aUw =>
         .fF 10 (default:Int) _ [] (aG9 a0 a1 aUw a3) (fun _=>rfl) fun aXh =>
         .ex [11] <|
         .ret [] _) (
         .ite _ (
          .call [] (aXm _ _ _ _) fun aXi =>
          .ret [] _) (
          .ite _ (
           .ex [2] <|
           .tx [] <|
           .ex [0,1,3] <|
           .lT [4,5] _ <|
           .fF 6 (default:Int) _ [] (aKy K a0 a1 (gd a2.cT 0)) (fun _=>rfl) fun iS =>
           .ex [7] <|
           .ite _ (
            .ret [] _) (
            .ex [2] <|
            .tx [] <|
            .ex [0,1,3] <|
            .sl 1000000 0 107 (x:=.c (mZ a2.bY)) (y:=(.c (iW.tree a2.bY))) (eA.c (kS _)) <|
            .lT [4,5] _ <|
            .fF 6 (default:Int) _ [] (aG9 a0 a1 (gd a2.bY 0) true) (fun _=>rfl) fun aXj =>
            .ex [7] <|
            .ret [] _)) (
           .ite _ (
            .call [] (aRu _ _ _ _) fun aDI =>
            .ret [] _) (
            .nil [] _))))))) fun u55 =>
     .ite _ (
      .ret [] _) (
      .ret [] _)))
  ·
   intro a0 a1 a2
   refine bS.it Tryz.f219 (fun r=>⟨[sI 6 r],[],[],0⟩) ?_
   rw[aMl]
   exact Ref.pt (
    .call [] (aFW _ _ _ _) fun r1 =>
    .ite _ (
     .ret [] _) (
     .bk 0 (fun u3=>⟨zA++[sB 10 u3.1,sI 11 u3.2],eZ a0 a1++[dJ.o a2,eN.o r1.1],[],0⟩) (
      .ite _ (
       .nil [0,1,2,4] _) (
       .ite _ (
        .nil [0,1,2,4] _) (
        .ite _ (
         .nil [0,1,2,4] _) (
         .ite _ (
          .lt _ fun x4 =>
          .nil [0,1,2,4] _) (
          .ite _ (
           .nil [0,1,2,4] _) (
           .nil [0,1,2,4] _)))))) fun u3 =>
     .ite _ (
      .ret [] _) (
      .esc [0,1,2,3] [(cd (bd Tryz.f219) [1,1,1,1,1,1,1,1,0]),(cd (bd Tryz.f219) [1,1,1,1,1,1,1,1,1])] ⟨zA++[sI 11 u3.2,sB 61 u3.1],eZ a0 a1++[dJ.o a2,eN.o r1.1],[],0⟩ (by
       refine Ref.eH 22 (by kernel_rfl) (by kernel_rfl) ?_
       refine dN.eW (cR:=⟨zA++[sP 65 2 0 3,sI 67 u3.2],eZ a0 a1++[dJ.o a2,eN.o r1.1],[],0⟩) (fuel':=10) [2,4] [3,4,5,7,65,67] [0,1,2,3] rfl (by kernel_rfl) (by kernel_rfl) ?_
       refine dN.qB [6] ?_
       refine bO.iA (fun (r5:(List fL) × Int)=>⟨zA++[(12,.c (fX.tree r5.1)),sI 13 r5.2],eZ a0 a1++[dJ.o a2,eN.o r1.1],[],0⟩) (fun (r5:(List fL) × Int)=>(if ((r5.2:Int) != 0)=true then (some (.inl (r5.2))) else (bL (bJ (if ((a2.bP:Int) == 1)=true then (bW [cS 0 r5.1.length] ((cH true (bT (aFX K a0 r1.1.cQ (gd r5.1 0))) default).bind (fun r12=>(some (.inr (r12)))))) else (if ((a2.bP:Int) == 3)=true then (bW [cS 0 r5.1.length] (bN ((((gd r5.1 0).bP):Int) == 5) (fun (x13:Bool)=>(some (.inr (x13)))))) else (if ((a2.bP:Int) == 11)=true then (bW [cS 0 r5.1.length,!((((gd r5.1 0).bP):Int) == 2) || cS 1 r5.1.length] (bN (((((gd r5.1 0).bP):Int) == 2) && ((((gd r5.1 1).bP):Int) == 1)) (fun (x14:Bool)=>(some (.inr (x14)))))) else (bW [cS 0 r5.1.length,!((((gd r5.1 0).bP):Int) == 1) || cS 1 r5.1.length] (bN (((((gd r5.1 0).bP):Int) == 1) && ((((gd r5.1 1).bP):Int) == 1)) (fun (x15:Bool)=>(some (.inr (x15)))))))))) (fun (u11:Bool)=>(if (!u11)=true then (some (.inl (14))) else (if ((a2.bP:Int) == 8)=true then (bW [cS 0 a2.bY.length] ((cH true (bT (y9 K a0 a1 (gd a2.bY 0) true)) default).bind (fun mI=>(some (.inl (mI)))))) else (some (.inl (0))))))))) (fun r5=>?_) (fun hk=>?_)
       ·
        exact Ref.pt (
         .ite _ (
          .ret [] _) (
          .bk 1 (fun u11=>⟨[sP 3 0 0 0,sP 4 1 0 0,sP 5 2 0 0,sB 14 u11],eZ a0 a1++[dJ.o a2],[],0⟩) (
           .ite _ (
            .lT [1,3,4] _ <|
            .tx [] <|
            .ex [0,2,5] <|
            .fF 6 (default:Bool) _ [] (aFY K a0 r1.1.cQ (gd r5.1 0)) (fun _=>rfl) fun r12 =>
            .ex [7] <|
            .nil [0,1,2] _) (
            .ite _ (
             .ck _ <|
             .lt _ fun x13 =>
             .nil [0,1,2] _) (
             .ite _ (
              .ck _ <|
              .lt _ fun x14 =>
              .nil [0,1,2] _) (
              .ck _ <|
              .lt _ fun x15 =>
              .nil [0,1,2] _)))) fun u11 =>
          .ite _ (
           .ret [] _) (
           .ite _ (
            .ex [2] <|
            .tx [] <|
            .ex [0,1,3] <|
            .sl 1000000 0 127 (x:=.c (mZ a2.bY)) (y:=(.c (iW.tree a2.bY))) (eA.c (kS _)) <|
            .lT [4,5] _ <|
            .fF 6 (default:Int) _ [] (aG9 a0 a1 (gd a2.bY 0) true) (fun _=>rfl) fun mI =>
            .ex [7] <|
            .ret [] _) (
            .ret [] _))))
       ·
        refine bO.eW (cR:=⟨zA++[(63,.agg (dM.cs a0)),(64,.agg (dO.cs a1)),(66,.c (cA.tree a2.cT)),sI 67 u3.2],eZ a0 a1++[dJ.o a2,eN.o r1.1],[],0⟩) (fuel':=7) [0,1,3] [3,4,5,7,63,64,66,67] [0,1,2,3] rfl (by kernel_rfl) (by kernel_rfl) ?_
        refine bO.evH (vs:=[cW a2.cT.length 0 u3.2]) (cR:=⟨zA++[(63,.agg (dM.cs a0)),(64,.agg (dO.cs a1)),(68,.c (.tree cA.w ((u3.2:Int).toNat - (0:Int).toNat) fun i j=>cA.at a2.cT ((0:Int).toNat+i) j))],eZ a0 a1++[dJ.o a2,eN.o r1.1],[],0⟩) (fuel':=6) [5] [3,4,5,7,63,64,68] [0,1,2,3] rfl (by kernel_rfl) (by kernel_rfl) (fun hv=>?_)
        refine bO.conv (Conv.sl 68 (.c (cA.tree ((a2.cT.drop (0:Int).toNat).take ((u3.2:Int).toNat - (0:Int).toNat)))) (eA.c (El.qQ cA _ (vY (hv _ (List.Mem.head _)))))) ?_
        refine bO.cM (fuel':=5) 6 (by kernel_rfl) ?_
        refine cF.cG (t:=69) 6 [] rfl (by kernel_rfl) (aRt K a0 a1 ((a2.cT.drop (0:Int).toNat).take ((u3.2:Int).toNat - (0:Int).toNat))) (fun r5=>?_)
        refine bO.v0 (fuel':=0) [7,8,9,10,11] [3,4,5,7,12,13] [0,1,2,3] ?_
        refine bO.done (by kernel_rfl) ?_
        refine Ref.ck ⟨zA++[(12,.c (fX.tree r5.1)),sI 13 r5.2],eZ a0 a1++[dJ.o a2,eN.o r1.1],[],0⟩ [3,4,5,7,12,13] [0,1,2,3] ?_
        exact hk r5))))
  ·
   intro a0 a1 a2 a3
   refine bS.it Tryz.f222 (fun r=>⟨[sI 8 r],[],[],0⟩) ?_
   rw[aMm]
   exact Ref.pt (
    .esc [0,1,2] [(cd (bd Tryz.f222) [1,0]),(cd (bd Tryz.f222) [1,1])] ⟨gP a3,eZ a0 a1++[dJ.o a2],[],0⟩ (by
     refine Ref.eH 1 (by kernel_rfl) (by kernel_rfl) ?_
     refine dN.eW (cR:=⟨gP a3++[sP 21 2 0 3],eZ a0 a1++[dJ.o a2],[],0⟩) (fuel':=12) [2] [3,4,5,6,21] [0,1,2] rfl (by kernel_rfl) (by kernel_rfl) ?_
     refine dN.qB [6,11] ?_
     refine bO.iA (fun (r1:fL × Int)=>⟨gP a3++[sP 9 3 0 0,sI 10 r1.2],eZ a0 a1++[dJ.o a2,.cells (fX.cs r1.1)],[],0⟩) (fun (r1:fL × Int)=>(if ((r1.2:Int) != 0)=true then (some (.inl (r1.2))) else (if ((r1.1.bP:Int) != 1)=true then (some (.inl (14))) else (bL (bJ ((iter K (fun (jS:(List Int) × Int)=>(bN (decide ((jS.2:Int)<(Int.ofNat a2.eL.length))) (fun (aKz:Bool)=>(if aKz=true then (bL (bJ (bL (bJ ((iter K (fun (fR:(List Int) × Int)=>(bW [cS jS.2 a2.eL.length] (bN (decide ((fR.2:Int)<(Int.ofNat (gd a2.eL jS.2).length))) (fun (aKA:Bool)=>(if aKA=true then (bL (bJ (bW [cS jS.2 a2.eL.length,cS fR.2 (gd a2.eL jS.2).length] (bN (gd (gd a2.eL jS.2) fR.2) (fun (kM:Int)=>(bL (bJ ((iter K (fun (tN:Int)=>(bN (decide ((tN:Int)<(Int.ofNat fR.1.length))) (fun (aKB:Bool)=>(if aKB=true then (bL (bJ (bW [cS tN fR.1.length] (bN (((fR.1.getD ((tN:Int).toNat) default):Int) == kM) (fun (aKC:Bool)=>(if aKC=true then (some (.inl (Sum.inr (Sum.inr (Sum.inr (Sum.inr (Sum.inr (Sum.inr (6))))))))) else (some (.inr ()))))))) (fun (aN9:Unit)=>(some (.inr ((IntKind.i64.wrap (tN+1))))))) else (some (.inl (Sum.inl ()))))))) (0)).map .inl)) (fun (aOa:Unit)=>(bN ((decide ((kM:Int)<(-32768))) || (decide ((kM:Int) > 32767))) (fun (aKD:Bool)=>(if aKD=true then (some (.inl (Sum.inr (Sum.inr (Sum.inr (Sum.inr (6))))))) else (bW [room ((fR.1.length+([kM].length)) * 8)] (some (.inr ((fR.1++[kM])))))))))))))) (fun (aDJ:(List Int))=>(some (.inr (aDJ,(IntKind.i64.wrap (fR.2+1))))))) else (some (.inl (Sum.inl (fR.1))))))))) (jS.1,0)).map .inl)) (fun (aDK:(List Int))=>(some (.inr (aDK)))))) (fun (aDL:(List Int))=>(some (.inr (aDL,(IntKind.i64.wrap (jS.2+1))))))) else (some (.inl (Sum.inl ()))))))) ([],0)).map .inl)) (fun (aOb:Unit)=>(bL (bJ ((iter K (fun (tO:Int)=>(bN (decide ((tO:Int)<(Int.ofNat a2.bY.length))) (fun (aKE:Bool)=>(if aKE=true then (bL (bJ (bW [cS tO a2.bY.length] (bN (gd a2.bY tO) (fun (aG8:(List cJ))=>((cH true (bT (y9 K a0 a1 aG8 a3)) default).bind (fun aE9=>(if ((aE9:Int) != 0)=true then (some (.inl (Sum.inr (Sum.inr (aE9))))) else (some (.inr ()))))))))) (fun (aOc:Unit)=>(some (.inr ((IntKind.i64.wrap (tO+1))))))) else (some (.inl (Sum.inl ()))))))) (0)).map .inl)) (fun (aOd:Unit)=>(some (.inl (0)))))))))) (fun r1=>?_) (fun hk=>?_)
     ·
      exact Ref.pt (
       .ite _ (
        .ret [] _) (
        .ite _ (
         .ret [] _) (
         .bk 0 (fun aOb=>⟨gP a3,eZ a0 a1++[dJ.o a2],[],0⟩) (
          .ad 7 0 11 E3.ty E3.w (E3.at []) <|
          .lp [0,1,2,4] (fun jS=>⟨gP a3++[(11,.c (.own 3 jS.1.length)),sI 12 jS.2],eZ a0 a1++[dJ.o a2,E3.row jS.1],[],0⟩) fun jS =>
          .lt _ fun aKz =>
          .ite _ (
           .bk 1 (fun aDL=>⟨gP a3++[(11,.c (.own 3 aDL.length)),sI 12 jS.2],eZ a0 a1++[dJ.o a2,E3.row aDL],[],0⟩) (
            .bk 2 (fun aDK=>⟨gP a3++[(11,.c (.own 3 aDK.length)),sI 12 jS.2],eZ a0 a1++[dJ.o a2,E3.row aDK],[],0⟩) (
             .lp [0,1,2,3] (fun fR=>⟨gP a3++[(11,.c (.own 3 fR.1.length)),sI 12 jS.2,sI 13 fR.2],eZ a0 a1++[dJ.o a2,E3.row fR.1],[],0⟩) fun fR =>
             .ck _ <|
             .lt _ fun aKA =>
             .ite _ (
              .bk 3 (fun aDJ=>⟨gP a3++[(11,.c (.own 3 aDJ.length)),sI 12 jS.2,sI 13 fR.2],eZ a0 a1++[dJ.o a2,E3.row aDJ],[],0⟩) (
               .ck _ <|
               .lt _ fun kM =>
               .bk 4 (fun aOa=>⟨gP a3++[(11,.c (.own 3 fR.1.length)),sI 12 jS.2,sI 13 fR.2,sI 14 kM],eZ a0 a1++[dJ.o a2,E3.row fR.1],[],0⟩) (
                .lp [0,1,2,3] (fun tN=>⟨gP a3++[(11,.c (.own 3 fR.1.length)),sI 12 jS.2,sI 13 fR.2,sI 14 kM,sI 15 tN],eZ a0 a1++[dJ.o a2,E3.row fR.1],[],0⟩) fun tN =>
                .lt _ fun aKB =>
                .ite _ (
                 .bk 5 (fun aN9=>⟨gP a3++[(11,.c (.own 3 fR.1.length)),sI 12 jS.2,sI 13 fR.2,sI 14 kM,sI 15 tN],eZ a0 a1++[dJ.o a2,E3.row fR.1],[],0⟩) (
                  .ck _ <|
                  .lt _ fun aKC =>
                  .ite _ (
                   .ret [] _) (
                   .nil [0,1,2,3] _)) fun aN9 =>
                 .nil [0,1,2,3] _) (
                 .ret [0,1,2,3] _)) fun aOa =>
               .lt _ fun aKD =>
               .ite _ (
                .ret [] _) (
                .ob 21 2 4 (x:=.row 3 1 1 (gY [[iC kM]])) (y:=(E3.row [kM])) (El.bZ E3 [kM] rfl (by kernel_rfl)) <|
                .sl 21 2 79 (x:=.c (.own 4 1)) (y:=(.c (.own 4 ([kM].length)))) (eA.c (dY.own (by first | (simp;done) | (simp;omega) | omega))) <|
                .ck _ <|
                .ob 21 1 5 (x:=.row 3 1 (fR.1.length+([kM].length)) fun i j=>bif Nat.blt i fR.1.length then E3.at fR.1 i j else (E3.at [kM]) (i - fR.1.length) j) (y:=(E3.row (fR.1++[kM]))) (El.cI E3 fR.1 [kM] rfl rfl) <|
                .sl 21 1 80 (x:=.c (.own 5 (fR.1.length+([kM].length)))) (y:=(.c (.own 5 ((fR.1++[kM]).length)))) (eA.c (dY.own (by first | (simp;done) | (simp;omega) | omega))) <|
                .nil [0,1,2,5] _)) fun aDJ =>
              .nil [0,1,2,3] _) (
              .ret [0,1,2,3] _)) fun aDK =>
            .nil [0,1,2,3] _) fun aDL =>
           .nil [0,1,2,3] _) (
           .ret [0,1,2] _)) fun aOb =>
         .bk 6 (fun aOd=>⟨[],[],[],0⟩) (
          .lp [0,1,2] (fun tO=>⟨gP a3++[sI 16 tO],eZ a0 a1++[dJ.o a2],[],0⟩) fun tO =>
          .lt _ fun aKE =>
          .ite _ (
           .bk 7 (fun aOc=>⟨gP a3++[sI 16 tO],eZ a0 a1++[dJ.o a2],[],0⟩) (
            .ex [2,4,7] <|
            .tx [] <|
            .ex [0,1,3] <|
            .sl 1000000 0 91 (x:=.c (mZ a2.bY)) (y:=(.c (iW.tree a2.bY))) (eA.c (kS _)) <|
            .lT [5,6] _ <|
            .lt _ fun aG8 =>
            .fF 8 (default:Int) _ [] (aG9 a0 a1 aG8 a3) (fun _=>rfl) fun aE9 =>
            .ex [9] <|
            .ite _ (
             .ret [] _) (
             .nil [0,1,2] _)) fun aOc =>
           .nil [0,1,2] _) (
           .ret [] _)) fun aOd =>
         .ret [] _)))
     ·
      refine bO.v0 (fuel':=9) [0,1,3] [3,4,5,6,19,20,22] [0,1,2] ?_
      refine bO.v1 (fuel':=7) [cS 0 a2.cT.length] [4,5] [3,4,5,6,19,20,24] [0,1,2] ?_
      refine bO.kV (fuel':=6) 6 10 (by kernel_rfl) ?_ ?_
      ·
       refine cF.cG (t:=25) 6 [] rfl (by kernel_rfl) (aAr K a0 a1 (gd a2.cT 0)) (fun r1=>?_)
       refine bO.eW (cR:=⟨gP a3++[(18,.iT [.agg (fX.cs r1.1),.c (iC r1.2)]),(26,.agg (fX.cs r1.1))],eZ a0 a1++[dJ.o a2],[],0⟩) (fuel':=4) [7,8] [3,4,5,6,18,26] [0,1,2] rfl (by kernel_rfl) (by kernel_rfl) ?_
       refine bO.iR (fuel':=3) [[],[(9,27)]] [(9,27)] [3,4,5,6,18,26] [0,1,2] ⟨gP a3++[(18,.iT [.agg (fX.cs r1.1),.c (iC r1.2)]),(26,.agg (fX.cs r1.1)),sI 27 r1.2],eZ a0 a1++[dJ.o a2],[],0⟩ ?_
       refine cO.cM (fuel':=2) 10 ?_
       refine dB.iY (cR:=⟨gP a3++[sP 9 3 0 0,(18,.iT [.agg (fX.cs r1.1),.c (iC r1.2)]),(26,.agg (fX.cs r1.1)),sI 27 r1.2],eZ a0 a1++[dJ.o a2,qE],[],0⟩) 10 [3,4,5,6,9,18,26,27] [0,1,2,3] (by kernel_rfl) (by kernel_rfl) ?_
       refine cO.cM (fuel':=1) 11 ?_
       refine dB.gI (cR:=⟨gP a3++[sP 9 3 0 0,(18,.iT [.agg (fX.cs r1.1),.c (iC r1.2)]),sI 27 r1.2],eZ a0 a1++[dJ.o a2,.cells (fX.cs r1.1)],[],0⟩) 11 [3,4,5,6,9,18,27] [0,1,2,3] (by kernel_rfl) (by kernel_rfl) ?_
       refine cO.close ?_
       refine bO.v0 (fuel':=0) [12] [3,4,5,6,9,10] [0,1,2,3] ?_
       refine bO.done (by kernel_rfl) ?_
       refine Ref.ck ⟨gP a3++[sP 9 3 0 0,sI 10 r1.2],eZ a0 a1++[dJ.o a2,.cells (fX.cs r1.1)],[],0⟩ [3,4,5,6,9,10] [0,1,2,3] ?_
       exact hk r1
      ·
       refine cF.a0 10 [3,4,5,6,9,19,20,24] [0,1,2,3] ?_
       refine bO.cM (fuel':=5) 6 (by kernel_rfl) ?_
       refine cF.cG (t:=25) 6 [] rfl (by kernel_rfl) (aAr K a0 a1 (gd a2.cT 0)) (fun r1=>?_)
       refine bO.eW (cR:=⟨gP a3++[sP 9 3 0 0,(18,.iT [.agg (fX.cs r1.1),.c (iC r1.2)]),(26,.agg (fX.cs r1.1))],eZ a0 a1++[dJ.o a2,qE],[],0⟩) (fuel':=3) [7,8] [3,4,5,6,9,18,26] [0,1,2,3] rfl (by kernel_rfl) (by kernel_rfl) ?_
       refine bO.iR (fuel':=2) [[],[(9,27)]] [(9,27)] [3,4,5,6,9,18,26] [0,1,2,3] ⟨gP a3++[sP 9 3 0 0,(18,.iT [.agg (fX.cs r1.1),.c (iC r1.2)]),(26,.agg (fX.cs r1.1)),sI 27 r1.2],eZ a0 a1++[dJ.o a2,qE],[],0⟩ ?_
       refine cO.cM (fuel':=1) 11 ?_
       refine dB.gI (cR:=⟨gP a3++[sP 9 3 0 0,(18,.iT [.agg (fX.cs r1.1),.c (iC r1.2)]),sI 27 r1.2],eZ a0 a1++[dJ.o a2,.cells (fX.cs r1.1)],[],0⟩) 11 [3,4,5,6,9,18,27] [0,1,2,3] (by kernel_rfl) (by kernel_rfl) ?_
       refine cO.close ?_
       refine bO.v0 (fuel':=0) [12] [3,4,5,6,9,10] [0,1,2,3] ?_
       refine bO.done (by kernel_rfl) ?_
       refine Ref.ck ⟨gP a3++[sP 9 3 0 0,sI 10 r1.2],eZ a0 a1++[dJ.o a2,.cells (fX.cs r1.1)],[],0⟩ [3,4,5,6,9,10] [0,1,2,3] ?_
       exact hk r1))
theorem aRx (K:Nat) (a0:cZ) (a1:dR) (a2:(List cJ)) (a3:Bool):bS Tryz.prog 196 [.agg (dM.cs a0),.agg (dO.cs a1),.c (dJ.tree a2),.c (.val (.bool a3))] [] (bT (y9 K a0 a1 a2 a3)) (fun r=>.c (.val (.int .i64 r))) (fun r=>[]):=(aRw K).1 a0 a1 a2 a3
def aMn (K:Nat) (a0:cZ) (a1:dR) (a2:(List cJ)):Option ((Int) ⊕ (Int)) :=
 ((bT (aG2 K a0 a1)).bind (fun r1=>(if (!r1)=true then (some (.inl (22))) else ((bT (y9 K a0 a1 a2 false)).bind (fun r2=>(some (.inl (r2))))))))
theorem aKF (K:Nat) (a0:cZ) (a1:dR) (a2:(List cJ)):bS Tryz.prog 153 [.agg (dM.cs a0),.agg (dO.cs a1),.c (dJ.tree a2)] [] (bT (aMn K a0 a1 a2)) (fun r=>.c (.val (.int .i64 r))) (fun r=>[]):=by
 refine bS.it Tryz.f153 (fun r=>⟨[sI 6 r],[],[],0⟩) ?_
 unfold aMn
 exact Ref.pt (
  .call [] (aCE _ _ _) fun r1 =>
  .ite _ (
   .ret [] _) (
   .call [] (aRx _ _ _ _ _) fun r2 =>
   .ret [] _))
end Go.Proofs.YtdbfbedholdjaaaGreat

namespace Go.Proofs.YtdbfbedholdjaaaGreat
open Go Go.Proofs Go.Dl
variable [dW]
set_option maxRecDepth 100000
set_option maxHeartbeats 4000000
def aOe (K:Nat) (a0:cZ) (a1:Int):Option ((Int) ⊕ (Int)) :=
 (bW [cS a1 a0.bK.length] (bL (bJ ((iter K (fun (eY:Int)=>(bN (decide ((eY:Int)<(Int.ofNat ((a0.bK.getD (a1:Int).toNat default).cU).length))) (fun (x38:Bool)=>(if x38=true then (bL (bJ (bW [cS eY ((a0.bK.getD (a1:Int).toNat default).cU).length] ((bT (aN5 K a0 ((((a0.bK.getD (a1:Int).toNat default).cU).getD (eY:Int).toNat default).cQ))).bind (fun r42=>(bN ((((!r42) || (decide ((((((a0.bK.getD (a1:Int).toNat default).cU).getD (eY:Int).toNat default).nF):Int)<0))) || (decide ((((((a0.bK.getD (a1:Int).toNat default).cU).getD (eY:Int).toNat default).nF):Int) > 2))) || ((((((((a0.bK.getD (a1:Int).toNat default).cU).getD (eY:Int).toNat default).nF):Int) != 0) && (((((((a0.bK.getD (a1:Int).toNat default).cU).getD (eY:Int).toNat default).cQ).bP):Int) != 1)) && (((((((a0.bK.getD (a1:Int).toNat default).cU).getD (eY:Int).toNat default).cQ).bP):Int) != 2))) (fun (x43:Bool)=>(if x43=true then (some (.inl (Sum.inr (Sum.inr (9))))) else (some (.inr ()))))))))) (fun (u41:Unit)=>(some (.inr ((IntKind.i64.wrap (eY+1))))))) else (some (.inl (Sum.inl ()))))))) (0)).map .inl)) (fun (dU:Unit)=>(bL (bJ ((iter K (fun (rY:Int)=>(bN (decide ((rY:Int)<(Int.ofNat ((a0.bK.getD (a1:Int).toNat default).cU).length))) (fun (x71:Bool)=>(if x71=true then (bL (bJ (bW [cS rY ((a0.bK.getD (a1:Int).toNat default).cU).length] ((bT (aMf K (((a0.bK.getD (a1:Int).toNat default).cU).getD (rY:Int).toNat default))).bind (fun r74=>(if (!r74)=true then (some (.inl (Sum.inr (Sum.inr (10))))) else (some (.inr ()))))))) (fun (u73:Unit)=>(some (.inr ((IntKind.i64.wrap (rY+1))))))) else (some (.inl (Sum.inl ()))))))) (0)).map .inl)) (fun (u59:Unit)=>(bL (bJ ((iter K (fun (aAs:Int)=>(bN (decide ((aAs:Int)<(Int.ofNat ((a0.bK.getD (a1:Int).toNat default).cU).length))) (fun (aXn:Bool)=>(if aXn=true then (bL (bJ (bW [cS aAs ((a0.bK.getD (a1:Int).toNat default).cU).length] (bN (((((((a0.bK.getD (a1:Int).toNat default).cU).getD (aAs:Int).toNat default).nF):Int) != 0) && ((decide ((((((a0.bK.getD (a1:Int).toNat default).cU).getD (aAs:Int).toNat default).gB):Int)<0)) || (decide ((((((a0.bK.getD (a1:Int).toNat default).cU).getD (aAs:Int).toNat default).gB):Int) ≥ 8)))) (fun (aUx:Bool)=>((cH (((((((a0.bK.getD (a1:Int).toNat default).cU).getD (aAs:Int).toNat default).nF):Int) == 2) && (!aUx)) (bT (aN6 K a0 a1 aAs)) default).bind (fun pE=>(bN (aUx || (((((((a0.bK.getD (a1:Int).toNat default).cU).getD (aAs:Int).toNat default).nF):Int) == 2) && pE)) (fun (aMh:Bool)=>(if aMh=true then (some (.inl (Sum.inr (Sum.inr (16))))) else (some (.inr ()))))))))))) (fun (aXo:Unit)=>(some (.inr ((IntKind.i64.wrap (aAs+1))))))) else (some (.inl (Sum.inl ()))))))) (0)).map .inl)) (fun (aI5:Unit)=>(bN ((a0.bK.getD (a1:Int).toNat default).cU) (fun (aXp:(List fE))=>((bT (aG5 K aXp)).bind (fun aDN=>((bT (aDz K aDN)).bind (fun aMo=>(if aMo=true then (some (.inl (6))) else (bN ((a0.bK.getD (a1:Int).toNat default).uW) (fun (aMp:(List cJ))=>((bT (aMn K a0 (⟨a1,(-1)⟩:dR) aMp)).bind (fun aOf=>(some (.inl (aOf)))))))))))))))))))))
theorem aRy (K:Nat) (a0:cZ) (a1:Int):bS Tryz.prog 119 [.agg (dM.cs a0),.c (.val (.int .i64 a1))] [] (bT (aOe K a0 a1)) (fun r=>.c (.val (.int .i64 r))) (fun r=>[]):=by
 refine bS.it Tryz.f119 (fun r=>⟨[sI 4 r],[],[],0⟩) ?_
 unfold aOe
 exact Ref.pt (
  .ck _ <|
  .bk 0 (fun dU=>⟨[sI 1 a1,sP 2 0 0 0,sP 5 1 0 0],[.cells (dM.cs a0),jR.o (gd a0.bK a1)],[],0⟩) (
   .lp [0,1] (fun eY=>⟨[sI 1 a1,sP 2 0 0 0,sP 5 1 0 0,sI 6 eY],[.cells (dM.cs a0),jR.o (gd a0.bK a1)],[],0⟩) fun eY =>
   .lt _ fun x38 =>
   .ite _ (
    .bk 1 (fun u41=>⟨[sI 1 a1,sP 2 0 0 0,sP 5 1 0 0,sI 6 eY],[.cells (dM.cs a0),jR.o (gd a0.bK a1)],[],0⟩) (
     .ck _ <|
     .call [] (aRq _ _ _) fun r42 =>
     .lt _ fun x43 =>
     .ite _ (
      .ret [] _) (
      .nil [0,1] _)) fun u41 =>
    .nil [0,1] _) (
    .ret [0,1] _)) fun dU =>
  .bk 2 (fun u59=>⟨[sI 1 a1,sP 2 0 0 0,sP 5 1 0 0],[.cells (dM.cs a0),jR.o (gd a0.bK a1)],[],0⟩) (
   .lp [0,1] (fun rY=>⟨[sI 1 a1,sP 2 0 0 0,sP 5 1 0 0,sI 8 rY],[.cells (dM.cs a0),jR.o (gd a0.bK a1)],[],0⟩) fun rY =>
   .lt _ fun x71 =>
   .ite _ (
    .bk 3 (fun u73=>⟨[sI 1 a1,sP 2 0 0 0,sP 5 1 0 0,sI 8 rY],[.cells (dM.cs a0),jR.o (gd a0.bK a1)],[],0⟩) (
     .ck _ <|
     .call [] (aKt _ _) fun r74 =>
     .ite _ (
      .ret [] _) (
      .nil [0,1] _)) fun u73 =>
    .nil [0,1] _) (
    .ret [0,1] _)) fun u59 =>
  .bk 4 (fun aI5=>⟨[sI 1 a1,sP 2 0 0 0,sP 5 1 0 0],[.cells (dM.cs a0),jR.o (gd a0.bK a1)],[],0⟩) (
   .lp [0,1] (fun aAs=>⟨[sI 1 a1,sP 2 0 0 0,sP 5 1 0 0,sI 9 aAs],[.cells (dM.cs a0),jR.o (gd a0.bK a1)],[],0⟩) fun aAs =>
   .lt _ fun aXn =>
   .ite _ (
    .bk 5 (fun aXo=>⟨[sI 1 a1,sP 2 0 0 0,sP 5 1 0 0,sI 9 aAs],[.cells (dM.cs a0),jR.o (gd a0.bK a1)],[],0⟩) (
     .ck _ <|
     .lt _ fun aUx =>
     .look (default:Bool) _ [] (aRr K a0 a1 aAs) (fun _=>rfl) fun pE =>
     .lt _ fun aMh =>
     .ite _ (
      .ret [] _) (
      .nil [0,1] _)) fun aXo =>
    .nil [0,1] _) (
    .ret [0,1] _)) fun aI5 =>
  .lt _ fun aXp =>
  .call [] (aCF _ _) fun aDN =>
  .call [] (uD _ _) fun aMo =>
  .ite _ (
   .ret [] _) (
   .lt _ fun aMp =>
   .call [] (aKF _ _ _ _) fun aOf =>
   .ret [] _))
def aOg (K:Nat) (a0:cZ) (a1:Int):Option ((Int) ⊕ (Int)) :=
 (bW [cS a1 a0.bK.length] (bN ((a0.bK.getD (a1:Int).toNat default).j6) (fun (x1:Bytes)=>((bT (F61 K a0 x1)).bind (fun r2=>((bT (F68 K a0 r2)).bind (fun r3=>(bN (((((((r3:Int) != 3) || (decide ((r2:Int) ≥ a1))) || (decide ((((a0.bK.getD (a1:Int).toNat default).wI):Int)<1))) || (decide ((((a0.bK.getD (a1:Int).toNat default).wI):Int) > 100))) || (decide ((((a0.bK.getD (a1:Int).toNat default).uF):Int)<0))) || (decide ((((a0.bK.getD (a1:Int).toNat default).uF):Int) > 9))) (fun (x4:Bool)=>(bL (bJ ((iter K (fun (dU:Bool × Int)=>(if (decide ((dU.2:Int)<a1))=true then (bL (bJ (bW [!(!dU.1) || cS dU.2 a0.bK.length,!(((((a0.bK.getD (dU.2:Int).toNat default).bP):Int) == 4) && (!dU.1)) || cS dU.2 a0.bK.length] (bN (dU.1 || (((((a0.bK.getD (dU.2:Int).toNat default).bP):Int) == 4) && (((a0.bK.getD (dU.2:Int).toNat default).j6) == ((a0.bK.getD (a1:Int).toNat default).j6)))) (fun (iU:Bool)=>(some (.inr (iU))))))) (fun (gU:Bool)=>(some (.inr (gU,(IntKind.i64.wrap (dU.2+1))))))) else (some (.inl (Sum.inl (dU.1)))))) (x4,0)).map .inl)) (fun (gO:Bool)=>(if gO=true then (some (.inl (17))) else (some (.inl (0)))))))))))))))
theorem aRz (K:Nat) (a0:cZ) (a1:Int):bS Tryz.prog 120 [.agg (dM.cs a0),.c (.val (.int .i64 a1))] [] (bT (aOg K a0 a1)) (fun r=>.c (.val (.int .i64 r))) (fun r=>[]):=by
 refine bS.it Tryz.f120 (fun r=>⟨[sI 4 r],[],[],0⟩) ?_
 unfold aOg
 exact Ref.pt (
  .ck _ <|
  .lt _ fun x1 =>
  .call [] (oY _ _ _) fun r2 =>
  .call [] (oZ _ _ _) fun r3 =>
  .lt _ fun x4 =>
  .bk 0 (fun gO=>⟨[sB 7 gO],[],[],0⟩) (
   .lp [0,1] (fun dU=>⟨[sI 1 a1,sP 2 0 0 0,sP 5 1 0 0,sB 7 dU.1,sI 8 dU.2],[.cells (dM.cs a0),jR.o (gd a0.bK a1)],[],0⟩) fun dU =>
   .ite _ (
    .bk 1 (fun gU=>⟨[sI 1 a1,sP 2 0 0 0,sP 5 1 0 0,sB 7 gU,sI 8 dU.2],[.cells (dM.cs a0),jR.o (gd a0.bK a1)],[],0⟩) (
     .ex [0,1,2,4] <|
     .tx [] <|
     .lT [3,5,6,7,8,9,10,11,12,13,14,15,16,17,18,19,20,21] _ <|
     .lt _ fun iU =>
     .nil [0,1] _) fun gU =>
    .nil [0,1] _) (
    .ret [] _)) fun gO =>
  .ite _ (
   .ret [] _) (
   .ret [] _))
end Go.Proofs.YtdbfbedholdjaaaGreat
