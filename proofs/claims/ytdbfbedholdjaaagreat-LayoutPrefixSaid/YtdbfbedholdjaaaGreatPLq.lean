/- No conditions. -/
import Derived.Test.YtdbfbedholdjaaaGreatPLH
import Derived.Test.YtdbfbedholdjaaaGreatProg
set_option linter.unusedVariables false
set_option linter.unusedSimpArgs false
set_option linter.unusedSectionVars false
namespace Go.Proofs.YtdbfbedholdjaaaGreat
open Go Go.Proofs Go.Dl
variable [dW]
set_option maxRecDepth 100000
set_option maxHeartbeats 4000000
def F12 (K:Nat) (a0:(List Bytes)) (a1:(List Bytes)):Option ((Bool) ⊕ (Bool)) :=
 (bN (((Int.ofNat a0.length):Int) != (Int.ofNat a1.length)) (fun (x1:Bool)=>(if x1=true then (some (.inl (false))) else (bL (bJ ((iter K (fun (lV:Int)=>(bN (decide ((lV:Int)<(Int.ofNat a0.length))) (fun (x27:Bool)=>(if x27=true then (bL (bJ (bW [cS lV a0.length,cS lV a1.length] (bN (!((a0.getD (lV:Int).toNat default) == (a1.getD (lV:Int).toNat default))) (fun (x30:Bool)=>(if x30=true then (some (.inl (Sum.inr (Sum.inr (false))))) else (some (.inr ()))))))) (fun (u29:Unit)=>(some (.inr ((IntKind.i64.wrap (lV+1))))))) else (some (.inl (Sum.inl ()))))))) (0)).map .inl)) (fun (u16:Unit)=>(some (.inl (true))))))))
theorem aVd (K:Nat) (a0:(List Bytes)) (a1:(List Bytes)):bS Tryz.prog 12 [.c (E9.tree a0),.c (E9.tree a1)] [] (bT (F12 K a0 a1)) (fun r=>.c (.val (.bool r))) (fun r=>[]):=by
 refine bS.it Tryz.f12 (fun r=>⟨[sB 4 r],[],[],0⟩) ?_
 unfold F12
 exact Ref.pt (
  .lt _ fun x1 =>
  .ite _ (
   .ret [] _) (
   .bk 0 (fun u16=>⟨[],[],[],0⟩) (
    .lp [] (fun lV=>⟨[(0,.c (E9.tree a0)),(1,.c (E9.tree a1)),sI 5 lV],[],[],0⟩) fun lV =>
    .lt _ fun x27 =>
    .ite _ (
     .bk 1 (fun u29=>⟨[(0,.c (E9.tree a0)),(1,.c (E9.tree a1)),sI 5 lV],[],[],0⟩) (
      .lT [0,1,2,4,5,6] _ <|
      .tx [] <|
      .ex [3,7,8] <|
      .lt _ fun x30 =>
      .ite _ (
       .ret [] _) (
       .nil [] _)) fun u29 =>
     .nil [] _) (
     .ret [] _)) fun u16 =>
   .ret [] _))
def F32 (K:Nat) (a0:(List Int)) (a1:(List Int)):Option ((Bool) ⊕ (Bool)) :=
 (bN (((Int.ofNat a0.length):Int) != (Int.ofNat a1.length)) (fun (x1:Bool)=>(if x1=true then (some (.inl (false))) else (bL (bJ ((iter K (fun (lV:Int)=>(bN (decide ((lV:Int)<(Int.ofNat a0.length))) (fun (x27:Bool)=>(if x27=true then (bL (bJ (bW [cS lV a0.length,cS lV a1.length] (bN (((a0.getD (lV:Int).toNat default):Int) != (a1.getD (lV:Int).toNat default)) (fun (x30:Bool)=>(if x30=true then (some (.inl (Sum.inr (Sum.inr (false))))) else (some (.inr ()))))))) (fun (u29:Unit)=>(some (.inr ((IntKind.i64.wrap (lV+1))))))) else (some (.inl (Sum.inl ()))))))) (0)).map .inl)) (fun (u16:Unit)=>(some (.inl (true))))))))
theorem aVe (K:Nat) (a0:(List Int)) (a1:(List Int)):bS Tryz.prog 32 [.c (E3.tree a0),.c (E3.tree a1)] [] (bT (F32 K a0 a1)) (fun r=>.c (.val (.bool r))) (fun r=>[]):=by
 refine bS.it Tryz.f32 (fun r=>⟨[sB 4 r],[],[],0⟩) ?_
 unfold F32
 exact Ref.pt (
  .lt _ fun x1 =>
  .ite _ (
   .ret [] _) (
   .bk 0 (fun u16=>⟨[],[],[],0⟩) (
    .lp [] (fun lV=>⟨[(0,.c (E3.tree a0)),(1,.c (E3.tree a1)),sI 5 lV],[],[],0⟩) fun lV =>
    .lt _ fun x27 =>
    .ite _ (
     .bk 1 (fun u29=>⟨[(0,.c (E3.tree a0)),(1,.c (E3.tree a1)),sI 5 lV],[],[],0⟩) (
      .lT [0,1,2,4,5,6] _ <|
      .tx [] <|
      .ex [3,7,8] <|
      .lt _ fun x30 =>
      .ite _ (
       .ret [] _) (
       .nil [] _)) fun u29 =>
     .nil [] _) (
     .ret [] _)) fun u16 =>
   .ret [] _))
def F31 (K:Nat):Option ((cZ) ⊕ (cZ)) :=
 (some (.inl ((⟨[(⟨3,([80]:Bytes),([]:Bytes),[],false,false,[(⟨([120]:Bytes),(⟨1,0,0,([]:Bytes)⟩:fL),3,0,0⟩:fE)],[],[],0,0⟩:jG)]⟩:cZ))))
theorem aJt (K:Nat):bS Tryz.prog 31 [] [] (bT (F31 K)) (fun r=>.agg (dM.cs r)) (fun r=>[.cells (dM.cs r)]):=by
 refine bS.it Tryz.f31 (fun r=>⟨[sP 0 0 0 0],[.cells (dM.cs r)],[],0⟩) ?_
 unfold F31
 exact Ref.pt (
  .ob 1 4 1 (x:=.row 41 8 1 (gY [[.str wx,iC 1,iC 0,iC 0,.str [],iC 3,iC 0,iC 0]])) (y:=(eN.row [(⟨wx,(⟨1,0,0,([]:Bytes)⟩:fL),3,0,0⟩:fE)])) (El.bZ eN [(⟨wx,(⟨1,0,0,([]:Bytes)⟩:fL),3,0,0⟩:fE)] rfl (by kernel_rfl)) <|
  .sl 1 4 3 (x:=.c (.own 1 1)) (y:=(.c (.own 1 ([(⟨wx,(⟨1,0,0,([]:Bytes)⟩:fL),3,0,0⟩:fE)].length)))) (eA.c (dY.own (by first | (simp;done) | (simp;omega) | omega))) <|
  .fz 1 3 1 <|
  .sk 1 3 4 3 (x:=.nil) (y:=E9.tree []) (El.cN E9) <|
  .sk 1 3 4 7 (x:=.nil) (y:=kJ.tree []) (El.cN kJ) <|
  .sk 1 3 4 8 (x:=.nil) (y:=dJ.tree []) (El.cN dJ) <|
  .ob 1 2 2 (x:=.row 35 11 1 (gY [[iC 3,.str wP,.str [],E9.tree [],bC false,bC false,eN.tree [(⟨wx,(⟨1,0,0,([]:Bytes)⟩:fL),3,0,0⟩:fE)],kJ.tree [],dJ.tree [],iC 0,iC 0]])) (y:=(jR.row [(⟨3,wP,([]:Bytes),[],false,false,[(⟨wx,(⟨1,0,0,([]:Bytes)⟩:fL),3,0,0⟩:fE)],[],[],0,0⟩:jG)])) (El.bZ jR [(⟨3,wP,([]:Bytes),[],false,false,[(⟨wx,(⟨1,0,0,([]:Bytes)⟩:fL),3,0,0⟩:fE)],[],[],0,0⟩:jG)] rfl (by kernel_rfl)) <|
  .sl 1 2 5 (x:=.c (.own 2 1)) (y:=(.c (.own 2 ([(⟨3,wP,([]:Bytes),[],false,false,[(⟨wx,(⟨1,0,0,([]:Bytes)⟩:fL),3,0,0⟩:fE)],[],[],0,0⟩:jG)].length)))) (eA.c (dY.own (by first | (simp;done) | (simp;omega) | omega))) <|
  .fz 1 0 2 <|
  .ret [0] _)
def F48 (K:Nat) (a0:(List Bytes)) (a1:Bytes):Option ((Int) ⊕ (Int)) :=
 (bL (bJ ((iter K (fun (qS:Int)=>(bN (decide ((qS:Int)<(Int.ofNat a0.length))) (fun (x16:Bool)=>(if x16=true then (bL (bJ (bW [cS qS a0.length] (if (a1 == (a0.getD (qS:Int).toNat default))=true then (some (.inl (Sum.inr (Sum.inr (qS))))) else (some (.inr ()))))) (fun (gO:Unit)=>(some (.inr ((IntKind.i64.wrap (qS+1))))))) else (some (.inl (Sum.inl ()))))))) (0)).map .inl)) (fun (u9:Unit)=>(some (.inl ((-1))))))
theorem aVf (K:Nat) (a0:(List Bytes)) (a1:Bytes):bS Tryz.prog 48 [.c (E9.tree a0),.c (.str a1)] [] (bT (F48 K a0 a1)) (fun r=>.c (.val (.int .i64 r))) (fun r=>[]):=by
 refine bS.it Tryz.f48 (fun r=>⟨[sI 4 r],[],[],0⟩) ?_
 unfold F48
 exact Ref.pt (
  .bk 0 (fun u9=>⟨[],[],[],0⟩) (
   .lp [] (fun qS=>⟨[(0,.c (E9.tree a0)),sS 1 a1,sI 7 (Int.ofNat a0.length),sI 8 qS],[],[],0⟩) fun qS =>
   .lt _ fun x16 =>
   .ite _ (
    .bk 1 (fun gO=>⟨[(0,.c (E9.tree a0)),sS 1 a1,sI 7 (Int.ofNat a0.length),sI 8 qS],[],[],0⟩) (
     .ck _ <|
     .ite _ (
      .ret [] _) (
      .nil [] _)) fun gO =>
    .nil [] _) (
    .ret [] _)) fun u9 =>
  .ret [] _)
end Go.Proofs.YtdbfbedholdjaaaGreat
