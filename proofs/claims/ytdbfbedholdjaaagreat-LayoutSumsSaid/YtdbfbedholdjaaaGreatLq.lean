/- No conditions. -/
import Derived.Test.YtdbfbedholdjaaaGreatLH
import Derived.Test.YtdbfbedholdjaaaGreatProg
set_option linter.unusedVariables false
set_option linter.unusedSimpArgs false
set_option linter.unusedSectionVars false
namespace Go.Proofs.YtdbfbedholdjaaaGreat
open Go Go.Proofs Go.Dl
variable [eC]
set_option maxRecDepth 100000
set_option maxHeartbeats 4000000
def F32 (K:Nat) (a0:(List Int)) (a1:(List Int)):Option ((Bool) ⊕ (Bool)) :=
 (bO (((Int.ofNat a0.length):Int) != (Int.ofNat a1.length)) (fun (x1:Bool)=>(if x1=true then (some (.inl (false))) else (bM (bL ((iter K (fun (nO:Int)=>(bO (decide ((nO:Int)<(Int.ofNat a0.length))) (fun (x27:Bool)=>(if x27=true then (bM (bL (bW [cS nO a0.length,cS nO a1.length] (bO (((a0.getD (nO:Int).toNat default):Int) != (a1.getD (nO:Int).toNat default)) (fun (x30:Bool)=>(if x30=true then (some (.inl (Sum.inr (Sum.inr (false))))) else (some (.inr ()))))))) (fun (u29:Unit)=>(some (.inr ((IntKind.i64.wrap (nO+1))))))) else (some (.inl (Sum.inl ()))))))) (0)).map .inl)) (fun (u16:Unit)=>(some (.inl (true))))))))
theorem aUW (K:Nat) (a0:(List Int)) (a1:(List Int)):bR Tryz.prog 32 [.c (E3.tree a0),.c (E3.tree a1)] [] (bU (F32 K a0 a1)) (fun r=>.c (.val (.bool r))) (fun r=>[]):=by
 refine bR.it Tryz.f32 (fun r=>⟨[sB 4 r],[],[],0⟩) ?_
 unfold F32
 exact Ref.pt (
  .lt _ fun x1 =>
  .ite _ (
   .ret [] _) (
   .bk 0 (fun u16=>⟨[],[],[],0⟩) (
    .lp [] (fun nO=>⟨[(0,.c (E3.tree a0)),(1,.c (E3.tree a1)),sI 5 nO],[],[],0⟩) fun nO =>
    .lt _ fun x27 =>
    .ite _ (
     .bk 1 (fun u29=>⟨[(0,.c (E3.tree a0)),(1,.c (E3.tree a1)),sI 5 nO],[],[],0⟩) (
      .mT [0,1,2,4,5,6] _ <|
      .tx [] <|
      .ex [3,7,8] <|
      .lt _ fun x30 =>
      .ite _ (
       .ret [] _) (
       .nil [] _)) fun u29 =>
     .nil [] _) (
     .ret [] _)) fun u16 =>
   .ret [] _))
def F31 (K:Nat):Option ((dD) ⊕ (dD)) :=
 (some (.inl ((⟨[(⟨3,([80]:Bytes),([]:Bytes),[],false,false,[(⟨([120]:Bytes),(⟨1,0,0,([]:Bytes)⟩:fP),3,0,0⟩:fG)],[],[],0,0⟩:jX)]⟩:dD))))
theorem aJl (K:Nat):bR Tryz.prog 31 [] [] (bU (F31 K)) (fun r=>.agg (dQ.cs r)) (fun r=>[.cells (dQ.cs r)]):=by
 refine bR.it Tryz.f31 (fun r=>⟨[sP 0 0 0 0],[.cells (dQ.cs r)],[],0⟩) ?_
 unfold F31
 exact Ref.pt (
  .ob 1 4 1 (x:=.row 41 8 1 (hG [[.str wx,iC 1,iC 0,iC 0,.str [],iC 3,iC 0,iC 0]])) (y:=(eU.row [(⟨wx,(⟨1,0,0,([]:Bytes)⟩:fP),3,0,0⟩:fG)])) (El.bZ eU [(⟨wx,(⟨1,0,0,([]:Bytes)⟩:fP),3,0,0⟩:fG)] rfl (by kernel_rfl)) <|
  .sl 1 4 3 (x:=.c (.own 1 1)) (y:=(.c (.own 1 ([(⟨wx,(⟨1,0,0,([]:Bytes)⟩:fP),3,0,0⟩:fG)].length)))) (eG.c (eD.own (by first | (simp;done) | (simp;omega) | omega))) <|
  .fz 1 3 1 <|
  .sk 1 3 4 3 (x:=.nil) (y:=E9.tree []) (El.cO E9) <|
  .sk 1 3 4 7 (x:=.nil) (y:=kT.tree []) (El.cO kT) <|
  .sk 1 3 4 8 (x:=.nil) (y:=dL.tree []) (El.cO dL) <|
  .ob 1 2 2 (x:=.row 35 11 1 (hG [[iC 3,.str wP,.str [],E9.tree [],bC false,bC false,eU.tree [(⟨wx,(⟨1,0,0,([]:Bytes)⟩:fP),3,0,0⟩:fG)],kT.tree [],dL.tree [],iC 0,iC 0]])) (y:=(iY.row [(⟨3,wP,([]:Bytes),[],false,false,[(⟨wx,(⟨1,0,0,([]:Bytes)⟩:fP),3,0,0⟩:fG)],[],[],0,0⟩:jX)])) (El.bZ iY [(⟨3,wP,([]:Bytes),[],false,false,[(⟨wx,(⟨1,0,0,([]:Bytes)⟩:fP),3,0,0⟩:fG)],[],[],0,0⟩:jX)] rfl (by kernel_rfl)) <|
  .sl 1 2 5 (x:=.c (.own 2 1)) (y:=(.c (.own 2 ([(⟨3,wP,([]:Bytes),[],false,false,[(⟨wx,(⟨1,0,0,([]:Bytes)⟩:fP),3,0,0⟩:fG)],[],[],0,0⟩:jX)].length)))) (eG.c (eD.own (by first | (simp;done) | (simp;omega) | omega))) <|
  .fz 1 0 2 <|
  .ret [0] _)
end Go.Proofs.YtdbfbedholdjaaaGreat
