/- No conditions. -/
import Derived.Test.YtdbfbedholdjaaaGreatGTy
import Derived.Test.YtdbfbedholdjaaaGreatProg
set_option linter.unusedVariables false
set_option linter.unusedSimpArgs false
set_option linter.unusedSectionVars false
namespace Go.Proofs.YtdbfbedholdjaaaGreat
open Go Go.Proofs Go.Dl
variable [dK]
set_option maxRecDepth 100000
set_option maxHeartbeats 4000000
def aLT (K:Nat) (a0:Bytes) (a1:Bytes):Option ((Bool) ⊕ (Bool)) :=
 (bP (bN ((iter K (fun (dZ:Int)=>(bO (decide (((IntKind.i64.wrap (dZ+(Int.ofNat a1.length))):Int)≤(Int.ofNat a0.length))) (fun (kP:Bool)=>(if kP=true then (bP (bN (bW [c5 a0.length dZ (IntKind.i64.wrap (dZ+(Int.ofNat a1.length)))] (bO (((a0.drop (dZ:Int).toNat).take (((IntKind.i64.wrap (dZ+(Int.ofNat a1.length))):Int).toNat - (dZ:Int).toNat)) == a1) (fun (x31:Bool)=>(if x31=true then (some (.inl (Sum.inr (Sum.inr (true))))) else (some (.inr ()))))))) (fun (eS:Unit)=>(some (.inr ((IntKind.i64.wrap (dZ+1))))))) else (some (.inl (Sum.inl ()))))))) (0)).map .inl)) (fun (u16:Unit)=>(some (.inl (false)))))
theorem aKf (K:Nat) (a0:Bytes) (a1:Bytes):bS Tryz.prog 211 [.c (.str a0),.c (.str a1)] [] (bV (aLT K a0 a1)) (fun r=>.c (.val (.bool r))) (fun r=>[]):=by
 refine bS.it Tryz.f211 (fun r=>⟨[sB 4 r],[],[],0⟩) ?_
 unfold aLT
 exact Ref.pt (
  .bk 0 (fun u16=>⟨[],[],[],0⟩) (
   .lp [] (fun dZ=>⟨[sS 0 a0,sS 1 a1,sI 5 dZ],[],[],0⟩) fun dZ =>
   .lt _ fun kP =>
   .ite _ (
    .bk 1 (fun eS=>⟨[sS 0 a0,sS 1 a1,sI 5 dZ],[],[],0⟩) (
     .ck _ <|
     .lt _ fun x31 =>
     .ite _ (
      .ret [] _) (
      .nil [] _)) fun eS =>
    .nil [] _) (
    .ret [] _)) fun u16 =>
  .ret [] _)
def aPr (K:Nat) (a0:Bytes) (a1:Int):Option ((Int) ⊕ (Int)) :=
 (bP (bN ((iter K (fun (jG:Int)=>(bO (decide (((IntKind.i64.wrap (jG+1)):Int)<(Int.ofNat a0.length))) (fun (x34:Bool)=>(if x34=true then (bP (bN (bW [cY jG a0.length,!(((Int.ofNat (a0.getD (jG:Int).toNat 0).toNat):Int) == 42) || cY (IntKind.i64.wrap (jG+1)) a0.length] (bO ((((Int.ofNat (a0.getD (jG:Int).toNat 0).toNat):Int) == 42) && (((Int.ofNat (a0.getD ((IntKind.i64.wrap (jG+1)):Int).toNat 0).toNat):Int) == 41)) (fun (x37:Bool)=>(if x37=true then (some (.inl (Sum.inr (Sum.inr ((IntKind.i64.wrap (jG+2))))))) else (some (.inr ()))))))) (fun (u36:Unit)=>(some (.inr ((IntKind.i64.wrap (jG+1))))))) else (some (.inl (Sum.inl ()))))))) ((IntKind.i64.wrap (a1+2)))).map .inl)) (fun (u19:Unit)=>(some (.inl ((-1))))))
theorem aSG (K:Nat) (a0:Bytes) (a1:Int):bS Tryz.prog 135 [.c (.str a0),.c (.val (.int .i64 a1))] [] (bV (aPr K a0 a1)) (fun r=>.c (.val (.int .i64 r))) (fun r=>[]):=by
 refine bS.it Tryz.f135 (fun r=>⟨[sI 4 r],[],[],0⟩) ?_
 unfold aPr
 exact Ref.pt (
  .bk 0 (fun u19=>⟨[],[],[],0⟩) (
   .lp [] (fun jG=>⟨[sS 0 a0,sI 5 jG],[],[],0⟩) fun jG =>
   .lt _ fun x34 =>
   .ite _ (
    .bk 1 (fun u36=>⟨[sS 0 a0,sI 5 jG],[],[],0⟩) (
     .ck _ <|
     .lt _ fun x37 =>
     .ite _ (
      .ret [] _) (
      .nil [] _)) fun u36 =>
    .nil [] _) (
    .ret [] _)) fun u19 =>
  .ret [] _)
def aPs (K:Nat) (a0:UInt8):Option ((Bool) ⊕ (Bool)) :=
 (bO (((decide (((Int.ofNat a0.toNat):Int) ≥ 65)) && (decide (((Int.ofNat a0.toNat):Int)≤90))) || ((decide (((Int.ofNat a0.toNat):Int) ≥ 97)) && (decide (((Int.ofNat a0.toNat):Int)≤122)))) (fun (x1:Bool)=>(some (.inl (x1)))))
theorem aKg (K:Nat) (a0:UInt8):bS Tryz.prog 179 [.c (.val (.int .u8 (Int.ofNat a0.toNat)))] [] (bV (aPs K a0)) (fun r=>.c (.val (.bool r))) (fun r=>[]):=by
 refine bS.it Tryz.f179 (fun r=>⟨[sB 2 r],[],[],0⟩) ?_
 unfold aPs
 exact Ref.pt (
  .lt _ fun x1 =>
  .ret [] _)
def aLU (K:Nat) (a0:UInt8):Option ((Bool) ⊕ (Bool)) :=
 (bO ((decide (((Int.ofNat a0.toNat):Int) ≥ 48)) && (decide (((Int.ofNat a0.toNat):Int)≤57))) (fun (x1:Bool)=>(some (.inl (x1)))))
theorem aFD (K:Nat) (a0:UInt8):bS Tryz.prog 182 [.c (.val (.int .u8 (Int.ofNat a0.toNat)))] [] (bV (aLU K a0)) (fun r=>.c (.val (.bool r))) (fun r=>[]):=by
 refine bS.it Tryz.f182 (fun r=>⟨[sB 2 r],[],[],0⟩) ?_
 unfold aLU
 exact Ref.pt (
  .lt _ fun x1 =>
  .ret [] _)
def aLV (K:Nat) (a0:UInt8):Option ((Bool) ⊕ (Bool)) :=
 ((bV (aPs K a0)).bind (fun r1=>((cF (!r1) (bV (aLU K a0)) default).bind (fun r2=>(bO ((r1 || r2) || (((Int.ofNat a0.toNat):Int) == 95)) (fun (x3:Bool)=>(some (.inl (x3)))))))))
theorem aKh (K:Nat) (a0:UInt8):bS Tryz.prog 180 [.c (.val (.int .u8 (Int.ofNat a0.toNat)))] [] (bV (aLV K a0)) (fun r=>.c (.val (.bool r))) (fun r=>[]):=by
 refine bS.it Tryz.f180 (fun r=>⟨[sB 2 r],[],[],0⟩) ?_
 unfold aLV
 exact Ref.pt (
  .call [] (aKg _ _) fun r1 =>
  .look (default:Bool) _ [] (aFD K a0) (fun _=>rfl) fun r2 =>
  .lt _ fun x3 =>
  .ret [] _)
def aPt (K:Nat) (a0:Bytes):Option ((Bool) ⊕ (Bool)) :=
 (bP (bN ((iter K (fun (hU:Int)=>(bO (decide ((hU:Int)<(Int.ofNat a0.length))) (fun (vY:Bool)=>(if vY=true then (bP (bN (bW [cY hU a0.length] ((bV (aLV K (a0.getD (hU:Int).toNat 0))).bind (fun r29=>(if (!r29)=true then (some (.inl (Sum.inr (Sum.inr (false))))) else (some (.inr ()))))))) (fun (jG:Unit)=>(some (.inr ((IntKind.i64.wrap (hU+1))))))) else (some (.inl (Sum.inl ()))))))) (0)).map .inl)) (fun (tD:Unit)=>(some (.inl (true)))))
theorem aSH (K:Nat) (a0:Bytes):bS Tryz.prog 210 [.c (.str a0)] [] (bV (aPt K a0)) (fun r=>.c (.val (.bool r))) (fun r=>[]):=by
 refine bS.it Tryz.f210 (fun r=>⟨[sB 2 r],[],[],0⟩) ?_
 unfold aPt
 exact Ref.pt (
  .bk 0 (fun tD=>⟨[],[],[],0⟩) (
   .lp [] (fun hU=>⟨[sS 0 a0,sI 3 hU],[],[],0⟩) fun hU =>
   .lt _ fun vY =>
   .ite _ (
    .bk 1 (fun jG=>⟨[sS 0 a0,sI 3 hU],[],[],0⟩) (
     .ck _ <|
     .call [] (aKh _ _) fun r29 =>
     .ite _ (
      .ret [] _) (
      .nil [] _)) fun jG =>
    .nil [] _) (
    .ret [] _)) fun tD =>
  .ret [] _)
def aPu (K:Nat) (a0:Bytes):Option ((Bool) ⊕ (Bool)) :=
 ((cF (!(a0 == ([]:Bytes))) (bV (aPt K a0)) default).bind (fun r1=>(if ((a0 == ([]:Bytes)) || (!r1))=true then (some (.inl (false))) else (bW [room (([32]:Bytes).length+a0.length),room ((([32]:Bytes)++a0).length+([32]:Bytes).length)] (bP (bN ((iter K (fun (iX:Int)=>(bO (decide (((IntKind.i64.wrap (iX+(Int.ofNat ((([32]:Bytes)++a0)++([32]:Bytes)).length))):Int)≤386)) (fun (gZ:Bool)=>(if gZ=true then (bP (bN (bW [c5 ([32,73,78,84,69,82,70,65,67,69,32,69,78,68,95,73,78,84,69,82,70,65,67,69,32,67,76,65,83,83,32,69,78,68,95,67,76,65,83,83,32,80,82,79,71,82,65,77,32,69,78,68,95,80,82,79,71,82,65,77,32,77,69,84,72,79,68,32,69,78,68,95,77,69,84,72,79,68,32,84,65,83,75,32,73,78,84,69,82,86,65,76,32,80,82,73,79,82,73,84,89,32,69,88,84,69,78,68,83,32,73,77,80,76,69,77,69,78,84,83,32,65,66,83,84,82,65,67,84,32,70,73,78,65,76,32,79,86,69,82,82,73,68,69,32,86,65,82,32,65,84,32,73,78,32,79,85,84,32,73,78,84,32,66,79,79,76,32,82,69,65,76,32,76,82,69,65,76,32,65,82,82,65,89,32,79,70,32,82,69,70,95,84,79,32,82,69,70,32,84,79,78,32,84,79,70,32,84,80,32,67,84,85,32,67,84,68,32,82,95,84,82,73,71,32,70,95,84,82,73,71,32,84,82,85,69,32,70,65,76,83,69,32,78,85,76,76,32,84,72,73,83,32,83,85,80,69,82,32,65,83,32,78,79,84,32,65,78,68,32,79,82,32,88,79,82,32,77,79,68,32,73,70,32,84,72,69,78,32,69,76,83,73,70,32,69,76,83,69,32,69,78,68,95,73,70,32,67,65,83,69,32,69,78,68,95,67,65,83,69,32,87,72,73,76,69,32,68,79,32,69,78,68,95,87,72,73,76,69,32,70,79,82,32,84,79,32,66,89,32,69,78,68,95,70,79,82,32,82,69,84,85,82,78,32,69,88,73,84,32,83,84,69,80,32,68,79,78,69,32,67,79,85,78,84,32]:Bytes).length iX (IntKind.i64.wrap (iX+(Int.ofNat ((([32]:Bytes)++a0)++([32]:Bytes)).length)))] (bO (((([32,73,78,84,69,82,70,65,67,69,32,69,78,68,95,73,78,84,69,82,70,65,67,69,32,67,76,65,83,83,32,69,78,68,95,67,76,65,83,83,32,80,82,79,71,82,65,77,32,69,78,68,95,80,82,79,71,82,65,77,32,77,69,84,72,79,68,32,69,78,68,95,77,69,84,72,79,68,32,84,65,83,75,32,73,78,84,69,82,86,65,76,32,80,82,73,79,82,73,84,89,32,69,88,84,69,78,68,83,32,73,77,80,76,69,77,69,78,84,83,32,65,66,83,84,82,65,67,84,32,70,73,78,65,76,32,79,86,69,82,82,73,68,69,32,86,65,82,32,65,84,32,73,78,32,79,85,84,32,73,78,84,32,66,79,79,76,32,82,69,65,76,32,76,82,69,65,76,32,65,82,82,65,89,32,79,70,32,82,69,70,95,84,79,32,82,69,70,32,84,79,78,32,84,79,70,32,84,80,32,67,84,85,32,67,84,68,32,82,95,84,82,73,71,32,70,95,84,82,73,71,32,84,82,85,69,32,70,65,76,83,69,32,78,85,76,76,32,84,72,73,83,32,83,85,80,69,82,32,65,83,32,78,79,84,32,65,78,68,32,79,82,32,88,79,82,32,77,79,68,32,73,70,32,84,72,69,78,32,69,76,83,73,70,32,69,76,83,69,32,69,78,68,95,73,70,32,67,65,83,69,32,69,78,68,95,67,65,83,69,32,87,72,73,76,69,32,68,79,32,69,78,68,95,87,72,73,76,69,32,70,79,82,32,84,79,32,66,89,32,69,78,68,95,70,79,82,32,82,69,84,85,82,78,32,69,88,73,84,32,83,84,69,80,32,68,79,78,69,32,67,79,85,78,84,32]:Bytes).drop (iX:Int).toNat).take (((IntKind.i64.wrap (iX+(Int.ofNat ((([32]:Bytes)++a0)++([32]:Bytes)).length))):Int).toNat - (iX:Int).toNat)) == ((([32]:Bytes)++a0)++([32]:Bytes))) (fun (x32:Bool)=>(if x32=true then (some (.inl (Sum.inr (Sum.inr (true))))) else (some (.inr ()))))))) (fun (vZ:Unit)=>(some (.inr ((IntKind.i64.wrap (iX+1))))))) else (some (.inl (Sum.inl ()))))))) (0)).map .inl)) (fun (kI:Unit)=>(some (.inl (false)))))))))
theorem aSI (K:Nat) (a0:Bytes):bS Tryz.prog 181 [.c (.str a0)] [] (bV (aPu K a0)) (fun r=>.c (.val (.bool r))) (fun r=>[]):=by
 refine bS.it Tryz.f181 (fun r=>⟨[sB 2 r],[],[],0⟩) ?_
 unfold aPu
 exact Ref.pt (
  .look (default:Bool) _ [] (aSH K a0) (fun _=>rfl) fun r1 =>
  .ite _ (
   .ret [] _) (
   .ck _ <|
   .bk 0 (fun kI=>⟨[],[],[],0⟩) (
    .lp [] (fun iX=>⟨[sS 3 ((aLW++a0)++aLW),sI 4 iX],[],[],0⟩) fun iX =>
    .lt _ fun gZ =>
    .ite _ (
     .bk 1 (fun vZ=>⟨[sS 3 ((aLW++a0)++aLW),sI 4 iX],[],[],0⟩) (
      .ck _ <|
      .lt _ fun x32 =>
      .ite _ (
       .ret [] _) (
       .nil [] _)) fun vZ =>
     .nil [] _) (
     .ret [] _)) fun kI =>
   .ret [] _))
def aPv (K:Nat) (a0:Bytes) (a1:Int):Option ((Int) ⊕ (Int)) :=
 (bW [!(decide (((IntKind.i64.wrap (a1+1)):Int)<(Int.ofNat a0.length))) || c5 a0.length a1 (IntKind.i64.wrap (a1+2)),!(decide (((IntKind.i64.wrap (a1+1)):Int)<(Int.ofNat a0.length))) || room (([32]:Bytes).length+((a0.drop (a1:Int).toNat).take (((IntKind.i64.wrap (a1+2)):Int).toNat - (a1:Int).toNat)).length),!(decide (((IntKind.i64.wrap (a1+1)):Int)<(Int.ofNat a0.length))) || room ((([32]:Bytes)++((a0.drop (a1:Int).toNat).take (((IntKind.i64.wrap (a1+2)):Int).toNat - (a1:Int).toNat))).length+([32]:Bytes).length)] (bO (decide (((IntKind.i64.wrap (a1+1)):Int)<(Int.ofNat a0.length))) (fun (x1:Bool)=>((cF x1 (bV (aLT K ([32,58,61,32,63,61,32,46,46,32,60,62,32,60,61,32,62,61,32]:Bytes) ((([32]:Bytes)++((a0.drop (a1:Int).toNat).take (((IntKind.i64.wrap (a1+2)):Int).toNat - (a1:Int).toNat)))++([32]:Bytes)))) default).bind (fun r2=>(if (x1 && r2)=true then (some (.inl (2))) else (bW [c5 a0.length a1 (IntKind.i64.wrap (a1+1))] (bO ((a0.drop (a1:Int).toNat).take (((IntKind.i64.wrap (a1+1)):Int).toNat - (a1:Int).toNat)) (fun (x3:Bytes)=>((bV (aLT K ([43,45,42,47,61,60,62,40,41,91,93,44,59,58,46]:Bytes) x3)).bind (fun r4=>(if r4=true then (some (.inl (1))) else (some (.inl (0)))))))))))))))
theorem aSJ (K:Nat) (a0:Bytes) (a1:Int):bS Tryz.prog 183 [.c (.str a0),.c (.val (.int .i64 a1))] [] (bV (aPv K a0 a1)) (fun r=>.c (.val (.int .i64 r))) (fun r=>[]):=by
 refine bS.it Tryz.f183 (fun r=>⟨[sI 4 r],[],[],0⟩) ?_
 unfold aPv
 exact Ref.pt (
  .ck _ <|
  .lt _ fun x1 =>
  .look (default:Bool) _ [] (aKf K ([32,58,61,32,63,61,32,46,46,32,60,62,32,60,61,32,62,61,32]:Bytes) ((aLW++((a0.drop (a1:Int).toNat).take (((IntKind.i64.wrap (a1+2)):Int).toNat - (a1:Int).toNat)))++aLW)) (fun _=>rfl) fun r2 =>
  .ite _ (
   .ret [] _) (
   .ck _ <|
   .lt _ fun x3 =>
   .call [] (aKf _ _ _) fun r4 =>
   .ite _ (
    .ret [] _) (
    .ret [] _)))
def aPw (K:Nat) (a0:Bytes) (a1:Int):Option ((qM × Int × Int) ⊕ (qM × Int × Int)) :=
 (bP (bN (bW [cY a1 a0.length] ((bV (aPs K (a0.getD (a1:Int).toNat 0))).bind (fun z8=>(if z8=true then (bP (bN ((iter K (fun (aDM:Int)=>(bW [!(decide ((aDM:Int)<(Int.ofNat a0.length))) || cY aDM a0.length] (bO (decide ((aDM:Int)<(Int.ofNat a0.length))) (fun (aLr:Bool)=>((cF aLr (bV (aLV K (a0.getD (aDM:Int).toNat 0))) default).bind (fun aNS=>(if (aLr && aNS)=true then (bP (bN (some (.inr ((IntKind.i64.wrap (aDM+1)))))) (fun (aSK:Int)=>(some (.inr (aSK))))) else (some (.inl (Sum.inl (aDM))))))))))) (a1)).map .inl)) (fun (wC:Int)=>(bW [c5 a0.length a1 wC] (bO ((a0.drop (a1:Int).toNat).take ((wC:Int).toNat - (a1:Int).toNat)) (fun (aG6:Bytes)=>((bV (aPu K aG6)).bind (fun a0G=>(bP (if a0G=true then (some (.inr (2))) else (bO (decide (((IntKind.i64.wrap (wC - a1)):Int) > 12)) (fun (a0H:Bool)=>(if a0H=true then (some (.inl (Sum.inr ((⟨1,aG6,0,a1⟩:qM),wC,1)))) else (some (.inr (1))))))) (fun (aPx:Int)=>(bO ((aG6 == ([82,69,65,76]:Bytes)) || (aG6 == ([76,82,69,65,76]:Bytes))) (fun (a0I:Bool)=>(if a0I=true then (some (.inl (Sum.inr ((⟨aPx,aG6,0,a1⟩:qM),wC,2)))) else (some (.inl (Sum.inr ((⟨aPx,aG6,0,a1⟩:qM),wC,0)))))))))))))))) else (bW [cY a1 a0.length] ((bV (aLU K (a0.getD (a1:Int).toNat 0))).bind (fun a0J=>(if a0J=true then (bP (bN ((iter K (fun (sA:Int × Int)=>(bW [!(decide ((sA.2:Int)<(Int.ofNat a0.length))) || cY sA.2 a0.length] (bO (decide ((sA.2:Int)<(Int.ofNat a0.length))) (fun (aWJ:Bool)=>((cF aWJ (bV (aLU K (a0.getD (sA.2:Int).toNat 0))) default).bind (fun a0K=>(if (aWJ && a0K)=true then (bP (bN (bO (decide (((IntKind.i64.wrap (sA.2 - a1)):Int)<6)) (fun (a0L:Bool)=>(bP (if a0L=true then (bW [cY sA.2 a0.length] (bO (IntKind.i64.wrap (IntKind.u8.wrap ((Int.ofNat (a0.getD (sA.2:Int).toNat 0).toNat) - 48))) (fun (a0M:Int)=>(some (.inr ((IntKind.i64.wrap ((IntKind.i64.wrap (sA.1 * 10))+a0M)))))))) else (some (.inr (sA.1)))) (fun (aSL:Int)=>(some (.inr (aSL,(IntKind.i64.wrap (sA.2+1)))))))))) (fun (aLX:Int × Int)=>(some (.inr (aLX.1,aLX.2))))) else (some (.inl (Sum.inl (sA.1,sA.2))))))))))) (0,a1)).map .inl)) (fun (aAX:Int × Int)=>(bW [c5 a0.length a1 aAX.2] (bO ((a0.drop (a1:Int).toNat).take ((aAX.2:Int).toNat - (a1:Int).toNat)) (fun (aWK:Bytes)=>(bO ((decide (((IntKind.i64.wrap (aAX.2 - a1)):Int) > 5)) || (decide ((aAX.1:Int) > 32768))) (fun (a0N:Bool)=>(if a0N=true then (some (.inl (Sum.inr ((⟨3,aWK,aAX.1,a1⟩:qM),aAX.2,1)))) else (some (.inl (Sum.inr ((⟨3,aWK,aAX.1,a1⟩:qM),aAX.2,0)))))))))))) else (some (.inr ()))))))))))) (fun (a0O:Unit)=>((bV (aPv K a0 a1)).bind (fun aPy=>(bW [c5 a0.length a1 (IntKind.i64.wrap (a1+aPy))] (bO ((a0.drop (a1:Int).toNat).take (((IntKind.i64.wrap (a1+aPy)):Int).toNat - (a1:Int).toNat)) (fun (aWL:Bytes)=>(if ((aPy:Int) == 0)=true then (some (.inl ((⟨4,aWL,0,a1⟩:qM),a1,1))) else (some (.inl ((⟨4,aWL,0,a1⟩:qM),(IntKind.i64.wrap (a1+aPy)),0)))))))))))
abbrev tP (v0:Bytes) (v1:Int):List (Nat × D):=[sS 0 v0,sI 1 v1,sP 4 0 0 0,sP 7 1 0 0]
theorem aSM (K:Nat) (a0:Bytes) (a1:Int):bS Tryz.prog 136 [.c (.str a0),.c (.val (.int .i64 a1))] [] (bV (aPw K a0 a1)) (fun r=>.kC [.agg (oK.cs r.1),.c (.val (.int .i64 r.2.1)),.c (.val (.int .i64 r.2.2))]) (fun r=>[oK.o r.1]):=by
 refine bS.it Tryz.f136 (fun r=>⟨[sP 4 0 0 0,sI 5 r.2.1,sI 6 r.2.2],[oK.o r.1],[],0⟩) ?_
 unfold aPw
 exact Ref.pt (
  .bk 0 (fun a0O=>⟨tP a0 a1++[sI 8 a1],[oX5,.cells [iC 0,.str [],iC 0,iC a1]],[],0⟩) (
   .ck _ <|
   .call [] (aKg _ _) fun z8 =>
   .ite _ (
    .bk 1 (fun wC=>⟨tP a0 a1++[sI 8 wC],[oX5,.cells [iC 0,.str [],iC 0,iC a1]],[],0⟩) (
     .lp [0,1] (fun aDM=>⟨tP a0 a1++[sI 8 aDM],[oX5,.cells [iC 0,.str [],iC 0,iC a1]],[],0⟩) fun aDM =>
     .ck _ <|
     .lt _ fun aLr =>
     .look (default:Bool) _ [] (aKh K (a0.getD (aDM:Int).toNat 0)) (fun _=>rfl) fun aNS =>
     .ite _ (
      .bk 2 (fun aSK=>⟨tP a0 a1++[sI 8 aSK],[oX5,.cells [iC 0,.str [],iC 0,iC a1]],[],0⟩) (
       .nil [0,1] _) fun aSK =>
      .nil [0,1] _) (
      .ret [0,1] _)) fun wC =>
    .iU [0,1,2,3,4] _ <|
    .lt _ fun aG6 =>
    .tl [5,6,7] <|
    .call [] (aSI _ _) fun a0G =>
    .jn (fun aPx=>⟨[sP 4 0 0 0,sP 7 1 0 0,sI 8 wC],[oX5,.cells [iC aPx,.str aG6,iC 0,iC a1]],[],0⟩) (
     .ite _ (
      .nil [0,1] _) (
      .lt _ fun a0H =>
      .ite _ (
       .ret [0] _) (
       .nil [0,1] _))) fun aPx =>
    .lt _ fun a0I =>
    .ite _ (
     .ret [0] _) (
     .ret [0] _)) (
    .ck _ <|
    .call [] (aFD _ _) fun a0J =>
    .ite _ (
     .bk 3 (fun aAX=>⟨tP a0 a1++[sI 8 aAX.2],[oX5,.cells [iC 0,.str [],iC aAX.1,iC a1]],[],0⟩) (
      .lp [0,1] (fun sA=>⟨tP a0 a1++[sI 8 sA.2],[oX5,.cells [iC 0,.str [],iC sA.1,iC a1]],[],0⟩) fun sA =>
      .ck _ <|
      .lt _ fun aWJ =>
      .look (default:Bool) _ [] (aFD K (a0.getD (sA.2:Int).toNat 0)) (fun _=>rfl) fun a0K =>
      .ite _ (
       .bk 4 (fun aLX=>⟨tP a0 a1++[sI 8 aLX.2],[oX5,.cells [iC 0,.str [],iC aLX.1,iC a1]],[],0⟩) (
        .lt _ fun a0L =>
        .jn (fun aSL=>⟨tP a0 a1++[sI 8 sA.2],[oX5,.cells [iC 0,.str [],iC aSL,iC a1]],[],0⟩) (
         .ite _ (
          .iU [0,3,4,5,6,7] _ <|
          .lt _ fun a0M =>
          .tl [1,2,8,9,10] <|
          .nil [0,1] _) (
          .nil [0,1] _)) fun aSL =>
        .nil [0,1] _) fun aLX =>
       .nil [0,1] _) (
       .ret [0,1] _)) fun aAX =>
     .iU [0,1,2,3,4] _ <|
     .lt _ fun aWK =>
     .tl [5,6,7] <|
     .lt _ fun a0N =>
     .ite _ (
      .ret [0] _) (
      .ret [0] _)) (
     .nil [0,1] _))) fun a0O =>
  .call [] (aSJ _ _ _) fun aPy =>
  .iU [0,1,2,3,4,5,6] _ <|
  .lt _ fun aWL =>
  .tl [7,8,9] <|
  .ite _ (
   .ret [0] _) (
   .ret [0] _))
def aPp (K:Nat) (a0:Bytes):Option (((List qM) × Int × Int) ⊕ ((List qM) × Int × Int)) :=
 (bO (decide (((Int.ofNat a0.length):Int) > 6000)) (fun (x1:Bool)=>(if x1=true then (some (.inl ([],5,6000))) else (bP (bN ((iter K (fun (qQ:(List qM) × Int)=>(bO (decide ((qQ.2:Int)<(Int.ofNat a0.length))) (fun (x63:Bool)=>(if x63=true then (bP (bN (bW [cY qQ.2 a0.length,!(!(((Int.ofNat (a0.getD (qQ.2:Int).toNat 0).toNat):Int) == 32)) || cY qQ.2 a0.length,!(!((((Int.ofNat (a0.getD (qQ.2:Int).toNat 0).toNat):Int) == 32) || (((Int.ofNat (a0.getD (qQ.2:Int).toNat 0).toNat):Int) == 9))) || cY qQ.2 a0.length,!(!(((((Int.ofNat (a0.getD (qQ.2:Int).toNat 0).toNat):Int) == 32) || (((Int.ofNat (a0.getD (qQ.2:Int).toNat 0).toNat):Int) == 9)) || (((Int.ofNat (a0.getD (qQ.2:Int).toNat 0).toNat):Int) == 10))) || cY qQ.2 a0.length] (bO ((((((Int.ofNat (a0.getD (qQ.2:Int).toNat 0).toNat):Int) == 32) || (((Int.ofNat (a0.getD (qQ.2:Int).toNat 0).toNat):Int) == 9)) || (((Int.ofNat (a0.getD (qQ.2:Int).toNat 0).toNat):Int) == 10)) || (((Int.ofNat (a0.getD (qQ.2:Int).toNat 0).toNat):Int) == 13)) (fun (x70:Bool)=>(if x70=true then (some (.inl (Sum.inl (qQ.1,(IntKind.i64.wrap (qQ.2+1)))))) else (bW [cY qQ.2 a0.length,!((((Int.ofNat (a0.getD (qQ.2:Int).toNat 0).toNat):Int) == 40) && (decide (((IntKind.i64.wrap (qQ.2+1)):Int)<(Int.ofNat a0.length)))) || cY (IntKind.i64.wrap (qQ.2+1)) a0.length] (bO (((((Int.ofNat (a0.getD (qQ.2:Int).toNat 0).toNat):Int) == 40) && (decide (((IntKind.i64.wrap (qQ.2+1)):Int)<(Int.ofNat a0.length)))) && (((Int.ofNat (a0.getD ((IntKind.i64.wrap (qQ.2+1)):Int).toNat 0).toNat):Int) == 42)) (fun (x71:Bool)=>(if x71=true then ((bV (aPr K a0 qQ.2)).bind (fun r72=>(if (decide ((r72:Int)<0))=true then (some (.inl (Sum.inr (Sum.inr ([],1,qQ.2))))) else (some (.inl (Sum.inl (qQ.1,r72))))))) else ((bV (aPw K a0 qQ.2)).bind (fun r73=>(if ((r73.2.2:Int) != 0)=true then (some (.inl (Sum.inr (Sum.inr ([],r73.2.2,qQ.2))))) else (bO (decide (((Int.ofNat qQ.1.length):Int) ≥ 1500)) (fun (x74:Bool)=>(if x74=true then (some (.inl (Sum.inr (Sum.inr ([],5,qQ.2))))) else (bW [room ((qQ.1.length+([r73.1].length)) * 40)] (some (.inr ((qQ.1++[r73.1]),r73.2.1))))))))))))))))))) (fun (u69:(List qM) × Int)=>(some (.inr (u69.1,u69.2))))) else (some (.inl (Sum.inl (qQ.1)))))))) ([],0)).map .inl)) (fun (sD:(List qM))=>(some (.inl (sD,0,0))))))))
theorem aSF (K:Nat) (a0:Bytes):bS Tryz.prog 106 [.c (.str a0)] [] (bV (aPp K a0)) (fun r=>.kC [.c (oK.tree r.1),.c (.val (.int .i64 r.2.1)),.c (.val (.int .i64 r.2.2))]) (fun r=>[]):=by
 refine bS.it Tryz.f106 (fun r=>⟨[(2,.c (oK.tree r.1)),sI 3 r.2.1,sI 4 r.2.2],[],[],0⟩) ?_
 unfold aPp
 exact Ref.pt (
  .lt _ fun x1 =>
  .ite _ (
   .sl 2 0 2 (x:=.c (.nil)) (y:=(.c (oK.tree []))) (jR.c (El.cE oK)) <|
   .ret [] _) (
   .bk 0 (fun sD=>⟨[(5,.c (.own 0 sD.length))],[oK.row sD],[],0⟩) (
    .ad 4 0 5 oK.ty oK.w (oK.at []) <|
    .lp [0] (fun qQ=>⟨[sS 0 a0,(5,.c (.own 0 qQ.1.length)),sI 6 qQ.2],[oK.row qQ.1],[],0⟩) fun qQ =>
    .lt _ fun x63 =>
    .ite _ (
     .bk 1 (fun u69=>⟨[sS 0 a0,(5,.c (.own 0 u69.1.length)),sI 6 u69.2],[oK.row u69.1],[],0⟩) (
      .ck _ <|
      .lt _ fun x70 =>
      .ite _ (
       .ret [0] _) (
       .ck _ <|
       .lt _ fun x71 =>
       .ite _ (
        .call [] (aSG _ _ _) fun r72 =>
        .ite _ (
         .sl 11 0 2 (x:=.c (.nil)) (y:=(.c (oK.tree []))) (jR.c (El.cE oK)) <|
         .ret [] _) (
         .ret [0] _)) (
        .call [] (aSM _ _ _) fun r73 =>
        .ite _ (
         .sl 15 0 2 (x:=.c (.nil)) (y:=(.c (oK.tree []))) (jR.c (El.cE oK)) <|
         .ret [] _) (
         .lt _ fun x74 =>
         .ite _ (
          .sl 17 0 2 (x:=.c (.nil)) (y:=(.c (oK.tree []))) (jR.c (El.cE oK)) <|
          .ret [] _) (
          .ob 18 2 3 (El.cB oK [r73.1] rfl rfl) <|
          .ck _ <|
          .ap 18 1 4 85 oK qQ.1 [r73.1] <|
          .nil [4] _))))) fun u69 =>
     .nil [0] _) (
     .ret [0] _)) fun sD =>
   .fz 20 0 0 <|
   .ret [] _))
end Go.Proofs.YtdbfbedholdjaaaGreat
