/- No conditions. -/
import Derived.Test.YtdbfbedholdjaaaGreatHTy
import Derived.Test.YtdbfbedholdjaaaGreatProg
set_option linter.unusedVariables false
set_option linter.unusedSimpArgs false
set_option linter.unusedSectionVars false
namespace Go.Proofs.YtdbfbedholdjaaaGreat
open Go Go.Proofs Go.Dl
variable [dO]
set_option maxRecDepth 100000
set_option maxHeartbeats 4000000
def aMU (K:Nat) (a0:Bytes) (a1:Bytes):Option ((Bool) ⊕ (Bool)) :=
 (bT (bQ ((iter K (fun (eA:Int)=>(bR (decide (((IntKind.i64.wrap (eA+(Int.ofNat a1.length))):Int)≤(Int.ofNat a0.length))) (fun (kI:Bool)=>(if kI=true then (bT (bQ (bY [c5 a0.length eA (IntKind.i64.wrap (eA+(Int.ofNat a1.length)))] (bR (((a0.drop (eA:Int).toNat).take (((IntKind.i64.wrap (eA+(Int.ofNat a1.length))):Int).toNat - (eA:Int).toNat)) == a1) (fun (x31:Bool)=>(if x31=true then (some (.inl (Sum.inr (Sum.inr (true))))) else (some (.inr ()))))))) (fun (eW:Unit)=>(some (.inr ((IntKind.i64.wrap (eA+1))))))) else (some (.inl (Sum.inl ()))))))) (0)).map .inl)) (fun (u16:Unit)=>(some (.inl (false)))))
theorem aK6 (K:Nat) (a0:Bytes) (a1:Bytes):bV Tryz.prog 211 [.c (.str a0),.c (.str a1)] [] (bX (aMU K a0 a1)) (fun r=>.c (.val (.bool r))) (fun r=>[]):=by
 refine bV.it Tryz.f211 (fun r=>⟨[sB 4 r],[],[],0⟩) ?_
 unfold aMU
 exact Ref.pt (
  .bk 0 (fun u16=>⟨[],[],[],0⟩) (
   .lp [] (fun eA=>⟨[sS 0 a0,sS 1 a1,sI 5 eA],[],[],0⟩) fun eA =>
   .lt _ fun kI =>
   .ite _ (
    .bk 1 (fun eW=>⟨[sS 0 a0,sS 1 a1,sI 5 eA],[],[],0⟩) (
     .ck _ <|
     .lt _ fun x31 =>
     .ite _ (
      .ret [] _) (
      .nil [] _)) fun eW =>
    .nil [] _) (
    .ret [] _)) fun u16 =>
  .ret [] _)
def aQI (K:Nat) (a0:Bytes) (a1:Int):Option ((Int) ⊕ (Int)) :=
 (bT (bQ ((iter K (fun (jG:Int)=>(bR (decide (((IntKind.i64.wrap (jG+1)):Int)<(Int.ofNat a0.length))) (fun (x34:Bool)=>(if x34=true then (bT (bQ (bY [cP jG a0.length,!(((Int.ofNat (a0.getD (jG:Int).toNat 0).toNat):Int) == 42) || cP (IntKind.i64.wrap (jG+1)) a0.length] (bR ((((Int.ofNat (a0.getD (jG:Int).toNat 0).toNat):Int) == 42) && (((Int.ofNat (a0.getD ((IntKind.i64.wrap (jG+1)):Int).toNat 0).toNat):Int) == 41)) (fun (x37:Bool)=>(if x37=true then (some (.inl (Sum.inr (Sum.inr ((IntKind.i64.wrap (jG+2))))))) else (some (.inr ()))))))) (fun (u36:Unit)=>(some (.inr ((IntKind.i64.wrap (jG+1))))))) else (some (.inl (Sum.inl ()))))))) ((IntKind.i64.wrap (a1+2)))).map .inl)) (fun (u19:Unit)=>(some (.inl ((-1))))))
theorem aUc (K:Nat) (a0:Bytes) (a1:Int):bV Tryz.prog 135 [.c (.str a0),.c (.val (.int .i64 a1))] [] (bX (aQI K a0 a1)) (fun r=>.c (.val (.int .i64 r))) (fun r=>[]):=by
 refine bV.it Tryz.f135 (fun r=>⟨[sI 4 r],[],[],0⟩) ?_
 unfold aQI
 exact Ref.pt (
  .bk 0 (fun u19=>⟨[],[],[],0⟩) (
   .lp [] (fun jG=>⟨[sS 0 a0,sI 5 jG],[],[],0⟩) fun jG =>
   .lt _ fun x34 =>
   .ite _ (
    .bk 1 (fun u36=>⟨[sS 0 a0,sI 5 jG],[],[],0⟩) (
     .ck _ <|
     .lt _ fun x37 =>
     .ite _ (
      .ret [] _) (
      .nil [] _)) fun u36 =>
    .nil [] _) (
    .ret [] _)) fun u19 =>
  .ret [] _)
def aQJ (K:Nat) (a0:UInt8):Option ((Bool) ⊕ (Bool)) :=
 (bR (((decide (((Int.ofNat a0.toNat):Int) ≥ 65)) && (decide (((Int.ofNat a0.toNat):Int)≤90))) || ((decide (((Int.ofNat a0.toNat):Int) ≥ 97)) && (decide (((Int.ofNat a0.toNat):Int)≤122)))) (fun (x1:Bool)=>(some (.inl (x1)))))
theorem aK7 (K:Nat) (a0:UInt8):bV Tryz.prog 179 [.c (.val (.int .u8 (Int.ofNat a0.toNat)))] [] (bX (aQJ K a0)) (fun r=>.c (.val (.bool r))) (fun r=>[]):=by
 refine bV.it Tryz.f179 (fun r=>⟨[sB 2 r],[],[],0⟩) ?_
 unfold aQJ
 exact Ref.pt (
  .lt _ fun x1 =>
  .ret [] _)
def aMV (K:Nat) (a0:UInt8):Option ((Bool) ⊕ (Bool)) :=
 (bR ((decide (((Int.ofNat a0.toNat):Int) ≥ 48)) && (decide (((Int.ofNat a0.toNat):Int)≤57))) (fun (x1:Bool)=>(some (.inl (x1)))))
theorem aGa (K:Nat) (a0:UInt8):bV Tryz.prog 182 [.c (.val (.int .u8 (Int.ofNat a0.toNat)))] [] (bX (aMV K a0)) (fun r=>.c (.val (.bool r))) (fun r=>[]):=by
 refine bV.it Tryz.f182 (fun r=>⟨[sB 2 r],[],[],0⟩) ?_
 unfold aMV
 exact Ref.pt (
  .lt _ fun x1 =>
  .ret [] _)
def aMW (K:Nat) (a0:UInt8):Option ((Bool) ⊕ (Bool)) :=
 ((bX (aQJ K a0)).bind (fun r1=>((cE (!r1) (bX (aMV K a0)) default).bind (fun r2=>(bR ((r1 || r2) || (((Int.ofNat a0.toNat):Int) == 95)) (fun (x3:Bool)=>(some (.inl (x3)))))))))
theorem aK8 (K:Nat) (a0:UInt8):bV Tryz.prog 180 [.c (.val (.int .u8 (Int.ofNat a0.toNat)))] [] (bX (aMW K a0)) (fun r=>.c (.val (.bool r))) (fun r=>[]):=by
 refine bV.it Tryz.f180 (fun r=>⟨[sB 2 r],[],[],0⟩) ?_
 unfold aMW
 exact Ref.pt (
  .call [] (aK7 _ _) fun r1 =>
  .look (default:Bool) _ [] (aGa K a0) (fun _=>rfl) fun r2 =>
  .lt _ fun x3 =>
  .ret [] _)
def aQK (K:Nat) (a0:Bytes):Option ((Bool) ⊕ (Bool)) :=
 (bT (bQ ((iter K (fun (iA:Int)=>(bR (decide ((iA:Int)<(Int.ofNat a0.length))) (fun (uS:Bool)=>(if uS=true then (bT (bQ (bY [cP iA a0.length] ((bX (aMW K (a0.getD (iA:Int).toNat 0))).bind (fun r29=>(if (!r29)=true then (some (.inl (Sum.inr (Sum.inr (false))))) else (some (.inr ()))))))) (fun (jG:Unit)=>(some (.inr ((IntKind.i64.wrap (iA+1))))))) else (some (.inl (Sum.inl ()))))))) (0)).map .inl)) (fun (tQ:Unit)=>(some (.inl (true)))))
theorem aUd (K:Nat) (a0:Bytes):bV Tryz.prog 210 [.c (.str a0)] [] (bX (aQK K a0)) (fun r=>.c (.val (.bool r))) (fun r=>[]):=by
 refine bV.it Tryz.f210 (fun r=>⟨[sB 2 r],[],[],0⟩) ?_
 unfold aQK
 exact Ref.pt (
  .bk 0 (fun tQ=>⟨[],[],[],0⟩) (
   .lp [] (fun iA=>⟨[sS 0 a0,sI 3 iA],[],[],0⟩) fun iA =>
   .lt _ fun uS =>
   .ite _ (
    .bk 1 (fun jG=>⟨[sS 0 a0,sI 3 iA],[],[],0⟩) (
     .ck _ <|
     .call [] (aK8 _ _) fun r29 =>
     .ite _ (
      .ret [] _) (
      .nil [] _)) fun jG =>
    .nil [] _) (
    .ret [] _)) fun tQ =>
  .ret [] _)
def aQL (K:Nat) (a0:Bytes):Option ((Bool) ⊕ (Bool)) :=
 ((cE (!(a0 == ([]:Bytes))) (bX (aQK K a0)) default).bind (fun r1=>(if ((a0 == ([]:Bytes)) || (!r1))=true then (some (.inl (false))) else (bY [room (([32]:Bytes).length+a0.length),room ((([32]:Bytes)++a0).length+([32]:Bytes).length)] (bT (bQ ((iter K (fun (iX:Int)=>(bR (decide (((IntKind.i64.wrap (iX+(Int.ofNat ((([32]:Bytes)++a0)++([32]:Bytes)).length))):Int)≤386)) (fun (gY:Bool)=>(if gY=true then (bT (bQ (bY [c5 ([32,73,78,84,69,82,70,65,67,69,32,69,78,68,95,73,78,84,69,82,70,65,67,69,32,67,76,65,83,83,32,69,78,68,95,67,76,65,83,83,32,80,82,79,71,82,65,77,32,69,78,68,95,80,82,79,71,82,65,77,32,77,69,84,72,79,68,32,69,78,68,95,77,69,84,72,79,68,32,84,65,83,75,32,73,78,84,69,82,86,65,76,32,80,82,73,79,82,73,84,89,32,69,88,84,69,78,68,83,32,73,77,80,76,69,77,69,78,84,83,32,65,66,83,84,82,65,67,84,32,70,73,78,65,76,32,79,86,69,82,82,73,68,69,32,86,65,82,32,65,84,32,73,78,32,79,85,84,32,73,78,84,32,66,79,79,76,32,82,69,65,76,32,76,82,69,65,76,32,65,82,82,65,89,32,79,70,32,82,69,70,95,84,79,32,82,69,70,32,84,79,78,32,84,79,70,32,84,80,32,67,84,85,32,67,84,68,32,82,95,84,82,73,71,32,70,95,84,82,73,71,32,84,82,85,69,32,70,65,76,83,69,32,78,85,76,76,32,84,72,73,83,32,83,85,80,69,82,32,65,83,32,78,79,84,32,65,78,68,32,79,82,32,88,79,82,32,77,79,68,32,73,70,32,84,72,69,78,32,69,76,83,73,70,32,69,76,83,69,32,69,78,68,95,73,70,32,67,65,83,69,32,69,78,68,95,67,65,83,69,32,87,72,73,76,69,32,68,79,32,69,78,68,95,87,72,73,76,69,32,70,79,82,32,84,79,32,66,89,32,69,78,68,95,70,79,82,32,82,69,84,85,82,78,32,69,88,73,84,32,83,84,69,80,32,68,79,78,69,32,67,79,85,78,84,32]:Bytes).length iX (IntKind.i64.wrap (iX+(Int.ofNat ((([32]:Bytes)++a0)++([32]:Bytes)).length)))] (bR (((([32,73,78,84,69,82,70,65,67,69,32,69,78,68,95,73,78,84,69,82,70,65,67,69,32,67,76,65,83,83,32,69,78,68,95,67,76,65,83,83,32,80,82,79,71,82,65,77,32,69,78,68,95,80,82,79,71,82,65,77,32,77,69,84,72,79,68,32,69,78,68,95,77,69,84,72,79,68,32,84,65,83,75,32,73,78,84,69,82,86,65,76,32,80,82,73,79,82,73,84,89,32,69,88,84,69,78,68,83,32,73,77,80,76,69,77,69,78,84,83,32,65,66,83,84,82,65,67,84,32,70,73,78,65,76,32,79,86,69,82,82,73,68,69,32,86,65,82,32,65,84,32,73,78,32,79,85,84,32,73,78,84,32,66,79,79,76,32,82,69,65,76,32,76,82,69,65,76,32,65,82,82,65,89,32,79,70,32,82,69,70,95,84,79,32,82,69,70,32,84,79,78,32,84,79,70,32,84,80,32,67,84,85,32,67,84,68,32,82,95,84,82,73,71,32,70,95,84,82,73,71,32,84,82,85,69,32,70,65,76,83,69,32,78,85,76,76,32,84,72,73,83,32,83,85,80,69,82,32,65,83,32,78,79,84,32,65,78,68,32,79,82,32,88,79,82,32,77,79,68,32,73,70,32,84,72,69,78,32,69,76,83,73,70,32,69,76,83,69,32,69,78,68,95,73,70,32,67,65,83,69,32,69,78,68,95,67,65,83,69,32,87,72,73,76,69,32,68,79,32,69,78,68,95,87,72,73,76,69,32,70,79,82,32,84,79,32,66,89,32,69,78,68,95,70,79,82,32,82,69,84,85,82,78,32,69,88,73,84,32,83,84,69,80,32,68,79,78,69,32,67,79,85,78,84,32]:Bytes).drop (iX:Int).toNat).take (((IntKind.i64.wrap (iX+(Int.ofNat ((([32]:Bytes)++a0)++([32]:Bytes)).length))):Int).toNat - (iX:Int).toNat)) == ((([32]:Bytes)++a0)++([32]:Bytes))) (fun (x32:Bool)=>(if x32=true then (some (.inl (Sum.inr (Sum.inr (true))))) else (some (.inr ()))))))) (fun (wK:Unit)=>(some (.inr ((IntKind.i64.wrap (iX+1))))))) else (some (.inl (Sum.inl ()))))))) (0)).map .inl)) (fun (kF:Unit)=>(some (.inl (false)))))))))
theorem aUe (K:Nat) (a0:Bytes):bV Tryz.prog 181 [.c (.str a0)] [] (bX (aQL K a0)) (fun r=>.c (.val (.bool r))) (fun r=>[]):=by
 refine bV.it Tryz.f181 (fun r=>⟨[sB 2 r],[],[],0⟩) ?_
 unfold aQL
 exact Ref.pt (
  .look (default:Bool) _ [] (aUd K a0) (fun _=>rfl) fun r1 =>
  .ite _ (
   .ret [] _) (
   .ck _ <|
   .bk 0 (fun kF=>⟨[],[],[],0⟩) (
    .lp [] (fun iX=>⟨[sS 3 ((aMX++a0)++aMX),sI 4 iX],[],[],0⟩) fun iX =>
    .lt _ fun gY =>
    .ite _ (
     .bk 1 (fun wK=>⟨[sS 3 ((aMX++a0)++aMX),sI 4 iX],[],[],0⟩) (
      .ck _ <|
      .lt _ fun x32 =>
      .ite _ (
       .ret [] _) (
       .nil [] _)) fun wK =>
     .nil [] _) (
     .ret [] _)) fun kF =>
   .ret [] _))
def aQM (K:Nat) (a0:Bytes) (a1:Int):Option ((Int) ⊕ (Int)) :=
 (bY [!(decide (((IntKind.i64.wrap (a1+1)):Int)<(Int.ofNat a0.length))) || c5 a0.length a1 (IntKind.i64.wrap (a1+2)),!(decide (((IntKind.i64.wrap (a1+1)):Int)<(Int.ofNat a0.length))) || room (([32]:Bytes).length+((a0.drop (a1:Int).toNat).take (((IntKind.i64.wrap (a1+2)):Int).toNat - (a1:Int).toNat)).length),!(decide (((IntKind.i64.wrap (a1+1)):Int)<(Int.ofNat a0.length))) || room ((([32]:Bytes)++((a0.drop (a1:Int).toNat).take (((IntKind.i64.wrap (a1+2)):Int).toNat - (a1:Int).toNat))).length+([32]:Bytes).length)] (bR (decide (((IntKind.i64.wrap (a1+1)):Int)<(Int.ofNat a0.length))) (fun (x1:Bool)=>((cE x1 (bX (aMU K ([32,58,61,32,63,61,32,46,46,32,60,62,32,60,61,32,62,61,32]:Bytes) ((([32]:Bytes)++((a0.drop (a1:Int).toNat).take (((IntKind.i64.wrap (a1+2)):Int).toNat - (a1:Int).toNat)))++([32]:Bytes)))) default).bind (fun r2=>(if (x1 && r2)=true then (some (.inl (2))) else (bY [c5 a0.length a1 (IntKind.i64.wrap (a1+1))] (bR ((a0.drop (a1:Int).toNat).take (((IntKind.i64.wrap (a1+1)):Int).toNat - (a1:Int).toNat)) (fun (x3:Bytes)=>((bX (aMU K ([43,45,42,47,61,60,62,40,41,91,93,44,59,58,46]:Bytes) x3)).bind (fun r4=>(if r4=true then (some (.inl (1))) else (some (.inl (0)))))))))))))))
theorem aUf (K:Nat) (a0:Bytes) (a1:Int):bV Tryz.prog 183 [.c (.str a0),.c (.val (.int .i64 a1))] [] (bX (aQM K a0 a1)) (fun r=>.c (.val (.int .i64 r))) (fun r=>[]):=by
 refine bV.it Tryz.f183 (fun r=>⟨[sI 4 r],[],[],0⟩) ?_
 unfold aQM
 exact Ref.pt (
  .ck _ <|
  .lt _ fun x1 =>
  .look (default:Bool) _ [] (aK6 K ([32,58,61,32,63,61,32,46,46,32,60,62,32,60,61,32,62,61,32]:Bytes) ((aMX++((a0.drop (a1:Int).toNat).take (((IntKind.i64.wrap (a1+2)):Int).toNat - (a1:Int).toNat)))++aMX)) (fun _=>rfl) fun r2 =>
  .ite _ (
   .ret [] _) (
   .ck _ <|
   .lt _ fun x3 =>
   .call [] (aK6 _ _ _) fun r4 =>
   .ite _ (
    .ret [] _) (
    .ret [] _)))
def aQN (K:Nat) (a0:Bytes) (a1:Int):Option ((qW × Int × Int) ⊕ (qW × Int × Int)) :=
 (bT (bQ (bY [cP a1 a0.length] ((bX (aQJ K (a0.getD (a1:Int).toNat 0))).bind (fun aAt=>(if aAt=true then (bT (bQ ((iter K (fun (aEp:Int)=>(bY [!(decide ((aEp:Int)<(Int.ofNat a0.length))) || cP aEp a0.length] (bR (decide ((aEp:Int)<(Int.ofNat a0.length))) (fun (aMq:Bool)=>((cE aMq (bX (aMW K (a0.getD (aEp:Int).toNat 0))) default).bind (fun aOG=>(if (aMq && aOG)=true then (bT (bQ (some (.inr ((IntKind.i64.wrap (aEp+1)))))) (fun (aUg:Int)=>(some (.inr (aUg))))) else (some (.inl (Sum.inl (aEp))))))))))) (a1)).map .inl)) (fun (wR:Int)=>(bY [c5 a0.length a1 wR] (bR ((a0.drop (a1:Int).toNat).take ((wR:Int).toNat - (a1:Int).toNat)) (fun (aHM:Bytes)=>((bX (aQL K aHM)).bind (fun a3Q=>(bT (if a3Q=true then (some (.inr (2))) else (bR (decide (((IntKind.i64.wrap (wR - a1)):Int) > 12)) (fun (a3R:Bool)=>(if a3R=true then (some (.inl (Sum.inr ((⟨1,aHM,0,a1⟩:qW),wR,1)))) else (some (.inr (1))))))) (fun (aQO:Int)=>(bR ((aHM == ([82,69,65,76]:Bytes)) || (aHM == ([76,82,69,65,76]:Bytes))) (fun (a3S:Bool)=>(if a3S=true then (some (.inl (Sum.inr ((⟨aQO,aHM,0,a1⟩:qW),wR,2)))) else (some (.inl (Sum.inr ((⟨aQO,aHM,0,a1⟩:qW),wR,0)))))))))))))))) else (bY [cP a1 a0.length] ((bX (aMV K (a0.getD (a1:Int).toNat 0))).bind (fun a3T=>(if a3T=true then (bT (bQ ((iter K (fun (sW:Int × Int)=>(bY [!(decide ((sW.2:Int)<(Int.ofNat a0.length))) || cP sW.2 a0.length] (bR (decide ((sW.2:Int)<(Int.ofNat a0.length))) (fun (aYN:Bool)=>((cE aYN (bX (aMV K (a0.getD (sW.2:Int).toNat 0))) default).bind (fun a3U=>(if (aYN && a3U)=true then (bT (bQ (bR (decide (((IntKind.i64.wrap (sW.2 - a1)):Int)<6)) (fun (a3V:Bool)=>(bT (if a3V=true then (bY [cP sW.2 a0.length] (bR (IntKind.i64.wrap (IntKind.u8.wrap ((Int.ofNat (a0.getD (sW.2:Int).toNat 0).toNat) - 48))) (fun (a3W:Int)=>(some (.inr ((IntKind.i64.wrap ((IntKind.i64.wrap (sW.1 * 10))+a3W)))))))) else (some (.inr (sW.1)))) (fun (aUh:Int)=>(some (.inr (aUh,(IntKind.i64.wrap (sW.2+1)))))))))) (fun (aMY:Int × Int)=>(some (.inr (aMY.1,aMY.2))))) else (some (.inl (Sum.inl (sW.1,sW.2))))))))))) (0,a1)).map .inl)) (fun (aBn:Int × Int)=>(bY [c5 a0.length a1 aBn.2] (bR ((a0.drop (a1:Int).toNat).take ((aBn.2:Int).toNat - (a1:Int).toNat)) (fun (aYO:Bytes)=>(bR ((decide (((IntKind.i64.wrap (aBn.2 - a1)):Int) > 5)) || (decide ((aBn.1:Int) > 32768))) (fun (a3X:Bool)=>(if a3X=true then (some (.inl (Sum.inr ((⟨3,aYO,aBn.1,a1⟩:qW),aBn.2,1)))) else (some (.inl (Sum.inr ((⟨3,aYO,aBn.1,a1⟩:qW),aBn.2,0)))))))))))) else (some (.inr ()))))))))))) (fun (a3Y:Unit)=>((bX (aQM K a0 a1)).bind (fun aQP=>(bY [c5 a0.length a1 (IntKind.i64.wrap (a1+aQP))] (bR ((a0.drop (a1:Int).toNat).take (((IntKind.i64.wrap (a1+aQP)):Int).toNat - (a1:Int).toNat)) (fun (aYP:Bytes)=>(if ((aQP:Int) == 0)=true then (some (.inl ((⟨4,aYP,0,a1⟩:qW),a1,1))) else (some (.inl ((⟨4,aYP,0,a1⟩:qW),(IntKind.i64.wrap (a1+aQP)),0)))))))))))
abbrev uC (v0:Bytes) (v1:Int):List (Nat × D):=[sS 0 v0,sI 1 v1,sP 4 0 0 0,sP 7 1 0 0]
theorem aUi (K:Nat) (a0:Bytes) (a1:Int):bV Tryz.prog 136 [.c (.str a0),.c (.val (.int .i64 a1))] [] (bX (aQN K a0 a1)) (fun r=>.jW [.agg (oN.cs r.1),.c (.val (.int .i64 r.2.1)),.c (.val (.int .i64 r.2.2))]) (fun r=>[oN.o r.1]):=by
 refine bV.it Tryz.f136 (fun r=>⟨[sP 4 0 0 0,sI 5 r.2.1,sI 6 r.2.2],[oN.o r.1],[],0⟩) ?_
 unfold aQN
 exact Ref.pt (
  .bk 0 (fun a3Y=>⟨uC a0 a1++[sI 8 a1],[oX5,.cells [iC 0,.str [],iC 0,iC a1]],[],0⟩) (
   .ck _ <|
   .call [] (aK7 _ _) fun aAt =>
   .ite _ (
    .bk 1 (fun wR=>⟨uC a0 a1++[sI 8 wR],[oX5,.cells [iC 0,.str [],iC 0,iC a1]],[],0⟩) (
     .lp [0,1] (fun aEp=>⟨uC a0 a1++[sI 8 aEp],[oX5,.cells [iC 0,.str [],iC 0,iC a1]],[],0⟩) fun aEp =>
     .ck _ <|
     .lt _ fun aMq =>
     .look (default:Bool) _ [] (aK8 K (a0.getD (aEp:Int).toNat 0)) (fun _=>rfl) fun aOG =>
     .ite _ (
      .bk 2 (fun aUg=>⟨uC a0 a1++[sI 8 aUg],[oX5,.cells [iC 0,.str [],iC 0,iC a1]],[],0⟩) (
       .nil [0,1] _) fun aUg =>
      .nil [0,1] _) (
      .ret [0,1] _)) fun wR =>
    .hO [0,1,2,3,4] _ <|
    .lt _ fun aHM =>
    .tl [5,6,7] <|
    .call [] (aUe _ _) fun a3Q =>
    .jn (fun aQO=>⟨[sP 4 0 0 0,sP 7 1 0 0,sI 8 wR],[oX5,.cells [iC aQO,.str aHM,iC 0,iC a1]],[],0⟩) (
     .ite _ (
      .nil [0,1] _) (
      .lt _ fun a3R =>
      .ite _ (
       .ret [0] _) (
       .nil [0,1] _))) fun aQO =>
    .lt _ fun a3S =>
    .ite _ (
     .ret [0] _) (
     .ret [0] _)) (
    .ck _ <|
    .call [] (aGa _ _) fun a3T =>
    .ite _ (
     .bk 3 (fun aBn=>⟨uC a0 a1++[sI 8 aBn.2],[oX5,.cells [iC 0,.str [],iC aBn.1,iC a1]],[],0⟩) (
      .lp [0,1] (fun sW=>⟨uC a0 a1++[sI 8 sW.2],[oX5,.cells [iC 0,.str [],iC sW.1,iC a1]],[],0⟩) fun sW =>
      .ck _ <|
      .lt _ fun aYN =>
      .look (default:Bool) _ [] (aGa K (a0.getD (sW.2:Int).toNat 0)) (fun _=>rfl) fun a3U =>
      .ite _ (
       .bk 4 (fun aMY=>⟨uC a0 a1++[sI 8 aMY.2],[oX5,.cells [iC 0,.str [],iC aMY.1,iC a1]],[],0⟩) (
        .lt _ fun a3V =>
        .jn (fun aUh=>⟨uC a0 a1++[sI 8 sW.2],[oX5,.cells [iC 0,.str [],iC aUh,iC a1]],[],0⟩) (
         .ite _ (
          .hO [0,3,4,5,6,7] _ <|
          .lt _ fun a3W =>
          .tl [1,2,8,9,10] <|
          .nil [0,1] _) (
          .nil [0,1] _)) fun aUh =>
        .nil [0,1] _) fun aMY =>
       .nil [0,1] _) (
       .ret [0,1] _)) fun aBn =>
     .hO [0,1,2,3,4] _ <|
     .lt _ fun aYO =>
     .tl [5,6,7] <|
     .lt _ fun a3X =>
     .ite _ (
      .ret [0] _) (
      .ret [0] _)) (
     .nil [0,1] _))) fun a3Y =>
  .call [] (aUf _ _ _) fun aQP =>
  .hO [0,1,2,3,4,5,6] _ <|
  .lt _ fun aYP =>
  .tl [7,8,9] <|
  .ite _ (
   .ret [0] _) (
   .ret [0] _))
def aQG (K:Nat) (a0:Bytes):Option (((List qW) × Int × Int) ⊕ ((List qW) × Int × Int)) :=
 (bR (decide (((Int.ofNat a0.length):Int) > 6000)) (fun (x1:Bool)=>(if x1=true then (some (.inl ([],5,6000))) else (bT (bQ ((iter K (fun (rA:(List qW) × Int)=>(bR (decide ((rA.2:Int)<(Int.ofNat a0.length))) (fun (x63:Bool)=>(if x63=true then (bT (bQ (bY [cP rA.2 a0.length,!(!(((Int.ofNat (a0.getD (rA.2:Int).toNat 0).toNat):Int) == 32)) || cP rA.2 a0.length,!(!((((Int.ofNat (a0.getD (rA.2:Int).toNat 0).toNat):Int) == 32) || (((Int.ofNat (a0.getD (rA.2:Int).toNat 0).toNat):Int) == 9))) || cP rA.2 a0.length,!(!(((((Int.ofNat (a0.getD (rA.2:Int).toNat 0).toNat):Int) == 32) || (((Int.ofNat (a0.getD (rA.2:Int).toNat 0).toNat):Int) == 9)) || (((Int.ofNat (a0.getD (rA.2:Int).toNat 0).toNat):Int) == 10))) || cP rA.2 a0.length] (bR ((((((Int.ofNat (a0.getD (rA.2:Int).toNat 0).toNat):Int) == 32) || (((Int.ofNat (a0.getD (rA.2:Int).toNat 0).toNat):Int) == 9)) || (((Int.ofNat (a0.getD (rA.2:Int).toNat 0).toNat):Int) == 10)) || (((Int.ofNat (a0.getD (rA.2:Int).toNat 0).toNat):Int) == 13)) (fun (x70:Bool)=>(if x70=true then (some (.inl (Sum.inl (rA.1,(IntKind.i64.wrap (rA.2+1)))))) else (bY [cP rA.2 a0.length,!((((Int.ofNat (a0.getD (rA.2:Int).toNat 0).toNat):Int) == 40) && (decide (((IntKind.i64.wrap (rA.2+1)):Int)<(Int.ofNat a0.length)))) || cP (IntKind.i64.wrap (rA.2+1)) a0.length] (bR (((((Int.ofNat (a0.getD (rA.2:Int).toNat 0).toNat):Int) == 40) && (decide (((IntKind.i64.wrap (rA.2+1)):Int)<(Int.ofNat a0.length)))) && (((Int.ofNat (a0.getD ((IntKind.i64.wrap (rA.2+1)):Int).toNat 0).toNat):Int) == 42)) (fun (x71:Bool)=>(if x71=true then ((bX (aQI K a0 rA.2)).bind (fun r72=>(if (decide ((r72:Int)<0))=true then (some (.inl (Sum.inr (Sum.inr ([],1,rA.2))))) else (some (.inl (Sum.inl (rA.1,r72))))))) else ((bX (aQN K a0 rA.2)).bind (fun r73=>(if ((r73.2.2:Int) != 0)=true then (some (.inl (Sum.inr (Sum.inr ([],r73.2.2,rA.2))))) else (bR (decide (((Int.ofNat rA.1.length):Int) ≥ 1500)) (fun (x74:Bool)=>(if x74=true then (some (.inl (Sum.inr (Sum.inr ([],5,rA.2))))) else (bY [room ((rA.1.length+([r73.1].length)) * 40)] (some (.inr ((rA.1++[r73.1]),r73.2.1))))))))))))))))))) (fun (u69:(List qW) × Int)=>(some (.inr (u69.1,u69.2))))) else (some (.inl (Sum.inl (rA.1)))))))) ([],0)).map .inl)) (fun (sY:(List qW))=>(some (.inl (sY,0,0))))))))
theorem aUb (K:Nat) (a0:Bytes):bV Tryz.prog 106 [.c (.str a0)] [] (bX (aQG K a0)) (fun r=>.jW [.c (oN.tree r.1),.c (.val (.int .i64 r.2.1)),.c (.val (.int .i64 r.2.2))]) (fun r=>[]):=by
 refine bV.it Tryz.f106 (fun r=>⟨[(2,.c (oN.tree r.1)),sI 3 r.2.1,sI 4 r.2.2],[],[],0⟩) ?_
 unfold aQG
 exact Ref.pt (
  .lt _ fun x1 =>
  .ite _ (
   .sl 2 0 2 (x:=.c (.nil)) (y:=(.c (oN.tree []))) (jS.c (El.cJ oN)) <|
   .ret [] _) (
   .bk 0 (fun sY=>⟨[(5,.c (.own 0 sY.length))],[oN.row sY],[],0⟩) (
    .ad 4 0 5 oN.ty oN.w (oN.at []) <|
    .lp [0] (fun rA=>⟨[sS 0 a0,(5,.c (.own 0 rA.1.length)),sI 6 rA.2],[oN.row rA.1],[],0⟩) fun rA =>
    .lt _ fun x63 =>
    .ite _ (
     .bk 1 (fun u69=>⟨[sS 0 a0,(5,.c (.own 0 u69.1.length)),sI 6 u69.2],[oN.row u69.1],[],0⟩) (
      .ck _ <|
      .lt _ fun x70 =>
      .ite _ (
       .ret [0] _) (
       .ck _ <|
       .lt _ fun x71 =>
       .ite _ (
        .call [] (aUc _ _ _) fun r72 =>
        .ite _ (
         .sl 11 0 2 (x:=.c (.nil)) (y:=(.c (oN.tree []))) (jS.c (El.cJ oN)) <|
         .ret [] _) (
         .ret [0] _)) (
        .call [] (aUi _ _ _) fun r73 =>
        .ite _ (
         .sl 15 0 2 (x:=.c (.nil)) (y:=(.c (oN.tree []))) (jS.c (El.cJ oN)) <|
         .ret [] _) (
         .lt _ fun x74 =>
         .ite _ (
          .sl 17 0 2 (x:=.c (.nil)) (y:=(.c (oN.tree []))) (jS.c (El.cJ oN)) <|
          .ret [] _) (
          .ob 18 2 3 (El.b9 oN [r73.1] rfl rfl) <|
          .ck _ <|
          .ap 18 1 4 85 oN rA.1 [r73.1] <|
          .nil [4] _))))) fun u69 =>
     .nil [0] _) (
     .ret [0] _)) fun sY =>
   .fz 20 0 0 <|
   .ret [] _))
end Go.Proofs.YtdbfbedholdjaaaGreat
